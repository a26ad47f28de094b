/- Contracts of the library functions that this seat calls (strings.Contains and strings.Cut at a separator of one byte, strconv.Itoa), in the form that the printed texts use. Conditions: the table of strconv.Itoa holds what the program's text lays (LW). -/
import Derived.Test.YtkgeffmmpgdkmaaDoorShelf
import Derived.Test.YtkgeffmmpgdkmaaDoorWWords
import Derived.Test.YtkgeffmmpgdkmaaDoorWLast
import Derived.Lib.AppendIntMem
import Derived.Lib.ItoaMem
import Derived.WalkKit
namespace Go.Proofs.YtkgeffmmpgdkmaaDoor.Giv
open Go.RowKit Go.Proofs.YtkgeffmmpgdkmaaDoorW.PrintWords Go.Proofs.YtkgeffmmpgdkmaaDoorW.PrintLast

/-- What strconv.Itoa reads: its table of powers of ten. -/
def LW (w : World) : Prop := Lib.TabIs Tryd.prog w "internal/strconv.uint64pow10" .u64 Lib.pow10Tab
theorem LW.below {w w' : World} (h : LW w) (hb : Below w.heap.size w w') : LW w' := (Lib.tabBelow_of_tabIs h) w' hb
theorem LW.drewN {w : World} {n : Nat} (h : LW w) : LW (w.drewN n) := h.below (pw_below_drewN (Below.refl _ _) n)
theorem LW.drew {w : World} (h : LW w) : LW w.drew := h.below (below_drew (Below.refl _ _))

theorem one_byte {a : ByteArray} (h : a.size = 1) : ∃ c : UInt8, a = ⟨#[c]⟩ := by
  obtain ⟨⟨l⟩⟩ := a
  match l, h with
  | [c], _ => exact ⟨c, rfl⟩

/-- strconv.Itoa. -/
def strconv_Itoa.f (a0 : Int) : Option ByteArray := if -9223372036854775808 ≤ a0 ∧ a0 ≤ 9223372036854775807 then some ⟨(Lib.itoa a0).toArray⟩ else none
theorem strconv_Itoa.calls (a0 : Int) (r : ByteArray) (w : World) (hL : LW w) (h : strconv_Itoa.f a0 = some r) :
    Calls Tryd.prog 52 #[.int .i64 a0] w fun e w' => e = .returned (.string r) ∧ Below w.heap.size w w' := by
  unfold strconv_Itoa.f at h
  split at h
  · rename_i hb
    obtain rfl := Option.some.inj h
    refine (Tryd.strconv_Itoa a0 hb.1 hb.2 w hL).mono ?_
    rintro e w' ⟨rfl, k, os, rfl⟩
    exact ⟨rfl, Lib.below_grow _ _ (Nat.le_refl _) _ _⟩
  · cases h

/-- internal/stringslite.Index at a text of one byte. -/
def stringslite_Index.f (a0 a1 : ByteArray) : Option Int := if a1.size = 1 then some (Lib.indexByte a0.data.toList (a1.data.getD 0 0)) else none
theorem stringslite_Index.calls (a0 a1 : ByteArray) (r : Int) (w : World) (h : stringslite_Index.f a0 a1 = some r) :
    Calls Tryd.prog 71 #[.string a0, .string a1] w fun e w' => e = .returned (.int .i64 r) ∧ Drawn0 w w' := by
  unfold stringslite_Index.f at h
  split at h
  · rename_i hs
    obtain ⟨c, rfl⟩ := one_byte hs
    obtain rfl := Option.some.inj h
    refine (Tryd.stringslite_Index_one a0 c w).mono ?_
    rintro e w' ⟨rfl, rfl⟩
    exact ⟨rfl, Drawn0.refl _⟩
  · cases h
end Go.Proofs.YtkgeffmmpgdkmaaDoor.Giv
