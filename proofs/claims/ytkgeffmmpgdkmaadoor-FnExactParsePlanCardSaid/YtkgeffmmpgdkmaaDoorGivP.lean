/- The library's contracts that ParsePlan needs, with strings.Split at a separator of one byte; the premise on the world: strconv's table, and that internal/bytealg.MaxLen holds some int. -/
import Derived.Test.YtkgeffmmpgdkmaaDoorNum
import Derived.Test.YtkgeffmmpgdkmaaDoorJoin
import Derived.Lib.SplitLaws
import Derived.Test.YtkgeffmmpgdkmaaDoorWMore
import Derived.Test.YtkgeffmmpgdkmaaDoorShelfS
namespace Go.Proofs.YtkgeffmmpgdkmaaDoor.GivP
open Go.RowKit Go.Proofs.YtkgeffmmpgdkmaaDoorW.PrintWords Go.Proofs.YtkgeffmmpgdkmaaDoorW.PrintLast

/-- What the library reads. -/
def LW (w : World) : Prop := Giv.LW w ∧ ∃ m, w.cell? ⟨0, 0, none⟩ = some (.int .i64 m)
theorem LW.below {w w' : World} (h : LW w) (hb : Below w.heap.size w w') : LW w' := by
  obtain ⟨h1, m, hm⟩ := h
  refine ⟨h1.below hb, m, ?_⟩
  have hlt := World.block_lt_of_cell? w _ hm
  unfold World.cell? at hm ⊢
  rw [hb.block 0 hlt]
  exact hm
theorem LW.drewN {w : World} {n : Nat} (h : LW w) : LW (w.drewN n) := h.below (pw_below_drewN (Below.refl _ _) n)
theorem LW.drew {w : World} (h : LW w) : LW w.drew := h.below (below_drew (Below.refl _ _))

def strconv_Itoa.f (a0 : Int) : Option ByteArray := Giv.strconv_Itoa.f a0
theorem strconv_Itoa.calls (a0 : Int) (r : ByteArray) (w : World) (hL : LW w) (h : strconv_Itoa.f a0 = some r) :
    Calls Tryd.prog 52 #[.int .i64 a0] w fun e w' => e = .returned (.string r) ∧ Below w.heap.size w w' := Giv.strconv_Itoa.calls a0 r w hL.1 h
def spec_l1Num.f (a0 : Int) : Option ByteArray := Giv.spec_l1Num.f a0
theorem spec_l1Num.calls (a0 : Int) (r : ByteArray) (w : World) (h : spec_l1Num.f a0 = some r) :
    Calls Tryd.prog 38 #[.int .i64 a0] w fun e w' => e = .returned (.string r) ∧ Drawn0 w w' := Giv.spec_l1Num.calls a0 r w h
def strings_Join.f (l0 : List ByteArray) (a1 : ByteArray) : Option ByteArray := Giv.strings_Join.f l0 a1
theorem strings_Join.calls (A0 : Option Addr) (c0 : Nat) (l0 : List ByteArray) (a1 : ByteArray) (r : ByteArray) (w : World) (hr0 : Kd.C Kd.string w A0 l0.length l0) (hc0 : l0.length ≤ c0) (h : strings_Join.f l0 a1 = some r) :
    Calls Tryd.prog 43 #[.slice A0 l0.length c0, .string a1] w fun e w' => e = .returned (.string r) ∧ Below w.heap.size w w' := Giv.strings_Join.calls A0 c0 l0 a1 r w hr0 hc0 h

/-- A shift by whatever count. -/
theorem shl_any (k yk : IntKind) (x y : Int) (h : 0 ≤ y) : Op.shift .shl k x yk y = pure (.int k (shl k x y)) := by
  have hn : ¬ y < 0 := by omega
  simp [Op.shift, shl, hn]
/-- strings.Split at a separator of one byte. -/
def strings_Split.f (a0 a1 : ByteArray) : Option (List ByteArray) := if a0.size < 4294967281 ∧ a1.size = 1 then some (Lib.splitB a1 0 (Lib.countB a0 a1) a0) else none
theorem strings_Split.calls (a0 a1 : ByteArray) (r : List ByteArray) (w : World) (hL : LW w) (h : strings_Split.f a0 a1 = some r) :
    Calls Tryd.prog 34 #[.string a0, .string a1] w fun e w' => ∃ v0_ : Value, e = .returned (v0_) ∧ Kd.R Kd.string 9 w' w.heap.size (fun _ => True) v0_ r ∧ Below w.heap.size w w' := by
  unfold strings_Split.f at h
  split at h
  · rename_i hb
    obtain rfl := Option.some.inj h
    obtain ⟨m, hm⟩ := hL.2
    have hl := Lib.splitB_all a1 (by omega) 0 (Lib.countB a0 a1) a0 rfl
    have hc := Lib.countB_le a1 (by omega) a0.size a0 (Nat.le_refl _)
    refine (Tryd.strings_Split a0 a1 m w hb.1 hm (by omega)).mono ?_
    rintro e w' ⟨rfl, rfl⟩
    refine ⟨_, rfl, ?_, below_alloc (Below.refl _ _) _⟩
    rw [← hl]
    refine Kd.R_of_own ?_ (fun _ _ => trivial)
    exact own_lit_of (enc := Value.string) w w.heap.size 9 _ (Nat.le_refl _) (by omega)
  · cases h
end Go.Proofs.YtkgeffmmpgdkmaaDoor.GivP
