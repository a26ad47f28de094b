/- strings.Join, in the form that the printed texts use; condition: the joined text is below 2^47 bytes. -/
import Derived.Test.YtkgeffmmpgdkmaaDoorShelf
import Derived.Test.YtkgeffmmpgdkmaaDoorWWords
import Derived.Test.YtkgeffmmpgdkmaaDoorWLast
namespace Go.Proofs.YtkgeffmmpgdkmaaDoor.Giv
open Go.RowKit Go.Proofs.YtkgeffmmpgdkmaaDoorW.PrintWords Go.Proofs.YtkgeffmmpgdkmaaDoorW.PrintLast

/-- strings.Join. -/
def strings_Join.f (l0 : List ByteArray) (a1 : ByteArray) : Option ByteArray :=
  if l0.length ≤ 140737488355328 ∧ (Lib.join (l0.map (·.data.toList)) a1.data.toList).length ≤ 140737488355328 then some ⟨(Lib.join (l0.map (·.data.toList)) a1.data.toList).toArray⟩ else none
theorem strings_Join.calls (A0 : Option Addr) (c0 : Nat) (l0 : List ByteArray) (a1 : ByteArray) (r : ByteArray) (w : World) (hr0 : Kd.C Kd.string w A0 l0.length l0) (hc0 : l0.length ≤ c0) (h : strings_Join.f l0 a1 = some r) :
    Calls Tryd.prog 43 #[.slice A0 l0.length c0, .string a1] w fun e w' => e = .returned (.string r) ∧ Below w.heap.size w w' := by
  unfold strings_Join.f at h
  split at h
  · rename_i hb
    obtain rfl := Option.some.inj h
    cases l0 with
    | nil =>
      refine (Tryd.strings_Join_none A0 c0 a1 w).mono ?_
      rintro e w' ⟨rfl, rfl⟩
      exact ⟨rfl, Below.refl _ _⟩
    | cons x l =>
      have h0 := Kd.at_string hr0 0 (by omega) (by simp)
      obtain ⟨ad, rfl, hx⟩ := h0
      have hp : ad.spot = none := by
        unfold World.cell? at hx
        simp only [Int.toNat_zero, Addr.add, if_true] at hx
        split at hx
        · split at hx
          · cases hx
          · rename_i h1
            simpa using h1
        · cases hx
      obtain ⟨b, o, s⟩ := ad
      obtain rfl : s = none := hp
      have hadd : ∀ j, (⟨b, o, none⟩ : Addr).add j = ⟨b, o + j, none⟩ := by intro j; unfold Addr.add; split <;> simp_all
      have hlt : b < w.heap.size := by
        rw [hadd] at hx
        exact World.block_lt_of_cell? w _ hx
      refine (Tryd.strings_Join b o c0 (x :: l) a1 w (fun j y hj => ?_) hlt hb.1 hc0 hb.2).mono fun e w' h => h
      have hjl : j < (x :: l).length := (List.getElem?_eq_some_iff.1 hj).1
      obtain ⟨ad2, e2, hy⟩ := Kd.at_string hr0 (j : Int) (by omega) (by omega)
      injection e2 with e2
      subst e2
      rw [Int.toNat_natCast, hadd] at hy
      rw [hy]
      unfold rdOf
      rw [Int.toNat_natCast, List.getD_eq_getElem?_getD, hj]
      rfl
  · cases h
end Go.Proofs.YtkgeffmmpgdkmaaDoor.Giv
