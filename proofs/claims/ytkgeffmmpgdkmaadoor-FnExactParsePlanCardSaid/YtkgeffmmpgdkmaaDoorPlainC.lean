/- Plain laws on bytes, records and checksums that the pure statements of the log family lean on; no program in sight, no condition. -/
import Derived.Test.YtkgeffmmpgdkmaaDoorC
namespace Go.Proofs.YtkgeffmmpgdkmaaDoor.Plain
open Go.RowKit Go.Proofs.YtkgeffmmpgdkmaaDoorW.PrintWords Go.Proofs.YtkgeffmmpgdkmaaDoorW.PrintLast Go.Proofs.YtkgeffmmpgdkmaaDoor.GivP Go.Proofs.YtkgeffmmpgdkmaaDoor.C

/-! ### Rounds -/
theorem Ev.ite {α : Type} {c : Prop} [Decidable c] {f g : Nat → Option α} {r : α} (h : c → Ev f r) (h' : ¬ c → Ev g r) : Ev (fun k => if c then f k else g k) r := by
  by_cases hc : c
  · obtain ⟨K, h⟩ := h hc
    exact ⟨K, fun k hk => by show (if c then f k else g k) = some r; rw [if_pos hc]; exact h k hk⟩
  · obtain ⟨K, h⟩ := h' hc
    exact ⟨K, fun k hk => by show (if c then f k else g k) = some r; rw [if_neg hc]; exact h k hk⟩
theorem Ev.yes {α : Type} {c : Prop} [Decidable c] {f g : Nat → Option α} {r : α} (hc : c) (h : Ev f r) : Ev (fun k => if c then f k else g k) r := Ev.ite (fun _ => h) (fun n => absurd hc n)
theorem Ev.no {α : Type} {c : Prop} [Decidable c] {f g : Nat → Option α} {r : α} (hc : ¬ c) (h : Ev g r) : Ev (fun k => if c then f k else g k) r := Ev.ite (fun n => absurd n hc) (fun _ => h)
theorem Ev.const {α : Type} {x : Option α} {r : α} (h : x = some r) : Ev (fun _ => x) r := ⟨0, fun _ _ => h⟩
theorem Ev.bind0 {α β : Type} {x : Option α} {f : Nat → α → Option β} {a : α} {r : β} (h : x = some a) (k : Ev (fun n => f n a) r) : Ev (fun n => x.bind (f n)) r := Ev.bind (Ev.const h) k
theorem Ev.to {α : Type} {g : Nat → Option α} {r r' : α} (h : Ev g r) (e : r = r') : Ev g r' := e ▸ h

/-! ### Bytes -/
theorem wrap_in {n : Int} (h0 : -9223372036854775808 ≤ n) (h1 : n ≤ 9223372036854775807) : wrap64 n = n := by unfold wrap64; omega
theorem bt_drop (s : ByteArray) (n : Nat) (h : n < s.size) : ∃ c : UInt8, s.data.toList.drop n = c :: s.data.toList.drop (n + 1) ∧ bt s (n : Int) = (c.toNat : Int) := by
  refine ⟨s[n], ?_, ?_⟩
  · have hl : n < s.data.toList.length := by simpa using h
    rw [List.drop_eq_getElem_cons hl]
    rfl
  · unfold bt
    rw [dif_pos (by simpa using h)]
    rfl
theorem u8_lt (c : UInt8) : c.toNat < 256 := c.toNat_lt
theorem u8_eq {c : UInt8} {n : Nat} (h : n < 256) : c.toNat = n ↔ c = UInt8.ofNat n := by
  constructor
  · intro e; subst e; simp
  · rintro rfl; simp; omega
theorem toList_eq (s : ByteArray) : s.toList = s.data.toList := by
  have : ∀ (n i : Nat) (r : List UInt8), s.size - i = n → ByteArray.toList.loop s i r = r.reverse ++ s.data.toList.drop i := by
    intro n
    induction n with
    | zero =>
      intro i r h
      unfold ByteArray.toList.loop
      rw [if_neg (by omega), List.drop_of_length_le (by simp; omega)]
      simp
    | succ n ih =>
      intro i r h
      unfold ByteArray.toList.loop
      rw [if_pos (by omega), ih (i + 1) _ (by omega)]
      have hl : i < s.data.toList.length := by simp; omega
      rw [List.drop_eq_getElem_cons hl]
      simp [ByteArray.get!]
      rw [getElem!_pos s.data i (by simpa using hl)]
  unfold ByteArray.toList
  rw [this s.size 0 [] (by omega)]
  simp
theorem ba_ext {s t : ByteArray} (h : s.data.toList = t.data.toList) : s = t := by
  apply ByteArray.ext
  exact Array.ext' h
theorem toList_inj {s t : ByteArray} : s.toList = t.toList ↔ s = t := by rw [toList_eq, toList_eq]; exact ⟨ba_ext, fun h => by rw [h]⟩
theorem size_zero {s : ByteArray} : s.data.toList = [] ↔ s.size = 0 := by
  rw [← List.length_eq_zero_iff]; simp
theorem size_list (s : ByteArray) : s.data.toList.length = s.size := by simp

/-- A byte that a record may hold. -/
def okB (c : UInt8) : Bool := decide (32 ≤ c.toNat) && decide (c.toNat ≤ 126) && decide (c.toNat ≠ 35)
def plainL (l : List UInt8) : Bool := l.all okB
def hasL (l : List UInt8) (n : Nat) : Bool := l.any fun c => decide (c.toNat = n)
def sumL (h : Int) (l : List UInt8) : Int := l.foldl (fun h c => (41 * h + c.toNat + 1) % 999979) h
theorem sumL_range (l : List UInt8) : ∀ h, 0 ≤ h → h < 999979 → 0 ≤ sumL h l ∧ sumL h l < 999979 := by
  induction l with
  | nil => intro h h0 h1; exact ⟨h0, h1⟩
  | cons c l ih => intro h h0 h1; exact ih ((41 * h + c.toNat + 1) % 999979) (by omega) (by omega)
theorem sum_step {h : Int} {c : UInt8} (h0 : 0 ≤ h) (h1 : h < 999979) : Int.tmod (wrap64 ((wrap64 ((wrap64 (41 * h)) + (wrap64 (c.toNat : Int)))) + 1)) 999979 = (41 * h + c.toNat + 1) % 999979 := by
  have := u8_lt c
  rw [wrap_in (n := 41 * h) (by omega) (by omega), wrap_in (n := (c.toNat : Int)) (by omega) (by omega), wrap_in (n := 41 * h + c.toNat) (by omega) (by omega), wrap_in (by omega) (by omega)]
  rw [Int.tmod_eq_emod_of_nonneg (by omega)]
theorem indexByte_has (l : List UInt8) (c : UInt8) : decide (0 ≤ Lib.indexByte l c) = hasL l c.toNat := by
  induction l with
  | nil => simp [Lib.indexByte, hasL]
  | cons x l ih =>
    unfold hasL at ih ⊢
    simp only [Lib.indexByte, List.any_cons]
    by_cases hx : x = c
    · subst hx; simp
    · have hx' : ¬ x.toNat = c.toNat := fun h => hx (UInt8.toNat_inj.1 h)
      simp only [beq_iff_eq, hx, if_false, hx', decide_false, Bool.false_or]
      rw [← ih]
      split <;> simp <;> omega
end Go.Proofs.YtkgeffmmpgdkmaaDoor.Plain
