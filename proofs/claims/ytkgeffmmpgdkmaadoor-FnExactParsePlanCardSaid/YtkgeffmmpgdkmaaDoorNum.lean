/- spec.l1Num returns the decimal numeral (Lib.itoa), for every int but the least; no other condition. -/
import Derived.Test.YtkgeffmmpgdkmaaDoorGiv
import Derived.Deep.QuietTactic
import Derived.BigQuiet
import Derived.Outline
import Derived.Laws.Slices
import Derived.WalkSpells
namespace Go.Proofs.YtkgeffmmpgdkmaaDoor.Giv
open Go.RowKit Go.Proofs.YtkgeffmmpgdkmaaDoorW.PrintWords Go.Proofs.YtkgeffmmpgdkmaaDoorW.PrintLast

/-- The byte of a digit. -/
def dgt (n : Int) : UInt8 := UInt8.ofNat (48 + n.toNat)
theorem digit_cut (u : Nat) (h : u < 10) (W : World) : (Instr.slice 9 (.string ⟨#[48, 49, 50, 51, 52, 53, 54, 55, 56, 57]⟩) (some (.int .i64 (u : Int))) (some (.int .i64 ((u : Int) + 1))) none).run Tryd.prog W = .ok (.string ⟨#[dgt u]⟩) W := by
  match u, h with
  | 0, _ => exact (show (Instr.slice 9 (.string ⟨#[48, 49, 50, 51, 52, 53, 54, 55, 56, 57]⟩) (some (.int .i64 0)) (some (.int .i64 1)) none).run Tryd.prog W = .ok (.string ⟨#[dgt 0]⟩) W by kernel_rfl)
  | 1, _ => exact (show (Instr.slice 9 (.string ⟨#[48, 49, 50, 51, 52, 53, 54, 55, 56, 57]⟩) (some (.int .i64 1)) (some (.int .i64 2)) none).run Tryd.prog W = .ok (.string ⟨#[dgt 1]⟩) W by kernel_rfl)
  | 2, _ => exact (show (Instr.slice 9 (.string ⟨#[48, 49, 50, 51, 52, 53, 54, 55, 56, 57]⟩) (some (.int .i64 2)) (some (.int .i64 3)) none).run Tryd.prog W = .ok (.string ⟨#[dgt 2]⟩) W by kernel_rfl)
  | 3, _ => exact (show (Instr.slice 9 (.string ⟨#[48, 49, 50, 51, 52, 53, 54, 55, 56, 57]⟩) (some (.int .i64 3)) (some (.int .i64 4)) none).run Tryd.prog W = .ok (.string ⟨#[dgt 3]⟩) W by kernel_rfl)
  | 4, _ => exact (show (Instr.slice 9 (.string ⟨#[48, 49, 50, 51, 52, 53, 54, 55, 56, 57]⟩) (some (.int .i64 4)) (some (.int .i64 5)) none).run Tryd.prog W = .ok (.string ⟨#[dgt 4]⟩) W by kernel_rfl)
  | 5, _ => exact (show (Instr.slice 9 (.string ⟨#[48, 49, 50, 51, 52, 53, 54, 55, 56, 57]⟩) (some (.int .i64 5)) (some (.int .i64 6)) none).run Tryd.prog W = .ok (.string ⟨#[dgt 5]⟩) W by kernel_rfl)
  | 6, _ => exact (show (Instr.slice 9 (.string ⟨#[48, 49, 50, 51, 52, 53, 54, 55, 56, 57]⟩) (some (.int .i64 6)) (some (.int .i64 7)) none).run Tryd.prog W = .ok (.string ⟨#[dgt 6]⟩) W by kernel_rfl)
  | 7, _ => exact (show (Instr.slice 9 (.string ⟨#[48, 49, 50, 51, 52, 53, 54, 55, 56, 57]⟩) (some (.int .i64 7)) (some (.int .i64 8)) none).run Tryd.prog W = .ok (.string ⟨#[dgt 7]⟩) W by kernel_rfl)
  | 8, _ => exact (show (Instr.slice 9 (.string ⟨#[48, 49, 50, 51, 52, 53, 54, 55, 56, 57]⟩) (some (.int .i64 8)) (some (.int .i64 9)) none).run Tryd.prog W = .ok (.string ⟨#[dgt 8]⟩) W by kernel_rfl)
  | 9, _ => exact (show (Instr.slice 9 (.string ⟨#[48, 49, 50, 51, 52, 53, 54, 55, 56, 57]⟩) (some (.int .i64 9)) (some (.int .i64 10)) none).run Tryd.prog W = .ok (.string ⟨#[dgt 9]⟩) W by kernel_rfl)
theorem digit_cutI (n : Int) (h0 : 0 ≤ n) (h : n < 10) (W : World) : (Instr.slice 9 (.string ⟨#[48, 49, 50, 51, 52, 53, 54, 55, 56, 57]⟩) (some (.int .i64 n)) (some (.int .i64 (n + 1))) none).run Tryd.prog W = .ok (.string ⟨#[dgt n]⟩) W := by
  obtain ⟨u, rfl⟩ := Int.eq_ofNat_of_zero_le h0
  exact digit_cut u (by omega) W

theorem itoa_small (n : Int) (h0 : 0 ≤ n) (h : n < 10) : Lib.itoa n = [UInt8.ofNat (48 + n.toNat)] := by
  unfold Lib.itoa; rw [if_neg (by omega), Lib.decDigits_one (by omega)]
theorem itoa_step (n : Int) (h : ¬ n < 10) : Lib.itoa n = Lib.itoa (n / 10) ++ [UInt8.ofNat (48 + (n % 10).toNat)] := by
  unfold Lib.itoa; rw [if_neg (by omega), if_neg (by omega), Lib.decDigits, dif_neg (by omega)]
  rw [show n.toNat / 10 = (n / 10).toNat by omega, show n.toNat % 10 = (n % 10).toNat by omega]
theorem itoa_neg (n : Int) (h : n < 0) : Lib.itoa n = 45 :: Lib.itoa (-n) := by
  unfold Lib.itoa; rw [if_pos h, if_neg (by omega)]
  rw [show (-n).toNat = n.natAbs by omega]
theorem nDigits_le (u : Nat) (h : u < 100000000000000000000) : Lib.nDigits u ≤ 20 := by
  by_cases h0 : u = 0
  · subst h0; rw [Lib.nDigits_small (by omega)]; omega
  · rcases Nat.lt_or_ge 20 (Lib.nDigits u) with h1 | h1
    · exfalso
      have hle : ∀ u, u ≠ 0 → 10 ^ (Lib.nDigits u - 1) ≤ u := by
        intro u
        induction u using Nat.strongRecOn with
        | _ u ih =>
          intro hu
          by_cases h : u < 10
          · rw [Lib.nDigits_small h]; simp; omega
          · rw [Lib.nDigits_big h]
            have h2 := ih (u / 10) (by omega) (by omega)
            have h3 := Lib.nDigits_pos (u / 10)
            rw [show Lib.nDigits (u / 10) + 1 - 1 = (Lib.nDigits (u / 10) - 1) + 1 by omega, Nat.pow_succ]
            omega
      have h2 := hle u h0
      have h3 : 10 ^ 20 ≤ 10 ^ (Lib.nDigits u - 1) := Nat.pow_le_pow_right (by omega) (by omega)
      omega
    · exact h1
theorem itoa_len (n : Int) (h0 : -9223372036854775808 ≤ n) (h1 : n ≤ 9223372036854775807) : (Lib.itoa n).length ≤ 21 := by
  unfold Lib.itoa
  split
  · simp only [List.length_cons, Lib.decDigits_length]; have := nDigits_le n.natAbs (by omega); omega
  · rw [Lib.decDigits_length]; have := nDigits_le n.toNat (by omega); omega

set_option maxHeartbeats 1000000 in
theorem l1Num_one (n : Int) (w : World) (h0 : 0 ≤ n) (h9 : n < 10) : Calls Tryd.prog 38 #[.int .i64 n] w fun e w' => e = .returned (.string ⟨(Lib.itoa n).toArray⟩) ∧ ∃ m, w' = w.drewN m := by
  have hneg : decide (n < 0) = false := by simp; omega
  have hd : decide (n < 10) = true := by simp; omega
  have hc := digit_cutI n h0 h9
  go_enter Tryd.func38, Tryd.ntmps38
  go_wp2_with fail
  go_ret
  exact ⟨by rw [itoa_small n h0 h9]; rfl, 0, rfl⟩
set_option maxHeartbeats 1000000 in
theorem l1Num_more (n : Int) (w : World) (h0 : 10 ≤ n) (h1 : n ≤ 9223372036854775807) (s : List UInt8) (hl : (⟨s.toArray⟩ : ByteArray).size ≤ 21)
    (C : ∀ W, Calls Tryd.prog 38 #[.int .i64 (n / 10)] W fun e w' => e = .returned (.string ⟨s.toArray⟩) ∧ ∃ m, w' = W.drewN m) :
    Calls Tryd.prog 38 #[.int .i64 n] w fun e w' => e = .returned (.string ⟨(s ++ [dgt (n % 10)]).toArray⟩) ∧ ∃ m, w' = w.drewN m := by
  have hneg : decide (n < 0) = false := by simp; omega
  have hd : decide (n < 10) = false := by simp; omega
  have hc := digit_cutI (n % 10) (by omega) (by omega)
  have HC := Aside0.mk C
  clear C
  generalize hs : (⟨s.toArray⟩ : ByteArray) = S at *
  have HS := Aside0.mk hs
  clear hs
  go_enter Tryd.func38, Tryd.ntmps38
  go_wp2_with fail
  go_quiet ((go_at_call 38; exact Calls.quiet_of (HC.out _)))
  go_wp2
  go_ret
  refine ⟨?_, _, rfl⟩
  have e : S ++ (⟨#[dgt (n % 10)]⟩ : ByteArray) = ⟨(s ++ [dgt (n % 10)]).toArray⟩ := by
    rw [← HS.out]
    apply ByteArray.ext
    rw [ByteArray.data_append]
    simp
  rw [← e]
  rfl
theorem l1Num_nat (m : Nat) : ∀ (n : Int) (w : World), n.toNat ≤ m → 0 ≤ n → n ≤ 9223372036854775807 → Calls Tryd.prog 38 #[.int .i64 n] w fun e w' => e = .returned (.string ⟨(Lib.itoa n).toArray⟩) ∧ ∃ m, w' = w.drewN m := by
  induction m with
  | zero => exact fun n w hm h0 h1 => l1Num_one n w h0 (by omega)
  | succ m ih =>
    intro n w hm h0 h1
    by_cases h9 : n < 10
    · exact l1Num_one n w h0 h9
    · rw [itoa_step n h9]
      exact l1Num_more n w (by omega) h1 _ (by rw [ByteArray.size]; simpa using itoa_len (n / 10) (by omega) (by omega)) fun W => ih (n / 10) W (by omega) (by omega) (by omega)
set_option maxHeartbeats 1000000 in
theorem l1Num_neg (n : Int) (w : World) (h0 : n < 0) (s : List UInt8) (hl : (⟨s.toArray⟩ : ByteArray).size ≤ 21) (h1 : -9223372036854775807 ≤ n)
    (C : ∀ W, Calls Tryd.prog 38 #[.int .i64 (-n)] W fun e w' => e = .returned (.string ⟨s.toArray⟩) ∧ ∃ m, w' = W.drewN m) :
    Calls Tryd.prog 38 #[.int .i64 n] w fun e w' => e = .returned (.string ⟨(45 :: s).toArray⟩) ∧ ∃ m, w' = w.drewN m := by
  have hneg : decide (n < 0) = true := by simp; omega
  have HC := Aside0.mk C
  clear C
  generalize hs : (⟨s.toArray⟩ : ByteArray) = S at *
  have HS := Aside0.mk hs
  clear hs
  go_enter Tryd.func38, Tryd.ntmps38
  go_wp2_with (go_at_call 38; refine (HC.out _).mono ?_; rintro e w' ⟨rfl, m, rfl⟩)
  go_ret
  refine ⟨?_, _, rfl⟩
  have e : (⟨#[45]⟩ : ByteArray) ++ S = ⟨(45 :: s).toArray⟩ := by
    rw [← HS.out]
    apply ByteArray.ext
    rw [ByteArray.data_append]
    simp
  rw [← e]
  rfl

/-- spec.l1Num. -/
def spec_l1Num.f (a0 : Int) : Option ByteArray := if -9223372036854775807 ≤ a0 ∧ a0 ≤ 9223372036854775807 then some ⟨(Lib.itoa a0).toArray⟩ else none
theorem spec_l1Num.calls (a0 : Int) (r : ByteArray) (w : World) (h : spec_l1Num.f a0 = some r) :
    Calls Tryd.prog 38 #[.int .i64 a0] w fun e w' => e = .returned (.string r) ∧ Drawn0 w w' := by
  unfold spec_l1Num.f at h
  split at h
  · rename_i hb
    obtain rfl := Option.some.inj h
    by_cases h0 : a0 < 0
    · rw [itoa_neg a0 h0]
      exact (l1Num_neg a0 w h0 _ (by rw [ByteArray.size]; simpa using itoa_len (-a0) (by omega) (by omega)) hb.1 fun W => l1Num_nat _ (-a0) W (Nat.le_refl _) (by omega) (by omega)).mono fun e w' ⟨he, hw⟩ => ⟨he, ⟨hw⟩⟩
    · exact (l1Num_nat _ a0 w (Nat.le_refl _) (by omega) hb.2).mono fun e w' ⟨he, hw⟩ => ⟨he, ⟨hw⟩⟩
  · cases h
end Go.Proofs.YtkgeffmmpgdkmaaDoor.Giv
