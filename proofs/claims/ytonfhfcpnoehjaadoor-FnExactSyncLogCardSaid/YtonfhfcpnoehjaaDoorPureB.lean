/- The program's functions under EncodeRecord answer as the plain record's encoding says, and the statement FnExactEncodeRecord over numbers and texts alone; conditions: texts below 2^47 bytes. -/
import Derived.Test.YtonfhfcpnoehjaaDoorPureA
namespace Go.Proofs.YtonfhfcpnoehjaaDoor.Pure
open Go.RowKit Go.Proofs.YtonfhfcpnoehjaaDoorW.PrintWords Go.Proofs.YtonfhfcpnoehjaaDoorW.PrintLast Go.Proofs.YtonfhfcpnoehjaaDoor.Giv Go.Proofs.YtonfhfcpnoehjaaDoor.L Go.Proofs.YtonfhfcpnoehjaaDoor.Plain

theorem plain_l (s : ByteArray) (hs : Big s) (d : Nat) : ∀ n : Nat, s.size - n = d → n ≤ s.size → Ev (fun k => impl_isPlain.l0 k s (s.size : Int) (n : Int)) (plainL (s.data.toList.drop n)) := by
  unfold Big at hs
  induction d with
  | zero =>
    intro n hd hn
    refine Ev.step (fun k => by rw [impl_isPlain.l0]) ?_
    refine Ev.no (by omega) (Ev.const ?_)
    rw [List.drop_of_length_le (by simp; omega)]
    rfl
  | succ d ih =>
    intro n hd hn
    obtain ⟨c, hc, hb⟩ := bt_drop s n (by omega)
    refine Ev.step (fun k => by rw [impl_isPlain.l0]) ?_
    refine Ev.yes (by omega) (Ev.yes (by omega) (Ev.yes (by omega) ?_))
    rw [hb, hc]
    by_cases h1 : c.toNat < 32
    · refine Ev.yes (by omega) (Ev.const ?_)
      have : okB c = false := by unfold okB; simp; omega
      simp [plainL, this]
    refine Ev.no (by omega) ?_
    by_cases h2 : 126 < c.toNat
    · refine Ev.yes (by omega) (Ev.const ?_)
      have : okB c = false := by unfold okB; simp; omega
      simp [plainL, this]
    refine Ev.no (by omega) ?_
    by_cases h3 : c.toNat = 35
    · refine Ev.yes (by omega) (Ev.const ?_)
      have : okB c = false := by unfold okB; simp; omega
      simp [plainL, this]
    refine Ev.no (by omega) ?_
    rw [wrap_in (by omega) (by omega)]
    refine Ev.to (ih (n + 1) (by omega) (by omega)) ?_
    have : okB c = true := by unfold okB; simp; omega
    simp [plainL, this]
theorem plain_ev (s : ByteArray) (hs : Big s) : Ev (fun k => impl_isPlain.f k s) (plainL s.data.toList) := plain_l s hs (s.size - 0) 0 rfl (by omega)
theorem contains_ev (s : ByteArray) (c : UInt8) : strings_Contains.f s ⟨#[c]⟩ = some (hasL s.data.toList c.toNat) := by
  unfold strings_Contains.f strings_Index.f stringslite_Index.f
  rw [if_pos (show (⟨#[c]⟩ : ByteArray).size = 1 from rfl)]
  simp only [Option.bind_some]
  exact congrArg some (indexByte_has s.data.toList c)

theorem valid_ev (c r : ByteArray) (hc : Big c) (hr : Big r) : Ev (fun k => impl_IsValidRecord.f k c r) (validR c r) := by
  unfold impl_IsValidRecord.f
  refine Ev.bind0 (within_ev _ _ _) ?_
  by_cases h1 : c.size ≠ 0 ∧ c.size ≤ 160
  · refine Ev.yes (by simp; omega) ?_
    by_cases h2 : r.size ≤ 250
    · refine Ev.yes (by omega) (Ev.bind (plain_ev c hc) ?_)
      by_cases h3 : plainL c.data.toList = true
      · refine Ev.yes h3 (Ev.bind (plain_ev r hr) ?_)
        by_cases h4 : plainL r.data.toList = true
        · refine Ev.yes h4 (Ev.bind0 (contains_ev c 64) (Ev.const ?_))
          simp [validR, h1, h2, h3, h4]
        · refine Ev.no h4 (Ev.const ?_)
          simp [validR, h4]
      · refine Ev.no h3 (Ev.const ?_)
        simp [validR, h3]
    · refine Ev.no (by omega) (Ev.const ?_)
      simp [validR, h2]
  · refine Ev.no (by simp; omega) (Ev.const ?_)
    have : (decide (c.size ≠ 0) && decide (c.size ≤ 160)) = false := by
      rw [Bool.and_eq_false_iff]
      by_cases h : c.size = 0
      · exact .inl (by simp [h])
      · exact .inr (by simp; omega)
    unfold validR
    rw [this]
    simp

theorem check_l (s : ByteArray) (hs : Big s) (d : Nat) : ∀ (n : Nat) (h : Int), 0 ≤ h → h < 999979 → s.size - n = d → n ≤ s.size → Ev (fun k => impl_Checksum.l0 k s h (s.size : Int) (n : Int)) (sumL h (s.data.toList.drop n), true) := by
  unfold Big at hs
  induction d with
  | zero =>
    intro n h h0 h1 hd hn
    refine Ev.step (fun k => by rw [impl_Checksum.l0]) ?_
    refine Ev.no (by omega) (Ev.const ?_)
    rw [List.drop_of_length_le (by simp; omega)]
    rfl
  | succ d ih =>
    intro n h h0 h1 hd hn
    obtain ⟨c, hc, hb⟩ := bt_drop s n (by omega)
    refine Ev.step (fun k => by rw [impl_Checksum.l0]) ?_
    refine Ev.yes (by omega) (Ev.yes (by omega) (Ev.yes (by omega) ?_))
    rw [hb, sum_step h0 h1, hc, wrap_in (n := (n : Int) + 1) (by omega) (by omega)]
    exact ih (n + 1) ((41 * h + c.toNat + 1) % 999979) (by omega) (by omega) (by omega) (by omega)
theorem check_ev (s : ByteArray) (hs : s.size ≤ 4000) : Ev (fun k => impl_Checksum.f k s) (sumL 7 s.data.toList, true) := by
  unfold impl_Checksum.f
  exact Ev.no (by omega) (check_l s (by unfold Big; omega) (s.size - 0) 0 7 (by omega) (by omega) rfl (by omega))
theorem append_ev (s : ByteArray) (hs : s.size ≤ 3900) (hh : hasL s.data.toList 35 = false) : Ev (fun k => impl_AppendChecksum.f k s) (sealB s, true) := by
  have hr := sumL_range s.data.toList 7 (by omega) (by omega)
  have hl := numB_len (sumL 7 s.data.toList) (by omega) (by omega)
  have hz := sealB_size s
  unfold impl_AppendChecksum.f
  refine Ev.bind (check_ev s (by omega)) (Ev.yes rfl (Ev.bind0 (contains_ev s 35) ?_))
  rw [show (35 : UInt8).toNat = 35 from rfl, hh]
  refine Ev.step (fun k => by rw [impl_AppendChecksum.j0]) ?_
  refine Ev.no (by simp) (Ev.yes (by omega) (Ev.bind0 (itoa_ev _ (by omega) (by omega)) (Ev.yes ?_ (Ev.no ?_ (Ev.const rfl)))))
  · simp only [ByteArray.size_append, one_size]; omega
  · have : (s ++ (⟨#[35]⟩ : ByteArray) ++ numB (sumL 7 s.data.toList)).size = s.size + 1 + (numB (sumL 7 s.data.toList)).size := hz
    show ¬ (((s ++ (⟨#[35]⟩ : ByteArray) ++ numB (sumL 7 s.data.toList)).size : Nat) : Int) > 4000
    omega

/-! ### Digits are plain -/
theorem dig_ok (n : Nat) (h : n < 10) : okB (UInt8.ofNat (48 + n)) = true ∧ (UInt8.ofNat (48 + n)).toNat = 48 + n := by
  have : (UInt8.ofNat (48 + n)).toNat = 48 + n := by simp; omega
  exact ⟨by unfold okB; rw [this]; simp; omega, this⟩
theorem dec_all (u : Nat) : ∀ c ∈ Lib.decDigits u, 48 ≤ c.toNat ∧ c.toNat ≤ 57 := by
  induction u using Nat.strongRecOn with
  | _ u ih =>
    rw [Lib.decDigits]
    split
    · rename_i h
      intro c hc
      simp at hc
      subst hc
      have := (dig_ok u h).2
      simp at this
      simp
      omega
    · intro c hc
      rw [List.mem_append] at hc
      rcases hc with hc | hc
      · exact ih _ (by omega) c hc
      · simp at hc
        subst hc
        have := (dig_ok (u % 10) (by omega)).2
        simp at this
        simp
        omega
theorem num_all (n : Int) (h : 0 ≤ n) : ∀ c ∈ (numB n).data.toList, 48 ≤ c.toNat ∧ c.toNat ≤ 57 := by
  have : (numB n).data.toList = Lib.decDigits n.toNat := by unfold numB Lib.itoa; rw [if_neg (by omega)]
  rw [this]
  exact dec_all _
theorem hasL_append (a b : List UInt8) (n : Nat) : hasL (a ++ b) n = (hasL a n || hasL b n) := by simp [hasL]
theorem data_append (a b : ByteArray) : (a ++ b).data.toList = a.data.toList ++ b.data.toList := by rw [ByteArray.data_append]; simp
theorem hasL_of_all {l : List UInt8} {n : Nat} (h : ∀ c ∈ l, c.toNat ≠ n) : hasL l n = false := by
  unfold hasL; rw [List.any_eq_false]; intro c hc; simpa using h c hc
theorem plain_no {l : List UInt8} (h : plainL l = true) : hasL l 35 = false := by
  refine hasL_of_all fun c hc => ?_
  have := List.all_eq_true.1 h c hc
  unfold okB at this
  simp at this
  omega
theorem body_no (n : Int) (c r : ByteArray) (h0 : 0 ≤ n) (hc : plainL c.data.toList = true) (hr : plainL r.data.toList = true) : hasL (bodyB n c r).data.toList 35 = false := by
  unfold bodyB
  simp only [data_append, hasL_append]
  rw [hasL_of_all (n := 35) (fun c hc => by have := num_all n h0 c hc; omega), plain_no hc, plain_no hr]
  rfl
theorem impl_enc_ev (n : Int) (c r : ByteArray) (hc : Big c) (hr : Big r) : Ev (fun k => impl_EncodeRecord.f k n c r) (encB n c r) := by
  unfold impl_EncodeRecord.f encB
  refine Ev.bind0 (within_ev _ _ _) ?_
  by_cases h1 : 0 ≤ n ∧ n ≤ 59
  · refine Ev.yes (by simpa using h1) (Ev.bind (valid_ev c r hc hr) ?_)
    by_cases h2 : validR c r = true
    · have hz := valid_size h2
      have hl := numB_len n (by omega) (by omega)
      have hb := bodyB_size n c r
      have hq := sumL_range (bodyB n c r).data.toList 7 (by omega) (by omega)
      have hs := sealB_size (bodyB n c r)
      have hn := numB_len (sumL 7 (bodyB n c r).data.toList) (by omega) (by omega)
      have h3 : plainL c.data.toList = true ∧ plainL r.data.toList = true := by unfold validR at h2; simp at h2; exact ⟨h2.1.1.1.2, h2.2⟩
      rw [if_pos ⟨h1.1, h1.2, h2⟩, h2]
      refine Ev.step (fun k => by rw [impl_EncodeRecord.j0]) ?_
      refine Ev.no (by simp) (Ev.bind0 (itoa_ev n (by omega) (by omega)) (Ev.yes (by omega) (Ev.yes ?_ (Ev.yes ?_ (Ev.yes ?_ (Ev.bind (append_ev (bodyB n c r) (by omega) (body_no n c r h1.1 h3.1 h3.2)) (Ev.yes rfl (Ev.yes ?_ (Ev.const rfl))))))))) 
      all_goals first | (simp only [ByteArray.size_append, one_size]; omega) | (show (sealB (bodyB n c r)).size + 1 ≤ _; omega)
    · have h2' : validR c r = false := by simpa using h2
      rw [if_neg (fun h => h2 h.2.2), h2']
      refine Ev.step (fun k => by rw [impl_EncodeRecord.j0]) ?_
      exact Ev.yes rfl (Ev.const rfl)
  · refine Ev.no (by simpa using h1) ?_
    rw [if_neg (fun h => h1 ⟨h.1, h.2.1⟩)]
    refine Ev.step (fun k => by rw [impl_EncodeRecord.j0]) ?_
    exact Ev.yes rfl (Ev.const rfl)

theorem szr (c r : ByteArray) (hc : Big c) (hr : Big r) : ∃ z, laws_szLogRecord.f c r 1048576 = some z ∧ (¬ z < 0 → c.size + r.size ≤ 1048576) := by
  unfold laws_szLogRecord.f
  unfold Big at hc hr
  rw [wrap_in (n := 1048576 - (c.size : Int)) (by omega) (by omega)]
  split
  · exact ⟨_, rfl, fun h => absurd (by decide) h⟩
  · rw [wrap_in (by omega) (by omega)]
    split
    · exact ⟨_, rfl, fun h => absurd (by decide) h⟩
    · exact ⟨_, rfl, fun _ => by omega⟩

/-- FnExactEncodeRecord. -/
theorem FnExactEncodeRecord (n : Int) (c r : ByteArray) (_hn : (Lit.int .i64 n).wf = true) (hc : Big c) (hr : Big r) : ∃ k, laws_FnExactEncodeRecord.f k n c r = some true := by
  refine Ev.rounds ?_
  unfold laws_FnExactEncodeRecord.f
  obtain ⟨z, hz, _⟩ := szr c r hc hr
  refine Ev.bind0 hz (Ev.ite (fun _ => Ev.const rfl) fun _ => ?_)
  refine Ev.bind0 rfl (Ev.bind (spec_enc_ev n c r hc hr) (Ev.bind0 rfl (Ev.bind (impl_enc_ev n c r hc hr) (Ev.yes rfl (Ev.no (by simp) (Ev.const rfl))))))
#print axioms FnExactEncodeRecord
end Go.Proofs.YtonfhfcpnoehjaaDoor.Pure
