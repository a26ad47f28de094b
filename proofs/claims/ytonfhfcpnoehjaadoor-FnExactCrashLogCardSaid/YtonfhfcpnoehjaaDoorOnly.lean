/- The statement FnExactCrashLog over texts alone; conditions: texts below 2^47 bytes. -/
import Derived.Test.YtonfhfcpnoehjaaDoorPlain
import Derived.Test.YtonfhfcpnoehjaaDoorCrash
import Derived.Test.YtonfhfcpnoehjaaDoorM
namespace Go.Proofs.YtonfhfcpnoehjaaDoor.Pure
open Go.RowKit Go.Proofs.YtonfhfcpnoehjaaDoorW.PrintWords Go.Proofs.YtonfhfcpnoehjaaDoorW.PrintLast Go.Proofs.YtonfhfcpnoehjaaDoor.Giv Go.Proofs.YtonfhfcpnoehjaaDoor.L Go.Proofs.YtonfhfcpnoehjaaDoor.Plain

abbrev Big (s : ByteArray) : Prop := s.size ≤ 140737488351232
theorem in_ev (x a b : Int) : spec_l1In.f x a b = some (decide (a ≤ x) && decide (x ≤ b)) := by
  unfold spec_l1In.f
  by_cases h : x ≥ a
  · rw [if_pos h]; simp [show a ≤ x from h]
  · rw [if_neg h]; simp [show ¬ a ≤ x from h]
theorem within_ev (x a b : Int) : impl_within.f x a b = some (decide (a ≤ x) && decide (x ≤ b)) := by
  unfold impl_within.f
  by_cases h : x ≥ a
  · rw [if_pos h]; simp [show a ≤ x from h]
  · rw [if_neg h]; simp [show ¬ a ≤ x from h]
theorem bytes_l (s : ByteArray) (m : Int) (hs : Big s) (d : Nat) : ∀ n : Nat, s.size - n = d → n ≤ s.size → Ev (fun k => spec_l12Bytes.l0 k s m (n : Int)) (plainL (s.data.toList.drop n) && decide ((s.size : Int) ≤ m)) := by
  unfold Big at hs
  induction d with
  | zero =>
    intro n hd hn
    refine Ev.step (fun k => rfl) (Ev.no (by omega) (Ev.const ?_))
    rw [List.drop_of_length_le (by simp; omega)]
    simp [plainL]
  | succ d ih =>
    intro n hd hn
    obtain ⟨c, hc, hb⟩ := bt_drop s n (by omega)
    have hu := u8_lt c
    refine Ev.step (fun k => rfl) (Ev.yes (by omega) (Ev.yes (by omega) ?_))
    rw [hb, wrap_in (n := (c.toNat : Int)) (by omega) (by omega), hc]
    refine Ev.bind0 (in_ev _ _ _) ?_
    by_cases h1 : 32 ≤ c.toNat ∧ c.toNat ≤ 126
    · refine Ev.yes (by simp; omega) ?_
      by_cases h2 : c.toNat = 35
      · refine Ev.yes (by omega) (Ev.const ?_)
        simp [plainL, okB, h2]
      · refine Ev.no (by omega) ?_
        rw [wrap_in (by omega) (by omega)]
        refine Ev.to (ih (n + 1) (by omega) (by omega)) ?_
        simp [plainL, okB, h1, h2]
    · refine Ev.no (by simp; omega) (Ev.const ?_)
      have : okB c = false := by unfold okB; simp; omega
      simp [plainL, this]
theorem bytes_ev (s : ByteArray) (m : Int) (hs : Big s) : Ev (fun k => spec_l12Bytes.f k s m) (plainL s.data.toList && decide ((s.size : Int) ≤ m)) := by
  have := bytes_l s m hs (s.size - 0) 0 rfl (by omega)
  simpa [spec_l12Bytes.f] using this
theorem stands_l (s : ByteArray) (m : Nat) (hs : Big s) (d : Nat) : ∀ n : Nat, s.size - n = d → n ≤ s.size → Ev (fun k => spec_l1Stands.l0 k s (m : Int) (n : Int)) (hasL (s.data.toList.drop n) m) := by
  unfold Big at hs
  induction d with
  | zero =>
    intro n hd hn
    refine Ev.step (fun k => rfl) (Ev.no (by omega) (Ev.const ?_))
    rw [List.drop_of_length_le (by simp; omega)]
    simp [hasL]
  | succ d ih =>
    intro n hd hn
    obtain ⟨c, hc, hb⟩ := bt_drop s n (by omega)
    refine Ev.step (fun k => rfl) (Ev.yes (by omega) (Ev.yes (by omega) ?_))
    rw [hb, hc]
    by_cases h1 : c.toNat = m
    · refine Ev.yes (by omega) (Ev.const ?_)
      simp [hasL, h1]
    · refine Ev.no (by omega) ?_
      rw [wrap_in (by omega) (by omega)]
      refine Ev.to (ih (n + 1) (by omega) (by omega)) ?_
      simp [hasL, h1]
theorem stands_ev (s : ByteArray) (m : Nat) (hs : Big s) : Ev (fun k => spec_l1Stands.f k s (m : Int)) (hasL s.data.toList m) := by
  have := stands_l s m hs (s.size - 0) 0 rfl (by omega)
  simpa [spec_l1Stands.f] using this
/-- A record that is valid. -/
def validR (c r : ByteArray) : Bool := decide (c.size ≠ 0) && decide (c.size ≤ 160) && plainL c.data.toList && !hasL c.data.toList 64 && decide (r.size ≤ 250) && plainL r.data.toList
theorem record_ev (c r : ByteArray) (hc : Big c) (hr : Big r) : Ev (fun k => spec_l12Record.f k c r) (validR c r) := by
  unfold spec_l12Record.f
  by_cases h0 : c.size = 0
  · refine Ev.yes (by rw [toList_eq]; exact size_zero.2 h0) (Ev.const ?_)
    simp [validR, h0]
  · refine Ev.no (by rw [toList_eq]; exact fun h => h0 (size_zero.1 h)) ?_
    refine Ev.bind (bytes_ev c 160 hc) ?_
    by_cases h1 : (plainL c.data.toList && decide ((c.size : Int) ≤ 160)) = true
    · refine Ev.yes h1 (Ev.bind (stands_ev c 64 hc) ?_)
      simp at h1
      by_cases h2 : hasL c.data.toList 64 = true
      · refine Ev.yes h2 (Ev.const ?_)
        simp [validR, h2]
      · refine Ev.no h2 (Ev.bind (bytes_ev r 250 hr) (Ev.const ?_))
        have h3 : decide ((r.size : Int) ≤ 250) = decide (r.size ≤ 250) := by rw [decide_eq_decide]; omega
        have h4 : c.size ≤ 160 := by omega
        simp [validR, h2, h0, h1.1, h4, h3, Bool.and_comm]
    · refine Ev.no h1 (Ev.const ?_)
      simp at h1
      simp [validR]
      intro _ h4 h5
      have := h1 h5
      omega
theorem sum_l (s : ByteArray) (hs : Big s) (d : Nat) : ∀ (n : Nat) (h : Int), 0 ≤ h → h < 999979 → s.size - n = d → n ≤ s.size → Ev (fun k => spec_l1Sum.l0 k s h (n : Int)) (sumL h (s.data.toList.drop n)) := by
  unfold Big at hs
  induction d with
  | zero =>
    intro n h h0 h1 hd hn
    refine Ev.step (fun k => rfl) (Ev.no (by omega) (Ev.const ?_))
    rw [List.drop_of_length_le (by simp; omega)]
    rfl
  | succ d ih =>
    intro n h h0 h1 hd hn
    obtain ⟨c, hc, hb⟩ := bt_drop s n (by omega)
    refine Ev.step (fun k => rfl) (Ev.yes (by omega) (Ev.yes (by omega) ?_))
    rw [hb, sum_step h0 h1, hc, wrap_in (n := (n : Int) + 1) (by omega) (by omega)]
    exact ih (n + 1) ((41 * h + c.toNat + 1) % 999979) (by omega) (by omega) (by omega) (by omega)
theorem sum_ev (s : ByteArray) (hs : Big s) : Ev (fun k => spec_l1Sum.f k s) (sumL 7 s.data.toList) := sum_l s hs (s.size - 0) 0 7 (by omega) (by omega) rfl (by omega)
/-- A number's text. -/
def numB (n : Int) : ByteArray := ⟨(Lib.itoa n).toArray⟩
theorem num_ev (n : Int) (h0 : -9223372036854775807 ≤ n) (h1 : n ≤ 9223372036854775807) : spec_l1Num.f n = some (numB n) := by unfold spec_l1Num.f; rw [if_pos ⟨h0, h1⟩]; rfl
theorem itoa_ev (n : Int) (h0 : -9223372036854775808 ≤ n) (h1 : n ≤ 9223372036854775807) : strconv_Itoa.f n = some (numB n) := by unfold strconv_Itoa.f; rw [if_pos ⟨h0, h1⟩]; rfl
theorem numB_len (n : Int) (h0 : -9223372036854775808 ≤ n) (h1 : n ≤ 9223372036854775807) : (numB n).size ≤ 21 := by
  have := itoa_len n h0 h1
  show (Lib.itoa n).toArray.size ≤ 21
  simpa using this
/-- A text with its checksum. -/
def sealB (s : ByteArray) : ByteArray := (s ++ (⟨#[35]⟩ : ByteArray)) ++ numB (sumL 7 s.data.toList)
theorem seal_ev (s : ByteArray) (hs : Big s) : Ev (fun k => spec_l1Seal.f k s) (sealB s) := by
  have hr := sumL_range s.data.toList 7 (by omega) (by omega)
  have hl := numB_len (sumL 7 s.data.toList) (by omega) (by omega)
  unfold spec_l1Seal.f
  unfold Big at hs
  refine Ev.yes (by omega) (Ev.bind (sum_ev s hs) (Ev.bind0 (num_ev _ (by omega) (by omega)) (Ev.yes ?_ (Ev.const rfl))))
  rw [ByteArray.size_append]
  show s.size + 1 + _ ≤ _
  omega
/-- What is sealed of a record. -/
def bodyB (n : Int) (c r : ByteArray) : ByteArray := (((numB n ++ (⟨#[32]⟩ : ByteArray)) ++ c) ++ (⟨#[64]⟩ : ByteArray)) ++ r
def lineB (n : Int) (c r : ByteArray) : ByteArray := sealB (bodyB n c r) ++ (⟨#[10]⟩ : ByteArray)
theorem one_size (c : UInt8) : (⟨#[c]⟩ : ByteArray).size = 1 := rfl
theorem bodyB_size (n : Int) (c r : ByteArray) : (bodyB n c r).size = (numB n).size + 1 + c.size + 1 + r.size := by
  simp only [bodyB, ByteArray.size_append, one_size]
theorem sealB_size (s : ByteArray) : (sealB s).size = s.size + 1 + (numB (sumL 7 s.data.toList)).size := by
  simp only [sealB, ByteArray.size_append, one_size]
theorem line_ev (n : Int) (c r : ByteArray) (h0 : 0 ≤ n) (h1 : n ≤ 1000) (hc : c.size ≤ 1048576) (hr : r.size ≤ 1048576) : Ev (fun k => spec_l12Line.f k n c r) (lineB n c r) := by
  have hl := numB_len n (by omega) (by omega)
  have hb := bodyB_size n c r
  have hq := sumL_range (bodyB n c r).data.toList 7 (by omega) (by omega)
  have hs := sealB_size (bodyB n c r)
  have hn := numB_len (sumL 7 (bodyB n c r).data.toList) (by omega) (by omega)
  unfold spec_l12Line.f
  refine Ev.bind0 (num_ev n (by omega) (by omega)) (Ev.yes (by omega) (Ev.yes ?_ (Ev.yes ?_ (Ev.yes ?_ (Ev.bind (seal_ev (bodyB n c r) (by unfold Big; omega)) (Ev.yes (by omega) (Ev.const rfl)))))))
  all_goals simp only [ByteArray.size_append, one_size]; omega
/-- The encoding of a record. -/
def encB (n : Int) (c r : ByteArray) : ByteArray × Bool := if 0 ≤ n ∧ n ≤ 59 ∧ validR c r = true then (lineB n c r, true) else (⟨#[]⟩, false)
theorem valid_size {c r : ByteArray} (h : validR c r = true) : c.size ≤ 160 ∧ r.size ≤ 250 := by
  unfold validR at h
  simp at h
  omega

theorem plain_l (s : ByteArray) (hs : Big s) (d : Nat) : ∀ n : Nat, s.size - n = d → n ≤ s.size → Ev (fun k => impl_isPlain.l0 k s (s.size : Int) (n : Int)) (plainL (s.data.toList.drop n)) := by
  unfold Big at hs
  induction d with
  | zero =>
    intro n hd hn
    refine Ev.step (fun k => by rw [impl_isPlain.l0]) ?_
    refine Ev.no (by omega) (Ev.const ?_)
    rw [List.drop_of_length_le (by simp; omega)]
    rfl
  | succ d ih =>
    intro n hd hn
    obtain ⟨c, hc, hb⟩ := bt_drop s n (by omega)
    refine Ev.step (fun k => by rw [impl_isPlain.l0]) ?_
    refine Ev.yes (by omega) (Ev.yes (by omega) (Ev.yes (by omega) ?_))
    rw [hb, hc]
    by_cases h1 : c.toNat < 32
    · refine Ev.yes (by omega) (Ev.const ?_)
      have : okB c = false := by unfold okB; simp; omega
      simp [plainL, this]
    refine Ev.no (by omega) ?_
    by_cases h2 : 126 < c.toNat
    · refine Ev.yes (by omega) (Ev.const ?_)
      have : okB c = false := by unfold okB; simp; omega
      simp [plainL, this]
    refine Ev.no (by omega) ?_
    by_cases h3 : c.toNat = 35
    · refine Ev.yes (by omega) (Ev.const ?_)
      have : okB c = false := by unfold okB; simp; omega
      simp [plainL, this]
    refine Ev.no (by omega) ?_
    rw [wrap_in (by omega) (by omega)]
    refine Ev.to (ih (n + 1) (by omega) (by omega)) ?_
    have : okB c = true := by unfold okB; simp; omega
    simp [plainL, this]
theorem plain_ev (s : ByteArray) (hs : Big s) : Ev (fun k => impl_isPlain.f k s) (plainL s.data.toList) := plain_l s hs (s.size - 0) 0 rfl (by omega)
theorem contains_ev (s : ByteArray) (c : UInt8) : strings_Contains.f s ⟨#[c]⟩ = some (hasL s.data.toList c.toNat) := by
  unfold strings_Contains.f strings_Index.f stringslite_Index.f
  rw [if_pos (show (⟨#[c]⟩ : ByteArray).size = 1 from rfl)]
  simp only [Option.bind_some]
  exact congrArg some (indexByte_has s.data.toList c)
theorem valid_ev (c r : ByteArray) (hc : Big c) (hr : Big r) : Ev (fun k => impl_IsValidRecord.f k c r) (validR c r) := by
  unfold impl_IsValidRecord.f
  refine Ev.bind0 (within_ev _ _ _) ?_
  by_cases h1 : c.size ≠ 0 ∧ c.size ≤ 160
  · refine Ev.yes (by simp; omega) ?_
    by_cases h2 : r.size ≤ 250
    · refine Ev.yes (by omega) (Ev.bind (plain_ev c hc) ?_)
      by_cases h3 : plainL c.data.toList = true
      · refine Ev.yes h3 (Ev.bind (plain_ev r hr) ?_)
        by_cases h4 : plainL r.data.toList = true
        · refine Ev.yes h4 (Ev.bind0 (contains_ev c 64) (Ev.const ?_))
          simp [validR, h1, h2, h3, h4]
        · refine Ev.no h4 (Ev.const ?_)
          simp [validR, h4]
      · refine Ev.no h3 (Ev.const ?_)
        simp [validR, h3]
    · refine Ev.no (by omega) (Ev.const ?_)
      simp [validR, h2]
  · refine Ev.no (by simp; omega) (Ev.const ?_)
    have : (decide (c.size ≠ 0) && decide (c.size ≤ 160)) = false := by
      rw [Bool.and_eq_false_iff]
      by_cases h : c.size = 0
      · exact .inl (by simp [h])
      · exact .inr (by simp; omega)
    unfold validR
    rw [this]
    simp
theorem check_l (s : ByteArray) (hs : Big s) (d : Nat) : ∀ (n : Nat) (h : Int), 0 ≤ h → h < 999979 → s.size - n = d → n ≤ s.size → Ev (fun k => impl_Checksum.l0 k s h (s.size : Int) (n : Int)) (sumL h (s.data.toList.drop n), true) := by
  unfold Big at hs
  induction d with
  | zero =>
    intro n h h0 h1 hd hn
    refine Ev.step (fun k => by rw [impl_Checksum.l0]) ?_
    refine Ev.no (by omega) (Ev.const ?_)
    rw [List.drop_of_length_le (by simp; omega)]
    rfl
  | succ d ih =>
    intro n h h0 h1 hd hn
    obtain ⟨c, hc, hb⟩ := bt_drop s n (by omega)
    refine Ev.step (fun k => by rw [impl_Checksum.l0]) ?_
    refine Ev.yes (by omega) (Ev.yes (by omega) (Ev.yes (by omega) ?_))
    rw [hb, sum_step h0 h1, hc, wrap_in (n := (n : Int) + 1) (by omega) (by omega)]
    exact ih (n + 1) ((41 * h + c.toNat + 1) % 999979) (by omega) (by omega) (by omega) (by omega)
theorem check_ev (s : ByteArray) (hs : s.size ≤ 4000) : Ev (fun k => impl_Checksum.f k s) (sumL 7 s.data.toList, true) := by
  unfold impl_Checksum.f
  exact Ev.no (by omega) (check_l s (by unfold Big; omega) (s.size - 0) 0 7 (by omega) (by omega) rfl (by omega))
theorem append_ev (s : ByteArray) (hs : s.size ≤ 3900) (hh : hasL s.data.toList 35 = false) : Ev (fun k => impl_AppendChecksum.f k s) (sealB s, true) := by
  have hr := sumL_range s.data.toList 7 (by omega) (by omega)
  have hl := numB_len (sumL 7 s.data.toList) (by omega) (by omega)
  have hz := sealB_size s
  unfold impl_AppendChecksum.f
  refine Ev.bind (check_ev s (by omega)) (Ev.yes rfl (Ev.bind0 (contains_ev s 35) ?_))
  rw [show (35 : UInt8).toNat = 35 from rfl, hh]
  refine Ev.step (fun k => by rw [impl_AppendChecksum.j0]) ?_
  refine Ev.no (by simp) (Ev.yes (by omega) (Ev.bind0 (itoa_ev _ (by omega) (by omega)) (Ev.yes ?_ (Ev.no ?_ (Ev.const rfl)))))
  · simp only [ByteArray.size_append, one_size]; omega
  · have : (s ++ (⟨#[35]⟩ : ByteArray) ++ numB (sumL 7 s.data.toList)).size = s.size + 1 + (numB (sumL 7 s.data.toList)).size := hz
    show ¬ (((s ++ (⟨#[35]⟩ : ByteArray) ++ numB (sumL 7 s.data.toList)).size : Nat) : Int) > 4000
    omega
theorem dig_ok (n : Nat) (h : n < 10) : okB (UInt8.ofNat (48 + n)) = true ∧ (UInt8.ofNat (48 + n)).toNat = 48 + n := by
  have : (UInt8.ofNat (48 + n)).toNat = 48 + n := by simp; omega
  exact ⟨by unfold okB; rw [this]; simp; omega, this⟩
theorem dec_all (u : Nat) : ∀ c ∈ Lib.decDigits u, 48 ≤ c.toNat ∧ c.toNat ≤ 57 := by
  induction u using Nat.strongRecOn with
  | _ u ih =>
    rw [Lib.decDigits]
    split
    · rename_i h
      intro c hc
      simp at hc
      subst hc
      have := (dig_ok u h).2
      simp at this
      simp
      omega
    · intro c hc
      rw [List.mem_append] at hc
      rcases hc with hc | hc
      · exact ih _ (by omega) c hc
      · simp at hc
        subst hc
        have := (dig_ok (u % 10) (by omega)).2
        simp at this
        simp
        omega
theorem num_all (n : Int) (h : 0 ≤ n) : ∀ c ∈ (numB n).data.toList, 48 ≤ c.toNat ∧ c.toNat ≤ 57 := by
  have : (numB n).data.toList = Lib.decDigits n.toNat := by unfold numB Lib.itoa; rw [if_neg (by omega)]
  rw [this]
  exact dec_all _
theorem hasL_append (a b : List UInt8) (n : Nat) : hasL (a ++ b) n = (hasL a n || hasL b n) := by simp [hasL]
theorem data_append (a b : ByteArray) : (a ++ b).data.toList = a.data.toList ++ b.data.toList := by rw [ByteArray.data_append]; simp
theorem hasL_of_all {l : List UInt8} {n : Nat} (h : ∀ c ∈ l, c.toNat ≠ n) : hasL l n = false := by
  unfold hasL; rw [List.any_eq_false]; intro c hc; simpa using h c hc
theorem plain_no {l : List UInt8} (h : plainL l = true) : hasL l 35 = false := by
  refine hasL_of_all fun c hc => ?_
  have := List.all_eq_true.1 h c hc
  unfold okB at this
  simp at this
  omega
theorem body_no (n : Int) (c r : ByteArray) (h0 : 0 ≤ n) (hc : plainL c.data.toList = true) (hr : plainL r.data.toList = true) : hasL (bodyB n c r).data.toList 35 = false := by
  unfold bodyB
  simp only [data_append, hasL_append]
  rw [hasL_of_all (n := 35) (fun c hc => by have := num_all n h0 c hc; omega), plain_no hc, plain_no hr]
  rfl
theorem impl_enc_ev (n : Int) (c r : ByteArray) (hc : Big c) (hr : Big r) : Ev (fun k => impl_EncodeRecord.f k n c r) (encB n c r) := by
  unfold impl_EncodeRecord.f encB
  refine Ev.bind0 (within_ev _ _ _) ?_
  by_cases h1 : 0 ≤ n ∧ n ≤ 59
  · refine Ev.yes (by simpa using h1) (Ev.bind (valid_ev c r hc hr) ?_)
    by_cases h2 : validR c r = true
    · have hz := valid_size h2
      have hl := numB_len n (by omega) (by omega)
      have hb := bodyB_size n c r
      have hq := sumL_range (bodyB n c r).data.toList 7 (by omega) (by omega)
      have hs := sealB_size (bodyB n c r)
      have hn := numB_len (sumL 7 (bodyB n c r).data.toList) (by omega) (by omega)
      have h3 : plainL c.data.toList = true ∧ plainL r.data.toList = true := by unfold validR at h2; simp at h2; exact ⟨h2.1.1.1.2, h2.2⟩
      rw [if_pos ⟨h1.1, h1.2, h2⟩, h2]
      refine Ev.step (fun k => by rw [impl_EncodeRecord.j0]) ?_
      refine Ev.no (by simp) (Ev.bind0 (itoa_ev n (by omega) (by omega)) (Ev.yes (by omega) (Ev.yes ?_ (Ev.yes ?_ (Ev.yes ?_ (Ev.bind (append_ev (bodyB n c r) (by omega) (body_no n c r h1.1 h3.1 h3.2)) (Ev.yes rfl (Ev.yes ?_ (Ev.const rfl))))))))) 
      all_goals first | (simp only [ByteArray.size_append, one_size]; omega) | (show (sealB (bodyB n c r)).size + 1 ≤ _; omega)
    · have h2' : validR c r = false := by simpa using h2
      rw [if_neg (fun h => h2 h.2.2), h2']
      refine Ev.step (fun k => by rw [impl_EncodeRecord.j0]) ?_
      exact Ev.yes rfl (Ev.const rfl)
  · refine Ev.no (by simpa using h1) ?_
    rw [if_neg (fun h => h1 ⟨h.1, h.2.1⟩)]
    refine Ev.step (fun k => by rw [impl_EncodeRecord.j0]) ?_
    exact Ev.yes rfl (Ev.const rfl)

/-- A text out of its bytes. -/
def BA (l : List UInt8) : ByteArray := ⟨l.toArray⟩
theorem BA_list (l : List UInt8) : (BA l).data.toList = l := by simp [BA]
theorem BA_size (l : List UInt8) : (BA l).size = l.length := by rw [← size_list, BA_list]
theorem BA_eta (s : ByteArray) : BA s.data.toList = s := ba_ext (BA_list _)
theorem ext_list (s : ByteArray) (i j : Nat) : (s.extract i j).data.toList = (s.data.toList.take j).drop i := by
  rw [ByteArray.data_extract]
  simp [List.drop_take]
theorem ext_BA (s : ByteArray) (i j : Nat) : s.extract i j = BA ((s.data.toList.take j).drop i) := ba_ext (by rw [ext_list, BA_list])
def pre (a : List UInt8) : List (List UInt8) → List (List UInt8)
  | [] => [a]
  | h :: t => (a ++ h) :: t
def splitL (m : Nat) : List UInt8 → List (List UInt8)
  | [] => [[]]
  | c :: l => if c.toNat = m then [] :: splitL m l else pre [c] (splitL m l)
theorem splitL_ne (m : Nat) (l : List UInt8) : splitL m l ≠ [] := by
  cases l with
  | nil => simp [splitL]
  | cons c l =>
    simp only [splitL]
    split
    · simp
    · unfold pre; split <;> simp
theorem pre_pre (a b : List UInt8) (l : List (List UInt8)) (h : l ≠ []) : pre a (pre b l) = pre (a ++ b) l := by
  cases l with
  | nil => exact absurd rfl h
  | cons h t => simp [pre]
theorem pre_nil (l : List (List UInt8)) (h : l ≠ []) : pre [] l = l := by
  cases l with
  | nil => exact absurd rfl h
  | cons h t => simp [pre]
theorem splitL_none {m : Nat} {l : List UInt8} (h : hasL l m = false) : splitL m l = [l] := by
  induction l with
  | nil => rfl
  | cons c l ih =>
    unfold hasL at h ih
    simp at h
    simp only [splitL]
    rw [if_neg h.1, ih (by simpa using h.2)]
    rfl
theorem splitL_some {m : Nat} {a b : List UInt8} {x : UInt8} (hx : x.toNat = m) (h : hasL a m = false) : splitL m (a ++ x :: b) = a :: splitL m b := by
  induction a with
  | nil => simp [splitL, hx]
  | cons c l ih =>
    unfold hasL at h ih
    simp at h
    simp only [List.cons_append, splitL]
    rw [if_neg h.1, ih (by simpa using h.2)]
    rfl
/-- A list is without a byte, or parts at its first place. -/
theorem first_of (m : Nat) (hm : m < 256) (l : List UInt8) : hasL l m = false ∨ ∃ a b, l = a ++ UInt8.ofNat m :: b ∧ hasL a m = false := by
  induction l with
  | nil => exact .inl rfl
  | cons c l ih =>
    by_cases hc : c.toNat = m
    · exact .inr ⟨[], l, by rw [(u8_eq hm).1 hc]; rfl, rfl⟩
    · rcases ih with h | ⟨a, b, rfl, h⟩
      · exact .inl (by unfold hasL at h ⊢; simp at h ⊢; exact ⟨hc, h⟩)
      · exact .inr ⟨c :: a, b, rfl, by unfold hasL at h ⊢; simp at h ⊢; exact ⟨hc, h⟩⟩
theorem first_unique {m : Nat} {a b a' b' : List UInt8} {x : UInt8} (hx : x.toNat = m) (h : hasL a m = false) (h' : hasL a' m = false) (e : a ++ x :: b = a' ++ x :: b') : a = a' ∧ b = b' := by
  induction a generalizing a' with
  | nil =>
    cases a' with
    | nil => simpa using e
    | cons c l => simp at e; unfold hasL at h'; simp [← e.1, hx] at h'
  | cons c l ih =>
    unfold hasL at h
    simp at h
    cases a' with
    | nil => simp at e; exact absurd (by rw [e.1]; exact hx) h.1
    | cons c' l' =>
      simp at e
      unfold hasL at h'
      simp at h'
      obtain ⟨r1, r2⟩ := ih (by unfold hasL; simpa using h.2) (a' := l') (by unfold hasL; simpa using h'.2) e.2
      exact ⟨by rw [e.1, r1], r2⟩
theorem split_l (s : ByteArray) (m : Nat) (hs : s.size ≤ 2097152) (d : Nat) : ∀ (n g : Nat) (out : List ByteArray), s.size - n = d → g ≤ n → n ≤ s.size → out.length ≤ n →
    Ev (fun k => spec_l1Split.l0 k s (m : Int) out (g : Int) (n : Int)) (out ++ (pre ((s.data.toList.take n).drop g) (splitL m (s.data.toList.drop n))).map BA) := by
  induction d with
  | zero =>
    intro n g out hd hg hn ho
    refine Ev.step (fun k => by rw [spec_l1Split.l0]) ?_
    refine Ev.no (by omega) (Ev.yes (by omega) (Ev.yes (by omega) (Ev.yes (by omega) (Ev.const ?_))))
    have hl := size_list s
    rw [List.drop_of_length_le (l := s.data.toList) (i := n) (by omega)]
    simp only [splitL, pre, List.map_cons, List.map_nil, List.append_nil]
    rw [ext_BA, Int.toNat_natCast, List.take_of_length_le (by omega), List.take_of_length_le (by omega)]
  | succ d ih =>
    intro n g out hd hg hn ho
    obtain ⟨c, hc, hb⟩ := bt_drop s n (by omega)
    have htk : s.data.toList.take (n + 1) = s.data.toList.take n ++ [c] := by
      have hl := size_list s
      rw [List.take_succ_eq_append_getElem (by omega)]
      rw [List.drop_eq_getElem_cons (by omega)] at hc
      injection hc with h1 _
      rw [h1]
    refine Ev.step (fun k => by rw [spec_l1Split.l0]) ?_
    refine Ev.yes (by omega) (Ev.yes (by omega) ?_)
    rw [hb, hc, wrap_in (n := (n : Int) + 1) (by omega) (by omega)]
    by_cases h1 : c.toNat = m
    · refine Ev.yes (by omega) (Ev.yes (by omega) (Ev.yes (by omega) (Ev.yes (by omega) (Ev.yes (by omega) ?_))))
      refine Ev.to (ih (n + 1) (n + 1) _ (by omega) (by omega) (by omega) (by simp; omega)) ?_
      rw [List.drop_of_length_le (l := s.data.toList.take (n + 1)) (by simp; omega), pre_nil _ (splitL_ne _ _), ext_BA, Int.toNat_natCast, Int.toNat_natCast]
      simp only [splitL, if_pos h1, pre, List.append_nil, List.map_cons, List.append_assoc, List.singleton_append]
    · refine Ev.no (by omega) ?_
      refine Ev.to (ih (n + 1) g out (by omega) (by omega) (by omega) (by omega)) ?_
      simp only [splitL, if_neg h1]
      rw [htk, pre_pre _ _ _ (splitL_ne _ _), List.drop_append_of_le_length (by have := size_list s; simp; omega)]
theorem split_ev (s : ByteArray) (m : Nat) (hs : s.size ≤ 2097152) : Ev (fun k => spec_l1Split.f k s (m : Int)) ((splitL m s.data.toList).map BA) := by
  have := split_l s m hs (s.size - 0) 0 0 [] rfl (by omega) (by omega) (by simp)
  simpa [spec_l1Split.f, pre_nil _ (splitL_ne _ _)] using this
theorem index_none {l : List UInt8} {x : UInt8} (h : hasL l x.toNat = false) : Lib.indexByte l x = -1 := by
  have h1 := indexByte_has l x
  rw [h] at h1
  have h2 := Lib.indexByte_ge l x
  have h3 := of_decide_eq_false h1
  omega
theorem index_some {a b : List UInt8} {x : UInt8} (h : hasL a x.toNat = false) : Lib.indexByte (a ++ x :: b) x = a.length := by
  induction a with
  | nil => simp [Lib.indexByte]
  | cons c l ih =>
    unfold hasL at h ih
    simp at h
    have := ih (by simpa using h.2)
    simp only [List.cons_append, Lib.indexByte]
    rw [this, if_neg (by simp; exact fun e => h.1 (by rw [e])), if_neg (by simp)]
    simp
theorem cut_none (s : ByteArray) (x : UInt8) (h : hasL s.data.toList x.toNat = false) : strings_Cut.f s ⟨#[x]⟩ = some (s, ⟨#[]⟩, false) := by
  unfold strings_Cut.f stringslite_Cut.f stringslite_Index.f
  rw [if_pos (show (⟨#[x]⟩ : ByteArray).size = 1 from rfl)]
  simp only [Option.bind_some]
  rw [show ((⟨#[x]⟩ : ByteArray).data.getD 0 0) = x from rfl, index_none h, if_neg (by decide)]
  rfl
theorem cut_some (s : ByteArray) (x : UInt8) (a b : List UInt8) (hs : Big s) (e : s.data.toList = a ++ x :: b) (h : hasL a x.toNat = false) : strings_Cut.f s ⟨#[x]⟩ = some (BA a, BA b, true) := by
  have hz : s.size = a.length + 1 + b.length := by rw [← size_list, e]; simp; omega
  unfold Big at hs
  unfold strings_Cut.f stringslite_Cut.f stringslite_Index.f
  rw [if_pos (show (⟨#[x]⟩ : ByteArray).size = 1 from rfl)]
  simp only [Option.bind_some]
  rw [show ((⟨#[x]⟩ : ByteArray).data.getD 0 0) = x from rfl, e, index_some h, if_pos (by omega), if_pos (by omega), if_pos (by omega), one_size, wrap_in (by omega) (by omega), if_pos (by omega), if_pos (by omega)]
  simp only [Option.bind_some, Option.some.injEq, Prod.mk.injEq, and_true]
  constructor
  · apply ba_ext
    rw [ext_list, BA_list, e, Int.toNat_natCast]
    simp
  · apply ba_ext
    rw [ext_list, BA_list, e, show ((a.length : Int) + ((1 : Nat) : Int)).toNat = a.length + 1 by omega, hz]
    rw [List.take_of_length_le (by simp; omega)]
    simp

theorem body_list (n : Int) (c r : ByteArray) : (bodyB n c r).data.toList = ((numB n).data.toList ++ [32]) ++ (c.data.toList ++ 64 :: r.data.toList) := by
  unfold bodyB
  simp only [data_append]
  simp
/-- A line without its newline. -/
def stemB (n : Int) (c r : ByteArray) : ByteArray := sealB (bodyB n c r)
theorem stem_list (n : Int) (c r : ByteArray) : (stemB n c r).data.toList = (bodyB n c r).data.toList ++ 35 :: (numB (sumL 7 (bodyB n c r).data.toList)).data.toList := by
  unfold stemB sealB
  simp only [data_append]
  simp
theorem line_list (n : Int) (c r : ByteArray) : (lineB n c r).data.toList = (stemB n c r).data.toList ++ [10] := by
  unfold lineB stemB
  simp only [data_append]
theorem valid_parts {c r : ByteArray} (h : validR c r = true) : plainL c.data.toList = true ∧ plainL r.data.toList = true ∧ hasL c.data.toList 64 = false ∧ c.size ≠ 0 ∧ c.size ≤ 160 ∧ r.size ≤ 250 := by
  unfold validR at h
  simp only [Bool.and_eq_true, decide_eq_true_eq, Bool.not_eq_true'] at h
  exact ⟨h.1.1.1.2, h.2, h.1.1.2, h.1.1.1.1.1, h.1.1.1.1.2, h.1.2⟩
theorem plain_low {l : List UInt8} {m : Nat} (h : plainL l = true) (hm : m < 32 ∨ m = 35) : hasL l m = false := by
  refine hasL_of_all fun c hc => ?_
  have := List.all_eq_true.1 h c hc
  unfold okB at this
  simp at this
  omega
theorem num_no (n : Int) (h0 : 0 ≤ n) {m : Nat} (hm : m < 48) : hasL (numB n).data.toList m = false := hasL_of_all fun c hc => by have := num_all n h0 c hc; omega
theorem body_low (n : Int) (c r : ByteArray) (h0 : 0 ≤ n) (h : validR c r = true) {m : Nat} (hm : m < 32 ∨ m = 35) : hasL (bodyB n c r).data.toList m = false := by
  obtain ⟨h1, h2, _⟩ := valid_parts h
  rw [body_list]
  simp only [hasL_append]
  rw [num_no n h0 (by omega), plain_low h1 hm]
  have h3 : hasL (64 :: r.data.toList) m = false := by
    have := plain_low h2 hm
    unfold hasL at this ⊢
    simp at this ⊢
    exact ⟨by omega, this⟩
  have h4 : hasL [32] m = false := by unfold hasL; simp; omega
  rw [h3, h4]
  rfl
theorem stem_no (n : Int) (c r : ByteArray) (h0 : 0 ≤ n) (h : validR c r = true) : hasL (stemB n c r).data.toList 10 = false := by
  have hq := sumL_range (bodyB n c r).data.toList 7 (by omega) (by omega)
  rw [stem_list, hasL_append, body_low n c r h0 h (by omega)]
  have := num_no (sumL 7 (bodyB n c r).data.toList) hq.1 (m := 10) (by omega)
  unfold hasL at this ⊢
  simp at this ⊢
  exact this
/-- A stem tells its record. -/
theorem stem_inj {n : Int} {c r c' r' : ByteArray} (h0 : 0 ≤ n) (h : validR c r = true) (h' : validR c' r' = true) (e : (stemB n c r).data.toList = (stemB n c' r').data.toList) : c = c' ∧ r = r' := by
  rw [stem_list, stem_list] at e
  obtain ⟨e1, _⟩ := first_unique (m := 35) rfl (body_low n c r h0 h (.inr rfl)) (body_low n c' r' h0 h' (.inr rfl)) e
  rw [body_list, body_list] at e1
  have e2 := List.append_cancel_left e1
  obtain ⟨e3, e4⟩ := first_unique (m := 64) rfl (valid_parts h).2.2.1 (valid_parts h').2.2.1 e2
  exact ⟨ba_ext e3, ba_ext e4⟩
/-- A list begins with the encoding of a record. -/
def IsRec (n : Int) (l : List UInt8) (c r : ByteArray) : Prop := n ≤ 59 ∧ validR c r = true ∧ ∃ rest, l = (stemB n c r).data.toList ++ 10 :: rest
theorem IsRec.unique {n : Int} {l : List UInt8} {c r c' r' : ByteArray} (h0 : 0 ≤ n) (h : IsRec n l c r) (h' : IsRec n l c' r') : c = c' ∧ r = r' := by
  obtain ⟨_, hv, rest, e⟩ := h
  obtain ⟨_, hv', rest', e'⟩ := h'
  obtain ⟨e1, _⟩ := first_unique (m := 10) rfl (stem_no n c r h0 hv) (stem_no n c' r' h0 hv') (e.symm.trans e')
  exact stem_inj h0 hv hv' e1
theorem stem_size (n : Int) (c r : ByteArray) (h0 : -9223372036854775808 ≤ n) (h1 : n ≤ 9223372036854775807) (h : validR c r = true) : (stemB n c r).size ≤ 456 := by
  have hl := numB_len n h0 h1
  have hb := bodyB_size n c r
  have hq := sumL_range (bodyB n c r).data.toList 7 (by omega) (by omega)
  have hs := sealB_size (bodyB n c r)
  have hn := numB_len (sumL 7 (bodyB n c r).data.toList) (by omega) (by omega)
  have hz := valid_size h
  unfold stemB
  omega
theorem line_size (n : Int) (c r : ByteArray) : (lineB n c r).size = (stemB n c r).size + 1 := by unfold lineB stemB; rw [ByteArray.size_append]; rfl
theorem nl_eq {x : ByteArray} {n : Int} {c r : ByteArray} : (lineB n c r).toList = (x ++ (⟨#[10]⟩ : ByteArray)).toList ↔ x = stemB n c r := by
  rw [toList_inj]
  constructor
  · intro e
    have : (lineB n c r).data.toList = (x ++ (⟨#[10]⟩ : ByteArray)).data.toList := by rw [e]
    rw [line_list, data_append] at this
    exact (ba_ext (List.append_cancel_right this)).symm
  · rintro rfl; rfl
/-- Where cutting at the signs of a stem leads. -/
theorem stem_cuts (n : Int) (c r : ByteArray) (h0 : 0 ≤ n) (h1 : n ≤ 59) (h : validR c r = true) :
    ∃ q, strings_Cut.f (stemB n c r) ⟨#[35]⟩ = some (bodyB n c r, q, true) ∧ strings_Cut.f (bodyB n c r) ⟨#[32]⟩ = some (numB n, BA (c.data.toList ++ 64 :: r.data.toList), true) ∧ strings_Cut.f (BA (c.data.toList ++ 64 :: r.data.toList)) ⟨#[64]⟩ = some (c, r, true) := by
  have hz := stem_size n c r (by omega) (by omega) h
  have hl := numB_len n (by omega) (by omega)
  have hb := bodyB_size n c r
  have hv := valid_size h
  refine ⟨BA (numB (sumL 7 (bodyB n c r).data.toList)).data.toList, ?_, ?_, ?_⟩
  · rw [cut_some _ 35 _ _ (by unfold Big; omega) (stem_list n c r) (body_low n c r h0 h (.inr rfl)), BA_eta]
  · rw [cut_some (bodyB n c r) 32 (numB n).data.toList (c.data.toList ++ 64 :: r.data.toList) (by unfold Big; omega) (by rw [body_list]; simp) (num_no n h0 (by decide)), BA_eta]
  · rw [cut_some _ 64 c.data.toList r.data.toList (by unfold Big; rw [BA_size]; simp; omega) (BA_list _) (valid_parts h).2.2.1, BA_eta, BA_eta]
theorem readRecord_ev (s : ByteArray) (n : Int) (hs : s.size ≤ 2097152) (h0 : 0 ≤ n) : ∃ c r z ok, Ev (fun k => impl_readRecord.f k s n) (c, r, z, ok) ∧
    (ok = true → IsRec n s.data.toList c r ∧ z = ((lineB n c r).size : Int)) ∧ (∀ c' r', IsRec n s.data.toList c' r' → ok = true) := by
  unfold impl_readRecord.f
  rcases first_of 10 (by decide) s.data.toList with h | ⟨a, b, e, h⟩
  · refine ⟨_, _, _, _, Ev.bind0 (cut_none s 10 h) (Ev.no (by simp) (Ev.const rfl)), by simp, ?_⟩
    rintro c' r' ⟨_, hv, rest, e⟩
    rw [e, hasL_append] at h
    simp [hasL] at h
  · have hz : s.size = a.length + 1 + b.length := by rw [← size_list, e]; simp; omega
    -- what the cuts of the line give
    have hc : ∀ (x : ByteArray) (m : UInt8), Big x → ∃ u v w, strings_Cut.f x ⟨#[m]⟩ = some (u, v, w) ∧ u.size ≤ x.size ∧ v.size ≤ x.size := by
      intro x m hx
      rcases first_of m.toNat (u8_lt m) x.data.toList with hh | ⟨a', b', e', hh⟩
      · exact ⟨_, _, _, cut_none x m hh, Nat.le_refl _, Nat.zero_le _⟩
      · have hmm : UInt8.ofNat m.toNat = m := by simp
        rw [hmm] at e'
        have hx2 : x.size = a'.length + 1 + b'.length := by rw [← size_list, e']; simp; omega
        exact ⟨_, _, _, cut_some x m a' b' hx e' hh, by rw [BA_size]; omega, by rw [BA_size]; omega⟩
    have hA : (BA a).size = a.length := BA_size a
    obtain ⟨u1, v1, w1, g1, s1, _⟩ := hc (BA a) 35 (by unfold Big; omega)
    obtain ⟨u2, v2, w2, g2, _, s2⟩ := hc u1 32 (by unfold Big; omega)
    obtain ⟨u3, v3, w3, g3, s3, s3'⟩ := hc v2 64 (by unfold Big; omega)
    have key : Ev (fun k => (strings_Cut.f s ⟨#[10]⟩).bind fun bt218 => (if bt218.2.2 = true then ((strings_Cut.f bt218.1 (⟨#[35]⟩ : ByteArray)).bind fun bt221 => ((strings_Cut.f bt221.1 (⟨#[32]⟩ : ByteArray)).bind fun bt224 => ((strings_Cut.f bt224.2.1 (⟨#[64]⟩ : ByteArray)).bind fun bt227 => ((impl_EncodeRecord.f k n bt227.1 bt227.2.1).bind fun bt231 => (if bt231.2 = true then (if bt218.1.size + 1 ≤ 9223372036854775807 then (if bt231.1.toList = (bt218.1 ++ (⟨#[10]⟩ : ByteArray)).toList then (some (bt227.1, bt227.2.1, (bt231.1.size : Int), true)) else (some ((⟨#[]⟩ : ByteArray), (⟨#[]⟩ : ByteArray), 0, false))) else (none)) else (some ((⟨#[]⟩ : ByteArray), (⟨#[]⟩ : ByteArray), 0, false))))))) else (some ((⟨#[]⟩ : ByteArray), (⟨#[]⟩ : ByteArray), 0, false))))
        (if n ≤ 59 ∧ validR u3 v3 = true ∧ BA a = stemB n u3 v3 then (u3, v3, ((lineB n u3 v3).size : Int), true) else ((⟨#[]⟩ : ByteArray), (⟨#[]⟩ : ByteArray), 0, false)) := by
      refine Ev.bind0 (cut_some s 10 a b (by unfold Big; omega) e h) (Ev.yes rfl (Ev.bind0 g1 (Ev.bind0 g2 (Ev.bind0 g3 (Ev.bind (impl_enc_ev n u3 v3 (by unfold Big; omega) (by unfold Big; omega)) ?_)))))
      unfold encB
      by_cases hh : 0 ≤ n ∧ n ≤ 59 ∧ validR u3 v3 = true
      · rw [if_pos hh]
        refine Ev.yes rfl (Ev.yes (by show (BA a).size + 1 ≤ _; omega) ?_)
        by_cases he : BA a = stemB n u3 v3
        · rw [if_pos (show n ≤ 59 ∧ validR u3 v3 = true ∧ BA a = stemB n u3 v3 from ⟨hh.2.1, hh.2.2, he⟩)]
          exact Ev.yes (nl_eq.2 he) (Ev.const rfl)
        · rw [if_neg (show ¬ (n ≤ 59 ∧ validR u3 v3 = true ∧ BA a = stemB n u3 v3) from fun q => he q.2.2)]
          exact Ev.no (fun q => he (nl_eq.1 q)) (Ev.const rfl)
      · rw [if_neg hh, if_neg (show ¬ (n ≤ 59 ∧ validR u3 v3 = true ∧ BA a = stemB n u3 v3) from fun q => hh ⟨h0, q.1, q.2.1⟩)]
        exact Ev.no (by simp) (Ev.const rfl)
    by_cases hq : n ≤ 59 ∧ validR u3 v3 = true ∧ BA a = stemB n u3 v3
    · rw [if_pos hq] at key
      refine ⟨_, _, _, _, key, fun _ => ⟨⟨hq.1, hq.2.1, b, ?_⟩, rfl⟩, fun _ _ _ => rfl⟩
      rw [← hq.2.2, BA_list]
      exact e
    · rw [if_neg hq] at key
      refine ⟨_, _, _, _, key, by simp, ?_⟩
      rintro c' r' ⟨hk, hv, rest, e'⟩
      obtain ⟨ea, _⟩ := first_unique (m := 10) rfl h (stem_no n c' r' h0 hv) (e.symm.trans e')
      have ea' : BA a = stemB n c' r' := ba_ext (by rw [BA_list, ea])
      obtain ⟨q, k1, k2, k3⟩ := stem_cuts n c' r' h0 hk hv
      rw [ea', k1] at g1
      obtain ⟨rfl, rfl, rfl⟩ : bodyB n c' r' = u1 ∧ q = v1 ∧ true = w1 := by simpa using g1
      rw [k2] at g2
      obtain ⟨rfl, rfl, rfl⟩ : numB n = u2 ∧ BA (c'.data.toList ++ 64 :: r'.data.toList) = v2 ∧ true = w2 := by simpa using g2
      rw [k3] at g3
      obtain ⟨rfl, rfl, rfl⟩ : c' = u3 ∧ r' = v3 ∧ true = w3 := by simpa using g3
      exact absurd ⟨hk, hv, ea'⟩ hq

theorem rd_head (a : List UInt8) (l : List (List UInt8)) : rdOf ByteArray.empty (List.map BA (a :: l)) 0 = BA a := rfl
theorem split_first (s : ByteArray) (m : Nat) (hm : m < 256) : ∃ a t, splitL m s.data.toList = a :: t ∧ a.length ≤ s.size ∧ hasL a m = false ∧ ((t = [] ∧ a = s.data.toList ∧ hasL s.data.toList m = false) ∨ ∃ b, s.data.toList = a ++ UInt8.ofNat m :: b ∧ t = splitL m b) := by
  rcases first_of m hm s.data.toList with h | ⟨a, b, e, h⟩
  · exact ⟨_, _, splitL_none h, by rw [size_list]; exact Nat.le_refl _, h, .inl ⟨rfl, rfl, h⟩⟩
  · refine ⟨a, splitL m b, ?_, ?_, h, .inr ⟨b, e, rfl⟩⟩
    · rw [e]; exact splitL_some (by first | (simp; done) | (simp; omega)) h
    · rw [← size_list, e]; simp
theorem decode_ev (s : ByteArray) (n : Int) (hs : s.size ≤ 2097152) (h0 : 0 ≤ n) (hn : n ≤ 1000) : ∃ c r ok, Ev (fun k => spec_l12Decode.f k s n) (c, r, ok) ∧
    (ok = true → validR c r = true ∧ s = stemB n c r) ∧ (∀ c' r', validR c' r' = true → s = stemB n c' r' → ok = true ∧ c = c' ∧ r = r') := by
  have hl := numB_len n (by omega) (by omega)
  have hA : (numB n ++ (⟨#[32]⟩ : ByteArray)).size = (numB n).size + 1 := by rw [ByteArray.size_append]; rfl
  unfold spec_l12Decode.f
  obtain ⟨a, t, e1, la, na, alt⟩ := split_first s 35 (by decide)
  have S1 := split_ev s 35 hs
  rw [e1] at S1
  -- a stem's first part is its body
  have hbody : ∀ c' r', validR c' r' = true → s = stemB n c' r' → BA a = bodyB n c' r' := by
    rintro c' r' hv rfl
    have hl := stem_list n c' r'
    rcases alt with ⟨_, _, hh⟩ | ⟨b, hb, _⟩
    · rw [hl, hasL_append] at hh
      simp [hasL] at hh
    · obtain ⟨ee, _⟩ := first_unique (m := 35) rfl na (body_low n c' r' h0 hv (.inr rfl)) (hb.symm.trans hl)
      exact ba_ext (by rw [BA_list, ee])
  have hsz : (BA a).size = a.length := BA_size a
  by_cases h1 : a.length < (numB n).size + 1
  · refine ⟨⟨#[]⟩, ⟨#[]⟩, false, Ev.bind0 (num_ev n (by omega) (by omega)) (Ev.yes (by omega) (Ev.bind S1 (Ev.yes (by simp) ?_))), by simp, ?_⟩
    · rw [rd_head]
      refine Ev.yes (by rw [hA, hsz]; omega) ?_
      refine Ev.step (fun k => by rw [spec_l12Decode.j0]) ?_
      exact Ev.yes rfl (Ev.const rfl)
    · intro c' r' hv e
      have := hbody c' r' hv e
      have := bodyB_size n c' r'
      have : (BA a).size = (bodyB n c' r').size := by rw [hbody c' r' hv e]
      omega
  · -- the head
    have pre_ev : ∀ {res}, Ev (fun k => spec_l12Decode.j0 k s n (numB n ++ (⟨#[32]⟩ : ByteArray)) (BA a) (((BA a).extract 0 (((numB n ++ (⟨#[32]⟩ : ByteArray)).size : Int) : Int).toNat).toList != (numB n ++ (⟨#[32]⟩ : ByteArray)).toList)) res → Ev (fun k => spec_l12Decode.f k s n) res := by
      intro res h
      unfold spec_l12Decode.f
      refine Ev.bind0 (num_ev n (by omega) (by omega)) (Ev.yes (by omega) (Ev.bind S1 (Ev.yes (by simp) ?_)))
      rw [rd_head]
      exact Ev.no (by rw [hA, hsz]; omega) (Ev.yes (by omega) (Ev.yes (by rw [hA, hsz]; omega) h))
    have hx : ((BA a).extract 0 (((numB n ++ (⟨#[32]⟩ : ByteArray)).size : Int) : Int).toNat).data.toList = a.take ((numB n).size + 1) := by
      rw [ext_list, BA_list, hA, Int.toNat_natCast]; simp
    by_cases h2 : a.take ((numB n).size + 1) = (numB n).data.toList ++ [32]
    · have hp : (((BA a).extract 0 (((numB n ++ (⟨#[32]⟩ : ByteArray)).size : Int) : Int).toNat).toList != (numB n ++ (⟨#[32]⟩ : ByteArray)).toList) = false := by
        rw [bne_eq_false_iff_eq, toList_eq, toList_eq, hx, h2, data_append]
      rw [hp] at pre_ev
      obtain ⟨rest, hrest⟩ : ∃ rest, a = ((numB n).data.toList ++ [32]) ++ rest := ⟨a.drop ((numB n).size + 1), by rw [← h2]; exact (List.take_append_drop _ _).symm⟩
      have hlen : a.length = (numB n).size + 1 + rest.length := by rw [hrest]; simp; omega
      have hR : (BA a).extract (((numB n ++ (⟨#[32]⟩ : ByteArray)).size : Int) : Int).toNat (BA a).size = BA rest := by
        apply ba_ext
        rw [ext_list, BA_list, BA_list, hA, Int.toNat_natCast, hsz, List.take_of_length_le (Nat.le_refl _), hrest]
        rw [List.drop_append_of_le_length (by simp)]
        have : (numB n).size + 1 = ((numB n).data.toList ++ [32]).length := by simp
        rw [this, List.drop_length]
        rfl
      have hbody2 : ∀ c' r', validR c' r' = true → s = stemB n c' r' → rest = c'.data.toList ++ 64 :: r'.data.toList := by
        intro c' r' hv e
        have := hbody c' r' hv e
        have h3 : (BA a).data.toList = (bodyB n c' r').data.toList := by rw [this]
        rw [BA_list, hrest, body_list] at h3
        exact List.append_cancel_left h3
      obtain ⟨u, t2, e2, lu, nu, alt2⟩ := split_first (BA rest) 64 (by decide)
      have hrs : (BA rest).size = rest.length := BA_size rest
      have S2 := split_ev (BA rest) 64 (by omega)
      rw [e2] at S2
      rw [BA_list] at alt2
      have hus : (BA u).size = u.length := BA_size u
      rcases alt2 with ⟨_, hu, hno⟩ | ⟨b, hb, _⟩
      · refine ⟨⟨#[]⟩, ⟨#[]⟩, false, pre_ev ?_, by simp, ?_⟩
        · refine Ev.step (fun k => by rw [spec_l12Decode.j0]) ?_
          rw [hR]
          refine Ev.no (by simp) (Ev.yes (by omega) (Ev.yes (by rw [hA, hsz]; omega) (Ev.bind S2 (Ev.yes (by simp) ?_))))
          rw [rd_head]
          exact Ev.yes (by rw [hu]) (Ev.const rfl)
        · intro c' r' hv e
          have := hbody2 c' r' hv e
          rw [this, hasL_append] at hno
          simp [hasL] at hno
      · have hbl : rest.length = u.length + 1 + b.length := by rw [hb]; simp; omega
        have hR2 : (BA rest).extract ((wrap64 (((BA u).size : Int) + 1)) : Int).toNat (BA rest).size = BA b := by
          apply ba_ext
          rw [ext_list, BA_list, BA_list, hrs, hus, wrap_in (by omega) (by omega), show (((u.length : Int)) + 1).toNat = u.length + 1 by omega, List.take_of_length_le (Nat.le_refl _), hb]
          simp
        have hbs : (BA b).size = b.length := BA_size b
        have post : ∀ {res}, (if validR (BA u) (BA b) = true then some (BA u, BA b, ((lineB n (BA u) (BA b)).toList == (s ++ (⟨#[10]⟩ : ByteArray)).toList)) else some (BA u, BA b, false)) = some res → Ev (fun k => spec_l12Decode.f k s n) res := by
          intro res hres
          refine pre_ev ?_
          refine Ev.step (fun k => by rw [spec_l12Decode.j0]) ?_
          rw [hR]
          refine Ev.no (by simp) (Ev.yes (by omega) (Ev.yes (by rw [hA, hsz]; omega) (Ev.bind S2 (Ev.yes (by simp) ?_))))
          rw [rd_head, hR2]
          refine Ev.no (by rw [hus, hrs]; omega) (Ev.yes (by rw [hus, wrap_in (by omega) (by omega)]; omega) (Ev.yes (by rw [hus, hrs, wrap_in (by omega) (by omega)]; omega) (Ev.bind (record_ev (BA u) (BA b) (by unfold Big; omega) (by unfold Big; omega)) ?_)))
          by_cases hv : validR (BA u) (BA b) = true
          · rw [if_pos hv] at hres
            exact Ev.yes hv (Ev.bind (line_ev n (BA u) (BA b) h0 (by omega) (by have := valid_size hv; omega) (by have := valid_size hv; omega)) (Ev.yes (by omega) (Ev.const hres)))
          · rw [if_neg hv] at hres
            exact Ev.no hv (Ev.const hres)
        have huq : ∀ c' r', validR c' r' = true → s = stemB n c' r' → BA u = c' ∧ BA b = r' := by
          intro c' r' hv e
          have h3 := hbody2 c' r' hv e
          obtain ⟨h4, h5⟩ := first_unique (m := 64) rfl nu (valid_parts hv).2.2.1 (hb.symm.trans h3)
          exact ⟨ba_ext (by rw [BA_list, h4]), ba_ext (by rw [BA_list, h5])⟩
        by_cases hv : validR (BA u) (BA b) = true
        · refine ⟨_, _, _, post (by rw [if_pos hv]), ?_, ?_⟩
          · intro hok
            exact ⟨hv, nl_eq.1 (by simpa using hok)⟩
          · intro c' r' hv' e
            obtain ⟨h4, h5⟩ := huq c' r' hv' e
            refine ⟨?_, h4, h5⟩
            have : s = stemB n (BA u) (BA b) := by rw [h4, h5]; exact e
            simpa using nl_eq.2 this
        · refine ⟨_, _, _, post (by rw [if_neg hv]), by simp, ?_⟩
          intro c' r' hv' e
          obtain ⟨h4, h5⟩ := huq c' r' hv' e
          exact absurd (by rw [h4, h5]; exact hv') hv
    · have hp : (((BA a).extract 0 (((numB n ++ (⟨#[32]⟩ : ByteArray)).size : Int) : Int).toNat).toList != (numB n ++ (⟨#[32]⟩ : ByteArray)).toList) = true := by
        rw [bne_iff_ne, toList_eq, toList_eq, hx, data_append]
        exact h2
      rw [hp] at pre_ev
      refine ⟨⟨#[]⟩, ⟨#[]⟩, false, pre_ev ?_, by simp, ?_⟩
      · refine Ev.step (fun k => by rw [spec_l12Decode.j0]) ?_
        exact Ev.yes rfl (Ev.const rfl)
      · intro c' r' hv e
        have := hbody c' r' hv e
        have h3 : (BA a).data.toList = (bodyB n c' r').data.toList := by rw [this]
        rw [BA_list, body_list] at h3
        refine absurd ?_ h2
        rw [h3]
        have : (numB n).size + 1 = ((numB n).data.toList ++ [32]).length := by simp
        rw [this, List.take_append_of_le_length (Nat.le_refl _), List.take_length]

open Classical in
/-- The record that a text begins with. -/
noncomputable def recAt (n : Nat) (l : List UInt8) : Option S27 := if h : ∃ c r, IsRec (n : Int) l c r then some ⟨h.choose, h.choose_spec.choose⟩ else none
theorem recAt_some {n : Nat} {l : List UInt8} {c r : ByteArray} (h : IsRec (n : Int) l c r) : recAt n l = some ⟨c, r⟩ := by
  unfold recAt
  have hx : ∃ c r, IsRec (n : Int) l c r := ⟨c, r, h⟩
  rw [dif_pos hx]
  obtain ⟨e1, e2⟩ := IsRec.unique (by omega) hx.choose_spec.choose_spec h
  exact congrArg some (by simp only [S27.mk.injEq]; exact ⟨e1, e2⟩)
theorem recAt_none {n : Nat} {l : List UInt8} (h : ∀ c r, ¬ IsRec (n : Int) l c r) : recAt n l = none := by
  unfold recAt
  rw [dif_neg (fun ⟨c, r, hx⟩ => h c r hx)]
theorem recAt_is {n : Nat} {l : List UInt8} {e : S27} (h : recAt n l = some e) : IsRec (n : Int) l e.f0 e.f1 := by
  unfold recAt at h
  split at h
  · rename_i hx
    obtain rfl := Option.some.inj h
    exact hx.choose_spec.choose_spec
  · cases h
def lineLen (n : Nat) (e : S27) : Nat := (lineB (n : Int) e.f0 e.f1).size
theorem lineLen_eq (n : Nat) (e : S27) : lineLen n e = (stemB (n : Int) e.f0 e.f1).data.toList.length + 1 := by unfold lineLen; rw [line_size, size_list]
noncomputable def runL : Nat → Nat → List UInt8 → List S27 × List Nat
  | 0, _, _ => ([], [])
  | f + 1, k, l => match recAt k l with
    | none => ([], [])
    | some e => (e :: (runL f (k + 1) (l.drop (lineLen k e))).1, lineLen k e :: (runL f (k + 1) (l.drop (lineLen k e))).2)
theorem runL_len (f : Nat) : ∀ k l, (runL f k l).1.length = (runL f k l).2.length := by
  induction f with
  | zero => intro k l; rfl
  | succ f ih =>
    intro k l
    unfold runL
    cases recAt k l with
    | none => rfl
    | some e => simp [ih]
theorem runL_most (f : Nat) : ∀ k l, (runL f k l).1.length ≤ f := by
  induction f with
  | zero => intro k l; simp [runL]
  | succ f ih =>
    intro k l
    unfold runL
    cases recAt k l with
    | none => simp
    | some e => have := ih (k + 1) (l.drop (lineLen k e)); simp; omega
theorem rec_len {n : Nat} {l : List UInt8} {e : S27} (h : recAt n l = some e) : lineLen n e ≤ l.length := by
  obtain ⟨_, _, rest, hr⟩ := recAt_is h
  rw [lineLen_eq, hr]
  simp
def scanI : Nat → List Nat → List Int
  | _, [] => []
  | a, n :: t => ((a + n : Nat) : Int) :: scanI (a + n) t
theorem scanI_len (l : List Nat) : ∀ a, (scanI a l).length = l.length := by
  induction l with
  | nil => intro a; rfl
  | cons n l ih => intro a; simp [scanI, ih]
theorem rd_succ (x : Int) (xs : List Int) (n : Nat) : rd (x :: xs) (((n + 1 : Nat)) : Int) = rd xs (n : Int) := by
  unfold rd
  rw [show (((n + 1 : Nat) : Int)).toNat = n + 1 by omega, Int.toNat_natCast]
  rfl
theorem rd_last (l : List Nat) : ∀ a : Nat, rd ((a : Int) :: scanI a l) (l.length : Int) = ((a + l.sum : Nat) : Int) := by
  induction l with
  | nil => intro a; simp [rd, scanI]
  | cons n l ih =>
    intro a
    rw [List.length_cons, rd_succ, scanI, ih (a + n)]
    simp
    omega
theorem drop_ext (s : ByteArray) (i : Nat) : (s.extract i s.size).data.toList = s.data.toList.drop i := by
  rw [ext_list, List.take_of_length_le (by rw [size_list]; exact Nat.le_refl _)]
theorem readLog_l (s : ByteArray) (hs : s.size ≤ 1048576) (f : Nat) : ∀ (out : List S27) (ends : List Int) (p : Nat), out.length + f = 60 → ends.length ≤ 61 → out.length + 1 = ends.length → p ≤ s.size →
    Ev (fun k => impl_readLog.l0 k s out ends (p : Int)) (out ++ (runL f out.length (s.data.toList.drop p)).1, ends ++ scanI p (runL f out.length (s.data.toList.drop p)).2) := by
  induction f with
  | zero =>
    intro out ends p ho he hoe hp
    obtain ⟨c, r, z, ok, hE, h1, _⟩ := readRecord_ev (s.extract p s.size) (out.length : Int) (by rw [ByteArray.size_extract]; omega) (by omega)
    have hok : ok = false := by
      cases ok with
      | false => rfl
      | true => have := (h1 rfl).1.1; omega
    subst hok
    refine Ev.step (fun k => by rw [impl_readLog.l0]) ?_
    refine Ev.yes (by omega) (Ev.yes (by omega) (Ev.bind (by simpa using hE) (Ev.no (by simp) (Ev.const ?_))))
    simp [runL, scanI]
  | succ f ih =>
    intro out ends p ho he hoe hp
    obtain ⟨c, r, z, ok, hE, h1, h2⟩ := readRecord_ev (s.extract p s.size) (out.length : Int) (by rw [ByteArray.size_extract]; omega) (by omega)
    rw [drop_ext] at h1 h2
    refine Ev.step (fun k => by rw [impl_readLog.l0]) ?_
    refine Ev.yes (by omega) (Ev.yes (by omega) (Ev.bind (by simpa using hE) ?_))
    cases ok with
    | false =>
      refine Ev.no (by simp) (Ev.const ?_)
      have : recAt out.length (s.data.toList.drop p) = none := recAt_none fun c' r' hx => by have := h2 c' r' hx; simp at this
      simp [runL, this, scanI]
    | true =>
      obtain ⟨hr, hz⟩ := h1 rfl
      have hre := recAt_some hr
      have hl := rec_len hre
      have hL : lineLen out.length ⟨c, r⟩ = (lineB (out.length : Int) c r).size := rfl
      rw [List.length_drop, size_list] at hl
      refine Ev.yes rfl (Ev.yes (by omega) (Ev.yes (by omega) ?_))
      subst hz
      show Ev (fun k => impl_readLog.l0 k s (out ++ [(⟨c, r⟩ : S27)]) (ends ++ [wrap64 ((p : Int) + ((lineB (out.length : Int) c r).size : Int))]) (wrap64 ((p : Int) + ((lineB (out.length : Int) c r).size : Int)))) _
      rw [wrap_in (n := (p : Int) + ((lineB (out.length : Int) c r).size : Int)) (by omega) (by omega), show (p : Int) + ((lineB (out.length : Int) c r).size : Int) = ((p + lineLen out.length ⟨c, r⟩ : Nat) : Int) by rw [hL]; omega]
      refine Ev.to (ih _ _ (p + lineLen out.length ⟨c, r⟩) (by simp; omega) (by simp; omega) (by simp; omega) (by omega)) ?_
      simp only [List.length_append, List.length_cons, List.length_nil, Nat.zero_add]
      rw [runL, hre]
      simp only [List.drop_drop, scanI, List.append_assoc, List.singleton_append]
theorem readLog_ev (s : ByteArray) (hs : s.size ≤ 1048576) : Ev (fun k => impl_readLog.f k s) ((runL 60 0 s.data.toList).1, 0 :: scanI 0 (runL 60 0 s.data.toList).2) := by
  have := readLog_l s hs 60 [] [0] 0 rfl (by simp) rfl (by omega)
  simpa [impl_readLog.f] using this
theorem open_l (s : ByteArray) (hs : s.size ≤ 1048576) (f : Nat) : ∀ (out : List S27) (p : Nat), out.length + f = 60 → p ≤ s.size →
    Ev (fun k => spec_l12Open.l0 k s out (p : Int)) (out ++ (runL f out.length (s.data.toList.drop p)).1, ((p + (runL f out.length (s.data.toList.drop p)).2.sum : Nat) : Int)) := by
  induction f with
  | zero =>
    intro out p ho hp
    refine Ev.step (fun k => by rw [spec_l12Open.l0]) ?_
    have hE : Ev (fun k => spec_l12Open.j1 k s out (p : Int) false) (out, (p : Int)) := by
      refine Ev.step (fun k => by rw [spec_l12Open.j1]) ?_
      exact Ev.no (by simp) (Ev.const rfl)
    have hd : decide ((out.length : Int) < 60) = false := by simp; omega
    rw [hd]
    simpa [runL] using Ev.ite (c := (p : Int) < (s.size : Int)) (fun _ => hE) (fun _ => hE)
  | succ f ih =>
    intro out p ho hp
    refine Ev.step (fun k => by rw [spec_l12Open.l0]) ?_
    by_cases hlt : p < s.size
    · refine Ev.yes (by omega) ?_
      have hd : decide ((out.length : Int) < 60) = true := by simp; omega
      rw [hd]
      refine Ev.step (fun k => by rw [spec_l12Open.j1]) ?_
      obtain ⟨a, t, e1, la, na, alt⟩ := split_first (s.extract p s.size) 10 (by decide)
      have hxs : (s.extract p s.size).size = s.size - p := by rw [ByteArray.size_extract]; omega
      have S1 := split_ev (s.extract p s.size) 10 (by omega)
      rw [e1] at S1
      have has : (BA a).size = a.length := BA_size a
      obtain ⟨c, r, ok, hE, h1, h2⟩ := decode_ev (BA a) (out.length : Int) (by omega) (by omega) (by omega)
      refine Ev.yes rfl (Ev.yes (by omega) (Ev.yes (by omega) (Ev.bind (by simpa using S1) (Ev.yes (by simp) ?_))))
      have hh : rdOf ByteArray.empty (BA a :: List.map BA t) 0 = BA a := rfl
      simp only [List.map_cons] at *
      rw [hh]
      refine Ev.bind hE ?_
      rw [drop_ext] at alt
      rcases alt with ⟨ht, ha, hno⟩ | ⟨b, hb, ht⟩
      · subst ht
        refine Ev.yes (by simp) (Ev.const ?_)
        have : recAt out.length (s.data.toList.drop p) = none := recAt_none fun c' r' hx => by
          obtain ⟨_, _, rest, e⟩ := hx
          rw [e, hasL_append] at hno
          simp [hasL] at hno
        simp [runL, this]
      · have hne : t ≠ [] := by rw [ht]; exact splitL_ne _ _
        have hpos : 0 < t.length := List.length_pos_iff.2 hne
        refine Ev.no (by simp; omega) ?_
        have hlen : s.size - p = a.length + 1 + b.length := by
          have := congrArg List.length hb
          rw [List.length_drop, size_list] at this
          simp at this
          omega
        cases ok with
        | false =>
          refine Ev.no (by simp) (Ev.const ?_)
          have : recAt out.length (s.data.toList.drop p) = none := recAt_none fun c' r' hx => by
            obtain ⟨_, hv, rest, e⟩ := hx
            obtain ⟨ea, _⟩ := first_unique (m := 10) rfl na (stem_no (out.length : Int) c' r' (by omega) hv) (hb.symm.trans e)
            have := (h2 c' r' hv (ba_ext (by rw [BA_list, ea]))).1
            simp at this
          simp [runL, this]
        | true =>
          obtain ⟨hv, hs1⟩ := h1 rfl
          have hr : IsRec (out.length : Int) (s.data.toList.drop p) c r := ⟨by omega, hv, b, by rw [hb, ← hs1, BA_list]; rfl⟩
          have hre := recAt_some hr
          have hL : lineLen out.length ⟨c, r⟩ = a.length + 1 := by rw [lineLen_eq, size_list, ← hs1, has]
          refine Ev.yes rfl (Ev.yes (by omega) ?_)
          rw [has]
          rw [wrap_in (n := (p : Int) + (a.length : Int)) (by omega) (by omega), wrap_in (n := (p : Int) + (a.length : Int) + 1) (by omega) (by omega), show (p : Int) + (a.length : Int) + 1 = ((p + lineLen out.length ⟨c, r⟩ : Nat) : Int) by rw [hL]; omega]
          refine Ev.to (ih (out ++ [⟨c, r⟩]) (p + lineLen out.length ⟨c, r⟩) (by simp; omega) (by omega)) ?_
          simp only [List.length_append, List.length_cons, List.length_nil, Nat.zero_add]
          rw [runL, hre]
          simp only [List.drop_drop, List.append_assoc, List.singleton_append, List.sum_cons]
          rw [Nat.add_assoc]
    · refine Ev.no (by omega) ?_
      have hE : Ev (fun k => spec_l12Open.j1 k s out (p : Int) false) (out, (p : Int)) := by
        refine Ev.step (fun k => by rw [spec_l12Open.j1]) ?_
        exact Ev.no (by simp) (Ev.const rfl)
      have hnil : s.data.toList.drop p = [] := List.drop_of_length_le (by rw [size_list]; omega)
      have : recAt out.length ([] : List UInt8) = none := recAt_none fun c' r' hx => by
        obtain ⟨_, _, rest, e⟩ := hx
        simp at e
      refine Ev.to hE ?_
      simp [runL, hnil, this]
theorem open_ev (s : ByteArray) (hs : s.size ≤ 1048576) : Ev (fun k => spec_l12Open.f k s) ((runL 60 0 s.data.toList).1, (((runL 60 0 s.data.toList).2.sum : Nat) : Int)) := by
  have := open_l s hs 60 [] 0 rfl (by omega)
  simpa [spec_l12Open.f] using this

theorem rec_left {n : Nat} {l m : List UInt8} {e : S27} (h : recAt n (l ++ m) = some e) (hl : lineLen n e ≤ l.length) : recAt n l = some e := by
  obtain ⟨hk, hv, rest, hr⟩ := recAt_is h
  rw [lineLen_eq] at hl
  refine recAt_some (c := e.f0) (r := e.f1) ⟨hk, hv, l.drop ((stemB (n : Int) e.f0 e.f1).data.toList.length + 1), ?_⟩
  have h1 : (l ++ m).take ((stemB (n : Int) e.f0 e.f1).data.toList.length + 1) = (stemB (n : Int) e.f0 e.f1).data.toList ++ [10] := by
    rw [hr, List.take_append, List.take_of_length_le (by omega)]
    simp
  rw [List.take_append_of_le_length hl] at h1
  calc l = l.take ((stemB (n : Int) e.f0 e.f1).data.toList.length + 1) ++ l.drop ((stemB (n : Int) e.f0 e.f1).data.toList.length + 1) := (List.take_append_drop _ _).symm
    _ = _ := by rw [h1]; simp
theorem rec_right {n : Nat} {l : List UInt8} (m : List UInt8) {e : S27} (h : recAt n l = some e) : recAt n (l ++ m) = some e := by
  obtain ⟨hk, hv, rest, hr⟩ := recAt_is h
  exact recAt_some (c := e.f0) (r := e.f1) ⟨hk, hv, rest ++ m, by rw [hr]; simp⟩
theorem prefix_iff (f : Nat) : ∀ (k a : Nat) (l m : List UInt8), ((runL f k l).2.sum = l.length ↔ ((a + l.length : Nat) : Int) ∈ ((a : Nat) : Int) :: scanI a (runL f k (l ++ m)).2) := by
  induction f with
  | zero =>
    intro k a l m
    simp only [runL, scanI, List.sum_nil, List.mem_cons, List.not_mem_nil, or_false]
    omega
  | succ f ih =>
    intro k a l m
    cases h : recAt k (l ++ m) with
    | none =>
      have h1 : recAt k l = none := by
        cases h2 : recAt k l with
        | none => rfl
        | some e => rw [rec_right m h2] at h; cases h
      simp only [runL, h, h1, scanI, List.sum_nil, List.mem_cons, List.not_mem_nil, or_false]
      omega
    | some e =>
      by_cases hl : lineLen k e ≤ l.length
      · have h1 := rec_left h hl
        have hp : 0 < lineLen k e := by rw [lineLen_eq]; omega
        have e1 : (l ++ m).drop (lineLen k e) = l.drop (lineLen k e) ++ m := by rw [List.drop_append_of_le_length hl]
        have := ih (k + 1) (a + lineLen k e) (l.drop (lineLen k e)) m
        simp only [runL, h, h1, scanI, List.sum_cons, e1]
        rw [List.length_drop] at this
        rw [show lineLen k e + (runL f (k + 1) (l.drop (lineLen k e))).2.sum = l.length ↔ (runL f (k + 1) (l.drop (lineLen k e))).2.sum = l.length - lineLen k e by omega, this, show a + lineLen k e + (l.length - lineLen k e) = a + l.length by omega]
        rw [List.mem_cons (a := ((a + l.length : Nat) : Int)) (b := ((a : Nat) : Int))]
        constructor
        · exact fun hh => .inr hh
        · rintro (hh | hh)
          · omega
          · exact hh
      · have h1 : recAt k l = none := by
          cases h2 : recAt k l with
          | none => rfl
          | some e' =>
            have h3 := rec_right m h2
            rw [h] at h3
            obtain rfl := Option.some.inj h3
            exact absurd (rec_len h2) hl
        have hge : ∀ (t : List Nat) (b : Nat) (x : Int), x ∈ scanI b t → (b : Int) ≤ x := by
          intro t
          induction t with
          | nil => intro b x hx; simp [scanI] at hx
          | cons n t iht =>
            intro b x hx
            simp only [scanI, List.mem_cons] at hx
            rcases hx with hx | hx
            · omega
            · have := iht (b + n) x hx; omega
        simp only [runL, h, h1, scanI, List.sum_nil, List.mem_cons]
        constructor
        · intro hh; left; omega
        · rintro (hh | hh | hh)
          · omega
          · omega
          · have := hge _ _ _ hh; omega
noncomputable def validLog (d p : ByteArray) (n : Int) : Bool :=
  decide (d.size + p.size ≤ 30000) && decide ((runL 60 0 (d.data.toList ++ p.data.toList)).2.sum = d.size + p.size) && decide ((runL 60 0 d.data.toList).2.sum = d.size) && decide (((runL 60 0 (d.data.toList ++ p.data.toList)).1.length : Int) = n)
noncomputable def allOf (d p : ByteArray) : List S27 := (runL 60 0 (d.data.toList ++ p.data.toList)).1
theorem spec_valid_ev (d p : ByteArray) (n : Int) (hs : d.size + p.size ≤ 1048576) : Ev (fun k => spec_l12Valid.f k d p n) (validLog d p n) := by
  unfold spec_l12Valid.f validLog
  rw [wrap_in (n := (d.size : Int) + (p.size : Int)) (by omega) (by omega)]
  by_cases h1 : d.size + p.size ≤ 30000
  · refine Ev.no (by omega) (Ev.yes (by omega) ?_)
    have o1 := open_ev (d ++ p) (by rw [ByteArray.size_append]; omega)
    rw [data_append] at o1
    refine Ev.bind o1 (Ev.bind (open_ev d (by omega)) ?_)
    by_cases h2 : (runL 60 0 (d.data.toList ++ p.data.toList)).2.sum = d.size + p.size
    · refine Ev.yes (by show ((_ : Nat) : Int) = _; rw [h2]; omega) ?_
      by_cases h3 : (runL 60 0 d.data.toList).2.sum = d.size
      · refine Ev.yes (by show ((_ : Nat) : Int) = _; rw [h3]) (Ev.const ?_)
        simp only [h1, h2, h3, decide_true, Bool.true_and]
        rfl
      · refine Ev.no (by show ¬ ((_ : Nat) : Int) = _; omega) (Ev.const ?_)
        simp [h3]
    · refine Ev.no (by show ¬ ((_ : Nat) : Int) = _; omega) (Ev.const ?_)
      simp [h2]
  · refine Ev.yes (by omega) (Ev.const ?_)
    simp [h1]
/-- What the program's records tells. -/
noncomputable def recordsB (d p : ByteArray) (n : Int) : List S27 × Bool := if validLog d p n = true then (allOf d p, true) else ([], false)
theorem find_l (d p : ByteArray) (n : Int) (out : List S27) (ends : List Int) (he : ends.length ≤ 61) (m : Nat) : ∀ i : Nat, ends.length - i = m → i ≤ ends.length →
    Ev (fun k => impl_Log_records.l0 k out ends (ends.length : Int) (i : Int) d p n) (if (d.size : Int) ∈ ends.drop i then (out, true) else ([], false)) := by
  induction m with
  | zero =>
    intro i hm hi
    refine Ev.step (fun k => by rw [impl_Log_records.l0]) ?_
    refine Ev.no (by omega) (Ev.const ?_)
    rw [List.drop_of_length_le (by omega)]
    simp
  | succ m ih =>
    intro i hm hi
    refine Ev.step (fun k => by rw [impl_Log_records.l0]) ?_
    refine Ev.yes (by omega) (Ev.yes (by omega) (Ev.yes (by omega) ?_))
    have hd : ends.drop i = ends[i]'(by omega) :: ends.drop (i + 1) := List.drop_eq_getElem_cons (by omega)
    have hr : rd ends (i : Int) = ends[i]'(by omega) := by unfold rd; rw [Int.toNat_natCast, List.getD_eq_getElem?_getD, List.getElem?_eq_getElem (by omega)]; rfl
    rw [hr, hd]
    by_cases hx : ends[i]'(by omega) = (d.size : Int)
    · refine Ev.yes hx (Ev.const ?_)
      rw [if_pos (by rw [hx]; exact List.mem_cons_self)]
    · refine Ev.no hx ?_
      rw [wrap_in (by omega) (by omega)]
      refine Ev.to (ih (i + 1) (by omega) (by omega)) ?_
      have : ((d.size : Int) ∈ ends[i]'(by omega) :: ends.drop (i + 1)) ↔ ((d.size : Int) ∈ ends.drop (i + 1)) := by
        rw [List.mem_cons]
        constructor
        · rintro (h | h)
          · exact absurd h.symm hx
          · exact h
        · exact .inr
      simp only [this]
theorem records_ev (d p : ByteArray) (n : Int) (hs : d.size + p.size ≤ 1048576) : Ev (fun k => impl_Log_records.f k d p n) (recordsB d p n) := by
  unfold impl_Log_records.f recordsB validLog
  rw [wrap_in (n := (d.size : Int) + (p.size : Int)) (by omega) (by omega)]
  by_cases h1 : d.size + p.size ≤ 30000
  · have o1 := readLog_ev (d ++ p) (by rw [ByteArray.size_append]; omega)
    rw [data_append] at o1
    have hl := runL_len 60 0 (d.data.toList ++ p.data.toList)
    have hm := runL_most 60 0 (d.data.toList ++ p.data.toList)
    have hr := rd_last (runL 60 0 (d.data.toList ++ p.data.toList)).2 0
    rw [← hl] at hr
    have hr' : rd (0 :: scanI 0 (runL 60 0 (d.data.toList ++ p.data.toList)).2) ((runL 60 0 (d.data.toList ++ p.data.toList)).1.length : Int) = ((runL 60 0 (d.data.toList ++ p.data.toList)).2.sum : Int) := by simpa using hr
    have hpre := prefix_iff 60 0 0 d.data.toList p.data.toList
    rw [size_list, Nat.zero_add, show ((0 : Nat) : Int) = 0 from rfl] at hpre
    have hno : Ev (fun k => impl_Log_records.j0 k (runL 60 0 (d.data.toList ++ p.data.toList)).1 (0 :: scanI 0 (runL 60 0 (d.data.toList ++ p.data.toList)).2) false d p n) ([], false) := by
      refine Ev.step (fun k => by rw [impl_Log_records.j0]) ?_
      exact Ev.no (by simp) (Ev.const rfl)
    refine Ev.no (by omega) (Ev.yes (by omega) (Ev.bind o1 ?_))
    by_cases h2 : ((runL 60 0 (d.data.toList ++ p.data.toList)).1.length : Int) = n
    · refine Ev.yes h2 (Ev.yes (by omega) (Ev.yes (by simp [scanI_len]; omega) ?_))
      rw [hr']
      by_cases h3 : (runL 60 0 (d.data.toList ++ p.data.toList)).2.sum = d.size + p.size
      · rw [show (((runL 60 0 (d.data.toList ++ p.data.toList)).2.sum : Int) == (d.size : Int) + (p.size : Int)) = true by rw [h3]; simp]
        refine Ev.step (fun k => by rw [impl_Log_records.j0]) ?_
        refine Ev.yes rfl ?_
        have hfind := find_l d p n (runL 60 0 (d.data.toList ++ p.data.toList)).1 (0 :: scanI 0 (runL 60 0 (d.data.toList ++ p.data.toList)).2) (by simp [scanI_len]; omega) _ 0 rfl (by omega)
        refine Ev.to hfind ?_
        rw [List.drop_zero]
        by_cases h4 : (runL 60 0 d.data.toList).2.sum = d.size
        · rw [if_pos (hpre.1 h4), if_pos (by simp [h1, h2, h3, h4])]
          rfl
        · rw [if_neg (fun hh => h4 (hpre.2 hh)), if_neg (by simp [h4])]
      · rw [show (((runL 60 0 (d.data.toList ++ p.data.toList)).2.sum : Int) == (d.size : Int) + (p.size : Int)) = false by rw [beq_eq_false_iff_ne]; omega]
        rw [if_neg (by simp [h3])]
        exact hno
    · refine Ev.no h2 ?_
      rw [if_neg (by simp [h2])]
      exact hno
  · refine Ev.yes (by omega) (Ev.const ?_)
    rw [if_neg (by simp [h1])]
theorem impl_isValid_ev (d p : ByteArray) (n : Int) (hs : d.size + p.size ≤ 1048576) : Ev (fun k => impl_IsValidLog.f k d p n) (validLog d p n) := by
  unfold impl_IsValidLog.f
  refine Ev.bind (records_ev d p n hs) (Ev.const ?_)
  unfold recordsB
  split
  · rename_i h; rw [h]
  · rename_i h; simp at h; rw [h]
theorem szl (d p : ByteArray) (n : Int) (hd : Big d) (hp : Big p) : ∃ z, laws_szLog.f d p n 1048576 = some z ∧ (¬ z < 0 → d.size + p.size ≤ 1048576) := by
  unfold laws_szLog.f
  unfold Big at hd hp
  rw [wrap_in (n := 1048576 - (d.size : Int)) (by omega) (by omega)]
  split
  · exact ⟨_, rfl, fun h => absurd (by decide) h⟩
  · rw [wrap_in (by omega) (by omega)]
    split
    · exact ⟨_, rfl, fun h => absurd (by decide) h⟩
    · exact ⟨_, rfl, fun _ => by omega⟩
/-- What survives a crash. -/
noncomputable def crashB (d p : ByteArray) (n keep : Int) (torn : Bool) : ByteArray × Bool :=
  if validLog d p n = true ∧ 0 ≤ keep ∧ keep ≤ (p.size : Int) then (d ++ (⟨(Crash.tear (p.extract 0 keep.toNat).data.toList (torn && decide (keep > 0))).toArray⟩ : ByteArray), true) else ((⟨#[]⟩ : ByteArray), false)
theorem validLog_small {d p : ByteArray} {n : Int} (h : validLog d p n = true) : d.size + p.size ≤ 30000 := by
  unfold validLog at h
  simp at h
  omega
theorem crash_yes {d p : ByteArray} {n keep : Int} {torn : Bool} (h1 : validLog d p n = true) (h2 : 0 ≤ keep ∧ keep ≤ (p.size : Int)) : crashB d p n keep torn = (d ++ (⟨(Crash.tear (p.extract 0 keep.toNat).data.toList (torn && decide (keep > 0))).toArray⟩ : ByteArray), true) := by unfold crashB; rw [if_pos ⟨h1, h2⟩]
theorem crash_no {d p : ByteArray} {n keep : Int} {torn : Bool} (h : ¬ (validLog d p n = true ∧ 0 ≤ keep ∧ keep ≤ (p.size : Int))) : crashB d p n keep torn = ((⟨#[]⟩ : ByteArray), false) := by unfold crashB; rw [if_neg h]
theorem spec_crash_ev (d p : ByteArray) (n keep : Int) (torn : Bool) (hs : d.size + p.size ≤ 1048576) : Ev (fun k => Crash.spec_CrashLog.f k d p n keep torn) (crashB d p n keep torn) := by
  unfold Crash.spec_CrashLog.f
  refine Ev.bind (spec_valid_ev d p n hs) ?_
  by_cases h1 : validLog d p n = true
  · have hz := validLog_small h1
    refine Ev.yes h1 (Ev.bind0 (in_ev _ _ _) ?_)
    by_cases h2 : 0 ≤ keep ∧ keep ≤ (p.size : Int)
    · exact Ev.yes (by simpa using h2) (Ev.yes ⟨h2.1, h2.2, by omega⟩ (Ev.const (by rw [crash_yes h1 h2])))
    · exact Ev.no (by simp only [Bool.and_eq_true, decide_eq_true_eq]; exact h2) (Ev.const (by rw [crash_no (fun h => h2 h.2)]))
  · exact Ev.no h1 (Ev.const (by rw [crash_no (fun h => h1 h.1)]))
theorem tear_app (d s : ByteArray) (on : Bool) (h : on = true → 0 < s.size) : (⟨(Crash.tear (d ++ s).data.toList on).toArray⟩ : ByteArray) = d ++ (⟨(Crash.tear s.data.toList on).toArray⟩ : ByteArray) := by
  apply ba_ext
  rw [data_append]
  show Crash.tear (d ++ s).data.toList on = d.data.toList ++ Crash.tear s.data.toList on
  rw [data_append]
  unfold Crash.tear
  cases on with
  | false => rfl
  | true =>
    have hp := h rfl
    have hl : s.data.toList.length = s.size := size_list s
    rw [if_pos rfl, if_pos rfl, List.length_append, List.set_append_right _ _ (by omega), show d.data.toList.length + s.data.toList.length - 1 - d.data.toList.length = s.data.toList.length - 1 by omega]
    congr 2
    rw [List.getD_eq_getElem?_getD, List.getD_eq_getElem?_getD, List.getElem?_append_right (by omega), show d.data.toList.length + s.data.toList.length - 1 - d.data.toList.length = s.data.toList.length - 1 by omega]
theorem impl_crash_ev (d p : ByteArray) (n keep : Int) (torn : Bool) (hs : d.size + p.size ≤ 1048576) : Ev (fun k => Crash.impl_CrashLog.f k d p n keep torn) (crashB d p n keep torn) := by
  unfold Crash.impl_CrashLog.f
  refine Ev.bind (impl_isValid_ev d p n hs) ?_
  by_cases h1 : validLog d p n = true
  · have hz := validLog_small h1
    refine Ev.yes h1 (Ev.bind0 (within_ev _ _ _) ?_)
    by_cases h2 : 0 ≤ keep ∧ keep ≤ (p.size : Int)
    · refine Ev.yes (by simpa using h2) (Ev.yes ⟨h2.1, h2.2, by omega⟩ (Ev.const ?_))
      rw [crash_yes h1 h2, tear_app]
      intro hon
      have hk : keep > 0 := by simp at hon; exact hon.2
      simp
      omega
    · exact Ev.no (by simp only [Bool.and_eq_true, decide_eq_true_eq]; exact h2) (Ev.const (by rw [crash_no (fun h => h2 h.2)]))
  · exact Ev.no h1 (Ev.const (by rw [crash_no (fun h => h1 h.1)]))
/-- FnExactCrashLog. -/
theorem FnExactCrashLog (d p : ByteArray) (n keep : Int) (torn : Bool) (hd : Big d) (hp : Big p) (_hn : (Lit.int .i64 n).wf = true) (_hk : (Lit.int .i64 keep).wf = true) : ∃ k, M.laws_FnExactCrashLog.f k d p n keep torn = some true := by
  refine Ev.rounds ?_
  unfold M.laws_FnExactCrashLog.f
  obtain ⟨z, hz, h⟩ := szl d p n hd hp
  refine Ev.bind0 (show M.laws_szLog.f d p n 1048576 = some z from hz) (Ev.ite (fun _ => Ev.const rfl) fun hz0 => ?_)
  have hs := h hz0
  exact Ev.bind0 rfl (Ev.bind (spec_crash_ev d p n keep torn hs) (Ev.bind0 rfl (Ev.bind (impl_crash_ev d p n keep torn hs) (Ev.yes rfl (Ev.no (by simp) (Ev.const rfl))))))
#print axioms FnExactCrashLog
end Go.Proofs.YtonfhfcpnoehjaaDoor.Pure
