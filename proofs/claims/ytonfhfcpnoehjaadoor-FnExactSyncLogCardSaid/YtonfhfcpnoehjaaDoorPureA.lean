/- The functions under EncodeRecord (program and reference) answer as the plain record's encoding says; conditions: texts below 2^47 bytes, as each theorem states. -/
import Derived.Test.YtonfhfcpnoehjaaDoorPlain
namespace Go.Proofs.YtonfhfcpnoehjaaDoor.Pure
open Go.RowKit Go.Proofs.YtonfhfcpnoehjaaDoorW.PrintWords Go.Proofs.YtonfhfcpnoehjaaDoorW.PrintLast Go.Proofs.YtonfhfcpnoehjaaDoor.Giv Go.Proofs.YtonfhfcpnoehjaaDoor.L Go.Proofs.YtonfhfcpnoehjaaDoor.Plain

abbrev Big (s : ByteArray) : Prop := s.size ≤ 140737488351232

theorem in_ev (x a b : Int) : spec_l1In.f x a b = some (decide (a ≤ x) && decide (x ≤ b)) := by
  unfold spec_l1In.f
  by_cases h : x ≥ a
  · rw [if_pos h]; simp [show a ≤ x from h]
  · rw [if_neg h]; simp [show ¬ a ≤ x from h]
theorem within_ev (x a b : Int) : impl_within.f x a b = some (decide (a ≤ x) && decide (x ≤ b)) := by
  unfold impl_within.f
  by_cases h : x ≥ a
  · rw [if_pos h]; simp [show a ≤ x from h]
  · rw [if_neg h]; simp [show ¬ a ≤ x from h]

theorem bytes_l (s : ByteArray) (m : Int) (hs : Big s) (d : Nat) : ∀ n : Nat, s.size - n = d → n ≤ s.size → Ev (fun k => spec_l12Bytes.l0 k s m (n : Int)) (plainL (s.data.toList.drop n) && decide ((s.size : Int) ≤ m)) := by
  unfold Big at hs
  induction d with
  | zero =>
    intro n hd hn
    refine Ev.step (fun k => rfl) (Ev.no (by omega) (Ev.const ?_))
    rw [List.drop_of_length_le (by simp; omega)]
    simp [plainL]
  | succ d ih =>
    intro n hd hn
    obtain ⟨c, hc, hb⟩ := bt_drop s n (by omega)
    have hu := u8_lt c
    refine Ev.step (fun k => rfl) (Ev.yes (by omega) (Ev.yes (by omega) ?_))
    rw [hb, wrap_in (n := (c.toNat : Int)) (by omega) (by omega), hc]
    refine Ev.bind0 (in_ev _ _ _) ?_
    by_cases h1 : 32 ≤ c.toNat ∧ c.toNat ≤ 126
    · refine Ev.yes (by simp; omega) ?_
      by_cases h2 : c.toNat = 35
      · refine Ev.yes (by omega) (Ev.const ?_)
        simp [plainL, okB, h2]
      · refine Ev.no (by omega) ?_
        rw [wrap_in (by omega) (by omega)]
        refine Ev.to (ih (n + 1) (by omega) (by omega)) ?_
        simp [plainL, okB, h1, h2]
    · refine Ev.no (by simp; omega) (Ev.const ?_)
      have : okB c = false := by unfold okB; simp; omega
      simp [plainL, this]
theorem bytes_ev (s : ByteArray) (m : Int) (hs : Big s) : Ev (fun k => spec_l12Bytes.f k s m) (plainL s.data.toList && decide ((s.size : Int) ≤ m)) := by
  have := bytes_l s m hs (s.size - 0) 0 rfl (by omega)
  simpa [spec_l12Bytes.f] using this

theorem stands_l (s : ByteArray) (m : Nat) (hs : Big s) (d : Nat) : ∀ n : Nat, s.size - n = d → n ≤ s.size → Ev (fun k => spec_l1Stands.l0 k s (m : Int) (n : Int)) (hasL (s.data.toList.drop n) m) := by
  unfold Big at hs
  induction d with
  | zero =>
    intro n hd hn
    refine Ev.step (fun k => rfl) (Ev.no (by omega) (Ev.const ?_))
    rw [List.drop_of_length_le (by simp; omega)]
    simp [hasL]
  | succ d ih =>
    intro n hd hn
    obtain ⟨c, hc, hb⟩ := bt_drop s n (by omega)
    refine Ev.step (fun k => rfl) (Ev.yes (by omega) (Ev.yes (by omega) ?_))
    rw [hb, hc]
    by_cases h1 : c.toNat = m
    · refine Ev.yes (by omega) (Ev.const ?_)
      simp [hasL, h1]
    · refine Ev.no (by omega) ?_
      rw [wrap_in (by omega) (by omega)]
      refine Ev.to (ih (n + 1) (by omega) (by omega)) ?_
      simp [hasL, h1]
theorem stands_ev (s : ByteArray) (m : Nat) (hs : Big s) : Ev (fun k => spec_l1Stands.f k s (m : Int)) (hasL s.data.toList m) := by
  have := stands_l s m hs (s.size - 0) 0 rfl (by omega)
  simpa [spec_l1Stands.f] using this

/-- A record that is valid. -/
def validR (c r : ByteArray) : Bool := decide (c.size ≠ 0) && decide (c.size ≤ 160) && plainL c.data.toList && !hasL c.data.toList 64 && decide (r.size ≤ 250) && plainL r.data.toList

theorem record_ev (c r : ByteArray) (hc : Big c) (hr : Big r) : Ev (fun k => spec_l12Record.f k c r) (validR c r) := by
  unfold spec_l12Record.f
  by_cases h0 : c.size = 0
  · refine Ev.yes (by rw [toList_eq]; exact size_zero.2 h0) (Ev.const ?_)
    simp [validR, h0]
  · refine Ev.no (by rw [toList_eq]; exact fun h => h0 (size_zero.1 h)) ?_
    refine Ev.bind (bytes_ev c 160 hc) ?_
    by_cases h1 : (plainL c.data.toList && decide ((c.size : Int) ≤ 160)) = true
    · refine Ev.yes h1 (Ev.bind (stands_ev c 64 hc) ?_)
      simp at h1
      by_cases h2 : hasL c.data.toList 64 = true
      · refine Ev.yes h2 (Ev.const ?_)
        simp [validR, h2]
      · refine Ev.no h2 (Ev.bind (bytes_ev r 250 hr) (Ev.const ?_))
        have h3 : decide ((r.size : Int) ≤ 250) = decide (r.size ≤ 250) := by rw [decide_eq_decide]; omega
        have h4 : c.size ≤ 160 := by omega
        simp [validR, h2, h0, h1.1, h4, h3, Bool.and_comm]
    · refine Ev.no h1 (Ev.const ?_)
      simp at h1
      simp [validR]
      intro _ h4 h5
      have := h1 h5
      omega

theorem sum_l (s : ByteArray) (hs : Big s) (d : Nat) : ∀ (n : Nat) (h : Int), 0 ≤ h → h < 999979 → s.size - n = d → n ≤ s.size → Ev (fun k => spec_l1Sum.l0 k s h (n : Int)) (sumL h (s.data.toList.drop n)) := by
  unfold Big at hs
  induction d with
  | zero =>
    intro n h h0 h1 hd hn
    refine Ev.step (fun k => rfl) (Ev.no (by omega) (Ev.const ?_))
    rw [List.drop_of_length_le (by simp; omega)]
    rfl
  | succ d ih =>
    intro n h h0 h1 hd hn
    obtain ⟨c, hc, hb⟩ := bt_drop s n (by omega)
    refine Ev.step (fun k => rfl) (Ev.yes (by omega) (Ev.yes (by omega) ?_))
    rw [hb, sum_step h0 h1, hc, wrap_in (n := (n : Int) + 1) (by omega) (by omega)]
    exact ih (n + 1) ((41 * h + c.toNat + 1) % 999979) (by omega) (by omega) (by omega) (by omega)
theorem sum_ev (s : ByteArray) (hs : Big s) : Ev (fun k => spec_l1Sum.f k s) (sumL 7 s.data.toList) := sum_l s hs (s.size - 0) 0 7 (by omega) (by omega) rfl (by omega)

/-- A number's text. -/
def numB (n : Int) : ByteArray := ⟨(Lib.itoa n).toArray⟩
theorem num_ev (n : Int) (h0 : -9223372036854775807 ≤ n) (h1 : n ≤ 9223372036854775807) : spec_l1Num.f n = some (numB n) := by unfold spec_l1Num.f; rw [if_pos ⟨h0, h1⟩]; rfl
theorem itoa_ev (n : Int) (h0 : -9223372036854775808 ≤ n) (h1 : n ≤ 9223372036854775807) : strconv_Itoa.f n = some (numB n) := by unfold strconv_Itoa.f; rw [if_pos ⟨h0, h1⟩]; rfl
theorem numB_len (n : Int) (h0 : -9223372036854775808 ≤ n) (h1 : n ≤ 9223372036854775807) : (numB n).size ≤ 21 := by
  have := itoa_len n h0 h1
  show (Lib.itoa n).toArray.size ≤ 21
  simpa using this
/-- A text with its checksum. -/
def sealB (s : ByteArray) : ByteArray := (s ++ (⟨#[35]⟩ : ByteArray)) ++ numB (sumL 7 s.data.toList)
theorem seal_ev (s : ByteArray) (hs : Big s) : Ev (fun k => spec_l1Seal.f k s) (sealB s) := by
  have hr := sumL_range s.data.toList 7 (by omega) (by omega)
  have hl := numB_len (sumL 7 s.data.toList) (by omega) (by omega)
  unfold spec_l1Seal.f
  unfold Big at hs
  refine Ev.yes (by omega) (Ev.bind (sum_ev s hs) (Ev.bind0 (num_ev _ (by omega) (by omega)) (Ev.yes ?_ (Ev.const rfl))))
  rw [ByteArray.size_append]
  show s.size + 1 + _ ≤ _
  omega
/-- What is sealed of a record. -/
def bodyB (n : Int) (c r : ByteArray) : ByteArray := (((numB n ++ (⟨#[32]⟩ : ByteArray)) ++ c) ++ (⟨#[64]⟩ : ByteArray)) ++ r
def lineB (n : Int) (c r : ByteArray) : ByteArray := sealB (bodyB n c r) ++ (⟨#[10]⟩ : ByteArray)
theorem one_size (c : UInt8) : (⟨#[c]⟩ : ByteArray).size = 1 := rfl
theorem bodyB_size (n : Int) (c r : ByteArray) : (bodyB n c r).size = (numB n).size + 1 + c.size + 1 + r.size := by
  simp only [bodyB, ByteArray.size_append, one_size]
theorem sealB_size (s : ByteArray) : (sealB s).size = s.size + 1 + (numB (sumL 7 s.data.toList)).size := by
  simp only [sealB, ByteArray.size_append, one_size]
theorem line_ev (n : Int) (c r : ByteArray) (h0 : 0 ≤ n) (h1 : n ≤ 1000) (hc : c.size ≤ 1048576) (hr : r.size ≤ 1048576) : Ev (fun k => spec_l12Line.f k n c r) (lineB n c r) := by
  have hl := numB_len n (by omega) (by omega)
  have hb := bodyB_size n c r
  have hq := sumL_range (bodyB n c r).data.toList 7 (by omega) (by omega)
  have hs := sealB_size (bodyB n c r)
  have hn := numB_len (sumL 7 (bodyB n c r).data.toList) (by omega) (by omega)
  unfold spec_l12Line.f
  refine Ev.bind0 (num_ev n (by omega) (by omega)) (Ev.yes (by omega) (Ev.yes ?_ (Ev.yes ?_ (Ev.yes ?_ (Ev.bind (seal_ev (bodyB n c r) (by unfold Big; omega)) (Ev.yes (by omega) (Ev.const rfl)))))))
  all_goals simp only [ByteArray.size_append, one_size]; omega

/-- The encoding of a record. -/
def encB (n : Int) (c r : ByteArray) : ByteArray × Bool := if 0 ≤ n ∧ n ≤ 59 ∧ validR c r = true then (lineB n c r, true) else (⟨#[]⟩, false)
theorem valid_size {c r : ByteArray} (h : validR c r = true) : c.size ≤ 160 ∧ r.size ≤ 250 := by
  unfold validR at h
  simp at h
  omega
theorem spec_enc_ev (n : Int) (c r : ByteArray) (hc : Big c) (hr : Big r) : Ev (fun k => spec_EncodeRecord.f k n c r) (encB n c r) := by
  unfold spec_EncodeRecord.f encB
  refine Ev.bind0 (in_ev _ _ _) ?_
  by_cases h1 : 0 ≤ n ∧ n ≤ 59
  · refine Ev.yes (by simpa using h1) (Ev.bind (record_ev c r hc hr) ?_)
    by_cases h2 : validR c r = true
    · have := valid_size h2
      refine Ev.yes h2 (Ev.bind (line_ev n c r h1.1 (by omega) (by omega) (by omega)) (Ev.const ?_))
      rw [if_pos ⟨h1.1, h1.2, h2⟩]
    · refine Ev.no h2 (Ev.const ?_)
      rw [if_neg (fun h => h2 h.2.2)]
  · refine Ev.no (by simpa using h1) (Ev.const ?_)
    rw [if_neg (fun h => h1 ⟨h.1, h.2.1⟩)]
end Go.Proofs.YtonfhfcpnoehjaaDoor.Pure
