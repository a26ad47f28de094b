/- Reading one record of a log: the program's readRecord and the reference's l12Decode tell the same; conditions: texts below 2^21 bytes. -/
import Derived.Test.YtonfhfcpnoehjaaDoorPureC
namespace Go.Proofs.YtonfhfcpnoehjaaDoor.Pure
open Go.RowKit Go.Proofs.YtonfhfcpnoehjaaDoorW.PrintWords Go.Proofs.YtonfhfcpnoehjaaDoorW.PrintLast Go.Proofs.YtonfhfcpnoehjaaDoor.Giv Go.Proofs.YtonfhfcpnoehjaaDoor.L Go.Proofs.YtonfhfcpnoehjaaDoor.Plain

theorem body_list (n : Int) (c r : ByteArray) : (bodyB n c r).data.toList = ((numB n).data.toList ++ [32]) ++ (c.data.toList ++ 64 :: r.data.toList) := by
  unfold bodyB
  simp only [data_append]
  simp
/-- A line without its newline. -/
def stemB (n : Int) (c r : ByteArray) : ByteArray := sealB (bodyB n c r)
theorem stem_list (n : Int) (c r : ByteArray) : (stemB n c r).data.toList = (bodyB n c r).data.toList ++ 35 :: (numB (sumL 7 (bodyB n c r).data.toList)).data.toList := by
  unfold stemB sealB
  simp only [data_append]
  simp
theorem line_list (n : Int) (c r : ByteArray) : (lineB n c r).data.toList = (stemB n c r).data.toList ++ [10] := by
  unfold lineB stemB
  simp only [data_append]
theorem valid_parts {c r : ByteArray} (h : validR c r = true) : plainL c.data.toList = true ∧ plainL r.data.toList = true ∧ hasL c.data.toList 64 = false ∧ c.size ≠ 0 ∧ c.size ≤ 160 ∧ r.size ≤ 250 := by
  unfold validR at h
  simp only [Bool.and_eq_true, decide_eq_true_eq, Bool.not_eq_true'] at h
  exact ⟨h.1.1.1.2, h.2, h.1.1.2, h.1.1.1.1.1, h.1.1.1.1.2, h.1.2⟩
theorem plain_low {l : List UInt8} {m : Nat} (h : plainL l = true) (hm : m < 32 ∨ m = 35) : hasL l m = false := by
  refine hasL_of_all fun c hc => ?_
  have := List.all_eq_true.1 h c hc
  unfold okB at this
  simp at this
  omega
theorem num_no (n : Int) (h0 : 0 ≤ n) {m : Nat} (hm : m < 48) : hasL (numB n).data.toList m = false := hasL_of_all fun c hc => by have := num_all n h0 c hc; omega
theorem body_low (n : Int) (c r : ByteArray) (h0 : 0 ≤ n) (h : validR c r = true) {m : Nat} (hm : m < 32 ∨ m = 35) : hasL (bodyB n c r).data.toList m = false := by
  obtain ⟨h1, h2, _⟩ := valid_parts h
  rw [body_list]
  simp only [hasL_append]
  rw [num_no n h0 (by omega), plain_low h1 hm]
  have h3 : hasL (64 :: r.data.toList) m = false := by
    have := plain_low h2 hm
    unfold hasL at this ⊢
    simp at this ⊢
    exact ⟨by omega, this⟩
  have h4 : hasL [32] m = false := by unfold hasL; simp; omega
  rw [h3, h4]
  rfl
theorem stem_no (n : Int) (c r : ByteArray) (h0 : 0 ≤ n) (h : validR c r = true) : hasL (stemB n c r).data.toList 10 = false := by
  have hq := sumL_range (bodyB n c r).data.toList 7 (by omega) (by omega)
  rw [stem_list, hasL_append, body_low n c r h0 h (by omega)]
  have := num_no (sumL 7 (bodyB n c r).data.toList) hq.1 (m := 10) (by omega)
  unfold hasL at this ⊢
  simp at this ⊢
  exact this
/-- A stem tells its record. -/
theorem stem_inj {n : Int} {c r c' r' : ByteArray} (h0 : 0 ≤ n) (h : validR c r = true) (h' : validR c' r' = true) (e : (stemB n c r).data.toList = (stemB n c' r').data.toList) : c = c' ∧ r = r' := by
  rw [stem_list, stem_list] at e
  obtain ⟨e1, _⟩ := first_unique (m := 35) rfl (body_low n c r h0 h (.inr rfl)) (body_low n c' r' h0 h' (.inr rfl)) e
  rw [body_list, body_list] at e1
  have e2 := List.append_cancel_left e1
  obtain ⟨e3, e4⟩ := first_unique (m := 64) rfl (valid_parts h).2.2.1 (valid_parts h').2.2.1 e2
  exact ⟨ba_ext e3, ba_ext e4⟩

/-- A list begins with the encoding of a record. -/
def IsRec (n : Int) (l : List UInt8) (c r : ByteArray) : Prop := n ≤ 59 ∧ validR c r = true ∧ ∃ rest, l = (stemB n c r).data.toList ++ 10 :: rest
theorem IsRec.unique {n : Int} {l : List UInt8} {c r c' r' : ByteArray} (h0 : 0 ≤ n) (h : IsRec n l c r) (h' : IsRec n l c' r') : c = c' ∧ r = r' := by
  obtain ⟨_, hv, rest, e⟩ := h
  obtain ⟨_, hv', rest', e'⟩ := h'
  obtain ⟨e1, _⟩ := first_unique (m := 10) rfl (stem_no n c r h0 hv) (stem_no n c' r' h0 hv') (e.symm.trans e')
  exact stem_inj h0 hv hv' e1
theorem stem_size (n : Int) (c r : ByteArray) (h0 : -9223372036854775808 ≤ n) (h1 : n ≤ 9223372036854775807) (h : validR c r = true) : (stemB n c r).size ≤ 456 := by
  have hl := numB_len n h0 h1
  have hb := bodyB_size n c r
  have hq := sumL_range (bodyB n c r).data.toList 7 (by omega) (by omega)
  have hs := sealB_size (bodyB n c r)
  have hn := numB_len (sumL 7 (bodyB n c r).data.toList) (by omega) (by omega)
  have hz := valid_size h
  unfold stemB
  omega
theorem line_size (n : Int) (c r : ByteArray) : (lineB n c r).size = (stemB n c r).size + 1 := by unfold lineB stemB; rw [ByteArray.size_append]; rfl
theorem nl_eq {x : ByteArray} {n : Int} {c r : ByteArray} : (lineB n c r).toList = (x ++ (⟨#[10]⟩ : ByteArray)).toList ↔ x = stemB n c r := by
  rw [toList_inj]
  constructor
  · intro e
    have : (lineB n c r).data.toList = (x ++ (⟨#[10]⟩ : ByteArray)).data.toList := by rw [e]
    rw [line_list, data_append] at this
    exact (ba_ext (List.append_cancel_right this)).symm
  · rintro rfl; rfl

/-! ### The program -/
/-- Where cutting at the signs of a stem leads. -/
theorem stem_cuts (n : Int) (c r : ByteArray) (h0 : 0 ≤ n) (h1 : n ≤ 59) (h : validR c r = true) :
    ∃ q, strings_Cut.f (stemB n c r) ⟨#[35]⟩ = some (bodyB n c r, q, true) ∧ strings_Cut.f (bodyB n c r) ⟨#[32]⟩ = some (numB n, BA (c.data.toList ++ 64 :: r.data.toList), true) ∧ strings_Cut.f (BA (c.data.toList ++ 64 :: r.data.toList)) ⟨#[64]⟩ = some (c, r, true) := by
  have hz := stem_size n c r (by omega) (by omega) h
  have hl := numB_len n (by omega) (by omega)
  have hb := bodyB_size n c r
  have hv := valid_size h
  refine ⟨BA (numB (sumL 7 (bodyB n c r).data.toList)).data.toList, ?_, ?_, ?_⟩
  · rw [cut_some _ 35 _ _ (by unfold Big; omega) (stem_list n c r) (body_low n c r h0 h (.inr rfl)), BA_eta]
  · rw [cut_some (bodyB n c r) 32 (numB n).data.toList (c.data.toList ++ 64 :: r.data.toList) (by unfold Big; omega) (by rw [body_list]; simp) (num_no n h0 (by decide)), BA_eta]
  · rw [cut_some _ 64 c.data.toList r.data.toList (by unfold Big; rw [BA_size]; simp; omega) (BA_list _) (valid_parts h).2.2.1, BA_eta, BA_eta]
theorem readRecord_ev (s : ByteArray) (n : Int) (hs : s.size ≤ 2097152) (h0 : 0 ≤ n) : ∃ c r z ok, Ev (fun k => impl_readRecord.f k s n) (c, r, z, ok) ∧
    (ok = true → IsRec n s.data.toList c r ∧ z = ((lineB n c r).size : Int)) ∧ (∀ c' r', IsRec n s.data.toList c' r' → ok = true) := by
  unfold impl_readRecord.f
  rcases first_of 10 (by decide) s.data.toList with h | ⟨a, b, e, h⟩
  · refine ⟨_, _, _, _, Ev.bind0 (cut_none s 10 h) (Ev.no (by simp) (Ev.const rfl)), by simp, ?_⟩
    rintro c' r' ⟨_, hv, rest, e⟩
    rw [e, hasL_append] at h
    simp [hasL] at h
  · have hz : s.size = a.length + 1 + b.length := by rw [← size_list, e]; simp; omega
    -- what the cuts of the line give
    have hc : ∀ (x : ByteArray) (m : UInt8), Big x → ∃ u v w, strings_Cut.f x ⟨#[m]⟩ = some (u, v, w) ∧ u.size ≤ x.size ∧ v.size ≤ x.size := by
      intro x m hx
      rcases first_of m.toNat (u8_lt m) x.data.toList with hh | ⟨a', b', e', hh⟩
      · exact ⟨_, _, _, cut_none x m hh, Nat.le_refl _, Nat.zero_le _⟩
      · have hmm : UInt8.ofNat m.toNat = m := by simp
        rw [hmm] at e'
        have hx2 : x.size = a'.length + 1 + b'.length := by rw [← size_list, e']; simp; omega
        exact ⟨_, _, _, cut_some x m a' b' hx e' hh, by rw [BA_size]; omega, by rw [BA_size]; omega⟩
    have hA : (BA a).size = a.length := BA_size a
    obtain ⟨u1, v1, w1, g1, s1, _⟩ := hc (BA a) 35 (by unfold Big; omega)
    obtain ⟨u2, v2, w2, g2, _, s2⟩ := hc u1 32 (by unfold Big; omega)
    obtain ⟨u3, v3, w3, g3, s3, s3'⟩ := hc v2 64 (by unfold Big; omega)
    have key : Ev (fun k => (strings_Cut.f s ⟨#[10]⟩).bind fun bt218 => (if bt218.2.2 = true then ((strings_Cut.f bt218.1 (⟨#[35]⟩ : ByteArray)).bind fun bt221 => ((strings_Cut.f bt221.1 (⟨#[32]⟩ : ByteArray)).bind fun bt224 => ((strings_Cut.f bt224.2.1 (⟨#[64]⟩ : ByteArray)).bind fun bt227 => ((impl_EncodeRecord.f k n bt227.1 bt227.2.1).bind fun bt231 => (if bt231.2 = true then (if bt218.1.size + 1 ≤ 9223372036854775807 then (if bt231.1.toList = (bt218.1 ++ (⟨#[10]⟩ : ByteArray)).toList then (some (bt227.1, bt227.2.1, (bt231.1.size : Int), true)) else (some ((⟨#[]⟩ : ByteArray), (⟨#[]⟩ : ByteArray), 0, false))) else (none)) else (some ((⟨#[]⟩ : ByteArray), (⟨#[]⟩ : ByteArray), 0, false))))))) else (some ((⟨#[]⟩ : ByteArray), (⟨#[]⟩ : ByteArray), 0, false))))
        (if n ≤ 59 ∧ validR u3 v3 = true ∧ BA a = stemB n u3 v3 then (u3, v3, ((lineB n u3 v3).size : Int), true) else ((⟨#[]⟩ : ByteArray), (⟨#[]⟩ : ByteArray), 0, false)) := by
      refine Ev.bind0 (cut_some s 10 a b (by unfold Big; omega) e h) (Ev.yes rfl (Ev.bind0 g1 (Ev.bind0 g2 (Ev.bind0 g3 (Ev.bind (impl_enc_ev n u3 v3 (by unfold Big; omega) (by unfold Big; omega)) ?_)))))
      unfold encB
      by_cases hh : 0 ≤ n ∧ n ≤ 59 ∧ validR u3 v3 = true
      · rw [if_pos hh]
        refine Ev.yes rfl (Ev.yes (by show (BA a).size + 1 ≤ _; omega) ?_)
        by_cases he : BA a = stemB n u3 v3
        · rw [if_pos (show n ≤ 59 ∧ validR u3 v3 = true ∧ BA a = stemB n u3 v3 from ⟨hh.2.1, hh.2.2, he⟩)]
          exact Ev.yes (nl_eq.2 he) (Ev.const rfl)
        · rw [if_neg (show ¬ (n ≤ 59 ∧ validR u3 v3 = true ∧ BA a = stemB n u3 v3) from fun q => he q.2.2)]
          exact Ev.no (fun q => he (nl_eq.1 q)) (Ev.const rfl)
      · rw [if_neg hh, if_neg (show ¬ (n ≤ 59 ∧ validR u3 v3 = true ∧ BA a = stemB n u3 v3) from fun q => hh ⟨h0, q.1, q.2.1⟩)]
        exact Ev.no (by simp) (Ev.const rfl)
    by_cases hq : n ≤ 59 ∧ validR u3 v3 = true ∧ BA a = stemB n u3 v3
    · rw [if_pos hq] at key
      refine ⟨_, _, _, _, key, fun _ => ⟨⟨hq.1, hq.2.1, b, ?_⟩, rfl⟩, fun _ _ _ => rfl⟩
      rw [← hq.2.2, BA_list]
      exact e
    · rw [if_neg hq] at key
      refine ⟨_, _, _, _, key, by simp, ?_⟩
      rintro c' r' ⟨hk, hv, rest, e'⟩
      obtain ⟨ea, _⟩ := first_unique (m := 10) rfl h (stem_no n c' r' h0 hv) (e.symm.trans e')
      have ea' : BA a = stemB n c' r' := ba_ext (by rw [BA_list, ea])
      obtain ⟨q, k1, k2, k3⟩ := stem_cuts n c' r' h0 hk hv
      rw [ea', k1] at g1
      obtain ⟨rfl, rfl, rfl⟩ : bodyB n c' r' = u1 ∧ q = v1 ∧ true = w1 := by simpa using g1
      rw [k2] at g2
      obtain ⟨rfl, rfl, rfl⟩ : numB n = u2 ∧ BA (c'.data.toList ++ 64 :: r'.data.toList) = v2 ∧ true = w2 := by simpa using g2
      rw [k3] at g3
      obtain ⟨rfl, rfl, rfl⟩ : c' = u3 ∧ r' = v3 ∧ true = w3 := by simpa using g3
      exact absurd ⟨hk, hv, ea'⟩ hq
end Go.Proofs.YtonfhfcpnoehjaaDoor.Pure
