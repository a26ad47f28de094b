/- The statement FnExactParsePlan over texts alone; conditions: texts below 2^47 bytes. -/
import Derived.Test.YtkgeffmmpgdkmaaDoorPlainC
import Derived.Lib.IndexBytes
namespace Go.Proofs.YtkgeffmmpgdkmaaDoor.Pure
open Go.RowKit Go.Proofs.YtkgeffmmpgdkmaaDoorW.PrintWords Go.Proofs.YtkgeffmmpgdkmaaDoorW.PrintLast Go.Proofs.YtkgeffmmpgdkmaaDoor.GivP Go.Proofs.YtkgeffmmpgdkmaaDoor.C Go.Proofs.YtkgeffmmpgdkmaaDoor.Plain
theorem in_ev (x a b : Int) : spec_l1In.f x a b = some (decide (a ≤ x) && decide (x ≤ b)) := by
  unfold spec_l1In.f
  by_cases h : x ≥ a
  · rw [if_pos h]; simp [show a ≤ x from h]
  · rw [if_neg h]; simp [show ¬ a ≤ x from h]
theorem within_ev (x a b : Int) : impl_within.f x a b = some (decide (a ≤ x) && decide (x ≤ b)) := by
  unfold impl_within.f
  by_cases h : x ≥ a
  · rw [if_pos h]; simp [show a ≤ x from h]
  · rw [if_neg h]; simp [show ¬ a ≤ x from h]
/-- A number's text. -/
def numB (n : Int) : ByteArray := ⟨(Lib.itoa n).toArray⟩
theorem num_ev (n : Int) (h0 : -9223372036854775807 ≤ n) (h1 : n ≤ 9223372036854775807) : spec_l1Num.f n = some (numB n) := by unfold spec_l1Num.f Giv.spec_l1Num.f; rw [if_pos ⟨h0, h1⟩]; rfl
theorem itoa_ev (n : Int) (h0 : -9223372036854775808 ≤ n) (h1 : n ≤ 9223372036854775807) : strconv_Itoa.f n = some (numB n) := by unfold strconv_Itoa.f Giv.strconv_Itoa.f; rw [if_pos ⟨h0, h1⟩]; rfl
theorem numB_len (n : Int) (h0 : -9223372036854775808 ≤ n) (h1 : n ≤ 9223372036854775807) : (numB n).size ≤ 21 := by
  have := Giv.itoa_len n h0 h1
  show (Lib.itoa n).toArray.size ≤ 21
  simpa using this
theorem data_append (a b : ByteArray) : (a ++ b).data.toList = a.data.toList ++ b.data.toList := by rw [ByteArray.data_append]; simp

/-- A text out of its bytes. -/
def BA (l : List UInt8) : ByteArray := ⟨l.toArray⟩
theorem BA_list (l : List UInt8) : (BA l).data.toList = l := by simp [BA]
theorem BA_size (l : List UInt8) : (BA l).size = l.length := by rw [← size_list, BA_list]
theorem BA_eta (s : ByteArray) : BA s.data.toList = s := ba_ext (BA_list _)
theorem ext_list (s : ByteArray) (i j : Nat) : (s.extract i j).data.toList = (s.data.toList.take j).drop i := by
  rw [ByteArray.data_extract]
  simp [List.drop_take]
theorem ext_BA (s : ByteArray) (i j : Nat) : s.extract i j = BA ((s.data.toList.take j).drop i) := ba_ext (by rw [ext_list, BA_list])
def pre (a : List UInt8) : List (List UInt8) → List (List UInt8)
  | [] => [a]
  | h :: t => (a ++ h) :: t
def splitL (m : Nat) : List UInt8 → List (List UInt8)
  | [] => [[]]
  | c :: l => if c.toNat = m then [] :: splitL m l else pre [c] (splitL m l)
theorem splitL_ne (m : Nat) (l : List UInt8) : splitL m l ≠ [] := by
  cases l with
  | nil => simp [splitL]
  | cons c l =>
    simp only [splitL]
    split
    · simp
    · unfold pre; split <;> simp
theorem pre_pre (a b : List UInt8) (l : List (List UInt8)) (h : l ≠ []) : pre a (pre b l) = pre (a ++ b) l := by
  cases l with
  | nil => exact absurd rfl h
  | cons h t => simp [pre]
theorem pre_nil (l : List (List UInt8)) (h : l ≠ []) : pre [] l = l := by
  cases l with
  | nil => exact absurd rfl h
  | cons h t => simp [pre]
theorem splitL_none {m : Nat} {l : List UInt8} (h : hasL l m = false) : splitL m l = [l] := by
  induction l with
  | nil => rfl
  | cons c l ih =>
    unfold hasL at h ih
    simp at h
    simp only [splitL]
    rw [if_neg h.1, ih (by simpa using h.2)]
    rfl
theorem splitL_some {m : Nat} {a b : List UInt8} {x : UInt8} (hx : x.toNat = m) (h : hasL a m = false) : splitL m (a ++ x :: b) = a :: splitL m b := by
  induction a with
  | nil => simp [splitL, hx]
  | cons c l ih =>
    unfold hasL at h ih
    simp at h
    simp only [List.cons_append, splitL]
    rw [if_neg h.1, ih (by simpa using h.2)]
    rfl
/-- A list is without a byte, or parts at its first place. -/
theorem first_of (m : Nat) (hm : m < 256) (l : List UInt8) : hasL l m = false ∨ ∃ a b, l = a ++ UInt8.ofNat m :: b ∧ hasL a m = false := by
  induction l with
  | nil => exact .inl rfl
  | cons c l ih =>
    by_cases hc : c.toNat = m
    · exact .inr ⟨[], l, by rw [(u8_eq hm).1 hc]; rfl, rfl⟩
    · rcases ih with h | ⟨a, b, rfl, h⟩
      · exact .inl (by unfold hasL at h ⊢; simp at h ⊢; exact ⟨hc, h⟩)
      · exact .inr ⟨c :: a, b, rfl, by unfold hasL at h ⊢; simp at h ⊢; exact ⟨hc, h⟩⟩
theorem split_l (s : ByteArray) (m : Nat) (hs : s.size ≤ 2097152) (d : Nat) : ∀ (n g : Nat) (out : List ByteArray), s.size - n = d → g ≤ n → n ≤ s.size → out.length ≤ n →
    Ev (fun k => spec_l1Split.l0 k s (m : Int) out (g : Int) (n : Int)) (out ++ (pre ((s.data.toList.take n).drop g) (splitL m (s.data.toList.drop n))).map BA) := by
  induction d with
  | zero =>
    intro n g out hd hg hn ho
    refine Ev.step (fun k => by rw [spec_l1Split.l0]) ?_
    refine Ev.no (by omega) (Ev.yes (by omega) (Ev.yes (by omega) (Ev.yes (by omega) (Ev.const ?_))))
    have hl := size_list s
    rw [List.drop_of_length_le (l := s.data.toList) (i := n) (by omega)]
    simp only [splitL, pre, List.map_cons, List.map_nil, List.append_nil]
    rw [ext_BA, Int.toNat_natCast, List.take_of_length_le (by omega), List.take_of_length_le (by omega)]
  | succ d ih =>
    intro n g out hd hg hn ho
    obtain ⟨c, hc, hb⟩ := bt_drop s n (by omega)
    have htk : s.data.toList.take (n + 1) = s.data.toList.take n ++ [c] := by
      have hl := size_list s
      rw [List.take_succ_eq_append_getElem (by omega)]
      rw [List.drop_eq_getElem_cons (by omega)] at hc
      injection hc with h1 _
      rw [h1]
    refine Ev.step (fun k => by rw [spec_l1Split.l0]) ?_
    refine Ev.yes (by omega) (Ev.yes (by omega) ?_)
    rw [hb, hc, wrap_in (n := (n : Int) + 1) (by omega) (by omega)]
    by_cases h1 : c.toNat = m
    · refine Ev.yes (by omega) (Ev.yes (by omega) (Ev.yes (by omega) (Ev.yes (by omega) (Ev.yes (by omega) ?_))))
      refine Ev.to (ih (n + 1) (n + 1) _ (by omega) (by omega) (by omega) (by simp; omega)) ?_
      rw [List.drop_of_length_le (l := s.data.toList.take (n + 1)) (by simp; omega), pre_nil _ (splitL_ne _ _), ext_BA, Int.toNat_natCast, Int.toNat_natCast]
      simp only [splitL, if_pos h1, pre, List.append_nil, List.map_cons, List.append_assoc, List.singleton_append]
    · refine Ev.no (by omega) ?_
      refine Ev.to (ih (n + 1) g out (by omega) (by omega) (by omega) (by omega)) ?_
      simp only [splitL, if_neg h1]
      rw [htk, pre_pre _ _ _ (splitL_ne _ _), List.drop_append_of_le_length (by have := size_list s; simp; omega)]
theorem split_ev (s : ByteArray) (m : Nat) (hs : s.size ≤ 2097152) : Ev (fun k => spec_l1Split.f k s (m : Int)) ((splitL m s.data.toList).map BA) := by
  have := split_l s m hs (s.size - 0) 0 0 [] rfl (by omega) (by omega) (by simp)
  simpa [spec_l1Split.f, pre_nil _ (splitL_ne _ _)] using this
theorem index_none {l : List UInt8} {x : UInt8} (h : hasL l x.toNat = false) : Lib.indexByte l x = -1 := by
  have h1 := indexByte_has l x
  rw [h] at h1
  have h2 := Lib.indexByte_ge l x
  have h3 := of_decide_eq_false h1
  omega
theorem index_some {a b : List UInt8} {x : UInt8} (h : hasL a x.toNat = false) : Lib.indexByte (a ++ x :: b) x = a.length := by
  induction a with
  | nil => simp [Lib.indexByte]
  | cons c l ih =>
    unfold hasL at h ih
    simp at h
    have := ih (by simpa using h.2)
    simp only [List.cons_append, Lib.indexByte]
    rw [this, if_neg (by simp; exact fun e => h.1 (by rw [e])), if_neg (by simp)]
    simp
def inB (x a b : Int) : Bool := decide (a ≤ x) && decide (x ≤ b)
def kitN (g0 g1 g2 g3 : Int) : Bool := if inB g0 0 30 = true then (if inB g1 0 30 = true then (if inB g2 0 30 = true then (if inB g3 0 30 = true then ((((false || decide (g0 > 0)) || decide (g1 > 0)) || decide (g2 > 0)) || decide (g3 > 0)) else false) else false) else false) else false
theorem skit_4 (s : Bool) (g0 g1 g2 g3 : Int) : Ev (fun k => spec_l2Kit.l0 k s 4 g0 g1 g2 g3) s := Ev.step (fun k => by rw [spec_l2Kit.l0]) (Ev.no (by decide) (Ev.const rfl))
theorem skit_3 (s : Bool) (g0 g1 g2 g3 : Int) {r : Bool → Bool} (h : ∀ s', Ev (fun k => spec_l2Kit.l0 k s' 4 g0 g1 g2 g3) (r s')) : Ev (fun k => spec_l2Kit.l0 k s 3 g0 g1 g2 g3) (if inB g3 0 30 = true then r (s || decide (g3 > 0)) else false) := by
  refine Ev.step (fun k => by rw [spec_l2Kit.l0]) (Ev.yes (by decide) (Ev.no (by decide) (Ev.no (by decide) (Ev.no (by decide) (Ev.yes rfl ?_)))))
  refine Ev.bind0 (in_ev g3 0 30) ?_
  by_cases hc : inB g3 0 30 = true
  · rw [if_pos hc]
    refine Ev.yes hc ?_
    cases s
    · exact Ev.no (by decide) (by simpa using h (decide (g3 > 0)))
    · exact Ev.yes rfl (by simpa using h true)
  · rw [if_neg hc]
    exact Ev.no hc (Ev.const rfl)
theorem skit_2 (s : Bool) (g0 g1 g2 g3 : Int) {r : Bool → Bool} (h : ∀ s', Ev (fun k => spec_l2Kit.l0 k s' 3 g0 g1 g2 g3) (r s')) : Ev (fun k => spec_l2Kit.l0 k s 2 g0 g1 g2 g3) (if inB g2 0 30 = true then r (s || decide (g2 > 0)) else false) := by
  refine Ev.step (fun k => by rw [spec_l2Kit.l0]) (Ev.yes (by decide) (Ev.no (by decide) (Ev.no (by decide) (Ev.yes rfl ?_))))
  refine Ev.bind0 (in_ev g2 0 30) ?_
  by_cases hc : inB g2 0 30 = true
  · rw [if_pos hc]
    refine Ev.yes hc ?_
    cases s
    · exact Ev.no (by decide) (by simpa using h (decide (g2 > 0)))
    · exact Ev.yes rfl (by simpa using h true)
  · rw [if_neg hc]
    exact Ev.no hc (Ev.const rfl)
theorem skit_1 (s : Bool) (g0 g1 g2 g3 : Int) {r : Bool → Bool} (h : ∀ s', Ev (fun k => spec_l2Kit.l0 k s' 2 g0 g1 g2 g3) (r s')) : Ev (fun k => spec_l2Kit.l0 k s 1 g0 g1 g2 g3) (if inB g1 0 30 = true then r (s || decide (g1 > 0)) else false) := by
  refine Ev.step (fun k => by rw [spec_l2Kit.l0]) (Ev.yes (by decide) (Ev.no (by decide) (Ev.yes rfl ?_)))
  refine Ev.bind0 (in_ev g1 0 30) ?_
  by_cases hc : inB g1 0 30 = true
  · rw [if_pos hc]
    refine Ev.yes hc ?_
    cases s
    · exact Ev.no (by decide) (by simpa using h (decide (g1 > 0)))
    · exact Ev.yes rfl (by simpa using h true)
  · rw [if_neg hc]
    exact Ev.no hc (Ev.const rfl)
theorem skit_0 (s : Bool) (g0 g1 g2 g3 : Int) {r : Bool → Bool} (h : ∀ s', Ev (fun k => spec_l2Kit.l0 k s' 1 g0 g1 g2 g3) (r s')) : Ev (fun k => spec_l2Kit.l0 k s 0 g0 g1 g2 g3) (if inB g0 0 30 = true then r (s || decide (g0 > 0)) else false) := by
  refine Ev.step (fun k => by rw [spec_l2Kit.l0]) (Ev.yes (by decide) (Ev.yes rfl ?_))
  refine Ev.bind0 (in_ev g0 0 30) ?_
  by_cases hc : inB g0 0 30 = true
  · rw [if_pos hc]
    refine Ev.yes hc ?_
    cases s
    · exact Ev.no (by decide) (by simpa using h (decide (g0 > 0)))
    · exact Ev.yes rfl (by simpa using h true)
  · rw [if_neg hc]
    exact Ev.no hc (Ev.const rfl)
theorem skit_ev (g0 g1 g2 g3 : Int) : Ev (fun k => spec_l2Kit.f k g0 g1 g2 g3) (kitN g0 g1 g2 g3) := skit_0 false g0 g1 g2 g3 (fun s' => skit_1 s' g0 g1 g2 g3 (fun s' => skit_2 s' g0 g1 g2 g3 (fun s' => skit_3 s' g0 g1 g2 g3 (fun s' => skit_4 s' g0 g1 g2 g3))))
theorem ikit_4 (s : Bool) (g0 g1 g2 g3 : Int) : Ev (fun k => impl_IsKit.l0 k s 4 g0 g1 g2 g3) s := Ev.step (fun k => by rw [impl_IsKit.l0]) (Ev.no (by decide) (Ev.const rfl))
theorem ikit_3 (s : Bool) (g0 g1 g2 g3 : Int) {r : Bool → Bool} (h : ∀ s', Ev (fun k => impl_IsKit.l0 k s' 4 g0 g1 g2 g3) (r s')) : Ev (fun k => impl_IsKit.l0 k s 3 g0 g1 g2 g3) (if inB g3 0 30 = true then r (s || decide (g3 > 0)) else false) := by
  refine Ev.step (fun k => by rw [impl_IsKit.l0]) (Ev.yes (by decide) (Ev.no (by decide) (Ev.no (by decide) (Ev.no (by decide) (Ev.yes rfl ?_)))))
  refine Ev.bind0 (within_ev g3 0 30) ?_
  by_cases hc : inB g3 0 30 = true
  · rw [if_pos hc]
    refine Ev.yes hc ?_
    cases s
    · exact Ev.no (by decide) (by simpa using h (decide (g3 > 0)))
    · exact Ev.yes rfl (by simpa using h true)
  · rw [if_neg hc]
    exact Ev.no hc (Ev.const rfl)
theorem ikit_2 (s : Bool) (g0 g1 g2 g3 : Int) {r : Bool → Bool} (h : ∀ s', Ev (fun k => impl_IsKit.l0 k s' 3 g0 g1 g2 g3) (r s')) : Ev (fun k => impl_IsKit.l0 k s 2 g0 g1 g2 g3) (if inB g2 0 30 = true then r (s || decide (g2 > 0)) else false) := by
  refine Ev.step (fun k => by rw [impl_IsKit.l0]) (Ev.yes (by decide) (Ev.no (by decide) (Ev.no (by decide) (Ev.yes rfl ?_))))
  refine Ev.bind0 (within_ev g2 0 30) ?_
  by_cases hc : inB g2 0 30 = true
  · rw [if_pos hc]
    refine Ev.yes hc ?_
    cases s
    · exact Ev.no (by decide) (by simpa using h (decide (g2 > 0)))
    · exact Ev.yes rfl (by simpa using h true)
  · rw [if_neg hc]
    exact Ev.no hc (Ev.const rfl)
theorem ikit_1 (s : Bool) (g0 g1 g2 g3 : Int) {r : Bool → Bool} (h : ∀ s', Ev (fun k => impl_IsKit.l0 k s' 2 g0 g1 g2 g3) (r s')) : Ev (fun k => impl_IsKit.l0 k s 1 g0 g1 g2 g3) (if inB g1 0 30 = true then r (s || decide (g1 > 0)) else false) := by
  refine Ev.step (fun k => by rw [impl_IsKit.l0]) (Ev.yes (by decide) (Ev.no (by decide) (Ev.yes rfl ?_)))
  refine Ev.bind0 (within_ev g1 0 30) ?_
  by_cases hc : inB g1 0 30 = true
  · rw [if_pos hc]
    refine Ev.yes hc ?_
    cases s
    · exact Ev.no (by decide) (by simpa using h (decide (g1 > 0)))
    · exact Ev.yes rfl (by simpa using h true)
  · rw [if_neg hc]
    exact Ev.no hc (Ev.const rfl)
theorem ikit_0 (s : Bool) (g0 g1 g2 g3 : Int) {r : Bool → Bool} (h : ∀ s', Ev (fun k => impl_IsKit.l0 k s' 1 g0 g1 g2 g3) (r s')) : Ev (fun k => impl_IsKit.l0 k s 0 g0 g1 g2 g3) (if inB g0 0 30 = true then r (s || decide (g0 > 0)) else false) := by
  refine Ev.step (fun k => by rw [impl_IsKit.l0]) (Ev.yes (by decide) (Ev.yes rfl ?_))
  refine Ev.bind0 (within_ev g0 0 30) ?_
  by_cases hc : inB g0 0 30 = true
  · rw [if_pos hc]
    refine Ev.yes hc ?_
    cases s
    · exact Ev.no (by decide) (by simpa using h (decide (g0 > 0)))
    · exact Ev.yes rfl (by simpa using h true)
  · rw [if_neg hc]
    exact Ev.no hc (Ev.const rfl)
theorem ikit_ev (g0 g1 g2 g3 : Int) : Ev (fun k => impl_IsKit.f k g0 g1 g2 g3) (kitN g0 g1 g2 g3) := ikit_0 false g0 g1 g2 g3 (fun s' => ikit_1 s' g0 g1 g2 g3 (fun s' => ikit_2 s' g0 g1 g2 g3 (fun s' => ikit_3 s' g0 g1 g2 g3 (fun s' => ikit_4 s' g0 g1 g2 g3))))
theorem four_ev (a0 a1 a2 a3 : Int) : Ev (fun k => laws_toIntA4.f k a0 a1 a2 a3) (a0, a1, a2, a3) := by
  unfold laws_toIntA4.f
  refine Ev.step (fun k => by rw [laws_toIntA4.l0]) (Ev.yes (by decide) (Ev.yes rfl ?_))
  refine Ev.step (fun k => by rw [laws_toIntA4.l0]) (Ev.yes (by decide) (Ev.no (by decide) (Ev.yes rfl ?_)))
  refine Ev.step (fun k => by rw [laws_toIntA4.l0]) (Ev.yes (by decide) (Ev.no (by decide) (Ev.no (by decide) (Ev.yes rfl ?_))))
  refine Ev.step (fun k => by rw [laws_toIntA4.l0]) (Ev.yes (by decide) (Ev.no (by decide) (Ev.no (by decide) (Ev.no (by decide) (Ev.yes rfl ?_)))))
  exact Ev.step (fun k => by rw [laws_toIntA4.l0]) (Ev.no (by decide) (Ev.const rfl))
theorem toKit_ev (a0 a1 a2 a3 : Int) : Ev (fun k => laws_toKit.f k a0 a1 a2 a3) (a0, a1, a2, a3) := Ev.bind (four_ev a0 a1 a2 a3) (Ev.const rfl)
def allStep (g b s : Int) : Int := if g > 0 then Go.bits .or .i64 s b else s
def allN (g0 g1 g2 g3 : Int) : Int := allStep g3 (1 * 8) (allStep g2 (1 * 4) (allStep g1 (1 * 2) (allStep g0 1 0)))
theorem sall_4 (s : Int) (g0 g1 g2 g3 : Int) : Ev (fun k => spec_l2All.l0 k s 4 g0 g1 g2 g3) s := Ev.step (fun k => by rw [spec_l2All.l0]) (Ev.no (by decide) (Ev.const rfl))
theorem sall_3 (s r : Int) (g0 g1 g2 g3 : Int) (h : Ev (fun k => spec_l2All.l0 k (allStep g3 (1 * 8) s) 4 g0 g1 g2 g3) r) : Ev (fun k => spec_l2All.l0 k s 3 g0 g1 g2 g3) r := by
  refine Ev.step (fun k => by rw [spec_l2All.l0]) (Ev.yes (by decide) (Ev.no (by decide) (Ev.no (by decide) (Ev.no (by decide) (Ev.yes rfl ?_)))))
  unfold allStep at h
  refine Ev.ite (fun hc => ?_) (fun hc => ?_)
  · rw [if_pos hc] at h; exact h
  · rw [if_neg hc] at h; exact h
theorem sall_2 (s r : Int) (g0 g1 g2 g3 : Int) (h : Ev (fun k => spec_l2All.l0 k (allStep g2 (1 * 4) s) 3 g0 g1 g2 g3) r) : Ev (fun k => spec_l2All.l0 k s 2 g0 g1 g2 g3) r := by
  refine Ev.step (fun k => by rw [spec_l2All.l0]) (Ev.yes (by decide) (Ev.no (by decide) (Ev.no (by decide) (Ev.yes rfl ?_))))
  unfold allStep at h
  refine Ev.ite (fun hc => ?_) (fun hc => ?_)
  · rw [if_pos hc] at h; exact h
  · rw [if_neg hc] at h; exact h
theorem sall_1 (s r : Int) (g0 g1 g2 g3 : Int) (h : Ev (fun k => spec_l2All.l0 k (allStep g1 (1 * 2) s) 2 g0 g1 g2 g3) r) : Ev (fun k => spec_l2All.l0 k s 1 g0 g1 g2 g3) r := by
  refine Ev.step (fun k => by rw [spec_l2All.l0]) (Ev.yes (by decide) (Ev.no (by decide) (Ev.yes rfl ?_)))
  unfold allStep at h
  refine Ev.ite (fun hc => ?_) (fun hc => ?_)
  · rw [if_pos hc] at h; exact h
  · rw [if_neg hc] at h; exact h
theorem sall_0 (s r : Int) (g0 g1 g2 g3 : Int) (h : Ev (fun k => spec_l2All.l0 k (allStep g0 1 s) 1 g0 g1 g2 g3) r) : Ev (fun k => spec_l2All.l0 k s 0 g0 g1 g2 g3) r := by
  refine Ev.step (fun k => by rw [spec_l2All.l0]) (Ev.yes (by decide) (Ev.yes rfl ?_))
  unfold allStep at h
  refine Ev.ite (fun hc => ?_) (fun hc => ?_)
  · rw [if_pos hc] at h; exact h
  · rw [if_neg hc] at h; exact h
theorem sall_ev (g0 g1 g2 g3 : Int) : Ev (fun k => spec_l2All.f k g0 g1 g2 g3) (allN g0 g1 g2 g3) := sall_0 0 _ g0 g1 g2 g3 (sall_1 _ _ g0 g1 g2 g3 (sall_2 _ _ g0 g1 g2 g3 (sall_3 _ _ g0 g1 g2 g3 (sall_4 _ g0 g1 g2 g3))))
theorem iall_4 (s : Int) (g0 g1 g2 g3 : Int) : Ev (fun k => A.impl_Kit_all.l0 k s 4 g0 g1 g2 g3) s := Ev.step (fun k => by rw [A.impl_Kit_all.l0]) (Ev.no (by decide) (Ev.const rfl))
theorem iall_3 (s r : Int) (g0 g1 g2 g3 : Int) (h : Ev (fun k => A.impl_Kit_all.l0 k (allStep g3 (1 * 8) s) 4 g0 g1 g2 g3) r) : Ev (fun k => A.impl_Kit_all.l0 k s 3 g0 g1 g2 g3) r := by
  refine Ev.step (fun k => by rw [A.impl_Kit_all.l0]) (Ev.yes (by decide) (Ev.no (by decide) (Ev.no (by decide) (Ev.no (by decide) (Ev.yes rfl ?_)))))
  unfold allStep at h
  refine Ev.ite (fun hc => ?_) (fun hc => ?_)
  · rw [if_pos hc] at h; exact h
  · rw [if_neg hc] at h; exact h
theorem iall_2 (s r : Int) (g0 g1 g2 g3 : Int) (h : Ev (fun k => A.impl_Kit_all.l0 k (allStep g2 (1 * 4) s) 3 g0 g1 g2 g3) r) : Ev (fun k => A.impl_Kit_all.l0 k s 2 g0 g1 g2 g3) r := by
  refine Ev.step (fun k => by rw [A.impl_Kit_all.l0]) (Ev.yes (by decide) (Ev.no (by decide) (Ev.no (by decide) (Ev.yes rfl ?_))))
  unfold allStep at h
  refine Ev.ite (fun hc => ?_) (fun hc => ?_)
  · rw [if_pos hc] at h; exact h
  · rw [if_neg hc] at h; exact h
theorem iall_1 (s r : Int) (g0 g1 g2 g3 : Int) (h : Ev (fun k => A.impl_Kit_all.l0 k (allStep g1 (1 * 2) s) 2 g0 g1 g2 g3) r) : Ev (fun k => A.impl_Kit_all.l0 k s 1 g0 g1 g2 g3) r := by
  refine Ev.step (fun k => by rw [A.impl_Kit_all.l0]) (Ev.yes (by decide) (Ev.no (by decide) (Ev.yes rfl ?_)))
  unfold allStep at h
  refine Ev.ite (fun hc => ?_) (fun hc => ?_)
  · rw [if_pos hc] at h; exact h
  · rw [if_neg hc] at h; exact h
theorem iall_0 (s r : Int) (g0 g1 g2 g3 : Int) (h : Ev (fun k => A.impl_Kit_all.l0 k (allStep g0 1 s) 1 g0 g1 g2 g3) r) : Ev (fun k => A.impl_Kit_all.l0 k s 0 g0 g1 g2 g3) r := by
  refine Ev.step (fun k => by rw [A.impl_Kit_all.l0]) (Ev.yes (by decide) (Ev.yes rfl ?_))
  unfold allStep at h
  refine Ev.ite (fun hc => ?_) (fun hc => ?_)
  · rw [if_pos hc] at h; exact h
  · rw [if_neg hc] at h; exact h
theorem iall_ev (g0 g1 g2 g3 : Int) : Ev (fun k => A.impl_Kit_all.f k g0 g1 g2 g3) (allN g0 g1 g2 g3) := iall_0 0 _ g0 g1 g2 g3 (iall_1 _ _ g0 g1 g2 g3 (iall_2 _ _ g0 g1 g2 g3 (iall_3 _ _ g0 g1 g2 g3 (iall_4 _ g0 g1 g2 g3))))
def setN (g0 g1 g2 g3 x : Int) : Bool := if inB x 0 15 = true then (Go.bits .andNot .i64 x (allN g0 g1 g2 g3) == 0) else false
theorem withinA_ev (x a b : Int) : A.impl_within.f x a b = some (inB x a b) := within_ev x a b
theorem sset_ev (g0 g1 g2 g3 x : Int) : Ev (fun k => spec_l2Set.f k g0 g1 g2 g3 x) (setN g0 g1 g2 g3 x) := by
  unfold spec_l2Set.f setN
  refine Ev.bind0 (show spec_l1In.f x 0 15 = some (inB x 0 15) from in_ev x 0 15) ?_
  split
  · exact Ev.bind (sall_ev g0 g1 g2 g3) (Ev.const rfl)
  · exact Ev.const rfl
theorem iset_ev (g0 g1 g2 g3 x : Int) : Ev (fun k => A.impl_Kit_isSet.f k g0 g1 g2 g3 x) (setN g0 g1 g2 g3 x) := by
  unfold A.impl_Kit_isSet.f setN
  refine Ev.bind0 (withinA_ev x 0 15) ?_
  split
  · exact Ev.bind (iall_ev g0 g1 g2 g3) (Ev.const rfl)
  · exact Ev.const rfl
theorem setN_in {g0 g1 g2 g3 x : Int} (h : setN g0 g1 g2 g3 x = true) : 0 ≤ x ∧ x ≤ 15 := by
  unfold setN at h
  split at h
  · rename_i hc
    unfold inB at hc
    simpa using hc
  · cases h
/-- A plan. -/
def planN (g0 g1 g2 g3 : Int) (l : List Int) : Bool := decide (l.length ≤ 12) && l.all (setN g0 g1 g2 g3)
theorem setsAt_ev (g0 g1 g2 g3 : Int) : ∀ l : List Int, Ev (fun k => Plan.setsAt k g0 g1 g2 g3 l) (l.all (setN g0 g1 g2 g3))
  | [] => Ev.const rfl
  | x :: r => by
    show Ev (fun k => (A.impl_Kit_isSet.f k g0 g1 g2 g3 x).bind fun t => if t = true then Plan.setsAt k g0 g1 g2 g3 r else some false) _
    refine Ev.bind (iset_ev g0 g1 g2 g3 x) ?_
    rw [List.all_cons]
    by_cases hc : setN g0 g1 g2 g3 x = true
    · rw [hc]
      exact Ev.yes rfl (Ev.to (setsAt_ev g0 g1 g2 g3 r) (by simp))
    · have hf : setN g0 g1 g2 g3 x = false := by simpa using hc
      rw [hf]
      exact Ev.no (by decide) (Ev.const (by simp))
theorem iplan_ev (g0 g1 g2 g3 : Int) (l : List Int) : Ev (fun k => Plan.impl_Kit_isPlan.f k g0 g1 g2 g3 l) (planN g0 g1 g2 g3 l) := by
  unfold Plan.impl_Kit_isPlan.f planN
  by_cases h : l.length ≤ 12
  · exact Ev.yes (by omega) (Ev.to (setsAt_ev g0 g1 g2 g3 l) (by simp [h]))
  · exact Ev.no (by omega) (Ev.const (by simp [h]))
theorem rd_drop (l : List Int) (i : Nat) (h : i < l.length) : l.drop i = rd l (i : Int) :: l.drop (i + 1) := by
  rw [List.drop_eq_getElem_cons h]
  congr 1
  unfold rd
  rw [Int.toNat_natCast, List.getD_eq_getElem?_getD, List.getElem?_eq_getElem h]
  rfl
theorem splan_l (g0 g1 g2 g3 : Int) (l : List Int) (hl : l.length ≤ 2000000) (m : Nat) : ∀ i : Nat, 13 - i = m → i ≤ 13 → i ≤ l.length → Ev (fun k => spec_l2Plan.l0 k l (i : Int) g0 g1 g2 g3) (decide (l.length ≤ 12) && (l.drop i).all (setN g0 g1 g2 g3)) := by
  induction m with
  | zero =>
    intro i hm h13 hi
    have hi13 : i = 13 := by omega
    subst hi13
    refine Ev.step (fun k => by rw [spec_l2Plan.l0]) ?_
    refine Ev.ite (fun hc => ?_) (fun hc => ?_)
    · refine Ev.step (fun k => by rw [spec_l2Plan.j1]) (Ev.no (by decide) (Ev.const ?_))
      rw [decide_eq_false (by omega : ¬ l.length ≤ 12), decide_eq_false (by omega : ¬ (l.length : Int) ≤ 12)]
      rfl
    · refine Ev.step (fun k => by rw [spec_l2Plan.j1]) (Ev.no (by decide) (Ev.const ?_))
      rw [decide_eq_false (by omega : ¬ l.length ≤ 12), decide_eq_false (by omega : ¬ (l.length : Int) ≤ 12)]
      rfl
  | succ m ih =>
    intro i hm h13 hi
    refine Ev.step (fun k => by rw [spec_l2Plan.l0]) ?_
    by_cases hlt : i < l.length
    · refine Ev.yes (by omega) ?_
      rw [decide_eq_true (by omega : (i : Int) ≤ 12)]
      refine Ev.step (fun k => by rw [spec_l2Plan.j1]) (Ev.yes rfl (Ev.yes (by omega) (Ev.yes (by omega) (Ev.bind (sset_ev g0 g1 g2 g3 _) ?_))))
      rw [rd_drop l i hlt, List.all_cons]
      by_cases hc : setN g0 g1 g2 g3 (rd l (i : Int)) = true
      · refine Ev.yes hc ?_
        rw [wrap_in (by omega) (by omega), hc]
        exact Ev.to (ih (i + 1) (by omega) (by omega) (by omega)) (by simp)
      · have hf : setN g0 g1 g2 g3 (rd l (i : Int)) = false := by simpa using hc
        exact Ev.no hc (Ev.const (by rw [hf]; simp))
    · refine Ev.no (by omega) (Ev.step (fun k => by rw [spec_l2Plan.j1]) (Ev.no (by decide) (Ev.const ?_)))
      rw [List.drop_of_length_le (by omega)]
      by_cases h : l.length ≤ 12
      · rw [decide_eq_true h, decide_eq_true (by omega : (l.length : Int) ≤ 12)]; rfl
      · rw [decide_eq_false h, decide_eq_false (by omega : ¬ (l.length : Int) ≤ 12)]; rfl
theorem splan_ev (g0 g1 g2 g3 : Int) (l : List Int) (hl : l.length ≤ 2000000) : Ev (fun k => spec_l2Plan.f k g0 g1 g2 g3 l) (planN g0 g1 g2 g3 l) := splan_l g0 g1 g2 g3 l hl 13 0 rfl (by omega) (by omega)
/-- A glass's numeral, where its bit stands. -/
def bt1 (x g : Int) : ByteArray := if Go.bits .and .i64 (shr .i64 x g) 1 = 1 then numB g else ⟨#[]⟩
theorem app_nil (s : ByteArray) : s ++ (⟨#[]⟩ : ByteArray) = s := ba_ext (by rw [data_append]; simp)
theorem nil_app (s : ByteArray) : (⟨#[]⟩ : ByteArray) ++ s = s := ba_ext (by rw [data_append]; simp)
theorem app_assoc (a b c : ByteArray) : a ++ b ++ c = a ++ (b ++ c) := ba_ext (by simp only [data_append, List.append_assoc])
theorem bt1_size (x g : Int) (h0 : 0 ≤ g) (h1 : g ≤ 10) : (bt1 x g).size ≤ 21 := by
  unfold bt1
  split
  · exact numB_len g (by omega) (by omega)
  · decide
/-- The glasses of a set. -/
def txt (x : Int) : ByteArray := bt1 x 0 ++ (bt1 x 1 ++ (bt1 x 2 ++ bt1 x 3))
/-- A set's text. -/
def setT (x : Int) : ByteArray := if (txt x).toList = [] then ⟨#[45]⟩ else txt x
theorem txt_size (x : Int) : (txt x).size ≤ 84 := by
  have h0 := bt1_size x 0 (by omega) (by omega)
  have h1 := bt1_size x 1 (by omega) (by omega)
  have h2 := bt1_size x 2 (by omega) (by omega)
  have h3 := bt1_size x 3 (by omega) (by omega)
  unfold txt
  simp only [ByteArray.size_append]
  omega
theorem setT_size (x : Int) : (setT x).size ≤ 85 := by
  unfold setT
  split
  · decide
  · have := txt_size x; omega
theorem itext_step (x : Int) (s r : ByteArray) (g : Nat) (hg : g < 4) (hs : s.size ≤ 100000) (h : Ev (fun k => impl_setText.l0 k x (s ++ bt1 x (g : Int)) ((g : Int) + 1)) r) : Ev (fun k => impl_setText.l0 k x s (g : Int)) r := by
  refine Ev.step (fun k => by rw [impl_setText.l0]) (Ev.yes (by omega) (Ev.yes (by omega) ?_))
  rw [wrap_in (n := (g : Int) + 1) (by omega) (by omega)]
  unfold bt1 at h
  by_cases hb : Go.bits .and .i64 (shr .i64 x (g : Int)) 1 = 1
  · rw [if_pos hb] at h
    have hn := numB_len (g : Int) (by omega) (by omega)
    exact Ev.yes hb (Ev.bind0 (itoa_ev (g : Int) (by omega) (by omega)) (Ev.yes (by omega) h))
  · rw [if_neg hb, app_nil] at h
    exact Ev.no hb h
theorem itext_ev (x : Int) : Ev (fun k => impl_setText.f k x) (setT x) := by
  have h0 := bt1_size x 0 (by omega) (by omega)
  have h1 := bt1_size x 1 (by omega) (by omega)
  have h2 := bt1_size x 2 (by omega) (by omega)
  refine itext_step x _ _ 0 (by omega) (by decide) (itext_step x _ _ 1 (by omega) (by simp only [ByteArray.size_append]; show (0 : Nat) + (bt1 x 0).size ≤ 100000; omega) (itext_step x _ _ 2 (by omega) (by simp only [ByteArray.size_append]; show (0 : Nat) + (bt1 x 0).size + (bt1 x 1).size ≤ 100000; omega) (itext_step x _ _ 3 (by omega) (by simp only [ByteArray.size_append]; show (0 : Nat) + (bt1 x 0).size + (bt1 x 1).size + (bt1 x 2).size ≤ 100000; omega) ?_)))
  have he : ((((⟨#[]⟩ : ByteArray) ++ bt1 x ((0 : Nat) : Int)) ++ bt1 x ((1 : Nat) : Int)) ++ bt1 x ((2 : Nat) : Int)) ++ bt1 x ((3 : Nat) : Int) = txt x := by
    rw [nil_app, app_assoc, app_assoc]
    rfl
  rw [he]
  refine Ev.step (fun k => by rw [impl_setText.l0]) (Ev.no (by decide) ?_)
  unfold setT
  split
  · exact Ev.const rfl
  · exact Ev.const rfl
theorem stext_step (l : List Int) (s r : ByteArray) (i : Nat) (hi : i < l.length) (g : Nat) (hg : g < 4) (hs : s.size ≤ 100000) (h : Ev (fun k => spec_l10Text.l1 k l (s ++ bt1 (rd l (i : Int)) (g : Int)) (i : Int) ((g : Int) + 1)) r) : Ev (fun k => spec_l10Text.l1 k l s (i : Int) (g : Int)) r := by
  refine Ev.step (fun k => by rw [spec_l10Text.l1]) (Ev.yes (by omega) (Ev.yes (by omega) (Ev.yes (by omega) (Ev.yes (by omega) ?_))))
  rw [wrap_in (n := (g : Int) + 1) (by omega) (by omega)]
  unfold bt1 at h
  by_cases hb : Go.bits .and .i64 (shr .i64 (rd l (i : Int)) (g : Int)) 1 = 1
  · rw [if_pos hb] at h
    have hn := numB_len (g : Int) (by omega) (by omega)
    exact Ev.yes hb (Ev.bind0 (num_ev (g : Int) (by omega) (by omega)) (Ev.yes (by omega) h))
  · rw [if_neg hb, app_nil] at h
    exact Ev.no hb h
theorem stext_one (l : List Int) (hl : l.length ≤ 12) (s r : ByteArray) (i : Nat) (hi : i < l.length) (hs : s.size ≤ 50000) (h : Ev (fun k => spec_l10Text.l0 k l (s ++ txt (rd l (i : Int))) ((i : Int) + 1)) r) : Ev (fun k => spec_l10Text.l1 k l s (i : Int) 0) r := by
  have h0 := bt1_size (rd l (i : Int)) 0 (by omega) (by omega)
  have h1 := bt1_size (rd l (i : Int)) 1 (by omega) (by omega)
  have h2 := bt1_size (rd l (i : Int)) 2 (by omega) (by omega)
  refine stext_step l _ _ i hi 0 (by omega) (by omega) (stext_step l _ _ i hi 1 (by omega) (by simp only [ByteArray.size_append]; show s.size + (bt1 (rd l (i : Int)) 0).size ≤ _; omega) (stext_step l _ _ i hi 2 (by omega) (by simp only [ByteArray.size_append]; show s.size + (bt1 (rd l (i : Int)) 0).size + (bt1 (rd l (i : Int)) 1).size ≤ _; omega) (stext_step l _ _ i hi 3 (by omega) (by simp only [ByteArray.size_append]; show s.size + (bt1 (rd l (i : Int)) 0).size + (bt1 (rd l (i : Int)) 1).size + (bt1 (rd l (i : Int)) 2).size ≤ _; omega) ?_)))
  have he : (((s ++ bt1 (rd l (i : Int)) ((0 : Nat) : Int)) ++ bt1 (rd l (i : Int)) ((1 : Nat) : Int)) ++ bt1 (rd l (i : Int)) ((2 : Nat) : Int)) ++ bt1 (rd l (i : Int)) ((3 : Nat) : Int) = s ++ txt (rd l (i : Int)) := by
    rw [app_assoc, app_assoc, app_assoc]
    rfl
  rw [he]
  refine Ev.step (fun k => by rw [spec_l10Text.l1]) (Ev.no (by decide) ?_)
  rw [wrap_in (by omega) (by omega)]
  exact h
theorem bits_of (x : Int) (h0 : 0 < x) (h1 : x ≤ 15) : ∃ g : Int, (g = 0 ∨ g = 1 ∨ g = 2 ∨ g = 3) ∧ Go.bits .and .i64 (shr .i64 x g) 1 = 1 := by
  have h : x = 1 ∨ x = 2 ∨ x = 3 ∨ x = 4 ∨ x = 5 ∨ x = 6 ∨ x = 7 ∨ x = 8 ∨ x = 9 ∨ x = 10 ∨ x = 11 ∨ x = 12 ∨ x = 13 ∨ x = 14 ∨ x = 15 := by omega
  rcases h with rfl | rfl | rfl | rfl | rfl | rfl | rfl | rfl | rfl | rfl | rfl | rfl | rfl | rfl | rfl
  all_goals first
    | exact ⟨0, .inl rfl, by decide⟩
    | exact ⟨1, .inr (.inl rfl), by decide⟩
    | exact ⟨2, .inr (.inr (.inl rfl)), by decide⟩
    | exact ⟨3, .inr (.inr (.inr rfl)), by decide⟩
theorem bt1_pos {x g : Int} (h : Go.bits .and .i64 (shr .i64 x g) 1 = 1) (h0 : 0 ≤ g) (h3 : g ≤ 9) : 0 < (bt1 x g).size := by
  unfold bt1
  rw [if_pos h]
  unfold numB
  rw [Giv.itoa_small g h0 (by omega)]
  exact Nat.zero_lt_one
theorem txt_pos (x : Int) (h0 : 0 < x) (h1 : x ≤ 15) : (txt x).toList ≠ [] := by
  obtain ⟨g, hg, hb⟩ := bits_of x h0 h1
  have hp := bt1_pos hb (by omega) (by omega)
  intro he
  have hz : (txt x).size = 0 := by rw [toList_eq] at he; exact size_zero.1 he
  unfold txt at hz
  simp only [ByteArray.size_append] at hz
  rcases hg with rfl | rfl | rfl | rfl <;> omega
theorem txt_zero : txt 0 = (⟨#[]⟩ : ByteArray) := by
  unfold txt bt1
  rw [if_neg (by decide), if_neg (by decide), if_neg (by decide), if_neg (by decide)]
  rfl
theorem piece (x : Int) (h0 : 0 ≤ x) (h1 : x ≤ 15) (s : ByteArray) : (if x = 0 then s ++ (⟨#[45]⟩ : ByteArray) else s) ++ txt x = s ++ setT x := by
  by_cases hx : x = 0
  · subst hx
    rw [if_pos rfl, txt_zero, app_nil]
    unfold setT
    rw [txt_zero, if_pos (by rw [toList_eq])]
  · rw [if_neg hx]
    unfold setT
    rw [if_neg (txt_pos x (by omega) h1)]
/-- What stands behind the first word. -/
def tailB (l : List Int) : ByteArray := ⟨(Lib.joinTail [32] (l.map fun x => (setT x).data.toList)).toArray⟩
theorem tailB_nil : tailB [] = (⟨#[]⟩ : ByteArray) := rfl
theorem tailB_cons (x : Int) (l : List Int) : tailB (x :: l) = (⟨#[32]⟩ : ByteArray) ++ (setT x ++ tailB l) := by
  apply ba_ext
  simp only [data_append]
  simp [tailB, Lib.joinTail]
theorem stext_word (l : List Int) (hl : l.length ≤ 12) (hx : ∀ x ∈ l, 0 ≤ x ∧ x ≤ 15) (s r : ByteArray) (i : Nat) (hi : i < l.length) (hs : s.size ≤ 40000) (h : Ev (fun k => spec_l10Text.l0 k l (s ++ setT (rd l (i : Int))) ((i : Int) + 1)) r) : Ev (fun k => spec_l10Text.j1 k l s (i : Int)) r := by
  have hm : rd l (i : Int) ∈ l := by
    have := rd_drop l i hi
    exact List.mem_of_mem_drop (i := i) (this ▸ List.mem_cons_self)
  have hb := hx _ hm
  rw [← piece _ hb.1 hb.2 s] at h
  refine Ev.step (fun k => by rw [spec_l10Text.j1]) (Ev.yes (by omega) (Ev.yes (by omega) ?_))
  by_cases h0 : rd l (i : Int) = 0
  · rw [if_pos h0] at h
    refine Ev.yes h0 (Ev.yes (by omega) (Ev.step (fun k => by rw [spec_l10Text.j2]) (stext_one l hl _ _ i hi ?_ h)))
    rw [ByteArray.size_append]
    show s.size + 1 ≤ _
    omega
  · rw [if_neg h0] at h
    exact Ev.no h0 (Ev.step (fun k => by rw [spec_l10Text.j2]) (stext_one l hl _ _ i hi (by omega) h))
theorem stext_l (l : List Int) (hl : l.length ≤ 12) (hx : ∀ x ∈ l, 0 ≤ x ∧ x ≤ 15) (m : Nat) : ∀ (i : Nat) (s : ByteArray), l.length - i = m → 0 < i → i ≤ l.length → s.size ≤ i * 100 → Ev (fun k => spec_l10Text.l0 k l s (i : Int)) (s ++ tailB (l.drop i)) := by
  induction m with
  | zero =>
    intro i s hm h0 hi hs
    refine Ev.step (fun k => by rw [spec_l10Text.l0]) (Ev.no (by omega) (Ev.const ?_))
    rw [List.drop_of_length_le (by omega), tailB_nil, app_nil]
  | succ m ih =>
    intro i s hm h0 hi hs
    have hw := setT_size (rd l (i : Int))
    refine Ev.step (fun k => by rw [spec_l10Text.l0]) (Ev.yes (by omega) (Ev.yes (by omega) (Ev.yes (by omega) ?_)))
    have h1 : (s ++ (⟨#[32]⟩ : ByteArray)).size = s.size + 1 := by rw [ByteArray.size_append]; rfl
    refine stext_word l hl hx _ _ i (by omega) (by omega) ?_
    have h2 := ih (i + 1) (s ++ (⟨#[32]⟩ : ByteArray) ++ setT (rd l (i : Int))) (by omega) (by omega) (by omega) (by rw [ByteArray.size_append]; omega)
    rw [rd_drop l i (by omega), tailB_cons]
    exact Ev.to (by exact_mod_cast h2) (by simp only [app_assoc])
/-- A plan's text. -/
def planT : List Int → ByteArray
  | [] => ⟨#[]⟩
  | x :: r => setT x ++ tailB r
theorem stext_ev (l : List Int) (hl : l.length ≤ 12) (hx : ∀ x ∈ l, 0 ≤ x ∧ x ≤ 15) : Ev (fun k => spec_l10Text.f k l) (planT l) := by
  unfold spec_l10Text.f
  cases l with
  | nil =>
    refine Ev.step (fun k => by rw [spec_l10Text.l0]) ?_
    exact Ev.no (by simp) (Ev.const rfl)
  | cons x r =>
    have hw := setT_size x
    refine Ev.step (fun k => by rw [spec_l10Text.l0]) (Ev.yes (by simp) (Ev.no (by decide) ?_))
    refine stext_word (x :: r) hl hx _ _ 0 (by simp) (by decide) ?_
    have h2 := stext_l (x :: r) hl hx r.length 1 ((⟨#[]⟩ : ByteArray) ++ setT x) (by simp) (by omega) (by simp) (by rw [nil_app]; omega)
    exact Ev.to h2 (by rw [nil_app]; rfl)
theorem iplanT_l (l : List Int) (hl : l.length ≤ 12) (m : Nat) : ∀ (i : Nat) (ws : List ByteArray), l.length - i = m → i ≤ l.length → ws = (l.take i).map setT →
    Ev (fun k => impl_planText.l0 k ws l (l.length : Int) (i : Int)) (⟨(Lib.join ((l.map setT).map (·.data.toList)) [32]).toArray⟩ : ByteArray) := by
  induction m with
  | zero =>
    intro i ws hm hi hws
    have hT : ws = l.map setT := by rw [hws, List.take_of_length_le (by omega)]
    refine Ev.step (fun k => by rw [impl_planText.l0]) (Ev.no (by omega) (Ev.bind0 (a := (⟨(Lib.join ((l.map setT).map (·.data.toList)) [32]).toArray⟩ : ByteArray)) ?_ (Ev.const rfl)))
    unfold strings_Join.f Giv.strings_Join.f
    rw [hT]
    refine if_pos ⟨by simp; omega, ?_⟩
    have hj : ∀ xs : List ByteArray, (∀ y ∈ xs, y.size ≤ 85) → (Lib.join (xs.map (·.data.toList)) [32]).length ≤ 86 * xs.length := by
      intro xs hxs
      have ht : ∀ ys : List ByteArray, (∀ y ∈ ys, y.size ≤ 85) → (Lib.joinTail [32] (ys.map (·.data.toList))).length ≤ 86 * ys.length := by
        intro ys
        induction ys with
        | nil => intro _; simp [Lib.joinTail]
        | cons y r ih2 =>
          intro hy
          have h1 := ih2 (fun z hz => hy z (List.mem_cons_of_mem _ hz))
          have h2 := hy y List.mem_cons_self
          have h3 := size_list y
          simp only [Lib.joinTail, List.map_cons, List.flatten_cons, List.length_append, List.length_cons, List.length_nil] at h1 ⊢
          omega
      cases xs with
      | nil => simp [Lib.join_nil]
      | cons y r =>
        have h1 := ht r (fun z hz => hxs z (List.mem_cons_of_mem _ hz))
        have h2 := hxs y List.mem_cons_self
        have h3 := size_list y
        rw [List.map_cons, Lib.join_cons, List.length_append]
        simp only [List.length_cons]
        omega
    have := hj (l.map setT) (by intro y hy; obtain ⟨x, _, rfl⟩ := List.mem_map.1 hy; exact setT_size x)
    rw [List.length_map] at this
    exact Nat.le_trans this (by omega)
  | succ m ih =>
    intro i ws hm hi hws
    have hlw : ws.length = i := by rw [hws]; simp; omega
    refine Ev.step (fun k => by rw [impl_planText.l0]) (Ev.yes (by omega) (Ev.yes (by omega) (Ev.yes (by omega) (Ev.bind (itext_ev _) (Ev.yes (show ws.length < 8796093022208 by omega) ?_)))))
    rw [wrap_in (by omega) (by omega)]
    have h2 := ih (i + 1) (ws ++ [setT (rd l (i : Int))]) (by omega) (by omega) (by
      have hd := rd_drop l i (by omega)
      rw [hws, List.take_succ_eq_append_getElem (by omega), List.map_append]
      congr 2
      rw [List.drop_eq_getElem_cons (by omega)] at hd
      exact congrArg setT (List.cons.inj hd).1.symm)
    exact_mod_cast h2
theorem join_planT (l : List Int) : (⟨(Lib.join ((l.map setT).map (·.data.toList)) [32]).toArray⟩ : ByteArray) = planT l := by
  cases l with
  | nil => rfl
  | cons x r =>
    apply ba_ext
    show (Lib.join _ [32]) = _
    rw [List.map_cons, List.map_cons, Lib.join_cons]
    show _ = (setT x ++ tailB r).data.toList
    rw [data_append]
    simp [tailB, List.map_map, Function.comp_def]
theorem iplanT_ev (l : List Int) (hl : l.length ≤ 12) : Ev (fun k => impl_planText.f k l) (planT l) := Ev.to (iplanT_l l hl l.length 0 [] (by omega) (by omega) rfl) (join_planT l)
theorem planN_in {g0 g1 g2 g3 : Int} {l : List Int} (h : planN g0 g1 g2 g3 l = true) : l.length ≤ 12 ∧ ∀ x ∈ l, 0 ≤ x ∧ x ≤ 15 := by
  unfold planN at h
  rw [Bool.and_eq_true, List.all_eq_true] at h
  exact ⟨of_decide_eq_true h.1, fun x hx => setN_in (h.2 x hx)⟩
theorem eqInts_l (l : List Int) (hl : l.length ≤ 1048576) (m : Nat) : ∀ i : Nat, l.length - i = m → Ev (fun k => laws_eqIntS.l0 k l l (i : Int)) true := by
  induction m with
  | zero => intro i hm; exact Ev.step (fun k => by rw [laws_eqIntS.l0]) (Ev.no (by omega) (Ev.const rfl))
  | succ m ih =>
    intro i hm
    refine Ev.step (fun k => by rw [laws_eqIntS.l0]) (Ev.yes (by omega) (Ev.yes (by omega) (Ev.yes (by omega) (Ev.yes rfl ?_))))
    rw [wrap_in (by omega) (by omega)]
    exact_mod_cast ih (i + 1) (by omega)
theorem eqInts_ev (l : List Int) (hl : l.length ≤ 1048576) : Ev (fun k => laws_eqIntS.f k l l) true := Ev.yes rfl (eqInts_l l hl _ 0 rfl)
theorem indexB_one (s : ByteArray) (c : UInt8) : Lib.indexB s ⟨#[c]⟩ = Lib.indexByte s.data.toList c := Lib.index_one s.data.toList c
theorem splitB_is (k : Nat) : ∀ s : ByteArray, Lib.countB s ⟨#[32]⟩ = k → Lib.splitB ⟨#[32]⟩ 0 k s = (splitL 32 s.data.toList).map BA := by
  induction k with
  | zero =>
    intro s hk
    rcases first_of 32 (by omega) s.data.toList with h | ⟨a, b, he, ha⟩
    · rw [Lib.splitB_zero, splitL_none h, List.map_cons, List.map_nil, BA_eta]
    · exfalso
      have hi : Lib.indexB s ⟨#[32]⟩ = (a.length : Int) := by rw [indexB_one, he]; exact index_some (x := 32) ha
      have := Lib.countB_hit s ⟨#[32]⟩ a.length (by decide) hi
      omega
  | succ k ih =>
    intro s hk
    rcases first_of 32 (by omega) s.data.toList with h | ⟨a, b, he, ha⟩
    · have hi : Lib.indexB s ⟨#[32]⟩ = -1 := by rw [indexB_one]; exact index_none (x := 32) h
      rw [Lib.splitB_miss _ _ _ _ hi, splitL_none h, List.map_cons, List.map_nil, BA_eta]
    · have hi : Lib.indexB s ⟨#[32]⟩ = (a.length : Int) := by rw [indexB_one, he]; exact index_some (x := 32) ha
      have hc := Lib.countB_hit s ⟨#[32]⟩ a.length (by decide) hi
      have hd : (s.extract (a.length + (⟨#[32]⟩ : ByteArray).size) s.size).data.toList = b := by
        rw [ext_list, he]
        have hs : s.size = (a ++ UInt8.ofNat 32 :: b).length := by rw [← he, size_list]
        rw [List.take_of_length_le (by omega)]
        show List.drop (a.length + 1) (a ++ UInt8.ofNat 32 :: b) = b
        rw [← List.drop_drop, List.drop_left]
        rfl
      have hf : s.extract 0 (a.length + 0) = BA a := by
        rw [ext_BA, he]
        simp
      rw [Lib.splitB_hit _ _ _ _ _ hi, ih _ (by omega), hd, he, splitL_some (by decide) ha, List.map_cons, hf]
theorem isplit_ev (s : ByteArray) (hs : s.size ≤ 1048576) : GivP.strings_Split.f s ⟨#[32]⟩ = some ((splitL 32 s.data.toList).map BA) := by
  unfold GivP.strings_Split.f
  rw [if_pos ⟨by omega, rfl⟩, splitB_is _ s rfl]
/-- The set that a word's digits tell. -/
def wset : List UInt8 → Int → Int
  | [], s => s
  | c :: r, s => wset r (if 48 ≤ c.toNat ∧ c.toNat ≤ 51 then Go.bits .or .i64 s (shl .i64 1 (((c.toNat : Int) - 48) % 256)) else s)
theorem sword_l (s w : ByteArray) (plan : List Int) (ws : List ByteArray) (i : Nat) (hi : i < ws.length) (hw : rdOf ByteArray.empty ws (i : Int) = w) (hi2 : ws.length ≤ 2000000) (hw2 : w.size ≤ 1048576) (hp : plan.length ≤ 2000000) (g0 g1 g2 g3 : Int) (r : List Int × Bool) (m : Nat) :
    ∀ (j : Nat) (set : Int), w.size - j = m → j ≤ w.size → Ev (fun k => spec_ParsePlan.l0 k s (plan ++ [wset (w.data.toList.drop j) set]) ws ((i : Int) + 1) g0 g1 g2 g3) r → Ev (fun k => spec_ParsePlan.l1 k s plan ws (i : Int) set (j : Int) g0 g1 g2 g3) r := by
  induction m with
  | zero =>
    intro j set hm hj h
    rw [List.drop_of_length_le (by rw [size_list]; omega)] at h
    refine Ev.step (fun k => by rw [spec_ParsePlan.l1]) (Ev.yes (by omega) (Ev.yes (by omega) ?_))
    rw [hw]
    refine Ev.no (by omega) (Ev.yes (show plan.length < 17592186044416 by omega) ?_)
    rw [wrap_in (by omega) (by omega)]
    exact h
  | succ m ih =>
    intro j set hm hj h
    obtain ⟨c, hd, hb⟩ := bt_drop w j (by omega)
    have hc := u8_lt c
    rw [hd] at h
    refine Ev.step (fun k => by rw [spec_ParsePlan.l1]) (Ev.yes (by omega) (Ev.yes (by omega) ?_))
    rw [hw]
    refine Ev.yes (by omega) (Ev.yes (by omega) ?_)
    rw [hb, wrap_in (n := (j : Int) + 1) (by omega) (by omega)]
    unfold wset at h
    by_cases h1 : 48 ≤ c.toNat
    · refine Ev.yes (show (c.toNat : Int) ≥ 48 by omega) ?_
      by_cases h2 : c.toNat ≤ 51
      · rw [if_pos ⟨h1, h2⟩] at h
        exact Ev.yes (show (c.toNat : Int) < 52 by omega) (ih (j + 1) _ (by omega) (by omega) h)
      · rw [if_neg (fun hh => h2 hh.2)] at h
        exact Ev.no (show ¬ (c.toNat : Int) < 52 by omega) (ih (j + 1) _ (by omega) (by omega) h)
    · rw [if_neg (fun hh => h1 hh.1)] at h
      exact Ev.no (show ¬ (c.toNat : Int) ≥ 48 by omega) (ih (j + 1) _ (by omega) (by omega) h)
theorem iword_l (s w : ByteArray) (plan : List Int) (ws : List ByteArray) (i : Nat) (hi2 : ws.length ≤ 2000000) (hi : i < ws.length) (hw2 : w.size ≤ 1048576) (hp : plan.length ≤ 2000000) (g0 g1 g2 g3 : Int) (r : List Int × Bool) (m : Nat) :
    ∀ (j : Nat) (set : Int), w.size - j = m → j ≤ w.size → Ev (fun k => impl_ParsePlan.l0 k s (plan ++ [wset (w.data.toList.drop j) set]) ws (ws.length : Int) ((i : Int) + 1) g0 g1 g2 g3) r → Ev (fun k => impl_ParsePlan.l1 k s plan w set ws (ws.length : Int) (i : Int) (w.size : Int) (j : Int) g0 g1 g2 g3) r := by
  induction m with
  | zero =>
    intro j set hm hj h
    rw [List.drop_of_length_le (by rw [size_list]; omega)] at h
    refine Ev.step (fun k => by rw [impl_ParsePlan.l1]) (Ev.no (by omega) (Ev.yes (show plan.length < 17592186044416 by omega) ?_))
    rw [wrap_in (by omega) (by omega)]
    exact h
  | succ m ih =>
    intro j set hm hj h
    obtain ⟨c, hd, hb⟩ := bt_drop w j (by omega)
    have hc := u8_lt c
    rw [hd] at h
    refine Ev.step (fun k => by rw [impl_ParsePlan.l1]) (Ev.yes (by omega) (Ev.yes (by omega) (Ev.yes (by omega) ?_)))
    rw [hb, wrap_in (n := (j : Int) + 1) (by omega) (by omega), wrap_in (n := (c.toNat : Int)) (by omega) (by omega)]
    refine Ev.bind0 (within_ev _ _ _) ?_
    unfold wset at h
    by_cases h1 : 48 ≤ c.toNat ∧ c.toNat ≤ 51
    · rw [if_pos h1] at h
      exact Ev.yes (by simp; omega) (ih (j + 1) _ (by omega) (by omega) h)
    · rw [if_neg h1] at h
      exact Ev.no (by simp; omega) (ih (j + 1) _ (by omega) (by omega) h)
/-- What a parsed list of sets gives. -/
def endB (g0 g1 g2 g3 : Int) (s : ByteArray) (pl : List Int) : List Int × Bool := if planN g0 g1 g2 g3 pl = true then (if (planT pl).toList = s.toList then (pl, true) else ([], false)) else ([], false)
theorem rdOf_drop (ws : List ByteArray) (i : Nat) (h : i < ws.length) : ws.drop i = rdOf ByteArray.empty ws (i : Int) :: ws.drop (i + 1) := by
  rw [List.drop_eq_getElem_cons h]
  congr 1
  unfold rdOf
  rw [Int.toNat_natCast, List.getD_eq_getElem?_getD, List.getElem?_eq_getElem h]
  rfl
theorem swords_l (s : ByteArray) (ws : List ByteArray) (hws : ws.length ≤ 1100000) (hw : ∀ w ∈ ws, w.size ≤ 1048576) (g0 g1 g2 g3 : Int) (m : Nat) :
    ∀ (i : Nat) (plan : List Int), ws.length - i = m → i ≤ ws.length → plan.length = i →
      Ev (fun k => spec_ParsePlan.l0 k s plan ws (i : Int) g0 g1 g2 g3) (endB g0 g1 g2 g3 s (plan ++ (ws.drop i).map fun w => wset w.data.toList 0)) := by
  induction m with
  | zero =>
    intro i plan hm hi hp
    rw [List.drop_of_length_le (by omega), List.map_nil, List.append_nil]
    refine Ev.step (fun k => by rw [spec_ParsePlan.l0]) (Ev.no (by omega) (Ev.bind (splan_ev g0 g1 g2 g3 plan (by omega)) ?_))
    unfold endB
    split
    · rename_i h
      refine Ev.bind (stext_ev plan (planN_in h).1 (planN_in h).2) ?_
      split
      · exact Ev.const rfl
      · exact Ev.const rfl
    · exact Ev.const rfl
  | succ m ih =>
    intro i plan hm hi hp
    have hd := rdOf_drop ws i (by omega)
    have hmem : rdOf ByteArray.empty ws (i : Int) ∈ ws := List.mem_of_mem_drop (i := i) (hd ▸ List.mem_cons_self)
    refine Ev.step (fun k => by rw [spec_ParsePlan.l0]) (Ev.yes (by omega) ?_)
    refine sword_l s _ plan ws i (by omega) rfl (by omega) (hw _ hmem) (by omega) g0 g1 g2 g3 _ _ 0 0 rfl (by omega) ?_
    have h2 := ih (i + 1) (plan ++ [wset ((rdOf ByteArray.empty ws (i : Int)).data.toList.drop 0) 0]) (by omega) (by omega) (by simp; omega)
    rw [hd, List.map_cons]
    exact Ev.to (by exact_mod_cast h2) (by simp)
/-- What marks leave. -/
def markI : List Int → Int → List Int
  | [], _ => []
  | _ :: r, a => a :: markI r (a + 1)
theorem rd_at (d : List Int) (e : Int) (r : List Int) : rd (d ++ e :: r) (d.length : Int) = e := by unfold rd; simp
theorem set_at (d : List Int) (e e' : Int) (r : List Int) : (d ++ e :: r).set ((d.length : Int)).toNat e' = d ++ e' :: r := by simp
theorem markI_l (rest : List Int) : ∀ (done : List Int) (a : Int), 0 ≤ a → a + rest.length < 10000000 → done.length + rest.length < 10000000 →
    Ev (fun k => laws_markIntS.l0 k (done ++ rest) a (done.length : Int)) (a + rest.length, done ++ markI rest a) := by
  induction rest with
  | nil =>
    intro done a h0 h1 h2
    refine Ev.step (fun k => by rw [laws_markIntS.l0]) ?_
    refine Ev.no (by simp) (Ev.const ?_)
    simp [markI]
  | cons e r ih =>
    intro done a h0 h1 h2
    have h1' : a + (r.length + 1 : Int) < 10000000 := by simpa using h1
    have h2' : done.length + (r.length + 1) < 10000000 := by simpa using h2
    refine Ev.step (fun k => by rw [laws_markIntS.l0]) ?_
    refine Ev.yes (by simp; omega) (Ev.yes (by omega) ?_)
    rw [set_at, wrap_in (n := a + 1) (by omega) (by omega), wrap_in (n := (done.length : Int) + 1) (by omega) (by omega)]
    have hi := ih (done ++ [a]) (a + 1) (by omega) (by omega) (by simp; omega)
    rw [List.append_assoc, List.append_assoc] at hi
    simp only [List.length_append, List.length_cons, List.length_nil, List.cons_append, List.nil_append] at hi
    refine Ev.to (by exact_mod_cast hi) ?_
    simp only [markI, List.length_cons, Prod.mk.injEq, and_true]
    omega
theorem markI_ev (l : List Int) (hl : l.length < 1000000) : Ev (fun k => laws_markIntS.f k l 1) (1 + (l.length : Int), markI l 1) := markI_l l [] 1 (by omega) (by omega) (by simp; omega)
theorem heldI_l (rest : List Int) : ∀ (done : List Int) (a : Int), 0 ≤ a → a + rest.length < 10000000 → done.length + rest.length < 10000000 →
    Ev (fun k => laws_heldIntS.l0 k (done ++ markI rest a) a (done.length : Int)) (a + rest.length) := by
  induction rest with
  | nil =>
    intro done a h0 h1 h2
    refine Ev.step (fun k => by rw [laws_heldIntS.l0]) ?_
    refine Ev.no (by simp [markI]) (Ev.const ?_)
    simp
  | cons e r ih =>
    intro done a h0 h1 h2
    have h1' : a + (r.length + 1 : Int) < 10000000 := by simpa using h1
    have h2' : done.length + (r.length + 1) < 10000000 := by simpa using h2
    show Ev (fun k => laws_heldIntS.l0 k (done ++ a :: markI r (a + 1)) a (done.length : Int)) _
    refine Ev.step (fun k => by rw [laws_heldIntS.l0]) ?_
    rw [rd_at]
    refine Ev.yes (by simp; omega) (Ev.yes (by omega) (Ev.yes rfl ?_))
    rw [wrap_in (n := a + 1) (by omega) (by omega), wrap_in (n := (done.length : Int) + 1) (by omega) (by omega)]
    have hi := ih (done ++ [a]) (a + 1) (by omega) (by omega) (by simp; omega)
    rw [List.append_assoc] at hi
    simp only [List.length_append, List.length_cons, List.length_nil, List.cons_append, List.nil_append] at hi
    refine Ev.to (by exact_mod_cast hi) ?_
    simp only [List.length_cons]
    omega
theorem heldI_ev (l : List Int) (hl : l.length < 1000000) : Ev (fun k => laws_heldIntS.f k (markI l 1) 1) (1 + (l.length : Int)) := heldI_l l [] 1 (by omega) (by omega) (by simp; omega)
theorem iend_ev (g0 g1 g2 g3 : Int) (s : ByteArray) (plan : List Int) : Ev (fun k => impl_ParsePlan.j2 k s plan g0 g1 g2 g3) (endB g0 g1 g2 g3 s plan) := by
  refine Ev.step (fun k => by rw [impl_ParsePlan.j2]) (Ev.bind (iplan_ev g0 g1 g2 g3 plan) ?_)
  unfold endB
  split
  · rename_i h
    refine Ev.bind (iplanT_ev plan (planN_in h).1) ?_
    split
    · exact Ev.const rfl
    · exact Ev.const rfl
  · exact Ev.const rfl
theorem iwords_l (s : ByteArray) (ws : List ByteArray) (hws : ws.length ≤ 1100000) (hw : ∀ w ∈ ws, w.size ≤ 1048576) (g0 g1 g2 g3 : Int) (m : Nat) :
    ∀ (i : Nat) (plan : List Int), ws.length - i = m → i ≤ ws.length → plan.length = i →
      Ev (fun k => impl_ParsePlan.l0 k s plan ws (ws.length : Int) (i : Int) g0 g1 g2 g3) (endB g0 g1 g2 g3 s (plan ++ (ws.drop i).map fun w => wset w.data.toList 0)) := by
  induction m with
  | zero =>
    intro i plan hm hi hp
    rw [List.drop_of_length_le (by omega), List.map_nil, List.append_nil]
    refine Ev.step (fun k => by rw [impl_ParsePlan.l0]) (Ev.no (by omega) ?_)
    exact iend_ev g0 g1 g2 g3 s plan
  | succ m ih =>
    intro i plan hm hi hp
    have hd := rdOf_drop ws i (by omega)
    have hmem : rdOf ByteArray.empty ws (i : Int) ∈ ws := List.mem_of_mem_drop (i := i) (hd ▸ List.mem_cons_self)
    refine Ev.step (fun k => by rw [impl_ParsePlan.l0]) (Ev.yes (by omega) (Ev.yes (by omega) (Ev.yes (by omega) ?_)))
    refine iword_l s _ plan ws i (by omega) (by omega) (hw _ hmem) (by omega) g0 g1 g2 g3 _ _ 0 0 rfl (by omega) ?_
    have h2 := ih (i + 1) (plan ++ [wset ((rdOf ByteArray.empty ws (i : Int)).data.toList.drop 0) 0]) (by omega) (by omega) (by simp; omega)
    rw [hd, List.map_cons]
    exact Ev.to (by exact_mod_cast h2) (by simp)
theorem pre_lenP (a : List UInt8) (l : List (List UInt8)) (h : l ≠ []) : (pre a l).length = l.length := by cases l with | nil => exact absurd rfl h | cons x r => rfl
theorem splitL_lenP (m : Nat) : ∀ l : List UInt8, (splitL m l).length ≤ l.length + 1
  | [] => by simp [splitL]
  | c :: r => by
    have ih := splitL_lenP m r
    unfold splitL
    split
    · simpa using ih
    · rw [pre_lenP _ _ (splitL_ne m r)]; simp only [List.length_cons]; omega
theorem pre_memP (a : List UInt8) (n : Nat) (l : List (List UInt8)) (h : ∀ x ∈ l, x.length ≤ n) : ∀ x ∈ pre a l, x.length ≤ a.length + n := by
  cases l with
  | nil => intro x hx; simp [pre] at hx; subst hx; omega
  | cons y r =>
    intro x hx
    rcases List.mem_cons.1 hx with rfl | hx
    · have := h y List.mem_cons_self
      rw [List.length_append]; omega
    · have := h x (List.mem_cons_of_mem _ hx); omega
theorem splitL_memP (m : Nat) : ∀ l : List UInt8, ∀ x ∈ splitL m l, x.length ≤ l.length
  | [] => by simp [splitL]
  | c :: r => by
    have ih := splitL_memP m r
    unfold splitL
    split
    · intro x hx
      rcases List.mem_cons.1 hx with rfl | hx
      · simp
      · have := ih x hx; simp only [List.length_cons]; omega
    · intro x hx
      have := pre_memP [c] r.length _ ih x hx
      simp only [List.length_cons, List.length_nil] at this ⊢; omega
def wordsB (s : ByteArray) : List ByteArray := (splitL 32 s.data.toList).map BA
theorem wordsB_len (s : ByteArray) (hs : s.size ≤ 1048576) : (wordsB s).length ≤ 1100000 := by
  have := splitL_lenP 32 s.data.toList
  rw [size_list] at this
  unfold wordsB
  rw [List.length_map]
  omega
theorem wordsB_mem (s : ByteArray) (hs : s.size ≤ 1048576) : ∀ w ∈ wordsB s, w.size ≤ 1048576 := by
  intro w hw
  obtain ⟨x, hx, rfl⟩ := List.mem_map.1 hw
  have := splitL_memP 32 s.data.toList x hx
  rw [size_list] at this
  rw [BA_size]
  omega
/-- The sets that a text tells. -/
def wordsN (s : ByteArray) : List Int := if s.toList = ([] : List UInt8) then [] else (wordsB s).map fun w => wset w.data.toList 0
/-- ParsePlan. -/
def parseB (g0 g1 g2 g3 : Int) (s : ByteArray) : List Int × Bool := if kitN g0 g1 g2 g3 = true then endB g0 g1 g2 g3 s (wordsN s) else ([], false)
theorem bt1_small (x g : Int) (h0 : 0 ≤ g) (h3 : g ≤ 9) : (bt1 x g).size ≤ 1 := by
  unfold bt1
  split
  · unfold numB
    rw [Giv.itoa_small g h0 (by omega)]
    exact Nat.le_refl 1
  · exact Nat.zero_le 1
theorem setT_small (x : Int) : (setT x).size ≤ 4 := by
  have h0 := bt1_small x 0 (by omega) (by omega)
  have h1 := bt1_small x 1 (by omega) (by omega)
  have h2 := bt1_small x 2 (by omega) (by omega)
  have h3 := bt1_small x 3 (by omega) (by omega)
  unfold setT
  split
  · decide
  · unfold txt
    simp only [ByteArray.size_append]
    omega
theorem tailB_small : ∀ l : List Int, (tailB l).size ≤ 5 * l.length
  | [] => by rw [tailB_nil]; decide
  | x :: r => by
    have := tailB_small r
    have := setT_small x
    rw [tailB_cons, ByteArray.size_append, ByteArray.size_append, List.length_cons]
    show 1 + _ ≤ _
    omega
theorem planT_small (l : List Int) (hl : l.length ≤ 12) : (planT l).size ≤ 60 := by
  cases l with
  | nil => decide
  | cons x r =>
    have := tailB_small r
    have := setT_small x
    simp only [List.length_cons] at hl
    show (setT x ++ tailB r).size ≤ 60
    rw [ByteArray.size_append]
    omega
theorem endB_long (g0 g1 g2 g3 : Int) (s : ByteArray) (pl : List Int) (h : 60 < s.size) : endB g0 g1 g2 g3 s pl = ([], false) := by
  unfold endB
  split
  · rename_i hp
    rw [if_neg]
    intro he
    have hs : planT pl = s := by rw [toList_eq, toList_eq] at he; exact ba_ext he
    have := planT_small pl (planN_in hp).1
    rw [hs] at this
    omega
  · rfl
theorem endB_nil (g0 g1 g2 g3 : Int) (s : ByteArray) (h : s.toList = ([] : List UInt8)) : endB g0 g1 g2 g3 s [] = ([], true) := by
  unfold endB
  rw [if_pos (by rfl), if_pos (by rw [h, toList_eq]; rfl)]
theorem sPP_ev (g0 g1 g2 g3 : Int) (s : ByteArray) (hs : s.size ≤ 1048576) : Ev (fun k => spec_ParsePlan.f k g0 g1 g2 g3 s) (parseB g0 g1 g2 g3 s) := by
  unfold spec_ParsePlan.f parseB
  refine Ev.bind (skit_ev g0 g1 g2 g3) ?_
  split
  · refine Ev.step (fun k => by rw [spec_ParsePlan.j0]) ?_
    by_cases hz : 60 < s.size
    · exact Ev.yes (by simp; omega) (Ev.const (by rw [endB_long _ _ _ _ _ _ hz]))
    · refine Ev.no (by simp; omega) (Ev.bind0 rfl ?_)
      unfold wordsN
      by_cases h0 : s.toList = ([] : List UInt8)
      · rw [if_pos h0, endB_nil _ _ _ _ _ h0]
        exact Ev.yes h0 (Ev.const rfl)
      · rw [if_neg h0]
        refine Ev.no h0 (Ev.bind (split_ev s 32 (by omega)) ?_)
        have := swords_l s (wordsB s) (wordsB_len s hs) (wordsB_mem s hs) g0 g1 g2 g3 _ 0 [] rfl (by omega) rfl
        simpa [wordsB] using this
  · refine Ev.step (fun k => by rw [spec_ParsePlan.j0]) ?_
    exact Ev.yes rfl (Ev.const rfl)
theorem iPP_ev (g0 g1 g2 g3 : Int) (s : ByteArray) (hs : s.size ≤ 1048576) : Ev (fun k => impl_ParsePlan.f k g0 g1 g2 g3 s) (parseB g0 g1 g2 g3 s) := by
  unfold impl_ParsePlan.f parseB
  refine Ev.bind (ikit_ev g0 g1 g2 g3) ?_
  split
  · refine Ev.bind0 rfl ?_
    unfold wordsN
    by_cases h0 : s.toList = ([] : List UInt8)
    · rw [if_pos h0]
      exact Ev.yes h0 (iend_ev g0 g1 g2 g3 s [])
    · rw [if_neg h0]
      refine Ev.no h0 (Ev.bind0 (isplit_ev s hs) ?_)
      have := iwords_l s (wordsB s) (wordsB_len s hs) (wordsB_mem s hs) g0 g1 g2 g3 _ 0 [] rfl (by omega) rfl
      simpa [wordsB] using this
  · exact Ev.const rfl
theorem parseB_len (g0 g1 g2 g3 : Int) (s : ByteArray) : (parseB g0 g1 g2 g3 s).1.length ≤ 12 := by
  unfold parseB endB
  split
  · split
    · rename_i h
      split
      · exact (planN_in h).1
      · simp
    · simp
  · simp
/-- FnExactParsePlan. -/
theorem FnExactParsePlan (g0 g1 g2 g3 : Int) (s : ByteArray) (_hb : s.size ≤ 140737488351232) : ∃ k, laws_FnExactParsePlan.f k g0 g1 g2 g3 s = some true := by
  refine Ev.rounds ?_
  unfold laws_FnExactParsePlan.f
  refine Ev.ite (fun _ => Ev.const rfl) fun hs0 => ?_
  have hs : s.size ≤ 1048576 := by omega
  have hl := parseB_len g0 g1 g2 g3 s
  have he := eqInts_ev (parseB g0 g1 g2 g3 s).1 (by omega)
  have hh := heldI_ev (parseB g0 g1 g2 g3 s).1 (by omega)
  refine Ev.bind (toKit_ev g0 g1 g2 g3) (Ev.bind (sPP_ev g0 g1 g2 g3 s hs) (Ev.bind (toKit_ev g0 g1 g2 g3) (Ev.bind (iPP_ev g0 g1 g2 g3 s hs) (Ev.bind he (Ev.yes rfl ?_)))))
  refine Ev.step (fun k => by rw [laws_FnExactParsePlan.j0]) (Ev.no (by simp) ?_)
  refine Ev.bind (markI_ev (parseB g0 g1 g2 g3 s).1 (by omega)) (Ev.bind hh (Ev.no (by omega) (Ev.yes rfl ?_)))
  refine Ev.bind (toKit_ev g0 g1 g2 g3) (Ev.bind (iPP_ev g0 g1 g2 g3 s hs) (Ev.bind he (Ev.yes rfl ?_)))
  refine Ev.step (fun k => by rw [laws_FnExactParsePlan.j1]) (Ev.no (by simp) ?_)
  exact Ev.bind hh (Ev.no (by omega) (Ev.yes rfl (Ev.const rfl)))
#print axioms FnExactParsePlan
end Go.Proofs.YtkgeffmmpgdkmaaDoor.Pure
