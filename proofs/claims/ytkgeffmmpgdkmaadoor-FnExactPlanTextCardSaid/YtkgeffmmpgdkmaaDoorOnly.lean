/- The statement FnExactPlanText over lists alone; no condition. -/
import Derived.Test.YtkgeffmmpgdkmaaDoorPlain
namespace Go.Proofs.YtkgeffmmpgdkmaaDoor.Pure
open Go.RowKit Go.Proofs.YtkgeffmmpgdkmaaDoorW.PrintWords Go.Proofs.YtkgeffmmpgdkmaaDoorW.PrintLast Go.Proofs.YtkgeffmmpgdkmaaDoor.Giv Go.Proofs.YtkgeffmmpgdkmaaDoor.B Go.Proofs.YtkgeffmmpgdkmaaDoor.Plain
theorem in_ev (x a b : Int) : spec_l1In.f x a b = some (decide (a ≤ x) && decide (x ≤ b)) := by
  unfold spec_l1In.f
  by_cases h : x ≥ a
  · rw [if_pos h]; simp [show a ≤ x from h]
  · rw [if_neg h]; simp [show ¬ a ≤ x from h]
theorem within_ev (x a b : Int) : impl_within.f x a b = some (decide (a ≤ x) && decide (x ≤ b)) := by
  unfold impl_within.f
  by_cases h : x ≥ a
  · rw [if_pos h]; simp [show a ≤ x from h]
  · rw [if_neg h]; simp [show ¬ a ≤ x from h]
/-- A number's text. -/
def numB (n : Int) : ByteArray := ⟨(Lib.itoa n).toArray⟩
theorem num_ev (n : Int) (h0 : -9223372036854775807 ≤ n) (h1 : n ≤ 9223372036854775807) : spec_l1Num.f n = some (numB n) := by unfold spec_l1Num.f; rw [if_pos ⟨h0, h1⟩]; rfl
theorem itoa_ev (n : Int) (h0 : -9223372036854775808 ≤ n) (h1 : n ≤ 9223372036854775807) : strconv_Itoa.f n = some (numB n) := by unfold strconv_Itoa.f; rw [if_pos ⟨h0, h1⟩]; rfl
theorem numB_len (n : Int) (h0 : -9223372036854775808 ≤ n) (h1 : n ≤ 9223372036854775807) : (numB n).size ≤ 21 := by
  have := itoa_len n h0 h1
  show (Lib.itoa n).toArray.size ≤ 21
  simpa using this
theorem data_append (a b : ByteArray) : (a ++ b).data.toList = a.data.toList ++ b.data.toList := by rw [ByteArray.data_append]; simp
def inB (x a b : Int) : Bool := decide (a ≤ x) && decide (x ≤ b)
def kitN (g0 g1 g2 g3 : Int) : Bool := if inB g0 0 30 = true then (if inB g1 0 30 = true then (if inB g2 0 30 = true then (if inB g3 0 30 = true then ((((false || decide (g0 > 0)) || decide (g1 > 0)) || decide (g2 > 0)) || decide (g3 > 0)) else false) else false) else false) else false
theorem skit_4 (s : Bool) (g0 g1 g2 g3 : Int) : Ev (fun k => spec_l2Kit.l0 k s 4 g0 g1 g2 g3) s := Ev.step (fun k => by rw [spec_l2Kit.l0]) (Ev.no (by decide) (Ev.const rfl))
theorem skit_3 (s : Bool) (g0 g1 g2 g3 : Int) {r : Bool → Bool} (h : ∀ s', Ev (fun k => spec_l2Kit.l0 k s' 4 g0 g1 g2 g3) (r s')) : Ev (fun k => spec_l2Kit.l0 k s 3 g0 g1 g2 g3) (if inB g3 0 30 = true then r (s || decide (g3 > 0)) else false) := by
  refine Ev.step (fun k => by rw [spec_l2Kit.l0]) (Ev.yes (by decide) (Ev.no (by decide) (Ev.no (by decide) (Ev.no (by decide) (Ev.yes rfl ?_)))))
  refine Ev.bind0 (in_ev g3 0 30) ?_
  by_cases hc : inB g3 0 30 = true
  · rw [if_pos hc]
    refine Ev.yes hc ?_
    cases s
    · exact Ev.no (by decide) (by simpa using h (decide (g3 > 0)))
    · exact Ev.yes rfl (by simpa using h true)
  · rw [if_neg hc]
    exact Ev.no hc (Ev.const rfl)
theorem skit_2 (s : Bool) (g0 g1 g2 g3 : Int) {r : Bool → Bool} (h : ∀ s', Ev (fun k => spec_l2Kit.l0 k s' 3 g0 g1 g2 g3) (r s')) : Ev (fun k => spec_l2Kit.l0 k s 2 g0 g1 g2 g3) (if inB g2 0 30 = true then r (s || decide (g2 > 0)) else false) := by
  refine Ev.step (fun k => by rw [spec_l2Kit.l0]) (Ev.yes (by decide) (Ev.no (by decide) (Ev.no (by decide) (Ev.yes rfl ?_))))
  refine Ev.bind0 (in_ev g2 0 30) ?_
  by_cases hc : inB g2 0 30 = true
  · rw [if_pos hc]
    refine Ev.yes hc ?_
    cases s
    · exact Ev.no (by decide) (by simpa using h (decide (g2 > 0)))
    · exact Ev.yes rfl (by simpa using h true)
  · rw [if_neg hc]
    exact Ev.no hc (Ev.const rfl)
theorem skit_1 (s : Bool) (g0 g1 g2 g3 : Int) {r : Bool → Bool} (h : ∀ s', Ev (fun k => spec_l2Kit.l0 k s' 2 g0 g1 g2 g3) (r s')) : Ev (fun k => spec_l2Kit.l0 k s 1 g0 g1 g2 g3) (if inB g1 0 30 = true then r (s || decide (g1 > 0)) else false) := by
  refine Ev.step (fun k => by rw [spec_l2Kit.l0]) (Ev.yes (by decide) (Ev.no (by decide) (Ev.yes rfl ?_)))
  refine Ev.bind0 (in_ev g1 0 30) ?_
  by_cases hc : inB g1 0 30 = true
  · rw [if_pos hc]
    refine Ev.yes hc ?_
    cases s
    · exact Ev.no (by decide) (by simpa using h (decide (g1 > 0)))
    · exact Ev.yes rfl (by simpa using h true)
  · rw [if_neg hc]
    exact Ev.no hc (Ev.const rfl)
theorem skit_0 (s : Bool) (g0 g1 g2 g3 : Int) {r : Bool → Bool} (h : ∀ s', Ev (fun k => spec_l2Kit.l0 k s' 1 g0 g1 g2 g3) (r s')) : Ev (fun k => spec_l2Kit.l0 k s 0 g0 g1 g2 g3) (if inB g0 0 30 = true then r (s || decide (g0 > 0)) else false) := by
  refine Ev.step (fun k => by rw [spec_l2Kit.l0]) (Ev.yes (by decide) (Ev.yes rfl ?_))
  refine Ev.bind0 (in_ev g0 0 30) ?_
  by_cases hc : inB g0 0 30 = true
  · rw [if_pos hc]
    refine Ev.yes hc ?_
    cases s
    · exact Ev.no (by decide) (by simpa using h (decide (g0 > 0)))
    · exact Ev.yes rfl (by simpa using h true)
  · rw [if_neg hc]
    exact Ev.no hc (Ev.const rfl)
theorem skit_ev (g0 g1 g2 g3 : Int) : Ev (fun k => spec_l2Kit.f k g0 g1 g2 g3) (kitN g0 g1 g2 g3) := skit_0 false g0 g1 g2 g3 (fun s' => skit_1 s' g0 g1 g2 g3 (fun s' => skit_2 s' g0 g1 g2 g3 (fun s' => skit_3 s' g0 g1 g2 g3 (fun s' => skit_4 s' g0 g1 g2 g3))))
theorem ikit_4 (s : Bool) (g0 g1 g2 g3 : Int) : Ev (fun k => impl_IsKit.l0 k s 4 g0 g1 g2 g3) s := Ev.step (fun k => by rw [impl_IsKit.l0]) (Ev.no (by decide) (Ev.const rfl))
theorem ikit_3 (s : Bool) (g0 g1 g2 g3 : Int) {r : Bool → Bool} (h : ∀ s', Ev (fun k => impl_IsKit.l0 k s' 4 g0 g1 g2 g3) (r s')) : Ev (fun k => impl_IsKit.l0 k s 3 g0 g1 g2 g3) (if inB g3 0 30 = true then r (s || decide (g3 > 0)) else false) := by
  refine Ev.step (fun k => by rw [impl_IsKit.l0]) (Ev.yes (by decide) (Ev.no (by decide) (Ev.no (by decide) (Ev.no (by decide) (Ev.yes rfl ?_)))))
  refine Ev.bind0 (within_ev g3 0 30) ?_
  by_cases hc : inB g3 0 30 = true
  · rw [if_pos hc]
    refine Ev.yes hc ?_
    cases s
    · exact Ev.no (by decide) (by simpa using h (decide (g3 > 0)))
    · exact Ev.yes rfl (by simpa using h true)
  · rw [if_neg hc]
    exact Ev.no hc (Ev.const rfl)
theorem ikit_2 (s : Bool) (g0 g1 g2 g3 : Int) {r : Bool → Bool} (h : ∀ s', Ev (fun k => impl_IsKit.l0 k s' 3 g0 g1 g2 g3) (r s')) : Ev (fun k => impl_IsKit.l0 k s 2 g0 g1 g2 g3) (if inB g2 0 30 = true then r (s || decide (g2 > 0)) else false) := by
  refine Ev.step (fun k => by rw [impl_IsKit.l0]) (Ev.yes (by decide) (Ev.no (by decide) (Ev.no (by decide) (Ev.yes rfl ?_))))
  refine Ev.bind0 (within_ev g2 0 30) ?_
  by_cases hc : inB g2 0 30 = true
  · rw [if_pos hc]
    refine Ev.yes hc ?_
    cases s
    · exact Ev.no (by decide) (by simpa using h (decide (g2 > 0)))
    · exact Ev.yes rfl (by simpa using h true)
  · rw [if_neg hc]
    exact Ev.no hc (Ev.const rfl)
theorem ikit_1 (s : Bool) (g0 g1 g2 g3 : Int) {r : Bool → Bool} (h : ∀ s', Ev (fun k => impl_IsKit.l0 k s' 2 g0 g1 g2 g3) (r s')) : Ev (fun k => impl_IsKit.l0 k s 1 g0 g1 g2 g3) (if inB g1 0 30 = true then r (s || decide (g1 > 0)) else false) := by
  refine Ev.step (fun k => by rw [impl_IsKit.l0]) (Ev.yes (by decide) (Ev.no (by decide) (Ev.yes rfl ?_)))
  refine Ev.bind0 (within_ev g1 0 30) ?_
  by_cases hc : inB g1 0 30 = true
  · rw [if_pos hc]
    refine Ev.yes hc ?_
    cases s
    · exact Ev.no (by decide) (by simpa using h (decide (g1 > 0)))
    · exact Ev.yes rfl (by simpa using h true)
  · rw [if_neg hc]
    exact Ev.no hc (Ev.const rfl)
theorem ikit_0 (s : Bool) (g0 g1 g2 g3 : Int) {r : Bool → Bool} (h : ∀ s', Ev (fun k => impl_IsKit.l0 k s' 1 g0 g1 g2 g3) (r s')) : Ev (fun k => impl_IsKit.l0 k s 0 g0 g1 g2 g3) (if inB g0 0 30 = true then r (s || decide (g0 > 0)) else false) := by
  refine Ev.step (fun k => by rw [impl_IsKit.l0]) (Ev.yes (by decide) (Ev.yes rfl ?_))
  refine Ev.bind0 (within_ev g0 0 30) ?_
  by_cases hc : inB g0 0 30 = true
  · rw [if_pos hc]
    refine Ev.yes hc ?_
    cases s
    · exact Ev.no (by decide) (by simpa using h (decide (g0 > 0)))
    · exact Ev.yes rfl (by simpa using h true)
  · rw [if_neg hc]
    exact Ev.no hc (Ev.const rfl)
theorem ikit_ev (g0 g1 g2 g3 : Int) : Ev (fun k => impl_IsKit.f k g0 g1 g2 g3) (kitN g0 g1 g2 g3) := ikit_0 false g0 g1 g2 g3 (fun s' => ikit_1 s' g0 g1 g2 g3 (fun s' => ikit_2 s' g0 g1 g2 g3 (fun s' => ikit_3 s' g0 g1 g2 g3 (fun s' => ikit_4 s' g0 g1 g2 g3))))
theorem four_ev (a0 a1 a2 a3 : Int) : Ev (fun k => laws_toIntA4.f k a0 a1 a2 a3) (a0, a1, a2, a3) := by
  unfold laws_toIntA4.f
  refine Ev.step (fun k => by rw [laws_toIntA4.l0]) (Ev.yes (by decide) (Ev.yes rfl ?_))
  refine Ev.step (fun k => by rw [laws_toIntA4.l0]) (Ev.yes (by decide) (Ev.no (by decide) (Ev.yes rfl ?_)))
  refine Ev.step (fun k => by rw [laws_toIntA4.l0]) (Ev.yes (by decide) (Ev.no (by decide) (Ev.no (by decide) (Ev.yes rfl ?_))))
  refine Ev.step (fun k => by rw [laws_toIntA4.l0]) (Ev.yes (by decide) (Ev.no (by decide) (Ev.no (by decide) (Ev.no (by decide) (Ev.yes rfl ?_)))))
  exact Ev.step (fun k => by rw [laws_toIntA4.l0]) (Ev.no (by decide) (Ev.const rfl))
theorem toKit_ev (a0 a1 a2 a3 : Int) : Ev (fun k => laws_toKit.f k a0 a1 a2 a3) (a0, a1, a2, a3) := Ev.bind (four_ev a0 a1 a2 a3) (Ev.const rfl)
def allStep (g b s : Int) : Int := if g > 0 then Go.bits .or .i64 s b else s
def allN (g0 g1 g2 g3 : Int) : Int := allStep g3 (1 * 8) (allStep g2 (1 * 4) (allStep g1 (1 * 2) (allStep g0 1 0)))
theorem sall_4 (s : Int) (g0 g1 g2 g3 : Int) : Ev (fun k => spec_l2All.l0 k s 4 g0 g1 g2 g3) s := Ev.step (fun k => by rw [spec_l2All.l0]) (Ev.no (by decide) (Ev.const rfl))
theorem sall_3 (s r : Int) (g0 g1 g2 g3 : Int) (h : Ev (fun k => spec_l2All.l0 k (allStep g3 (1 * 8) s) 4 g0 g1 g2 g3) r) : Ev (fun k => spec_l2All.l0 k s 3 g0 g1 g2 g3) r := by
  refine Ev.step (fun k => by rw [spec_l2All.l0]) (Ev.yes (by decide) (Ev.no (by decide) (Ev.no (by decide) (Ev.no (by decide) (Ev.yes rfl ?_)))))
  unfold allStep at h
  refine Ev.ite (fun hc => ?_) (fun hc => ?_)
  · rw [if_pos hc] at h; exact h
  · rw [if_neg hc] at h; exact h
theorem sall_2 (s r : Int) (g0 g1 g2 g3 : Int) (h : Ev (fun k => spec_l2All.l0 k (allStep g2 (1 * 4) s) 3 g0 g1 g2 g3) r) : Ev (fun k => spec_l2All.l0 k s 2 g0 g1 g2 g3) r := by
  refine Ev.step (fun k => by rw [spec_l2All.l0]) (Ev.yes (by decide) (Ev.no (by decide) (Ev.no (by decide) (Ev.yes rfl ?_))))
  unfold allStep at h
  refine Ev.ite (fun hc => ?_) (fun hc => ?_)
  · rw [if_pos hc] at h; exact h
  · rw [if_neg hc] at h; exact h
theorem sall_1 (s r : Int) (g0 g1 g2 g3 : Int) (h : Ev (fun k => spec_l2All.l0 k (allStep g1 (1 * 2) s) 2 g0 g1 g2 g3) r) : Ev (fun k => spec_l2All.l0 k s 1 g0 g1 g2 g3) r := by
  refine Ev.step (fun k => by rw [spec_l2All.l0]) (Ev.yes (by decide) (Ev.no (by decide) (Ev.yes rfl ?_)))
  unfold allStep at h
  refine Ev.ite (fun hc => ?_) (fun hc => ?_)
  · rw [if_pos hc] at h; exact h
  · rw [if_neg hc] at h; exact h
theorem sall_0 (s r : Int) (g0 g1 g2 g3 : Int) (h : Ev (fun k => spec_l2All.l0 k (allStep g0 1 s) 1 g0 g1 g2 g3) r) : Ev (fun k => spec_l2All.l0 k s 0 g0 g1 g2 g3) r := by
  refine Ev.step (fun k => by rw [spec_l2All.l0]) (Ev.yes (by decide) (Ev.yes rfl ?_))
  unfold allStep at h
  refine Ev.ite (fun hc => ?_) (fun hc => ?_)
  · rw [if_pos hc] at h; exact h
  · rw [if_neg hc] at h; exact h
theorem sall_ev (g0 g1 g2 g3 : Int) : Ev (fun k => spec_l2All.f k g0 g1 g2 g3) (allN g0 g1 g2 g3) := sall_0 0 _ g0 g1 g2 g3 (sall_1 _ _ g0 g1 g2 g3 (sall_2 _ _ g0 g1 g2 g3 (sall_3 _ _ g0 g1 g2 g3 (sall_4 _ g0 g1 g2 g3))))
theorem iall_4 (s : Int) (g0 g1 g2 g3 : Int) : Ev (fun k => A.impl_Kit_all.l0 k s 4 g0 g1 g2 g3) s := Ev.step (fun k => by rw [A.impl_Kit_all.l0]) (Ev.no (by decide) (Ev.const rfl))
theorem iall_3 (s r : Int) (g0 g1 g2 g3 : Int) (h : Ev (fun k => A.impl_Kit_all.l0 k (allStep g3 (1 * 8) s) 4 g0 g1 g2 g3) r) : Ev (fun k => A.impl_Kit_all.l0 k s 3 g0 g1 g2 g3) r := by
  refine Ev.step (fun k => by rw [A.impl_Kit_all.l0]) (Ev.yes (by decide) (Ev.no (by decide) (Ev.no (by decide) (Ev.no (by decide) (Ev.yes rfl ?_)))))
  unfold allStep at h
  refine Ev.ite (fun hc => ?_) (fun hc => ?_)
  · rw [if_pos hc] at h; exact h
  · rw [if_neg hc] at h; exact h
theorem iall_2 (s r : Int) (g0 g1 g2 g3 : Int) (h : Ev (fun k => A.impl_Kit_all.l0 k (allStep g2 (1 * 4) s) 3 g0 g1 g2 g3) r) : Ev (fun k => A.impl_Kit_all.l0 k s 2 g0 g1 g2 g3) r := by
  refine Ev.step (fun k => by rw [A.impl_Kit_all.l0]) (Ev.yes (by decide) (Ev.no (by decide) (Ev.no (by decide) (Ev.yes rfl ?_))))
  unfold allStep at h
  refine Ev.ite (fun hc => ?_) (fun hc => ?_)
  · rw [if_pos hc] at h; exact h
  · rw [if_neg hc] at h; exact h
theorem iall_1 (s r : Int) (g0 g1 g2 g3 : Int) (h : Ev (fun k => A.impl_Kit_all.l0 k (allStep g1 (1 * 2) s) 2 g0 g1 g2 g3) r) : Ev (fun k => A.impl_Kit_all.l0 k s 1 g0 g1 g2 g3) r := by
  refine Ev.step (fun k => by rw [A.impl_Kit_all.l0]) (Ev.yes (by decide) (Ev.no (by decide) (Ev.yes rfl ?_)))
  unfold allStep at h
  refine Ev.ite (fun hc => ?_) (fun hc => ?_)
  · rw [if_pos hc] at h; exact h
  · rw [if_neg hc] at h; exact h
theorem iall_0 (s r : Int) (g0 g1 g2 g3 : Int) (h : Ev (fun k => A.impl_Kit_all.l0 k (allStep g0 1 s) 1 g0 g1 g2 g3) r) : Ev (fun k => A.impl_Kit_all.l0 k s 0 g0 g1 g2 g3) r := by
  refine Ev.step (fun k => by rw [A.impl_Kit_all.l0]) (Ev.yes (by decide) (Ev.yes rfl ?_))
  unfold allStep at h
  refine Ev.ite (fun hc => ?_) (fun hc => ?_)
  · rw [if_pos hc] at h; exact h
  · rw [if_neg hc] at h; exact h
theorem iall_ev (g0 g1 g2 g3 : Int) : Ev (fun k => A.impl_Kit_all.f k g0 g1 g2 g3) (allN g0 g1 g2 g3) := iall_0 0 _ g0 g1 g2 g3 (iall_1 _ _ g0 g1 g2 g3 (iall_2 _ _ g0 g1 g2 g3 (iall_3 _ _ g0 g1 g2 g3 (iall_4 _ g0 g1 g2 g3))))
def setN (g0 g1 g2 g3 x : Int) : Bool := if inB x 0 15 = true then (Go.bits .andNot .i64 x (allN g0 g1 g2 g3) == 0) else false
theorem withinA_ev (x a b : Int) : A.impl_within.f x a b = some (inB x a b) := within_ev x a b
theorem sset_ev (g0 g1 g2 g3 x : Int) : Ev (fun k => spec_l2Set.f k g0 g1 g2 g3 x) (setN g0 g1 g2 g3 x) := by
  unfold spec_l2Set.f setN
  refine Ev.bind0 (show spec_l1In.f x 0 15 = some (inB x 0 15) from in_ev x 0 15) ?_
  split
  · exact Ev.bind (sall_ev g0 g1 g2 g3) (Ev.const rfl)
  · exact Ev.const rfl
theorem iset_ev (g0 g1 g2 g3 x : Int) : Ev (fun k => A.impl_Kit_isSet.f k g0 g1 g2 g3 x) (setN g0 g1 g2 g3 x) := by
  unfold A.impl_Kit_isSet.f setN
  refine Ev.bind0 (withinA_ev x 0 15) ?_
  split
  · exact Ev.bind (iall_ev g0 g1 g2 g3) (Ev.const rfl)
  · exact Ev.const rfl
theorem setN_in {g0 g1 g2 g3 x : Int} (h : setN g0 g1 g2 g3 x = true) : 0 ≤ x ∧ x ≤ 15 := by
  unfold setN at h
  split at h
  · rename_i hc
    unfold inB at hc
    simpa using hc
  · cases h
/-- A plan. -/
def planN (g0 g1 g2 g3 : Int) (l : List Int) : Bool := decide (l.length ≤ 12) && l.all (setN g0 g1 g2 g3)
theorem setsAt_ev (g0 g1 g2 g3 : Int) : ∀ l : List Int, Ev (fun k => Plan.setsAt k g0 g1 g2 g3 l) (l.all (setN g0 g1 g2 g3))
  | [] => Ev.const rfl
  | x :: r => by
    show Ev (fun k => (A.impl_Kit_isSet.f k g0 g1 g2 g3 x).bind fun t => if t = true then Plan.setsAt k g0 g1 g2 g3 r else some false) _
    refine Ev.bind (iset_ev g0 g1 g2 g3 x) ?_
    rw [List.all_cons]
    by_cases hc : setN g0 g1 g2 g3 x = true
    · rw [hc]
      exact Ev.yes rfl (Ev.to (setsAt_ev g0 g1 g2 g3 r) (by simp))
    · have hf : setN g0 g1 g2 g3 x = false := by simpa using hc
      rw [hf]
      exact Ev.no (by decide) (Ev.const (by simp))
theorem iplan_ev (g0 g1 g2 g3 : Int) (l : List Int) : Ev (fun k => Plan.impl_Kit_isPlan.f k g0 g1 g2 g3 l) (planN g0 g1 g2 g3 l) := by
  unfold Plan.impl_Kit_isPlan.f planN
  by_cases h : l.length ≤ 12
  · exact Ev.yes (by omega) (Ev.to (setsAt_ev g0 g1 g2 g3 l) (by simp [h]))
  · exact Ev.no (by omega) (Ev.const (by simp [h]))
theorem rd_drop (l : List Int) (i : Nat) (h : i < l.length) : l.drop i = rd l (i : Int) :: l.drop (i + 1) := by
  rw [List.drop_eq_getElem_cons h]
  congr 1
  unfold rd
  rw [Int.toNat_natCast, List.getD_eq_getElem?_getD, List.getElem?_eq_getElem h]
  rfl
theorem splan_l (g0 g1 g2 g3 : Int) (l : List Int) (hl : l.length ≤ 1048576) (m : Nat) : ∀ i : Nat, 13 - i = m → i ≤ 13 → i ≤ l.length → Ev (fun k => spec_l2Plan.l0 k l (i : Int) g0 g1 g2 g3) (decide (l.length ≤ 12) && (l.drop i).all (setN g0 g1 g2 g3)) := by
  induction m with
  | zero =>
    intro i hm h13 hi
    have hi13 : i = 13 := by omega
    subst hi13
    refine Ev.step (fun k => by rw [spec_l2Plan.l0]) ?_
    refine Ev.ite (fun hc => ?_) (fun hc => ?_)
    · refine Ev.step (fun k => by rw [spec_l2Plan.j1]) (Ev.no (by decide) (Ev.const ?_))
      rw [decide_eq_false (by omega : ¬ l.length ≤ 12), decide_eq_false (by omega : ¬ (l.length : Int) ≤ 12)]
      rfl
    · refine Ev.step (fun k => by rw [spec_l2Plan.j1]) (Ev.no (by decide) (Ev.const ?_))
      rw [decide_eq_false (by omega : ¬ l.length ≤ 12), decide_eq_false (by omega : ¬ (l.length : Int) ≤ 12)]
      rfl
  | succ m ih =>
    intro i hm h13 hi
    refine Ev.step (fun k => by rw [spec_l2Plan.l0]) ?_
    by_cases hlt : i < l.length
    · refine Ev.yes (by omega) ?_
      rw [decide_eq_true (by omega : (i : Int) ≤ 12)]
      refine Ev.step (fun k => by rw [spec_l2Plan.j1]) (Ev.yes rfl (Ev.yes (by omega) (Ev.yes (by omega) (Ev.bind (sset_ev g0 g1 g2 g3 _) ?_))))
      rw [rd_drop l i hlt, List.all_cons]
      by_cases hc : setN g0 g1 g2 g3 (rd l (i : Int)) = true
      · refine Ev.yes hc ?_
        rw [wrap_in (by omega) (by omega), hc]
        exact Ev.to (ih (i + 1) (by omega) (by omega) (by omega)) (by simp)
      · have hf : setN g0 g1 g2 g3 (rd l (i : Int)) = false := by simpa using hc
        exact Ev.no hc (Ev.const (by rw [hf]; simp))
    · refine Ev.no (by omega) (Ev.step (fun k => by rw [spec_l2Plan.j1]) (Ev.no (by decide) (Ev.const ?_)))
      rw [List.drop_of_length_le (by omega)]
      by_cases h : l.length ≤ 12
      · rw [decide_eq_true h, decide_eq_true (by omega : (l.length : Int) ≤ 12)]; rfl
      · rw [decide_eq_false h, decide_eq_false (by omega : ¬ (l.length : Int) ≤ 12)]; rfl
theorem splan_ev (g0 g1 g2 g3 : Int) (l : List Int) (hl : l.length ≤ 1048576) : Ev (fun k => spec_l2Plan.f k g0 g1 g2 g3 l) (planN g0 g1 g2 g3 l) := splan_l g0 g1 g2 g3 l hl 13 0 rfl (by omega) (by omega)
/-- A glass's numeral, where its bit stands. -/
def bt1 (x g : Int) : ByteArray := if Go.bits .and .i64 (shr .i64 x g) 1 = 1 then numB g else ⟨#[]⟩
theorem app_nil (s : ByteArray) : s ++ (⟨#[]⟩ : ByteArray) = s := ba_ext (by rw [data_append]; simp)
theorem nil_app (s : ByteArray) : (⟨#[]⟩ : ByteArray) ++ s = s := ba_ext (by rw [data_append]; simp)
theorem app_assoc (a b c : ByteArray) : a ++ b ++ c = a ++ (b ++ c) := ba_ext (by simp only [data_append, List.append_assoc])
theorem bt1_size (x g : Int) (h0 : 0 ≤ g) (h1 : g ≤ 10) : (bt1 x g).size ≤ 21 := by
  unfold bt1
  split
  · exact numB_len g (by omega) (by omega)
  · decide
/-- The glasses of a set. -/
def txt (x : Int) : ByteArray := bt1 x 0 ++ (bt1 x 1 ++ (bt1 x 2 ++ bt1 x 3))
/-- A set's text. -/
def setT (x : Int) : ByteArray := if (txt x).toList = [] then ⟨#[45]⟩ else txt x
theorem txt_size (x : Int) : (txt x).size ≤ 84 := by
  have h0 := bt1_size x 0 (by omega) (by omega)
  have h1 := bt1_size x 1 (by omega) (by omega)
  have h2 := bt1_size x 2 (by omega) (by omega)
  have h3 := bt1_size x 3 (by omega) (by omega)
  unfold txt
  simp only [ByteArray.size_append]
  omega
theorem setT_size (x : Int) : (setT x).size ≤ 85 := by
  unfold setT
  split
  · decide
  · have := txt_size x; omega
theorem itext_step (x : Int) (s r : ByteArray) (g : Nat) (hg : g < 4) (hs : s.size ≤ 100000) (h : Ev (fun k => impl_setText.l0 k x (s ++ bt1 x (g : Int)) ((g : Int) + 1)) r) : Ev (fun k => impl_setText.l0 k x s (g : Int)) r := by
  refine Ev.step (fun k => by rw [impl_setText.l0]) (Ev.yes (by omega) (Ev.yes (by omega) ?_))
  rw [wrap_in (n := (g : Int) + 1) (by omega) (by omega)]
  unfold bt1 at h
  by_cases hb : Go.bits .and .i64 (shr .i64 x (g : Int)) 1 = 1
  · rw [if_pos hb] at h
    have hn := numB_len (g : Int) (by omega) (by omega)
    exact Ev.yes hb (Ev.bind0 (itoa_ev (g : Int) (by omega) (by omega)) (Ev.yes (by omega) h))
  · rw [if_neg hb, app_nil] at h
    exact Ev.no hb h
theorem itext_ev (x : Int) : Ev (fun k => impl_setText.f k x) (setT x) := by
  have h0 := bt1_size x 0 (by omega) (by omega)
  have h1 := bt1_size x 1 (by omega) (by omega)
  have h2 := bt1_size x 2 (by omega) (by omega)
  refine itext_step x _ _ 0 (by omega) (by decide) (itext_step x _ _ 1 (by omega) (by simp only [ByteArray.size_append]; show (0 : Nat) + (bt1 x 0).size ≤ 100000; omega) (itext_step x _ _ 2 (by omega) (by simp only [ByteArray.size_append]; show (0 : Nat) + (bt1 x 0).size + (bt1 x 1).size ≤ 100000; omega) (itext_step x _ _ 3 (by omega) (by simp only [ByteArray.size_append]; show (0 : Nat) + (bt1 x 0).size + (bt1 x 1).size + (bt1 x 2).size ≤ 100000; omega) ?_)))
  have he : ((((⟨#[]⟩ : ByteArray) ++ bt1 x ((0 : Nat) : Int)) ++ bt1 x ((1 : Nat) : Int)) ++ bt1 x ((2 : Nat) : Int)) ++ bt1 x ((3 : Nat) : Int) = txt x := by
    rw [nil_app, app_assoc, app_assoc]
    rfl
  rw [he]
  refine Ev.step (fun k => by rw [impl_setText.l0]) (Ev.no (by decide) ?_)
  unfold setT
  split
  · exact Ev.const rfl
  · exact Ev.const rfl
theorem stext_step (l : List Int) (s r : ByteArray) (i : Nat) (hi : i < l.length) (g : Nat) (hg : g < 4) (hs : s.size ≤ 100000) (h : Ev (fun k => spec_l10Text.l1 k l (s ++ bt1 (rd l (i : Int)) (g : Int)) (i : Int) ((g : Int) + 1)) r) : Ev (fun k => spec_l10Text.l1 k l s (i : Int) (g : Int)) r := by
  refine Ev.step (fun k => by rw [spec_l10Text.l1]) (Ev.yes (by omega) (Ev.yes (by omega) (Ev.yes (by omega) (Ev.yes (by omega) ?_))))
  rw [wrap_in (n := (g : Int) + 1) (by omega) (by omega)]
  unfold bt1 at h
  by_cases hb : Go.bits .and .i64 (shr .i64 (rd l (i : Int)) (g : Int)) 1 = 1
  · rw [if_pos hb] at h
    have hn := numB_len (g : Int) (by omega) (by omega)
    exact Ev.yes hb (Ev.bind0 (num_ev (g : Int) (by omega) (by omega)) (Ev.yes (by omega) h))
  · rw [if_neg hb, app_nil] at h
    exact Ev.no hb h
theorem stext_one (l : List Int) (hl : l.length ≤ 12) (s r : ByteArray) (i : Nat) (hi : i < l.length) (hs : s.size ≤ 50000) (h : Ev (fun k => spec_l10Text.l0 k l (s ++ txt (rd l (i : Int))) ((i : Int) + 1)) r) : Ev (fun k => spec_l10Text.l1 k l s (i : Int) 0) r := by
  have h0 := bt1_size (rd l (i : Int)) 0 (by omega) (by omega)
  have h1 := bt1_size (rd l (i : Int)) 1 (by omega) (by omega)
  have h2 := bt1_size (rd l (i : Int)) 2 (by omega) (by omega)
  refine stext_step l _ _ i hi 0 (by omega) (by omega) (stext_step l _ _ i hi 1 (by omega) (by simp only [ByteArray.size_append]; show s.size + (bt1 (rd l (i : Int)) 0).size ≤ _; omega) (stext_step l _ _ i hi 2 (by omega) (by simp only [ByteArray.size_append]; show s.size + (bt1 (rd l (i : Int)) 0).size + (bt1 (rd l (i : Int)) 1).size ≤ _; omega) (stext_step l _ _ i hi 3 (by omega) (by simp only [ByteArray.size_append]; show s.size + (bt1 (rd l (i : Int)) 0).size + (bt1 (rd l (i : Int)) 1).size + (bt1 (rd l (i : Int)) 2).size ≤ _; omega) ?_)))
  have he : (((s ++ bt1 (rd l (i : Int)) ((0 : Nat) : Int)) ++ bt1 (rd l (i : Int)) ((1 : Nat) : Int)) ++ bt1 (rd l (i : Int)) ((2 : Nat) : Int)) ++ bt1 (rd l (i : Int)) ((3 : Nat) : Int) = s ++ txt (rd l (i : Int)) := by
    rw [app_assoc, app_assoc, app_assoc]
    rfl
  rw [he]
  refine Ev.step (fun k => by rw [spec_l10Text.l1]) (Ev.no (by decide) ?_)
  rw [wrap_in (by omega) (by omega)]
  exact h
theorem bits_of (x : Int) (h0 : 0 < x) (h1 : x ≤ 15) : ∃ g : Int, (g = 0 ∨ g = 1 ∨ g = 2 ∨ g = 3) ∧ Go.bits .and .i64 (shr .i64 x g) 1 = 1 := by
  have h : x = 1 ∨ x = 2 ∨ x = 3 ∨ x = 4 ∨ x = 5 ∨ x = 6 ∨ x = 7 ∨ x = 8 ∨ x = 9 ∨ x = 10 ∨ x = 11 ∨ x = 12 ∨ x = 13 ∨ x = 14 ∨ x = 15 := by omega
  rcases h with rfl | rfl | rfl | rfl | rfl | rfl | rfl | rfl | rfl | rfl | rfl | rfl | rfl | rfl | rfl
  all_goals first
    | exact ⟨0, .inl rfl, by decide⟩
    | exact ⟨1, .inr (.inl rfl), by decide⟩
    | exact ⟨2, .inr (.inr (.inl rfl)), by decide⟩
    | exact ⟨3, .inr (.inr (.inr rfl)), by decide⟩
theorem bt1_pos {x g : Int} (h : Go.bits .and .i64 (shr .i64 x g) 1 = 1) (h0 : 0 ≤ g) (h3 : g ≤ 9) : 0 < (bt1 x g).size := by
  unfold bt1
  rw [if_pos h]
  unfold numB
  rw [itoa_small g h0 (by omega)]
  exact Nat.zero_lt_one
theorem txt_pos (x : Int) (h0 : 0 < x) (h1 : x ≤ 15) : (txt x).toList ≠ [] := by
  obtain ⟨g, hg, hb⟩ := bits_of x h0 h1
  have hp := bt1_pos hb (by omega) (by omega)
  intro he
  have hz : (txt x).size = 0 := by rw [toList_eq] at he; exact size_zero.1 he
  unfold txt at hz
  simp only [ByteArray.size_append] at hz
  rcases hg with rfl | rfl | rfl | rfl <;> omega
theorem txt_zero : txt 0 = (⟨#[]⟩ : ByteArray) := by
  unfold txt bt1
  rw [if_neg (by decide), if_neg (by decide), if_neg (by decide), if_neg (by decide)]
  rfl
theorem piece (x : Int) (h0 : 0 ≤ x) (h1 : x ≤ 15) (s : ByteArray) : (if x = 0 then s ++ (⟨#[45]⟩ : ByteArray) else s) ++ txt x = s ++ setT x := by
  by_cases hx : x = 0
  · subst hx
    rw [if_pos rfl, txt_zero, app_nil]
    unfold setT
    rw [txt_zero, if_pos (by rw [toList_eq])]
  · rw [if_neg hx]
    unfold setT
    rw [if_neg (txt_pos x (by omega) h1)]
/-- What stands behind the first word. -/
def tailB (l : List Int) : ByteArray := ⟨(Lib.joinTail [32] (l.map fun x => (setT x).data.toList)).toArray⟩
theorem tailB_nil : tailB [] = (⟨#[]⟩ : ByteArray) := rfl
theorem tailB_cons (x : Int) (l : List Int) : tailB (x :: l) = (⟨#[32]⟩ : ByteArray) ++ (setT x ++ tailB l) := by
  apply ba_ext
  simp only [data_append]
  simp [tailB, Lib.joinTail]
theorem stext_word (l : List Int) (hl : l.length ≤ 12) (hx : ∀ x ∈ l, 0 ≤ x ∧ x ≤ 15) (s r : ByteArray) (i : Nat) (hi : i < l.length) (hs : s.size ≤ 40000) (h : Ev (fun k => spec_l10Text.l0 k l (s ++ setT (rd l (i : Int))) ((i : Int) + 1)) r) : Ev (fun k => spec_l10Text.j1 k l s (i : Int)) r := by
  have hm : rd l (i : Int) ∈ l := by
    have := rd_drop l i hi
    exact List.mem_of_mem_drop (i := i) (this ▸ List.mem_cons_self)
  have hb := hx _ hm
  rw [← piece _ hb.1 hb.2 s] at h
  refine Ev.step (fun k => by rw [spec_l10Text.j1]) (Ev.yes (by omega) (Ev.yes (by omega) ?_))
  by_cases h0 : rd l (i : Int) = 0
  · rw [if_pos h0] at h
    refine Ev.yes h0 (Ev.yes (by omega) (Ev.step (fun k => by rw [spec_l10Text.j2]) (stext_one l hl _ _ i hi ?_ h)))
    rw [ByteArray.size_append]
    show s.size + 1 ≤ _
    omega
  · rw [if_neg h0] at h
    exact Ev.no h0 (Ev.step (fun k => by rw [spec_l10Text.j2]) (stext_one l hl _ _ i hi (by omega) h))
theorem stext_l (l : List Int) (hl : l.length ≤ 12) (hx : ∀ x ∈ l, 0 ≤ x ∧ x ≤ 15) (m : Nat) : ∀ (i : Nat) (s : ByteArray), l.length - i = m → 0 < i → i ≤ l.length → s.size ≤ i * 100 → Ev (fun k => spec_l10Text.l0 k l s (i : Int)) (s ++ tailB (l.drop i)) := by
  induction m with
  | zero =>
    intro i s hm h0 hi hs
    refine Ev.step (fun k => by rw [spec_l10Text.l0]) (Ev.no (by omega) (Ev.const ?_))
    rw [List.drop_of_length_le (by omega), tailB_nil, app_nil]
  | succ m ih =>
    intro i s hm h0 hi hs
    have hw := setT_size (rd l (i : Int))
    refine Ev.step (fun k => by rw [spec_l10Text.l0]) (Ev.yes (by omega) (Ev.yes (by omega) (Ev.yes (by omega) ?_)))
    have h1 : (s ++ (⟨#[32]⟩ : ByteArray)).size = s.size + 1 := by rw [ByteArray.size_append]; rfl
    refine stext_word l hl hx _ _ i (by omega) (by omega) ?_
    have h2 := ih (i + 1) (s ++ (⟨#[32]⟩ : ByteArray) ++ setT (rd l (i : Int))) (by omega) (by omega) (by omega) (by rw [ByteArray.size_append]; omega)
    rw [rd_drop l i (by omega), tailB_cons]
    exact Ev.to (by exact_mod_cast h2) (by simp only [app_assoc])
/-- A plan's text. -/
def planT : List Int → ByteArray
  | [] => ⟨#[]⟩
  | x :: r => setT x ++ tailB r
theorem stext_ev (l : List Int) (hl : l.length ≤ 12) (hx : ∀ x ∈ l, 0 ≤ x ∧ x ≤ 15) : Ev (fun k => spec_l10Text.f k l) (planT l) := by
  unfold spec_l10Text.f
  cases l with
  | nil =>
    refine Ev.step (fun k => by rw [spec_l10Text.l0]) ?_
    exact Ev.no (by simp) (Ev.const rfl)
  | cons x r =>
    have hw := setT_size x
    refine Ev.step (fun k => by rw [spec_l10Text.l0]) (Ev.yes (by simp) (Ev.no (by decide) ?_))
    refine stext_word (x :: r) hl hx _ _ 0 (by simp) (by decide) ?_
    have h2 := stext_l (x :: r) hl hx r.length 1 ((⟨#[]⟩ : ByteArray) ++ setT x) (by simp) (by omega) (by simp) (by rw [nil_app]; omega)
    exact Ev.to h2 (by rw [nil_app]; rfl)
theorem iplanT_l (l : List Int) (hl : l.length ≤ 12) (m : Nat) : ∀ (i : Nat) (ws : List ByteArray), l.length - i = m → i ≤ l.length → ws = (l.take i).map setT →
    Ev (fun k => impl_planText.l0 k ws l (l.length : Int) (i : Int)) (⟨(Lib.join ((l.map setT).map (·.data.toList)) [32]).toArray⟩ : ByteArray) := by
  induction m with
  | zero =>
    intro i ws hm hi hws
    have hT : ws = l.map setT := by rw [hws, List.take_of_length_le (by omega)]
    refine Ev.step (fun k => by rw [impl_planText.l0]) (Ev.no (by omega) (Ev.bind0 (a := (⟨(Lib.join ((l.map setT).map (·.data.toList)) [32]).toArray⟩ : ByteArray)) ?_ (Ev.const rfl)))
    unfold strings_Join.f
    rw [hT]
    refine if_pos ⟨by simp; omega, ?_⟩
    have hj : ∀ xs : List ByteArray, (∀ y ∈ xs, y.size ≤ 85) → (Lib.join (xs.map (·.data.toList)) [32]).length ≤ 86 * xs.length := by
      intro xs hxs
      have ht : ∀ ys : List ByteArray, (∀ y ∈ ys, y.size ≤ 85) → (Lib.joinTail [32] (ys.map (·.data.toList))).length ≤ 86 * ys.length := by
        intro ys
        induction ys with
        | nil => intro _; simp [Lib.joinTail]
        | cons y r ih2 =>
          intro hy
          have h1 := ih2 (fun z hz => hy z (List.mem_cons_of_mem _ hz))
          have h2 := hy y List.mem_cons_self
          have h3 := size_list y
          simp only [Lib.joinTail, List.map_cons, List.flatten_cons, List.length_append, List.length_cons, List.length_nil] at h1 ⊢
          omega
      cases xs with
      | nil => simp [Lib.join_nil]
      | cons y r =>
        have h1 := ht r (fun z hz => hxs z (List.mem_cons_of_mem _ hz))
        have h2 := hxs y List.mem_cons_self
        have h3 := size_list y
        rw [List.map_cons, Lib.join_cons, List.length_append]
        simp only [List.length_cons]
        omega
    have := hj (l.map setT) (by intro y hy; obtain ⟨x, _, rfl⟩ := List.mem_map.1 hy; exact setT_size x)
    rw [List.length_map] at this
    exact Nat.le_trans this (by omega)
  | succ m ih =>
    intro i ws hm hi hws
    have hlw : ws.length = i := by rw [hws]; simp; omega
    refine Ev.step (fun k => by rw [impl_planText.l0]) (Ev.yes (by omega) (Ev.yes (by omega) (Ev.yes (by omega) (Ev.bind (itext_ev _) (Ev.yes (show ws.length < 8796093022208 by omega) ?_)))))
    rw [wrap_in (by omega) (by omega)]
    have h2 := ih (i + 1) (ws ++ [setT (rd l (i : Int))]) (by omega) (by omega) (by
      have hd := rd_drop l i (by omega)
      rw [hws, List.take_succ_eq_append_getElem (by omega), List.map_append]
      congr 2
      rw [List.drop_eq_getElem_cons (by omega)] at hd
      exact congrArg setT (List.cons.inj hd).1.symm)
    exact_mod_cast h2
theorem join_planT (l : List Int) : (⟨(Lib.join ((l.map setT).map (·.data.toList)) [32]).toArray⟩ : ByteArray) = planT l := by
  cases l with
  | nil => rfl
  | cons x r =>
    apply ba_ext
    show (Lib.join _ [32]) = _
    rw [List.map_cons, List.map_cons, Lib.join_cons]
    show _ = (setT x ++ tailB r).data.toList
    rw [data_append]
    simp [tailB, List.map_map, Function.comp_def]
theorem iplanT_ev (l : List Int) (hl : l.length ≤ 12) : Ev (fun k => impl_planText.f k l) (planT l) := Ev.to (iplanT_l l hl l.length 0 [] (by omega) (by omega) rfl) (join_planT l)
/-- PlanText. -/
def planTextB (g0 g1 g2 g3 : Int) (l : List Int) : ByteArray × Bool := if kitN g0 g1 g2 g3 = true then (if planN g0 g1 g2 g3 l = true then (planT l, true) else ((⟨#[]⟩ : ByteArray), false)) else ((⟨#[]⟩ : ByteArray), false)
theorem planN_in {g0 g1 g2 g3 : Int} {l : List Int} (h : planN g0 g1 g2 g3 l = true) : l.length ≤ 12 ∧ ∀ x ∈ l, 0 ≤ x ∧ x ≤ 15 := by
  unfold planN at h
  rw [Bool.and_eq_true, List.all_eq_true] at h
  exact ⟨of_decide_eq_true h.1, fun x hx => setN_in (h.2 x hx)⟩
theorem sPT_ev (g0 g1 g2 g3 : Int) (l : List Int) (hl : l.length ≤ 1048576) : Ev (fun k => spec_PlanText.f k g0 g1 g2 g3 l) (planTextB g0 g1 g2 g3 l) := by
  unfold spec_PlanText.f planTextB
  refine Ev.bind (skit_ev g0 g1 g2 g3) ?_
  split
  · refine Ev.bind (splan_ev g0 g1 g2 g3 l hl) ?_
    split
    · rename_i h
      exact Ev.bind (stext_ev l (planN_in h).1 (planN_in h).2) (Ev.const rfl)
    · exact Ev.const rfl
  · exact Ev.const rfl
theorem iPT_ev (g0 g1 g2 g3 : Int) (l : List Int) : Ev (fun k => impl_PlanText.f k g0 g1 g2 g3 l) (planTextB g0 g1 g2 g3 l) := by
  unfold impl_PlanText.f planTextB
  refine Ev.bind (ikit_ev g0 g1 g2 g3) ?_
  split
  · refine Ev.bind (iplan_ev g0 g1 g2 g3 l) ?_
    split
    · rename_i h
      exact Ev.bind (iplanT_ev l (planN_in h).1) (Ev.const rfl)
    · exact Ev.const rfl
  · exact Ev.const rfl
theorem toInts_l (l : List Int) (hl : l.length ≤ 1048576) (m : Nat) : ∀ (i : Nat) (x : List Int), l.length - i = m → i ≤ l.length → x.length = l.length → x.take i = l.take i → Ev (fun k => laws_toIntS.l0 k l x (i : Int)) l := by
  induction m with
  | zero =>
    intro i x hm hi hx ht
    refine Ev.step (fun k => by rw [laws_toIntS.l0]) (Ev.no (by omega) (Ev.const ?_))
    rw [List.take_of_length_le (by omega), List.take_of_length_le (by omega)] at ht
    rw [ht]
  | succ m ih =>
    intro i x hm hi hx ht
    refine Ev.step (fun k => by rw [laws_toIntS.l0]) (Ev.yes (by omega) (Ev.yes (by omega) (Ev.yes (by omega) ?_)))
    rw [wrap_in (by omega) (by omega), Int.toNat_natCast]
    have h2 := ih (i + 1) (x.set i (rd l (i : Int))) (by omega) (by omega) (by simpa using hx) (by
      have hd := rd_drop l i (by omega)
      rw [List.drop_eq_getElem_cons (by omega)] at hd
      rw [List.take_succ_eq_append_getElem (by simp; omega), List.take_succ_eq_append_getElem (by omega), List.take_set_of_le (by omega), ht]
      congr 2
      rw [List.getElem_set_self]
      exact (List.cons.inj hd).1.symm)
    exact_mod_cast h2
theorem toInts_ev (l : List Int) (hl : l.length ≤ 1048576) : Ev (fun k => laws_toIntS.f k l) l := by
  unfold laws_toIntS.f
  refine Ev.yes (by omega) (Ev.yes (by omega) ?_)
  exact toInts_l l hl l.length 0 _ (by omega) (by omega) (by simp) (by simp)
theorem eqInts_l (l : List Int) (hl : l.length ≤ 1048576) (m : Nat) : ∀ i : Nat, l.length - i = m → Ev (fun k => laws_eqIntS.l0 k l l (i : Int)) true := by
  induction m with
  | zero => intro i hm; exact Ev.step (fun k => by rw [laws_eqIntS.l0]) (Ev.no (by omega) (Ev.const rfl))
  | succ m ih =>
    intro i hm
    refine Ev.step (fun k => by rw [laws_eqIntS.l0]) (Ev.yes (by omega) (Ev.yes (by omega) (Ev.yes (by omega) (Ev.yes rfl ?_))))
    rw [wrap_in (by omega) (by omega)]
    exact_mod_cast ih (i + 1) (by omega)
theorem eqInts_ev (l : List Int) (hl : l.length ≤ 1048576) : Ev (fun k => laws_eqIntS.f k l l) true := Ev.yes rfl (eqInts_l l hl _ 0 rfl)
/-- FnExactPlanText. -/
theorem FnExactPlanText (g0 g1 g2 g3 : Int) (l : List Int) (_hm : l.length ≤ maxLen) (_hw : ∀ n ∈ l, (Lit.int .i64 n).wf = true) : ∃ k, laws_FnExactPlanText.f k g0 g1 g2 g3 l = some true := by
  refine Ev.rounds ?_
  unfold laws_FnExactPlanText.f
  refine Ev.ite (fun _ => Ev.const rfl) fun hl0 => ?_
  have hl : l.length ≤ 1048576 := by omega
  refine Ev.bind (toKit_ev g0 g1 g2 g3) (Ev.bind (toInts_ev l hl) (Ev.bind (sPT_ev g0 g1 g2 g3 l hl) (Ev.bind (toInts_ev l hl) (Ev.bind (toKit_ev g0 g1 g2 g3) (Ev.bind (iPT_ev g0 g1 g2 g3 l) (Ev.yes rfl ?_))))))
  exact Ev.step (fun k => by rw [laws_FnExactPlanText.j0]) (Ev.no (by simp) (Ev.bind (toInts_ev l hl) (Ev.bind (eqInts_ev l hl) (Ev.yes rfl (Ev.const rfl)))))
#print axioms FnExactPlanText
end Go.Proofs.YtkgeffmmpgdkmaaDoor.Pure
