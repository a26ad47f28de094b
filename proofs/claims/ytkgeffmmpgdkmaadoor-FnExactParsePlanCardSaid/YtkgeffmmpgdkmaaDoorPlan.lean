/- (impl.Kit).isPlan: slices.ContainsFunc over a literal that asks isSet, walked by hand, in the printed texts' own contract form; no condition but those in the theorems. -/
import Derived.Test.YtkgeffmmpgdkmaaDoorA
namespace Go.Proofs.YtkgeffmmpgdkmaaDoor.Plan
open Go.RowKit Go.Proofs.YtkgeffmmpgdkmaaDoor.Giv Go.Proofs.YtkgeffmmpgdkmaaDoorW.PrintWords Go.Proofs.YtkgeffmmpgdkmaaDoorW.PrintLast Go.Proofs.YtkgeffmmpgdkmaaDoor.A
set_option linter.unusedVariables false
set_option linter.unusedSimpArgs false

/-- Whether all numbers are sets. -/
def setsAt (k : Nat) (g0 g1 g2 g3 : Int) : List Int → Option Bool
  | [] => some true
  | x :: r => (impl_Kit_isSet.f k g0 g1 g2 g3 x).bind fun t => if t = true then setsAt k g0 g1 g2 g3 r else some false
theorem setsAt.mono (g0 g1 g2 g3 : Int) : ∀ (l : List Int) (k : Nat), LeO (setsAt k g0 g1 g2 g3 l) (setsAt (k + 1) g0 g1 g2 g3 l)
  | [], _ => LeO.refl _
  | x :: r, k => LeO.bind (impl_Kit_isSet.mono g0 g1 g2 g3 x k) fun _ => LeO.ite (setsAt.mono g0 g1 g2 g3 r k) (LeO.refl _)
/-- (impl.Kit).isPlan. -/
def impl_Kit_isPlan.f (k : Nat) (g0 g1 g2 g3 : Int) (l1 : List Int) : Option Bool := if (l1.length : Int) ≤ 12 then setsAt k g0 g1 g2 g3 l1 else some false
theorem impl_Kit_isPlan.mono : ∀ g0 g1 g2 g3 l1 k, LeO (impl_Kit_isPlan.f k g0 g1 g2 g3 l1) (impl_Kit_isPlan.f (k + 1) g0 g1 g2 g3 l1) := by
  intro g0 g1 g2 g3 l1 k
  unfold impl_Kit_isPlan.f
  exact LeO.ite (setsAt.mono g0 g1 g2 g3 l1 k) (LeO.refl _)

set_option maxHeartbeats 8000000 in
set_option maxRecDepth 100000 in
/-- The literal. -/
theorem clo (k : Nat) (g0 g1 g2 g3 x : Int) (r : Bool) (gb : Nat) (w : World) (hb : w.heap[gb]? = some (.cells #[.int .i64 g0, .int .i64 g1, .int .i64 g2, .int .i64 g3] 28 (0, 0))) (h : impl_Kit_isSet.f k g0 g1 g2 g3 x = some r) :
    Calls Tryd.prog 40 #[.int .i64 x, .pointer (some ⟨gb, 0, none⟩)] w fun e w' => e = .returned (.bool (!r)) ∧ Below w.heap.size w w' := by
  have hu28 := Tryd.underlying28
  have A1 := Aside0.mk h
  have hcz_0 : w.cell? ⟨gb, 0, none⟩ = some (.int .i64 g0) := (blk_cell hb 0).trans rfl
  have hcz_1 : w.cell? ⟨gb, 1, none⟩ = some (.int .i64 g1) := (blk_cell hb 1).trans rfl
  have hcz_2 : w.cell? ⟨gb, 2, none⟩ = some (.int .i64 g2) := (blk_cell hb 2).trans rfl
  have hcz_3 : w.cell? ⟨gb, 3, none⟩ = some (.int .i64 g3) := (blk_cell hb 3).trans rfl
  clear h hb
  go_enter Tryd.func40, Tryd.ntmps40
  go_wp2_with (first | ((with_reducible refine gate_callee (f := 41) rfl ?_); refine goesL_ (some 6) rfl rfl Tryd.func41 (by kernel_rfl) rfl #[.agg #[.int .i64 g0, .int .i64 g1, .int .i64 g2, .int .i64 g3], .int .i64 x] rfl (by (try simp only [List.map_toArray, List.map_cons, List.map_nil]); first | done | rfl | (simp only [List.length_drop, List.length_take]; rfl)) ?_; (with_reducible refine (impl_Kit_isSet.calls k g0 g1 g2 g3 x r _ A1.out).mono ?_); rintro e w1 ⟨rfl, hb⟩; refine ⟨_, rfl, ?_⟩; have HB := Aside0.mk hb; clear hb))
  go_ret
  exact ⟨rfl, HB.out⟩
set_option maxHeartbeats 8000000 in
set_option maxRecDepth 100000 in
/-- slices.IndexFunc at the literal. -/
theorem index (k : Nat) (g0 g1 g2 g3 : Int) (A0 : Option Addr) (c0 : Nat) (l0 : List Int) (v : Bool) (gb : Nat) (w : World) (hr0 : Kd.C (Kd.int .i64) w A0 l0.length l0) (hl : l0.length ≤ 12)
    (hb : w.heap[gb]? = some (.cells #[.int .i64 g0, .int .i64 g1, .int .i64 g2, .int .i64 g3] 28 (0, 0))) (h : setsAt k g0 g1 g2 g3 l0 = some v) :
    Calls Tryd.prog 50 #[.slice A0 l0.length c0, .func (.func 40) #[] #[.pointer (some ⟨gb, 0, none⟩)]] w fun e w' => ∃ j : Int, e = .returned (.int .i64 j) ∧ decide (0 ≤ j) = !v ∧ Below w.heap.size w w' := by
  have HR0 := Aside0.mk hr0
  have HL := Aside0.mk hl
  have BK := Aside0.mk hb
  have H' := Aside0.mk h
  have HB := Aside0.mk (Below.refl w.heap.size w)
  clear hr0 hl hb h
  go_enter Tryd.func50, Tryd.ntmps50
  go_wp2
  go_loopg [5, 8] l0.length (fun gg _ v8 wr => ∃ ix : Int, v8 = .int .i64 ix ∧ Aside0 (0 ≤ ix ∧ ix ≤ l0.length ∧ (l0.length : Int) - ix ≤ gg ∧ setsAt k g0 g1 g2 g3 (l0.drop ix.toNat) = some v) ∧ Aside0 (Below w.heap.size w wr))
  case atStart => exact ⟨0, by first | rfl | simp, ⟨by omega, by omega, by omega, H'.out⟩, HB⟩
  case round =>
    clear H' HB
    obtain ⟨ix, rfl, HA, HB⟩ := hrel
    by_cases c4 : ix < (l0.length : Int)
    · have c4b0 : decide (ix < (l0.length : Int)) = true := decide_eq_true c4
      have p1 : 0 ≤ ix := HA.out.1
      have hd : l0.drop ix.toNat = rd l0 ix :: l0.drop (ix.toNat + 1) := by
        rw [List.drop_eq_getElem_cons (by omega)]
        congr 1
        unfold rd
        rw [List.getD_eq_getElem?_getD, List.getElem?_eq_getElem (by omega)]
        rfl
      obtain ⟨t, A1, H⟩ := Option.bind_eq_some_iff.mp (show (impl_Kit_isSet.f k g0 g1 g2 g3 (rd l0 ix)).bind (fun t => if t = true then setsAt k g0 g1 g2 g3 (l0.drop (ix.toNat + 1)) else some false) = some v by have h_ := HA.out.2.2.2; rw [hd] at h_; exact h_)
      obtain ⟨ad, ead, hx⟩ := Kd.at_int (Kd.C_below HR0.out HB.out) ix p1 c4
      cases ead
      have p1b := eq_true p1
      have c4b := eq_true c4
      have p1d : decide (0 ≤ ix) = true := decide_eq_true p1
      have AA := Aside0.mk A1
      have HH := Aside0.mk H
      have PP := Aside0.mk (And.intro p1 c4)
      clear A1 H hd p1 c4
      cases t with
      | true =>
        go_wp2_with fail
        refine (clo k g0 g1 g2 g3 (rd l0 ix) true gb _ (blk_below BK.out HB.out) AA.out).mono ?_
        rintro e w' ⟨rfl, hb⟩
        have n_ := Aside0.mk (below_step HB.out hb)
        clear hb HB
        have HB := n_
        clear n_
        go_wp2_with fail
        go_roundg ((l0.length : Int) - (ix + 1)).toNat
        case measure => have := HA.out; have := PP.out; omega
        case rel =>
          have h1 := HA.out
          have h2 := PP.out
          have h3 := HL.out
          refine ⟨ix + 1, ?_, ⟨by omega, by omega, by omega, ?_⟩, HB⟩
          · first | rfl | (simp [wrap64]; omega)
          · have h4 := HH.out
            simp only [if_true] at h4
            rw [show (ix + 1).toNat = ix.toNat + 1 by omega]
            exact h4
      | false =>
        go_wp2_with fail
        refine (clo k g0 g1 g2 g3 (rd l0 ix) false gb _ (blk_below BK.out HB.out) AA.out).mono ?_
        rintro e w' ⟨rfl, hb⟩
        have n_ := Aside0.mk (below_step HB.out hb)
        clear hb HB
        have HB := n_
        clear n_
        go_wp2_with fail
        go_ret
        have h4 := HH.out
        have h5 : v = false := by simpa using h4.symm
        exact ⟨ix, rfl, by rw [h5]; simp [PP.out.1], HB.out⟩
    · have c4b0 : decide (ix < (l0.length : Int)) = false := decide_eq_false c4
      have hv : v = true := by
        have h1 := HA.out
        have h2 := h1.2.2.2
        rw [List.drop_of_length_le (by omega)] at h2
        exact (Option.some.inj h2).symm
      have HV := Aside0.mk hv
      clear hv c4
      go_wp2
      go_ret
      exact ⟨-1, rfl, by rw [HV.out]; decide, HB.out⟩
set_option maxHeartbeats 8000000 in
set_option maxRecDepth 100000 in
/-- slices.ContainsFunc at the literal. -/
theorem contains (k : Nat) (g0 g1 g2 g3 : Int) (A0 : Option Addr) (c0 : Nat) (l0 : List Int) (v : Bool) (gb : Nat) (w : World) (hr0 : Kd.C (Kd.int .i64) w A0 l0.length l0) (hl : l0.length ≤ 12)
    (hb : w.heap[gb]? = some (.cells #[.int .i64 g0, .int .i64 g1, .int .i64 g2, .int .i64 g3] 28 (0, 0))) (h : setsAt k g0 g1 g2 g3 l0 = some v) :
    Calls Tryd.prog 39 #[.slice A0 l0.length c0, .func (.func 40) #[] #[.pointer (some ⟨gb, 0, none⟩)]] w fun e w' => e = .returned (.bool (!v)) ∧ Below w.heap.size w w' := by
  have HR0 := Aside0.mk hr0
  have HL := Aside0.mk hl
  have BK := Aside0.mk hb
  have H' := Aside0.mk h
  clear hr0 hl hb h
  go_enter Tryd.func39, Tryd.ntmps39
  go_wp2_with (first | ((with_reducible refine gate_callee (f := 50) rfl ?_); refine goesL_ (some 7) rfl rfl Tryd.func50 (by kernel_rfl) rfl #[.slice A0 l0.length c0, .func (.func 40) #[] #[.pointer (some ⟨gb, 0, none⟩)]] rfl (by (try simp only [List.map_toArray, List.map_cons, List.map_nil]); first | done | rfl | (simp only [List.length_drop, List.length_take]; rfl)) ?_; (with_reducible refine (index k g0 g1 g2 g3 A0 c0 l0 v gb _ HR0.out HL.out BK.out H'.out).mono ?_); rintro e w1 ⟨j, rfl, hj, hb⟩; refine ⟨_, rfl, ?_⟩; have HB := Aside0.mk hb; clear hb))
  go_ret
  exact ⟨by first | rfl | (rw [← hj]; rfl) | (simp [hj]; done), HB.out⟩
set_option maxHeartbeats 8000000 in
set_option maxRecDepth 100000 in
theorem impl_Kit_isPlan.calls (k : Nat) (g0 g1 g2 g3 : Int) (A0 : Option Addr) (c0 : Nat) (l0 : List Int) (r : Bool) (w : World) (hr0 : Kd.C (Kd.int .i64) w A0 l0.length l0) (hc0 : l0.length ≤ c0) (h : impl_Kit_isPlan.f k g0 g1 g2 g3 l0 = some r) :
    Calls Tryd.prog 24 #[.agg #[.int .i64 g0, .int .i64 g1, .int .i64 g2, .int .i64 g3], .slice A0 l0.length c0] w fun e w' => e = .returned (.bool r) ∧ Below w.heap.size w w' := by
  have hu28 := Tryd.underlying28
  have HR0 := Aside0.mk hr0
  have HB := Aside0.mk (Below.refl w.heap.size w)
  unfold impl_Kit_isPlan.f at h
  by_cases c1 : (l0.length : Int) ≤ 12
  · rw [if_pos c1] at h
    have H' := Aside0.mk h
    have HL : Aside0 (l0.length ≤ 12) := ⟨by omega⟩
    have c1b : decide ((l0.length : Int) ≤ 12) = true := decide_eq_true c1
    have c1c : decide (l0.length ≤ 12) = true := decide_eq_true (by omega)
    clear h hr0 hc0 c1
    go_enter Tryd.func24, Tryd.ntmps24
    go_wp2_with (first | ((with_reducible refine gate_dst (N := 2) rfl ?_); refine box_event ?hg (N := 2) ?hd (cs := #[.int .i64 g0, .int .i64 g1, .int .i64 g2, .int .i64 g3]) (t := 28) ?hr ?_; (case hd => rfl); (case hg => rfl); (case hr => first | (go_simp; done) | (go_simp; rfl)); intro gb hg w3 hbox hb; have n0_ := Aside0.mk (below_step (by repeat (first | (with_reducible first | exact HB.out | apply below_alloc | apply pw_below_drewN | apply below_drew1) | exact HB.out)) hb); clear HB hg; have HB := n0_; have BK := Aside0.mk hbox; clear n0_ hb hbox) | ((with_reducible refine gate_callee (f := 39) rfl ?_); (try (refine gate_guard (by rfl) ?_; dsimp only)); refine goesL_ (some 11) rfl rfl Tryd.func39 (by kernel_rfl) rfl #[.slice A0 l0.length c0, .func (.func 40) #[] #[.pointer (some ⟨gb, 0, none⟩)]] rfl (by (try simp only [List.map_toArray, List.map_cons, List.map_nil]); first | done | rfl | (simp only [List.length_drop, List.length_take]; rfl)) ?_; (with_reducible refine (contains k g0 g1 g2 g3 A0 c0 l0 r gb _ (Kd.C_below HR0.out HB.out) HL.out BK.out H'.out).mono ?_); rintro e w4 ⟨rfl, hb⟩; refine ⟨_, rfl, ?_⟩; have n0_ := Aside0.mk (below_step HB.out hb); clear hb HB; have HB := n0_; clear n0_))
    go_ret
    exact ⟨by first | rfl | (simp; done) | (simp [*]; done), HB.out⟩
  · rw [if_neg c1] at h
    obtain rfl := Option.some.inj h
    have c1b : decide ((l0.length : Int) ≤ 12) = false := decide_eq_false c1
    have c1c : decide (l0.length ≤ 12) = false := decide_eq_false (by omega)
    clear h hr0 hc0 c1
    go_enter Tryd.func24, Tryd.ntmps24
    go_wp2_with (first | ((with_reducible refine gate_dst (N := 2) rfl ?_); refine box_event ?hg (N := 2) ?hd (cs := #[.int .i64 g0, .int .i64 g1, .int .i64 g2, .int .i64 g3]) (t := 28) ?hr ?_; (case hd => rfl); (case hg => rfl); (case hr => first | (go_simp; done) | (go_simp; rfl)); intro gb hg w3 hbox hb; have n0_ := Aside0.mk (below_step (by repeat (first | (with_reducible first | exact HB.out | apply below_alloc | apply pw_below_drewN | apply below_drew1) | exact HB.out)) hb); clear HB hg; have HB := n0_; have BK := Aside0.mk hbox; clear n0_ hb hbox))
    go_ret
    exact ⟨by first | rfl | (simp; done) | (simp [*]; done), HB.out⟩
end Go.Proofs.YtkgeffmmpgdkmaaDoor.Plan
