/- Contracts of spec.CrashLog and impl.CrashLog: a text turned into bytes, its last byte turned round, and back; no condition but those in the theorems. -/
import Derived.Test.YtonfhfcpnoehjaaDoorL
import Derived.Lib.ConvBytes
import Derived.Laws.IdiomStrings
namespace Go.Proofs.YtonfhfcpnoehjaaDoor.Crash
open Go.RowKit Go.Proofs.YtonfhfcpnoehjaaDoor.Giv Go.Proofs.YtonfhfcpnoehjaaDoorW.PrintWords Go.Proofs.YtonfhfcpnoehjaaDoorW.PrintLast Go.Proofs.YtonfhfcpnoehjaaDoor.L
set_option linter.unusedVariables false
set_option linter.unusedSimpArgs false

/-- Block g holds the bytes l, and the mark behind its cells. -/
def BY (w : World) (g : Nat) (l : List UInt8) : Prop := ∃ (cs : Array Value) (m : Nat), w.heap[g]? = some (.cells cs 5 (m, m + 1)) ∧ l.length ≤ m ∧ ∀ j (hj : j < l.length), cs[j]? = some (.int .u8 (l[j].toNat : Int))
theorem BY.cell {w : World} {g : Nat} {l : List UInt8} (h : BY w g l) (j : Nat) (hj : j < l.length) : w.cell? ⟨g, j, none⟩ = some (.int .u8 (l[j].toNat : Int)) := by
  obtain ⟨cs, m, h1, h2, h3⟩ := h
  simp [World.cell?, h1, h3 j hj]
theorem BY.frozen {w : World} {g : Nat} {l : List UInt8} (h : BY w g l) (j : Nat) (hj : j < l.length) : w.frozen? ⟨g, j, none⟩ = false := by
  obtain ⟨cs, m, h1, h2, h3⟩ := h
  simp [World.frozen?, h1]
  omega
theorem BY.lt {w : World} {g : Nat} {l : List UInt8} (h : BY w g l) : g < w.heap.size := by
  obtain ⟨cs, m, h1, _⟩ := h
  exact (Array.getElem?_eq_some_iff.1 h1).1
theorem BY.below {w w1 : World} {g : Nat} {l : List UInt8} (h : BY w g l) (hb : Below w.heap.size w w1) : BY w1 g l := by
  have hl := h.lt
  obtain ⟨cs, m, h1, h2, h3⟩ := h
  exact ⟨cs, m, (hb.block g hl).trans h1, h2, h3⟩
theorem BY.set {w : World} {g : Nat} {l : List UInt8} (h : BY w g l) (j : Nat) (b : UInt8) : BY (w.setCell ⟨g, j, none⟩ (.int .u8 (b.toNat : Int))) g (l.set j b) := by
  obtain ⟨cs, m, h1, h2, h3⟩ := h
  refine ⟨cs.setIfInBounds j (.int .u8 (b.toNat : Int)), m, ?_, by simpa using h2, fun i hi => ?_⟩
  · have hl : g < w.heap.size := (Array.getElem?_eq_some_iff.1 h1).1
    simp [World.setCell, Array.getElem?_modify, h1]
  · have hi' : i < l.length := by simpa using hi
    have h4 := h3 i hi'
    have hc : i < cs.size := (Array.getElem?_eq_some_iff.1 h4).1
    by_cases hij : j = i
    · subst hij
      simp [Array.getElem?_setIfInBounds, hc]
    · rw [Array.getElem?_setIfInBounds_ne hij, h4, List.getElem_set_ne hij]
theorem BY.str {P : Program} {w : World} {g n c : Nat} {l : List UInt8} {src dst e : TypeId} (h : BY w g l) (hn : l.length = n) (hs : P.underlying src = some (.slice e)) (he : P.underlying e = some (.int .u8)) (hd : P.underlying dst = some .string) :
    (convert src dst (.slice (some ⟨g, 0, none⟩) n c)).run P w = .ok (.string ⟨l.toArray⟩) w := by
  subst hn
  refine run_convert_bytes_back w src dst e ⟨g, 0, none⟩ c l hs he hd fun j hj => ?_
  have ha : (⟨g, 0, none⟩ : Addr).add j = ⟨g, j, none⟩ := by unfold Addr.add; split <;> simp_all
  rw [ha]
  exact h.cell j hj
theorem BY.made (w : World) (s : ByteArray) : BY (Lib.bytesWorld w 5 s) w.heap.size s.data.toList := by
  refine ⟨_, _, Lib.bytesWorld_at_new w 5 s, by simp [Lib.bytesCells], fun j hj => ?_⟩
  have hj' : j < s.data.size := by simpa using hj
  have hj2 : j < s.size := hj'
  simp [Lib.bytesCells, Array.getElem?_append, hj2, Array.getElem?_eq_getElem hj']
theorem below_made (w : World) (s : ByteArray) : Below w.heap.size w (Lib.bytesWorld w 5 s) := bytes_below (Below.refl _ _) (Nat.le_refl _) 5 s
/-- The byte turned round. -/
def inv (b : UInt8) : UInt8 := 255 - b
theorem inv_toNat (b : UInt8) : ((inv b).toNat : Int) = 255 - (b.toNat : Int) := by
  have hb := b.toNat_lt
  unfold inv
  rw [UInt8.toNat_sub_of_le (255 : UInt8) b (by rw [UInt8.le_iff_toNat_le]; show b.toNat ≤ 255; omega)]
  show (((255 : Nat) - b.toNat : Nat) : Int) = _
  omega
section
variable {P : Program} {ops : Array Oper} {rest : List Oper} {o : Oper} {a : Act} {Q : Exit → Act → World → Prop}
theorem conv_event {W : World} (hgd : o.guard = none) {N : Tmp} (_hd : o.dst = some N) {s : ByteArray}
    (hrun : (execOp a.eval o).run P W = .ok (.value (.slice (some ⟨W.heap.size, 0, none⟩) s.size (grownCap W s.size 0 5))) (Lib.bytesWorld W 5 s))
    (h : ∀ c g w1, W.heap.size ≤ g → BY w1 g s.data.toList → Below W.heap.size W w1 → wpList P ops Q rest (a.put o.dst (.slice (some ⟨g, 0, none⟩) s.size c)) w1) : wpList P ops Q (o :: rest) a W :=
  Kd.event_run hgd hrun (h _ _ _ (Nat.le_refl _) (BY.made W s) (below_made W s))
theorem conv_step {Kc : Act → World → Prop} {W : World} (hw : Region.wanted o (yielded ops a.tmps) = true) {N : Tmp} (_hd : o.dst = some N) {s : ByteArray}
    (hrun : (execOp a.eval o).run P W = .ok (.value (.slice (some ⟨W.heap.size, 0, none⟩) s.size (grownCap W s.size 0 5))) (Lib.bytesWorld W 5 s))
    (h : ∀ c g w1, W.heap.size ≤ g → BY w1 g s.data.toList → Below W.heap.size W w1 → Kc (a.put o.dst (.slice (some ⟨g, 0, none⟩) s.size c)) w1) : if Region.wanted o (yielded ops a.tmps) = true then Oper.wp P o a W Kc Q else Kc (a.put o.dst undef) W :=
  event_step hw hrun (h _ _ _ (Nat.le_refl _) (BY.made W s) (below_made W s))
end
def impl_CrashLog.T3 : Bool × List (List Nat × List Nat) := (true, [([], []), ([0], [0]), ([], []), ([2], [2]), ([], []), ([3, 4], [3, 4]), ([1, 5], [1, 5]), ([6], [6]), ([7, 0, 1, 2, 3, 4, 5, 6, 7], [7])])
def impl_CrashLog.B3 : List Nat := [0, 1, 0, 4, 0, 28, 63, 127, 255]
theorem impl_CrashLog.tab3 : rtab .any (opsOf Tryd.f24 3) = impl_CrashLog.T3 := by kernel_rfl
theorem impl_CrashLog.bits3 : waitsOk impl_CrashLog.T3.2 impl_CrashLog.B3 = true := by kernel_rfl
/-- The last byte turned round, where the crash tears. -/
def tear (l : List UInt8) (on : Bool) : List UInt8 := if on = true then l.set (l.length - 1) (inv (l.getD (l.length - 1) 0)) else l

/-- spec_CrashLog. -/
def spec_CrashLog.f (k : Nat) (d p : ByteArray) (n keep : Int) (torn : Bool) : Option (ByteArray × Bool) := (spec_l12Valid.f k d p n).bind fun t => if t = true then ((spec_l1In.f keep 0 (p.size : Int)).bind fun u => if u = true then (if 0 ≤ keep ∧ keep ≤ (p.size : Int) ∧ d.size + p.size ≤ 1000000000 then some (d ++ (⟨(tear (p.extract 0 keep.toNat).data.toList (torn && decide (keep > 0))).toArray⟩ : ByteArray), true) else none) else some ((⟨#[]⟩ : ByteArray), false)) else some ((⟨#[]⟩ : ByteArray), false)
theorem spec_CrashLog.mono : ∀ d p n keep torn k, LeO (spec_CrashLog.f k d p n keep torn) (spec_CrashLog.f (k + 1) d p n keep torn) := fun d p n keep torn k => LeO.bind (spec_l12Valid.mono d p n k) (fun _ => LeO.refl _)
set_option maxHeartbeats 8000000 in
set_option maxRecDepth 100000 in
theorem spec_CrashLog.calls (k : Nat) (d p : ByteArray) (n keep : Int) (torn : Bool) (r1 : ByteArray) (r2 : Bool) (w : World) (hL : LW w) (h : spec_CrashLog.f k d p n keep torn = some (r1, r2)) :
    Calls Tryd.prog 23 #[.agg #[.string d, .string p, .int .i64 n], .int .i64 keep, .bool torn] w fun e w' => e = .returned (.tuple #[.string r1, .bool r2]) ∧ Below w.heap.size w w' := by
  have hu31 := Tryd.underlying31
  have HLW := Aside0.mk hL
  clear hL
  have HB := Aside0.mk (Below.refl w.heap.size w)
  have H := h
  unfold spec_CrashLog.f at H
  clear h
  obtain ⟨t, A1, H⟩ := Option.bind_eq_some_iff.mp H
  replace A1 := Aside0.mk A1
  by_cases c1 : t = true
  · subst c1
    rw [if_pos rfl] at H
    obtain ⟨u, A2, H⟩ := Option.bind_eq_some_iff.mp H
    replace A2 := Aside0.mk A2
    by_cases c2 : u = true
    · subst c2
      rw [if_pos rfl] at H
      by_cases c3 : 0 ≤ keep ∧ keep ≤ (p.size : Int) ∧ d.size + p.size ≤ 1000000000
      · rw [if_pos c3] at H
        obtain ⟨c30, c31, c32⟩ := c3
        have c30b := eq_true c30
        have c30d : decide (0 ≤ keep) = true := decide_eq_true c30
        have c31b := eq_true c31
        have c31d : decide (keep ≤ (p.size : Int)) = true := decide_eq_true c31
        have hsz : (p.extract 0 keep.toNat).size = keep.toNat := by simp; omega
        generalize hsl : p.extract 0 keep.toNat = sl at H hsz
        have hsl' := hsl
        simp only [Option.some.injEq, Prod.mk.injEq] at H
        obtain ⟨h1, rfl⟩ := H
        have H1 := Aside0.mk h1
        clear h1
        by_cases c4 : (torn && decide (keep > 0)) = true
        · have c40 : torn = true := by simp at c4; exact c4.1
          have c41 : keep > 0 := by simp at c4; exact c4.2
          subst c40
          have c41d : decide (0 < keep) = true := decide_eq_true c41
          rw [c4] at H1
          obtain ⟨m, hm⟩ : ∃ m : Nat, sl.size = m + 1 := ⟨sl.size - 1, by omega⟩
          have hkm : keep = (m : Int) + 1 := by omega
          have hw1 : wrap64 (keep - 1) = (m : Int) := by subst hkm; unfold wrap64; omega
          have hmk : keep.toNat - 1 = m := by omega
          have HMK := Aside0.mk hmk
          have hb1 : (1 ≤ keep) = True := eq_true (by omega)
          have hb2 : (keep - 1 < (m : Int) + 1) = True := eq_true (by omega)
          clear hkm hmk
          have hlen : sl.data.toList.length = m + 1 := by simpa using hm
          have hmlt : m < sl.data.toList.length := by rw [hlen]; exact Nat.lt_succ_self m
          have hi1 : decide ((m : Int) < ((m + 1 : Nat) : Int)) = true := decide_eq_true (by omega)
          have hi2 : decide ((m : Int) < (m : Int) + 1) = true := decide_eq_true (by omega)
          have hi3 : decide (0 ≤ (m : Int)) = true := decide_eq_true (by omega)
          obtain ⟨c0, hc0⟩ : ∃ c0 : Int, c0 = ((sl.data.toList[m]'hmlt).toNat : Int) := ⟨_, rfl⟩
          obtain ⟨c1, hc1⟩ : ∃ c1 : Int, c1 = ((inv (sl.data.toList[m]'hmlt)).toNat : Int) := ⟨_, rfl⟩
          have hsub : IntKind.u8.wrap (255 - c0) = c1 := by rw [hc1, inv_toNat, ← hc0]; have := (sl.data.toList[m]'hmlt).toNat_lt; simp [IntKind.wrap, IntKind.bits, IntKind.signed]; omega
          have HC0 := Aside0.mk hc0
          have HC1 := Aside0.mk hc1
          have HM := Aside0.mk hm
          have HS := Aside0.mk hsz
          clear hc0 hc1
          have htear : tear sl.data.toList true = sl.data.toList.set m (inv (sl.data.toList[m]'hmlt)) := by (have hl1 : sl.data.toList.length - 1 = m := by omega); unfold tear; rw [if_pos rfl, hl1, List.getD_eq_getElem?_getD, List.getElem?_eq_getElem (by omega)]; rfl
          rw [htear] at H1
          generalize hgl : (⟨(sl.data.toList.set m (inv (sl.data.toList[m]'hmlt))).toArray⟩ : ByteArray) = sz at H1
          have hszz : sz.size = m + 1 := by rw [← hgl]; show (List.toArray _).size = m + 1; rw [List.size_toArray, List.length_set, hlen]
          have cat : d.size + sz.size ≤ 9223372036854775807 := by omega
          have catb := eq_true cat
          have catd : decide (d.size + sz.size ≤ 9223372036854775807) = true := decide_eq_true cat
          have catn : (9223372036854775807 < d.size + sz.size) = False := eq_false (Nat.not_lt.2 cat)
          obtain rfl := H1.out
          clear hm hsz hsl
          go_enter Tryd.func23, Tryd.ntmps23
          go_wp2_with (first | ((with_reducible refine gate_dst (N := 3) rfl ?_); refine box_event ?hg (N := 3) ?hd (cs := #[.string d, .string p, .int .i64 n]) (t := 31) ?hr ?_; (case hd => rfl); (case hg => rfl); (case hr => first | (go_simp; done) | (go_simp; rfl)); intro gb1 hg w3 hbox hb; have n0_ := Aside0.mk (below_step (by repeat (first | (with_reducible first | exact HB.out | apply below_alloc | apply pw_below_drewN | apply below_drew1) | exact HB.out)) hb); have n2_ : Aside0 (w.heap.size ≤ gb1) := ⟨by rw [hg]; exact (below_size (by repeat (first | (with_reducible first | exact HB.out | apply below_alloc | apply pw_below_drewN | apply below_drew1) | exact HB.out)))⟩; clear HB; have HB := n0_; have BK1 := Aside0.mk hbox; have GE1 := n2_; clear n0_ n2_; clear hb hbox hg; have hcz_0 : w3.cell? ⟨gb1, 0, none⟩ = some (.string d) := (blk_cell BK1.out 0).trans rfl; have hcz_1 : w3.cell? ⟨gb1, 1, none⟩ = some (.string p) := (blk_cell BK1.out 1).trans rfl; have hcz_2 : w3.cell? ⟨gb1, 2, none⟩ = some (.int .i64 n) := (blk_cell BK1.out 2).trans rfl) | ((with_reducible refine gate_callee (f := 53) rfl ?_); refine goesL_ (some 10) rfl rfl Tryd.func53 (by kernel_rfl) rfl #[.agg #[.string d, .string p, .int .i64 n]] rfl (by (try simp only [List.map_toArray, List.map_cons, List.map_nil]); first | done | rfl | (simp only [List.length_drop, List.length_take]; rfl)) ?_; (with_reducible refine (spec_l12Valid.calls k d p n true _ A1.out).mono ?_); rintro e w4 ⟨rfl, hb⟩; refine ⟨_, rfl, ?_⟩; have n0_ := Aside0.mk (blk_below (g := gb1) (o := .cells #[.string d, .string p, .int .i64 n] 31 (0, 0)) (by (with_reducible repeat (first | refine blk_drewN ?_ _ | refine blk_drew ?_ | refine blk_alloc ?_ _)); exact BK1.out) hb); have n1_ := Aside0.mk (below_step (by repeat (first | (with_reducible first | exact HB.out | apply below_alloc | apply pw_below_drewN | apply below_drew1 | refine below_set ?_ GE1.out) | exact HB.out)) hb); clear BK1 HB; have BK1 := n0_; have HB := n1_; clear n0_ n1_; have hcz_0 : w4.cell? ⟨gb1, 0, none⟩ = some (.string d) := (blk_cell BK1.out 0).trans rfl; have hcz_1 : w4.cell? ⟨gb1, 1, none⟩ = some (.string p) := (blk_cell BK1.out 1).trans rfl; have hcz_2 : w4.cell? ⟨gb1, 2, none⟩ = some (.int .i64 n) := (blk_cell BK1.out 2).trans rfl; clear hb) | ((with_reducible refine gate_callee (f := 45) rfl ?_); (try (refine gate_guard (by rfl) ?_; dsimp only)); refine goesL_ (some 17) rfl rfl Tryd.func45 (by kernel_rfl) rfl #[.int .i64 keep, .int .i64 0, .int .i64 (p.size : Int)] rfl (by (try simp only [List.map_toArray, List.map_cons, List.map_nil]); first | done | rfl | (simp only [List.length_drop, List.length_take]; rfl)) ?_; (with_reducible refine (spec_l1In.calls keep 0 (p.size : Int) true _ A2.out).mono ?_); rintro e w' ⟨rfl, ⟨nd, rfl⟩⟩; refine ⟨_, rfl, ?_⟩; (try (rw [drewN_self w4]; generalize hq_ : World.drewN w4 _ = w5; have n0_ := Aside0.mk (blk_at hq_ BK1.out); have n1_ := Aside0.mk (below_at hq_ HB.out); clear hq_ BK1 HB; have BK1 := n0_; have HB := n1_; clear n0_ n1_; have hcz_0 : w5.cell? ⟨gb1, 0, none⟩ = some (.string d) := (blk_cell BK1.out 0).trans rfl; have hcz_1 : w5.cell? ⟨gb1, 1, none⟩ = some (.string p) := (blk_cell BK1.out 1).trans rfl; have hcz_2 : w5.cell? ⟨gb1, 2, none⟩ = some (.int .i64 n) := (blk_cell BK1.out 2).trans rfl))) | ((with_reducible refine gate_dst (N := 24) rfl ?_); refine conv_event ?hg (N := 24) ?hd (s := sl) ?hr ?_; (case hd => rfl); (case hg => rfl); (case hr => have hcv := fun W => Go.Lib.run_convert_string_bytes (P := Tryd.prog) W 9 53 5 sl Tryd.underlying9 Tryd.underlying53 Tryd.underlying5; first | (go_simp; rw [hcv]; rfl) | (go_simp; simp only [hcv]; rfl) | (go_simp; done) | (go_simp; rfl)); intro cc g2 w6 hg2 hby hb; have n2_ : Aside0 (w.heap.size ≤ g2) := ⟨Nat.le_trans (below_size (by repeat (first | (with_reducible first | exact HB.out | apply below_alloc | apply pw_below_drewN | apply below_drew1 | refine below_set ?_ GE1.out) | exact HB.out))) hg2⟩; have hne : gb1 ≠ g2 := (by have hl_ := blk_lt (g := gb1) (o := .cells #[.string d, .string p, .int .i64 n] 31 (0, 0)) (by (with_reducible repeat (first | refine blk_drewN ?_ _ | refine blk_drew ?_ | refine blk_alloc ?_ _)); exact BK1.out); omega); clear hg2; have GE2 := n2_; clear n2_; have HY := Aside0.mk hby; clear hby; have n0_ := Aside0.mk (blk_below (g := gb1) (o := .cells #[.string d, .string p, .int .i64 n] 31 (0, 0)) (by (with_reducible repeat (first | refine blk_drewN ?_ _ | refine blk_drew ?_ | refine blk_alloc ?_ _)); exact BK1.out) hb); have n1_ := Aside0.mk (below_step (by repeat (first | (with_reducible first | exact HB.out | apply below_alloc | apply pw_below_drewN | apply below_drew1 | refine below_set ?_ GE1.out) | exact HB.out)) hb); clear BK1 HB; have BK1 := n0_; have HB := n1_; clear n0_ n1_; have hcz_0 : w6.cell? ⟨gb1, 0, none⟩ = some (.string d) := (blk_cell BK1.out 0).trans rfl; have hcz_1 : w6.cell? ⟨gb1, 1, none⟩ = some (.string p) := (blk_cell BK1.out 1).trans rfl; have hcz_2 : w6.cell? ⟨gb1, 2, none⟩ = some (.int .i64 n) := (blk_cell BK1.out 2).trans rfl; clear hb; have hcb : w6.cell? ⟨g2, keep.toNat - 1, none⟩ = some (.int .u8 c0) := (by rw [HMK.out, HC0.out]; exact HY.out.cell m (by omega)); have hfb : w6.frozen? ⟨g2, keep.toNat - 1, none⟩ = false := (by rw [HMK.out]; exact HY.out.frozen m (by omega)); have hset : BY (w6.setCell ⟨g2, keep.toNat - 1, none⟩ (.int .u8 c1)) g2 (sl.data.toList.set m (inv (sl.data.toList[m]'hmlt))) := (by rw [HMK.out, HC1.out]; exact HY.out.set m _); have hst := fun c => BY.str (P := Tryd.prog) (c := c) hset (n := m + 1) (by simp [hlen]) Tryd.underlying53 Tryd.underlying5 Tryd.underlying9; simp only [hgl] at hst; clear hset; rw [HM.out]))
          go_ret2
          exact ⟨by first | rfl | (simp; done) | (simp [*]; done), by repeat (first | (with_reducible first | exact HB.out | apply below_alloc | apply pw_below_drewN | apply below_drew1 | refine below_set ?_ GE1.out | refine below_set ?_ GE2.out) | exact HB.out)⟩
        · have c4' : (torn && decide (keep > 0)) = false := Bool.eq_false_iff.mpr c4
          rw [c4'] at H1
          have htear : tear sl.data.toList false = sl.data.toList := rfl
          rw [htear] at H1
          have hid : (⟨sl.data.toList.toArray⟩ : ByteArray) = sl := by simp
          rw [hid] at H1
          have cat : d.size + sl.size ≤ 9223372036854775807 := by omega
          have catb := eq_true cat
          have catd : decide (d.size + sl.size ≤ 9223372036854775807) = true := decide_eq_true cat
          have catn : (9223372036854775807 < d.size + sl.size) = False := eq_false (Nat.not_lt.2 cat)
          obtain rfl := H1.out
          have HID := Aside0.mk hid
          clear hid hsz hsl
          by_cases c5 : torn = true
          · subst c5
            have c41d : decide (0 < keep) = false := by simpa using c4'
            go_enter Tryd.func23, Tryd.ntmps23
            go_wp2_with (first | ((with_reducible refine gate_dst (N := 3) rfl ?_); refine box_event ?hg (N := 3) ?hd (cs := #[.string d, .string p, .int .i64 n]) (t := 31) ?hr ?_; (case hd => rfl); (case hg => rfl); (case hr => first | (go_simp; done) | (go_simp; rfl)); intro gb1 hg w3 hbox hb; have n0_ := Aside0.mk (below_step (by repeat (first | (with_reducible first | exact HB.out | apply below_alloc | apply pw_below_drewN | apply below_drew1) | exact HB.out)) hb); have n2_ : Aside0 (w.heap.size ≤ gb1) := ⟨by rw [hg]; exact (below_size (by repeat (first | (with_reducible first | exact HB.out | apply below_alloc | apply pw_below_drewN | apply below_drew1) | exact HB.out)))⟩; clear HB; have HB := n0_; have BK1 := Aside0.mk hbox; have GE1 := n2_; clear n0_ n2_; clear hb hbox hg; have hcz_0 : w3.cell? ⟨gb1, 0, none⟩ = some (.string d) := (blk_cell BK1.out 0).trans rfl; have hcz_1 : w3.cell? ⟨gb1, 1, none⟩ = some (.string p) := (blk_cell BK1.out 1).trans rfl; have hcz_2 : w3.cell? ⟨gb1, 2, none⟩ = some (.int .i64 n) := (blk_cell BK1.out 2).trans rfl) | ((with_reducible refine gate_callee (f := 53) rfl ?_); refine goesL_ (some 10) rfl rfl Tryd.func53 (by kernel_rfl) rfl #[.agg #[.string d, .string p, .int .i64 n]] rfl (by (try simp only [List.map_toArray, List.map_cons, List.map_nil]); first | done | rfl | (simp only [List.length_drop, List.length_take]; rfl)) ?_; (with_reducible refine (spec_l12Valid.calls k d p n true _ A1.out).mono ?_); rintro e w4 ⟨rfl, hb⟩; refine ⟨_, rfl, ?_⟩; have n0_ := Aside0.mk (blk_below (g := gb1) (o := .cells #[.string d, .string p, .int .i64 n] 31 (0, 0)) (by (with_reducible repeat (first | refine blk_drewN ?_ _ | refine blk_drew ?_ | refine blk_alloc ?_ _)); exact BK1.out) hb); have n1_ := Aside0.mk (below_step (by repeat (first | (with_reducible first | exact HB.out | apply below_alloc | apply pw_below_drewN | apply below_drew1 | refine below_set ?_ GE1.out) | exact HB.out)) hb); clear BK1 HB; have BK1 := n0_; have HB := n1_; clear n0_ n1_; have hcz_0 : w4.cell? ⟨gb1, 0, none⟩ = some (.string d) := (blk_cell BK1.out 0).trans rfl; have hcz_1 : w4.cell? ⟨gb1, 1, none⟩ = some (.string p) := (blk_cell BK1.out 1).trans rfl; have hcz_2 : w4.cell? ⟨gb1, 2, none⟩ = some (.int .i64 n) := (blk_cell BK1.out 2).trans rfl; clear hb) | ((with_reducible refine gate_callee (f := 45) rfl ?_); (try (refine gate_guard (by rfl) ?_; dsimp only)); refine goesL_ (some 17) rfl rfl Tryd.func45 (by kernel_rfl) rfl #[.int .i64 keep, .int .i64 0, .int .i64 (p.size : Int)] rfl (by (try simp only [List.map_toArray, List.map_cons, List.map_nil]); first | done | rfl | (simp only [List.length_drop, List.length_take]; rfl)) ?_; (with_reducible refine (spec_l1In.calls keep 0 (p.size : Int) true _ A2.out).mono ?_); rintro e w' ⟨rfl, ⟨nd, rfl⟩⟩; refine ⟨_, rfl, ?_⟩; (try (rw [drewN_self w4]; generalize hq_ : World.drewN w4 _ = w5; have n0_ := Aside0.mk (blk_at hq_ BK1.out); have n1_ := Aside0.mk (below_at hq_ HB.out); clear hq_ BK1 HB; have BK1 := n0_; have HB := n1_; clear n0_ n1_; have hcz_0 : w5.cell? ⟨gb1, 0, none⟩ = some (.string d) := (blk_cell BK1.out 0).trans rfl; have hcz_1 : w5.cell? ⟨gb1, 1, none⟩ = some (.string p) := (blk_cell BK1.out 1).trans rfl; have hcz_2 : w5.cell? ⟨gb1, 2, none⟩ = some (.int .i64 n) := (blk_cell BK1.out 2).trans rfl))) | ((with_reducible refine gate_dst (N := 24) rfl ?_); refine conv_event ?hg (N := 24) ?hd (s := sl) ?hr ?_; (case hd => rfl); (case hg => rfl); (case hr => have hcv := fun W => Go.Lib.run_convert_string_bytes (P := Tryd.prog) W 9 53 5 sl Tryd.underlying9 Tryd.underlying53 Tryd.underlying5; first | (go_simp; rw [hcv]; rfl) | (go_simp; simp only [hcv]; rfl) | (go_simp; done) | (go_simp; rfl)); intro cc g2 w6 hg2 hby hb; have n2_ : Aside0 (w.heap.size ≤ g2) := ⟨Nat.le_trans (below_size (by repeat (first | (with_reducible first | exact HB.out | apply below_alloc | apply pw_below_drewN | apply below_drew1 | refine below_set ?_ GE1.out) | exact HB.out))) hg2⟩; have hne : gb1 ≠ g2 := (by have hl_ := blk_lt (g := gb1) (o := .cells #[.string d, .string p, .int .i64 n] 31 (0, 0)) (by (with_reducible repeat (first | refine blk_drewN ?_ _ | refine blk_drew ?_ | refine blk_alloc ?_ _)); exact BK1.out); omega); clear hg2; have GE2 := n2_; clear n2_; have HY := Aside0.mk hby; clear hby; have n0_ := Aside0.mk (blk_below (g := gb1) (o := .cells #[.string d, .string p, .int .i64 n] 31 (0, 0)) (by (with_reducible repeat (first | refine blk_drewN ?_ _ | refine blk_drew ?_ | refine blk_alloc ?_ _)); exact BK1.out) hb); have n1_ := Aside0.mk (below_step (by repeat (first | (with_reducible first | exact HB.out | apply below_alloc | apply pw_below_drewN | apply below_drew1 | refine below_set ?_ GE1.out) | exact HB.out)) hb); clear BK1 HB; have BK1 := n0_; have HB := n1_; clear n0_ n1_; have hcz_0 : w6.cell? ⟨gb1, 0, none⟩ = some (.string d) := (blk_cell BK1.out 0).trans rfl; have hcz_1 : w6.cell? ⟨gb1, 1, none⟩ = some (.string p) := (blk_cell BK1.out 1).trans rfl; have hcz_2 : w6.cell? ⟨gb1, 2, none⟩ = some (.int .i64 n) := (blk_cell BK1.out 2).trans rfl; clear hb; have hst : ∀ c, (convert 53 9 (.slice (some ⟨g2, 0, none⟩) sl.size c)).run Tryd.prog w6 = .ok (.string sl) w6 := (fun c => by have h_ := BY.str (P := Tryd.prog) (c := c) HY.out (n := sl.size) (by simp) Tryd.underlying53 Tryd.underlying5 Tryd.underlying9; have hid_ : (⟨sl.data.toList.toArray⟩ : ByteArray) = sl := (by simp); rwa [hid_] at h_)))
            go_ret2
            exact ⟨by first | rfl | (simp; done) | (simp [*]; done), by repeat (first | (with_reducible first | exact HB.out | apply below_alloc | apply pw_below_drewN | apply below_drew1 | refine below_set ?_ GE1.out | refine below_set ?_ GE2.out) | exact HB.out)⟩
          · replace c5 := Bool.eq_false_iff.mpr c5
            subst c5
            go_enter Tryd.func23, Tryd.ntmps23
            go_wp2_with (first | ((with_reducible refine gate_dst (N := 3) rfl ?_); refine box_event ?hg (N := 3) ?hd (cs := #[.string d, .string p, .int .i64 n]) (t := 31) ?hr ?_; (case hd => rfl); (case hg => rfl); (case hr => first | (go_simp; done) | (go_simp; rfl)); intro gb1 hg w3 hbox hb; have n0_ := Aside0.mk (below_step (by repeat (first | (with_reducible first | exact HB.out | apply below_alloc | apply pw_below_drewN | apply below_drew1) | exact HB.out)) hb); have n2_ : Aside0 (w.heap.size ≤ gb1) := ⟨by rw [hg]; exact (below_size (by repeat (first | (with_reducible first | exact HB.out | apply below_alloc | apply pw_below_drewN | apply below_drew1) | exact HB.out)))⟩; clear HB; have HB := n0_; have BK1 := Aside0.mk hbox; have GE1 := n2_; clear n0_ n2_; clear hb hbox hg; have hcz_0 : w3.cell? ⟨gb1, 0, none⟩ = some (.string d) := (blk_cell BK1.out 0).trans rfl; have hcz_1 : w3.cell? ⟨gb1, 1, none⟩ = some (.string p) := (blk_cell BK1.out 1).trans rfl; have hcz_2 : w3.cell? ⟨gb1, 2, none⟩ = some (.int .i64 n) := (blk_cell BK1.out 2).trans rfl) | ((with_reducible refine gate_callee (f := 53) rfl ?_); refine goesL_ (some 10) rfl rfl Tryd.func53 (by kernel_rfl) rfl #[.agg #[.string d, .string p, .int .i64 n]] rfl (by (try simp only [List.map_toArray, List.map_cons, List.map_nil]); first | done | rfl | (simp only [List.length_drop, List.length_take]; rfl)) ?_; (with_reducible refine (spec_l12Valid.calls k d p n true _ A1.out).mono ?_); rintro e w4 ⟨rfl, hb⟩; refine ⟨_, rfl, ?_⟩; have n0_ := Aside0.mk (blk_below (g := gb1) (o := .cells #[.string d, .string p, .int .i64 n] 31 (0, 0)) (by (with_reducible repeat (first | refine blk_drewN ?_ _ | refine blk_drew ?_ | refine blk_alloc ?_ _)); exact BK1.out) hb); have n1_ := Aside0.mk (below_step (by repeat (first | (with_reducible first | exact HB.out | apply below_alloc | apply pw_below_drewN | apply below_drew1 | refine below_set ?_ GE1.out) | exact HB.out)) hb); clear BK1 HB; have BK1 := n0_; have HB := n1_; clear n0_ n1_; have hcz_0 : w4.cell? ⟨gb1, 0, none⟩ = some (.string d) := (blk_cell BK1.out 0).trans rfl; have hcz_1 : w4.cell? ⟨gb1, 1, none⟩ = some (.string p) := (blk_cell BK1.out 1).trans rfl; have hcz_2 : w4.cell? ⟨gb1, 2, none⟩ = some (.int .i64 n) := (blk_cell BK1.out 2).trans rfl; clear hb) | ((with_reducible refine gate_callee (f := 45) rfl ?_); (try (refine gate_guard (by rfl) ?_; dsimp only)); refine goesL_ (some 17) rfl rfl Tryd.func45 (by kernel_rfl) rfl #[.int .i64 keep, .int .i64 0, .int .i64 (p.size : Int)] rfl (by (try simp only [List.map_toArray, List.map_cons, List.map_nil]); first | done | rfl | (simp only [List.length_drop, List.length_take]; rfl)) ?_; (with_reducible refine (spec_l1In.calls keep 0 (p.size : Int) true _ A2.out).mono ?_); rintro e w' ⟨rfl, ⟨nd, rfl⟩⟩; refine ⟨_, rfl, ?_⟩; (try (rw [drewN_self w4]; generalize hq_ : World.drewN w4 _ = w5; have n0_ := Aside0.mk (blk_at hq_ BK1.out); have n1_ := Aside0.mk (below_at hq_ HB.out); clear hq_ BK1 HB; have BK1 := n0_; have HB := n1_; clear n0_ n1_; have hcz_0 : w5.cell? ⟨gb1, 0, none⟩ = some (.string d) := (blk_cell BK1.out 0).trans rfl; have hcz_1 : w5.cell? ⟨gb1, 1, none⟩ = some (.string p) := (blk_cell BK1.out 1).trans rfl; have hcz_2 : w5.cell? ⟨gb1, 2, none⟩ = some (.int .i64 n) := (blk_cell BK1.out 2).trans rfl))) | ((with_reducible refine gate_dst (N := 24) rfl ?_); refine conv_event ?hg (N := 24) ?hd (s := sl) ?hr ?_; (case hd => rfl); (case hg => rfl); (case hr => have hcv := fun W => Go.Lib.run_convert_string_bytes (P := Tryd.prog) W 9 53 5 sl Tryd.underlying9 Tryd.underlying53 Tryd.underlying5; first | (go_simp; rw [hcv]; rfl) | (go_simp; simp only [hcv]; rfl) | (go_simp; done) | (go_simp; rfl)); intro cc g2 w6 hg2 hby hb; have n2_ : Aside0 (w.heap.size ≤ g2) := ⟨Nat.le_trans (below_size (by repeat (first | (with_reducible first | exact HB.out | apply below_alloc | apply pw_below_drewN | apply below_drew1 | refine below_set ?_ GE1.out) | exact HB.out))) hg2⟩; have hne : gb1 ≠ g2 := (by have hl_ := blk_lt (g := gb1) (o := .cells #[.string d, .string p, .int .i64 n] 31 (0, 0)) (by (with_reducible repeat (first | refine blk_drewN ?_ _ | refine blk_drew ?_ | refine blk_alloc ?_ _)); exact BK1.out); omega); clear hg2; have GE2 := n2_; clear n2_; have HY := Aside0.mk hby; clear hby; have n0_ := Aside0.mk (blk_below (g := gb1) (o := .cells #[.string d, .string p, .int .i64 n] 31 (0, 0)) (by (with_reducible repeat (first | refine blk_drewN ?_ _ | refine blk_drew ?_ | refine blk_alloc ?_ _)); exact BK1.out) hb); have n1_ := Aside0.mk (below_step (by repeat (first | (with_reducible first | exact HB.out | apply below_alloc | apply pw_below_drewN | apply below_drew1 | refine below_set ?_ GE1.out) | exact HB.out)) hb); clear BK1 HB; have BK1 := n0_; have HB := n1_; clear n0_ n1_; have hcz_0 : w6.cell? ⟨gb1, 0, none⟩ = some (.string d) := (blk_cell BK1.out 0).trans rfl; have hcz_1 : w6.cell? ⟨gb1, 1, none⟩ = some (.string p) := (blk_cell BK1.out 1).trans rfl; have hcz_2 : w6.cell? ⟨gb1, 2, none⟩ = some (.int .i64 n) := (blk_cell BK1.out 2).trans rfl; clear hb; have hst : ∀ c, (convert 53 9 (.slice (some ⟨g2, 0, none⟩) sl.size c)).run Tryd.prog w6 = .ok (.string sl) w6 := (fun c => by have h_ := BY.str (P := Tryd.prog) (c := c) HY.out (n := sl.size) (by simp) Tryd.underlying53 Tryd.underlying5 Tryd.underlying9; have hid_ : (⟨sl.data.toList.toArray⟩ : ByteArray) = sl := (by simp); rwa [hid_] at h_)))
            go_ret2
            exact ⟨by first | rfl | (simp; done) | (simp [*]; done), by repeat (first | (with_reducible first | exact HB.out | apply below_alloc | apply pw_below_drewN | apply below_drew1 | refine below_set ?_ GE1.out | refine below_set ?_ GE2.out) | exact HB.out)⟩
      · rw [if_neg c3] at H
        exact absurd H (by simp)
    · replace c2 := Bool.eq_false_iff.mpr c2
      subst c2
      rw [if_neg (show ¬ (false = true) by decide)] at H
      simp only [Option.some.injEq, Prod.mk.injEq] at H
      obtain ⟨rfl, rfl⟩ := H
      go_enter Tryd.func23, Tryd.ntmps23
      go_wp2_with (first | ((with_reducible refine gate_dst (N := 3) rfl ?_); refine box_event ?hg (N := 3) ?hd (cs := #[.string d, .string p, .int .i64 n]) (t := 31) ?hr ?_; (case hd => rfl); (case hg => rfl); (case hr => first | (go_simp; done) | (go_simp; rfl)); intro gb1 hg w3 hbox hb; have n0_ := Aside0.mk (below_step (by repeat (first | (with_reducible first | exact HB.out | apply below_alloc | apply pw_below_drewN | apply below_drew1) | exact HB.out)) hb); have n2_ : Aside0 (w.heap.size ≤ gb1) := ⟨by rw [hg]; exact (below_size (by repeat (first | (with_reducible first | exact HB.out | apply below_alloc | apply pw_below_drewN | apply below_drew1) | exact HB.out)))⟩; clear HB; have HB := n0_; have BK1 := Aside0.mk hbox; have GE1 := n2_; clear n0_ n2_; clear hb hbox hg; have hcz_0 : w3.cell? ⟨gb1, 0, none⟩ = some (.string d) := (blk_cell BK1.out 0).trans rfl; have hcz_1 : w3.cell? ⟨gb1, 1, none⟩ = some (.string p) := (blk_cell BK1.out 1).trans rfl; have hcz_2 : w3.cell? ⟨gb1, 2, none⟩ = some (.int .i64 n) := (blk_cell BK1.out 2).trans rfl) | ((with_reducible refine gate_callee (f := 53) rfl ?_); refine goesL_ (some 10) rfl rfl Tryd.func53 (by kernel_rfl) rfl #[.agg #[.string d, .string p, .int .i64 n]] rfl (by (try simp only [List.map_toArray, List.map_cons, List.map_nil]); first | done | rfl | (simp only [List.length_drop, List.length_take]; rfl)) ?_; (with_reducible refine (spec_l12Valid.calls k d p n true _ A1.out).mono ?_); rintro e w4 ⟨rfl, hb⟩; refine ⟨_, rfl, ?_⟩; have n0_ := Aside0.mk (blk_below (g := gb1) (o := .cells #[.string d, .string p, .int .i64 n] 31 (0, 0)) (by (with_reducible repeat (first | refine blk_drewN ?_ _ | refine blk_drew ?_ | refine blk_alloc ?_ _)); exact BK1.out) hb); have n1_ := Aside0.mk (below_step (by repeat (first | (with_reducible first | exact HB.out | apply below_alloc | apply pw_below_drewN | apply below_drew1 | refine below_set ?_ GE1.out) | exact HB.out)) hb); clear BK1 HB; have BK1 := n0_; have HB := n1_; clear n0_ n1_; have hcz_0 : w4.cell? ⟨gb1, 0, none⟩ = some (.string d) := (blk_cell BK1.out 0).trans rfl; have hcz_1 : w4.cell? ⟨gb1, 1, none⟩ = some (.string p) := (blk_cell BK1.out 1).trans rfl; have hcz_2 : w4.cell? ⟨gb1, 2, none⟩ = some (.int .i64 n) := (blk_cell BK1.out 2).trans rfl; clear hb) | ((with_reducible refine gate_callee (f := 45) rfl ?_); (try (refine gate_guard (by rfl) ?_; dsimp only)); refine goesL_ (some 17) rfl rfl Tryd.func45 (by kernel_rfl) rfl #[.int .i64 keep, .int .i64 0, .int .i64 (p.size : Int)] rfl (by (try simp only [List.map_toArray, List.map_cons, List.map_nil]); first | done | rfl | (simp only [List.length_drop, List.length_take]; rfl)) ?_; (with_reducible refine (spec_l1In.calls keep 0 (p.size : Int) false _ A2.out).mono ?_); rintro e w' ⟨rfl, ⟨nd, rfl⟩⟩; refine ⟨_, rfl, ?_⟩; (try (rw [drewN_self w4]; generalize hq_ : World.drewN w4 _ = w5; have n0_ := Aside0.mk (blk_at hq_ BK1.out); have n1_ := Aside0.mk (below_at hq_ HB.out); clear hq_ BK1 HB; have BK1 := n0_; have HB := n1_; clear n0_ n1_; have hcz_0 : w5.cell? ⟨gb1, 0, none⟩ = some (.string d) := (blk_cell BK1.out 0).trans rfl; have hcz_1 : w5.cell? ⟨gb1, 1, none⟩ = some (.string p) := (blk_cell BK1.out 1).trans rfl; have hcz_2 : w5.cell? ⟨gb1, 2, none⟩ = some (.int .i64 n) := (blk_cell BK1.out 2).trans rfl))))
      go_ret2
      exact ⟨by first | rfl | (simp; done) | (simp [*]; done), by repeat (first | (with_reducible first | exact HB.out | apply below_alloc | apply pw_below_drewN | apply below_drew1 | refine below_set ?_ GE1.out) | exact HB.out)⟩
  · replace c1 := Bool.eq_false_iff.mpr c1
    subst c1
    rw [if_neg (show ¬ (false = true) by decide)] at H
    simp only [Option.some.injEq, Prod.mk.injEq] at H
    obtain ⟨rfl, rfl⟩ := H
    go_enter Tryd.func23, Tryd.ntmps23
    go_wp2_with (first | ((with_reducible refine gate_dst (N := 3) rfl ?_); refine box_event ?hg (N := 3) ?hd (cs := #[.string d, .string p, .int .i64 n]) (t := 31) ?hr ?_; (case hd => rfl); (case hg => rfl); (case hr => first | (go_simp; done) | (go_simp; rfl)); intro gb1 hg w3 hbox hb; have n0_ := Aside0.mk (below_step (by repeat (first | (with_reducible first | exact HB.out | apply below_alloc | apply pw_below_drewN | apply below_drew1) | exact HB.out)) hb); have n2_ : Aside0 (w.heap.size ≤ gb1) := ⟨by rw [hg]; exact (below_size (by repeat (first | (with_reducible first | exact HB.out | apply below_alloc | apply pw_below_drewN | apply below_drew1) | exact HB.out)))⟩; clear HB; have HB := n0_; have BK1 := Aside0.mk hbox; have GE1 := n2_; clear n0_ n2_; clear hb hbox hg; have hcz_0 : w3.cell? ⟨gb1, 0, none⟩ = some (.string d) := (blk_cell BK1.out 0).trans rfl; have hcz_1 : w3.cell? ⟨gb1, 1, none⟩ = some (.string p) := (blk_cell BK1.out 1).trans rfl; have hcz_2 : w3.cell? ⟨gb1, 2, none⟩ = some (.int .i64 n) := (blk_cell BK1.out 2).trans rfl) | ((with_reducible refine gate_callee (f := 53) rfl ?_); refine goesL_ (some 10) rfl rfl Tryd.func53 (by kernel_rfl) rfl #[.agg #[.string d, .string p, .int .i64 n]] rfl (by (try simp only [List.map_toArray, List.map_cons, List.map_nil]); first | done | rfl | (simp only [List.length_drop, List.length_take]; rfl)) ?_; (with_reducible refine (spec_l12Valid.calls k d p n false _ A1.out).mono ?_); rintro e w4 ⟨rfl, hb⟩; refine ⟨_, rfl, ?_⟩; have n0_ := Aside0.mk (blk_below (g := gb1) (o := .cells #[.string d, .string p, .int .i64 n] 31 (0, 0)) (by (with_reducible repeat (first | refine blk_drewN ?_ _ | refine blk_drew ?_ | refine blk_alloc ?_ _)); exact BK1.out) hb); have n1_ := Aside0.mk (below_step (by repeat (first | (with_reducible first | exact HB.out | apply below_alloc | apply pw_below_drewN | apply below_drew1 | refine below_set ?_ GE1.out) | exact HB.out)) hb); clear BK1 HB; have BK1 := n0_; have HB := n1_; clear n0_ n1_; have hcz_0 : w4.cell? ⟨gb1, 0, none⟩ = some (.string d) := (blk_cell BK1.out 0).trans rfl; have hcz_1 : w4.cell? ⟨gb1, 1, none⟩ = some (.string p) := (blk_cell BK1.out 1).trans rfl; have hcz_2 : w4.cell? ⟨gb1, 2, none⟩ = some (.int .i64 n) := (blk_cell BK1.out 2).trans rfl; clear hb))
    go_ret2
    exact ⟨by first | rfl | (simp; done) | (simp [*]; done), by repeat (first | (with_reducible first | exact HB.out | apply below_alloc | apply pw_below_drewN | apply below_drew1 | refine below_set ?_ GE1.out) | exact HB.out)⟩
/-- impl_CrashLog. -/
def impl_CrashLog.f (k : Nat) (d p : ByteArray) (n keep : Int) (torn : Bool) : Option (ByteArray × Bool) := (impl_IsValidLog.f k d p n).bind fun t => if t = true then ((impl_within.f keep 0 (p.size : Int)).bind fun u => if u = true then (if 0 ≤ keep ∧ keep ≤ (p.size : Int) ∧ d.size + p.size ≤ 1000000000 then some ((⟨(tear (d ++ p.extract 0 keep.toNat).data.toList (torn && decide (keep > 0))).toArray⟩ : ByteArray), true) else none) else some ((⟨#[]⟩ : ByteArray), false)) else some ((⟨#[]⟩ : ByteArray), false)
theorem impl_CrashLog.mono : ∀ d p n keep torn k, LeO (impl_CrashLog.f k d p n keep torn) (impl_CrashLog.f (k + 1) d p n keep torn) := fun d p n keep torn k => LeO.bind (impl_IsValidLog.mono d p n k) (fun _ => LeO.refl _)
set_option maxHeartbeats 8000000 in
set_option maxRecDepth 100000 in
theorem impl_CrashLog.calls (k : Nat) (d p : ByteArray) (n keep : Int) (torn : Bool) (r1 : ByteArray) (r2 : Bool) (w : World) (hL : LW w) (h : impl_CrashLog.f k d p n keep torn = some (r1, r2)) :
    Calls Tryd.prog 24 #[.agg #[.string d, .string p, .int .i64 n], .int .i64 keep, .bool torn] w fun e w' => e = .returned (.tuple #[.string r1, .bool r2]) ∧ Below w.heap.size w w' := by
  have hu31 := Tryd.underlying31
  have HLW := Aside0.mk hL
  clear hL
  have HB := Aside0.mk (Below.refl w.heap.size w)
  have H := h
  unfold impl_CrashLog.f at H
  clear h
  obtain ⟨t, A1, H⟩ := Option.bind_eq_some_iff.mp H
  replace A1 := Aside0.mk A1
  by_cases c1 : t = true
  · subst c1
    rw [if_pos rfl] at H
    obtain ⟨u, A2, H⟩ := Option.bind_eq_some_iff.mp H
    replace A2 := Aside0.mk A2
    by_cases c2 : u = true
    · subst c2
      rw [if_pos rfl] at H
      by_cases c3 : 0 ≤ keep ∧ keep ≤ (p.size : Int) ∧ d.size + p.size ≤ 1000000000
      · rw [if_pos c3] at H
        obtain ⟨c30, c31, c32⟩ := c3
        have c30b := eq_true c30
        have c30d : decide (0 ≤ keep) = true := decide_eq_true c30
        have c31b := eq_true c31
        have c31d : decide (keep ≤ (p.size : Int)) = true := decide_eq_true c31
        have hsz : (p.extract 0 keep.toNat).size = keep.toNat := by simp; omega
        generalize hsl : p.extract 0 keep.toNat = sl at H hsz
        have hsl' := hsl
        simp only [Option.some.injEq, Prod.mk.injEq] at H
        obtain ⟨h1, rfl⟩ := H
        have H1 := Aside0.mk h1
        clear h1
        have cat : d.size + sl.size ≤ 9223372036854775807 := by omega
        have catb := eq_true cat
        have catd : decide (d.size + sl.size ≤ 9223372036854775807) = true := decide_eq_true cat
        have catn : (9223372036854775807 < d.size + sl.size) = False := eq_false (Nat.not_lt.2 cat)
        have hsz2 : (d ++ sl).size = d.size + keep.toNat := by rw [ByteArray.size_append, hsz]
        generalize hsd : d ++ sl = sd at *
        have hsd' := hsd
        by_cases c4 : (torn && decide (keep > 0)) = true
        · have c40 : torn = true := by simp at c4; exact c4.1
          have c41 : keep > 0 := by simp at c4; exact c4.2
          subst c40
          have c41d : decide (0 < keep) = true := decide_eq_true c41
          rw [c4] at H1
          obtain ⟨m, hm⟩ : ∃ m : Nat, sd.size = m + 1 := ⟨sd.size - 1, by omega⟩
          have hmb : m < 4611686018427387904 := by omega
          have hw3 : wrap64 (m : Int) = (m : Int) := by unfold wrap64; omega
          have hw2 : wrap64 ((m : Int) + 1 - 1) = (m : Int) := by unfold wrap64; omega
          clear hmb
          have hlen : sd.data.toList.length = m + 1 := by simpa using hm
          have hmlt : m < sd.data.toList.length := by rw [hlen]; exact Nat.lt_succ_self m
          have hi1 : decide ((m : Int) < ((m + 1 : Nat) : Int)) = true := decide_eq_true (by omega)
          have hi2 : decide ((m : Int) < (m : Int) + 1) = true := decide_eq_true (by omega)
          have hi3 : decide (0 ≤ (m : Int)) = true := decide_eq_true (by omega)
          obtain ⟨c0, hc0⟩ : ∃ c0 : Int, c0 = ((sd.data.toList[m]'hmlt).toNat : Int) := ⟨_, rfl⟩
          obtain ⟨c1, hc1⟩ : ∃ c1 : Int, c1 = ((inv (sd.data.toList[m]'hmlt)).toNat : Int) := ⟨_, rfl⟩
          have hsub : IntKind.u8.wrap (255 - c0) = c1 := by rw [hc1, inv_toNat, ← hc0]; have := (sd.data.toList[m]'hmlt).toNat_lt; simp [IntKind.wrap, IntKind.bits, IntKind.signed]; omega
          have HC0 := Aside0.mk hc0
          have HC1 := Aside0.mk hc1
          have HM := Aside0.mk hm
          have HS := Aside0.mk hsz
          clear hc0 hc1
          have htear : tear sd.data.toList true = sd.data.toList.set m (inv (sd.data.toList[m]'hmlt)) := by (have hl1 : sd.data.toList.length - 1 = m := by omega); unfold tear; rw [if_pos rfl, hl1, List.getD_eq_getElem?_getD, List.getElem?_eq_getElem (by omega)]; rfl
          rw [htear] at H1
          generalize hgl : (⟨(sd.data.toList.set m (inv (sd.data.toList[m]'hmlt))).toArray⟩ : ByteArray) = sz at H1
          obtain rfl := H1.out
          clear hm hsz hsl hsz2 hsd
          go_enter Tryd.func24, Tryd.ntmps24
          go_wp2_with (first | ((with_reducible refine gate_dst (N := 3) rfl ?_); refine box_event ?hg (N := 3) ?hd (cs := #[.string d, .string p, .int .i64 n]) (t := 31) ?hr ?_; (case hd => rfl); (case hg => rfl); (case hr => first | (go_simp; done) | (go_simp; rfl)); intro gb1 hg w3 hbox hb; have n0_ := Aside0.mk (below_step (by repeat (first | (with_reducible first | exact HB.out | apply below_alloc | apply pw_below_drewN | apply below_drew1) | exact HB.out)) hb); have n2_ : Aside0 (w.heap.size ≤ gb1) := ⟨by rw [hg]; exact (below_size (by repeat (first | (with_reducible first | exact HB.out | apply below_alloc | apply pw_below_drewN | apply below_drew1) | exact HB.out)))⟩; clear HB; have HB := n0_; have BK1 := Aside0.mk hbox; have GE1 := n2_; clear n0_ n2_; clear hb hbox hg; have hcz_0 : w3.cell? ⟨gb1, 0, none⟩ = some (.string d) := (blk_cell BK1.out 0).trans rfl; have hcz_1 : w3.cell? ⟨gb1, 1, none⟩ = some (.string p) := (blk_cell BK1.out 1).trans rfl; have hcz_2 : w3.cell? ⟨gb1, 2, none⟩ = some (.int .i64 n) := (blk_cell BK1.out 2).trans rfl) | ((with_reducible refine gate_callee (f := 22) rfl ?_); refine goesL_ (some 10) rfl rfl Tryd.func22 (by kernel_rfl) rfl #[.agg #[.string d, .string p, .int .i64 n]] rfl (by (try simp only [List.map_toArray, List.map_cons, List.map_nil]); first | done | rfl | (simp only [List.length_drop, List.length_take]; rfl)) ?_; (with_reducible refine (impl_IsValidLog.calls k d p n true _ (LW.below HLW.out (by repeat (first | (with_reducible first | exact HB.out | apply below_alloc | apply pw_below_drewN | apply below_drew1) | exact HB.out))) A1.out).mono ?_); rintro e w4 ⟨rfl, hb⟩; refine ⟨_, rfl, ?_⟩; have n0_ := Aside0.mk (blk_below (g := gb1) (o := .cells #[.string d, .string p, .int .i64 n] 31 (0, 0)) (by (with_reducible repeat (first | refine blk_drewN ?_ _ | refine blk_drew ?_ | refine blk_alloc ?_ _)); exact BK1.out) hb); have n1_ := Aside0.mk (below_step (by repeat (first | (with_reducible first | exact HB.out | apply below_alloc | apply pw_below_drewN | apply below_drew1 | refine below_set ?_ GE1.out) | exact HB.out)) hb); clear BK1 HB; have BK1 := n0_; have HB := n1_; clear n0_ n1_; have hcz_0 : w4.cell? ⟨gb1, 0, none⟩ = some (.string d) := (blk_cell BK1.out 0).trans rfl; have hcz_1 : w4.cell? ⟨gb1, 1, none⟩ = some (.string p) := (blk_cell BK1.out 1).trans rfl; have hcz_2 : w4.cell? ⟨gb1, 2, none⟩ = some (.int .i64 n) := (blk_cell BK1.out 2).trans rfl; clear hb) | ((with_reducible refine gate_callee (f := 48) rfl ?_); (try (refine gate_guard (by rfl) ?_; dsimp only)); refine goesL_ (some 17) rfl rfl Tryd.func48 (by kernel_rfl) rfl #[.int .i64 keep, .int .i64 0, .int .i64 (p.size : Int)] rfl (by (try simp only [List.map_toArray, List.map_cons, List.map_nil]); first | done | rfl | (simp only [List.length_drop, List.length_take]; rfl)) ?_; (with_reducible refine (impl_within.calls keep 0 (p.size : Int) true _ A2.out).mono ?_); rintro e w' ⟨rfl, ⟨nd, rfl⟩⟩; refine ⟨_, rfl, ?_⟩; (try (rw [drewN_self w4]; generalize hq_ : World.drewN w4 _ = w5; have n0_ := Aside0.mk (blk_at hq_ BK1.out); have n1_ := Aside0.mk (below_at hq_ HB.out); clear hq_ BK1 HB; have BK1 := n0_; have HB := n1_; clear n0_ n1_; have hcz_0 : w5.cell? ⟨gb1, 0, none⟩ = some (.string d) := (blk_cell BK1.out 0).trans rfl; have hcz_1 : w5.cell? ⟨gb1, 1, none⟩ = some (.string p) := (blk_cell BK1.out 1).trans rfl; have hcz_2 : w5.cell? ⟨gb1, 2, none⟩ = some (.int .i64 n) := (blk_cell BK1.out 2).trans rfl))) | ((with_reducible refine gate_dst (N := 27) rfl ?_); refine conv_event ?hg (N := 27) ?hd (s := sd) ?hr ?_; (case hd => rfl); (case hg => rfl); (case hr => have hcv := fun W => Go.Lib.run_convert_string_bytes (P := Tryd.prog) W 9 53 5 sd Tryd.underlying9 Tryd.underlying53 Tryd.underlying5; first | (go_simp; rw [hcv]; rfl) | (go_simp; simp only [hcv]; rfl) | (go_simp; done) | (go_simp; rfl)); intro cc g2 w6 hg2 hby hb; have n2_ : Aside0 (w.heap.size ≤ g2) := ⟨Nat.le_trans (below_size (by repeat (first | (with_reducible first | exact HB.out | apply below_alloc | apply pw_below_drewN | apply below_drew1 | refine below_set ?_ GE1.out) | exact HB.out))) hg2⟩; have hne : gb1 ≠ g2 := (by have hl_ := blk_lt (g := gb1) (o := .cells #[.string d, .string p, .int .i64 n] 31 (0, 0)) (by (with_reducible repeat (first | refine blk_drewN ?_ _ | refine blk_drew ?_ | refine blk_alloc ?_ _)); exact BK1.out); omega); clear hg2; have GE2 := n2_; clear n2_; have HY := Aside0.mk hby; clear hby; have n0_ := Aside0.mk (blk_below (g := gb1) (o := .cells #[.string d, .string p, .int .i64 n] 31 (0, 0)) (by (with_reducible repeat (first | refine blk_drewN ?_ _ | refine blk_drew ?_ | refine blk_alloc ?_ _)); exact BK1.out) hb); have n1_ := Aside0.mk (below_step (by repeat (first | (with_reducible first | exact HB.out | apply below_alloc | apply pw_below_drewN | apply below_drew1 | refine below_set ?_ GE1.out) | exact HB.out)) hb); clear BK1 HB; have BK1 := n0_; have HB := n1_; clear n0_ n1_; have hcz_0 : w6.cell? ⟨gb1, 0, none⟩ = some (.string d) := (blk_cell BK1.out 0).trans rfl; have hcz_1 : w6.cell? ⟨gb1, 1, none⟩ = some (.string p) := (blk_cell BK1.out 1).trans rfl; have hcz_2 : w6.cell? ⟨gb1, 2, none⟩ = some (.int .i64 n) := (blk_cell BK1.out 2).trans rfl; clear hb; have hcb : w6.cell? ⟨g2, m, none⟩ = some (.int .u8 c0) := (by rw [HC0.out]; exact HY.out.cell m (by omega)); have hfb : w6.frozen? ⟨g2, m, none⟩ = false := (by exact HY.out.frozen m (by omega)); have hset : BY (w6.setCell ⟨g2, m, none⟩ (.int .u8 c1)) g2 (sd.data.toList.set m (inv (sd.data.toList[m]'hmlt))) := (by rw [HC1.out]; exact HY.out.set m _); have hst := fun c => BY.str (P := Tryd.prog) (c := c) hset (n := m + 1) (by simp [hlen]) Tryd.underlying53 Tryd.underlying5 Tryd.underlying9; simp only [hgl] at hst; clear hset; rw [HM.out]))
          have n0_ := Aside0.mk (blk_drew BK1.out)
          have n1_ := Aside0.mk (below_drew1 HB.out)
          clear BK1 HB
          have BK1 := n0_
          have HB := n1_
          clear n0_ n1_
          refine start_ (n := 9) (S := fun w' => w'.cell? ⟨gb1, 0, none⟩ = some (.string d) ∧ w'.cell? ⟨gb1, 1, none⟩ = some (.string p)) (ds := []) #[false, false, false, false, false, false, false, false, false] (by kernel_rfl) rfl rfl ⟨(blk_cell BK1.out 0).trans rfl, (blk_cell BK1.out 1).trans rfl⟩ (fun hHeld => ?_); refine with_tabW impl_CrashLog.tab3 impl_CrashLog.bits3 (fun HT_ HW_ => ?_)
          generalize w5.drew = w5b at BK1 HB hHeld ⊢
          refine pure_ (i := 0) (N := some 20) (v := ?_) (a' := ?_) #[true, false, false, false, false, false, false, false, false] rfl rfl (any_of HT_.out (by kernel_rfl)) (fun _ _ _ h => h) (Or.inl ⟨by rfl, ?_⟩) ?_ ?_
          rotate_left
          · intro w'
            go_simp
            with_reducible rfl
          rotate_left
          · simp only [Act.put, List.setIfInBounds_toArray, List.set_cons_zero, List.set_cons_succ, i64_w, i32_w]
            rfl
          refine take_ (i := 1) (N := some 21) (v := ?_) (a' := ?_) #[true, true, false, false, false, false, false, false, false] rfl rfl (take_ofW HT_.out HW_.out (by kernel_rfl)) (fun _ _ _ h => h) (Or.inl ⟨by rfl, ?_⟩) hHeld ?_ ?_
          rotate_left
          · rintro w' ⟨s0, s1⟩
            go_simp
            with_reducible rfl
          rotate_left
          · simp only [Act.put, List.setIfInBounds_toArray, List.set_cons_zero, List.set_cons_succ, i64_w, i32_w]
            rfl
          refine pure_ (i := 2) (N := some 22) (v := ?_) (a' := ?_) #[true, true, true, false, false, false, false, false, false] rfl rfl (any_of HT_.out (by kernel_rfl)) (fun _ _ _ h => h) (Or.inl ⟨by rfl, ?_⟩) ?_ ?_
          rotate_left
          · intro w'
            go_simp
            with_reducible rfl
          rotate_left
          · simp only [Act.put, List.setIfInBounds_toArray, List.set_cons_zero, List.set_cons_succ, i64_w, i32_w]
            rfl
          refine take_ (i := 3) (N := some 23) (v := ?_) (a' := ?_) #[true, true, true, true, false, false, false, false, false] rfl rfl (take_ofW HT_.out HW_.out (by kernel_rfl)) (fun _ _ _ h => h) (Or.inl ⟨by rfl, ?_⟩) hHeld ?_ ?_
          rotate_left
          · rintro w' ⟨s0, s1⟩
            go_simp
            with_reducible rfl
          rotate_left
          · simp only [Act.put, List.setIfInBounds_toArray, List.set_cons_zero, List.set_cons_succ, i64_w, i32_w]
            rfl
          refine pure_ (i := 4) (N := some 24) (v := ?_) (a' := ?_) #[true, true, true, true, true, false, false, false, false] rfl rfl (any_of HT_.out (by kernel_rfl)) (fun _ _ _ h => h) (Or.inl ⟨by rfl, ?_⟩) ?_ ?_
          rotate_left
          · intro w'
            go_simp
            with_reducible rfl
          rotate_left
          · simp only [Act.put, List.setIfInBounds_toArray, List.set_cons_zero, List.set_cons_succ, i64_w, i32_w]
            rfl
          refine pure_ (i := 5) (N := some 25) (v := ?_) (a' := ?_) #[true, true, true, true, true, true, false, false, false] rfl rfl (any_of HT_.out (by kernel_rfl)) (fun _ _ _ h => h) (Or.inl ⟨by rfl, ?_⟩) ?_ ?_
          rotate_left
          · intro w'
            go_simp
            with_reducible rfl
          rotate_left
          · simp only [Act.put, List.setIfInBounds_toArray, List.set_cons_zero, List.set_cons_succ, i64_w, i32_w]
            rfl
          refine pure_ (i := 6) (N := some 26) (v := ?_) (a' := ?_) #[true, true, true, true, true, true, true, false, false] rfl rfl (any_of HT_.out (by kernel_rfl)) (fun _ _ _ h => h) (Or.inl ⟨by rfl, ?_⟩) ?_ ?_
          rotate_left
          · intro w'
            go_simp
            with_reducible rfl
          rotate_left
          · simp only [Act.put, List.setIfInBounds_toArray, List.set_cons_zero, List.set_cons_succ, i64_w, i32_w]
            rfl
          refine one_ (i := 7) (N := some 27) #[true, true, true, true, true, true, true, true, false] rfl rfl (one_of HT_.out (by kernel_rfl)) (by decide) (fun K hK => ?_)
          refine conv_step ?hg (N := 27) ?hd (s := sd) ?hr ?_; (case hd => rfl); (case hg => rfl); (case hr => have hcv := fun W => Go.Lib.run_convert_string_bytes (P := Tryd.prog) W 9 53 5 sd Tryd.underlying9 Tryd.underlying53 Tryd.underlying5; first | (go_simp; rw [hcv]; rfl) | (go_simp; simp only [hcv]; rfl) | (go_simp; done) | (go_simp; rfl))
          intro cc g2 w6 hg2 hby hb
          have n2_ : Aside0 (w.heap.size ≤ g2) := ⟨Nat.le_trans (below_size (by repeat (first | (with_reducible first | exact HB.out | apply below_alloc | apply pw_below_drewN | apply below_drew1 | refine below_set ?_ GE1.out) | exact HB.out))) hg2⟩
          have hne : gb1 ≠ g2 := (by have hl_ := blk_lt (g := gb1) (o := .cells #[.string d, .string p, .int .i64 n] 31 (0, 0)) (by (with_reducible repeat (first | refine blk_drewN ?_ _ | refine blk_drew ?_ | refine blk_alloc ?_ _)); exact BK1.out); omega)
          clear hg2
          have GE2 := n2_
          clear n2_
          have HY := Aside0.mk hby
          clear hby
          have n0_ := Aside0.mk (blk_below (g := gb1) (o := .cells #[.string d, .string p, .int .i64 n] 31 (0, 0)) (by (with_reducible repeat (first | refine blk_drewN ?_ _ | refine blk_drew ?_ | refine blk_alloc ?_ _)); exact BK1.out) hb)
          have n1_ := Aside0.mk (below_step (by repeat (first | (with_reducible first | exact HB.out | apply below_alloc | apply pw_below_drewN | apply below_drew1 | refine below_set ?_ GE1.out) | exact HB.out)) hb)
          clear BK1 HB
          have BK1 := n0_
          have HB := n1_
          clear n0_ n1_
          clear hb
          refine hK.out _ _ ⟨(blk_cell BK1.out 0).trans rfl, (blk_cell BK1.out 1).trans rfl⟩ (fun hHeld => ?_)
          clear hK K
          refine norm_ (a' := ?_) ?_ ?_
          rotate_left
          · show Act.put _ (some 27) _ = _
            simp only [Act.put, List.setIfInBounds_toArray, List.set_cons_zero, List.set_cons_succ, i64_w, i32_w]
            rfl
          refine pure_ (i := 8) (N := some 8) (v := ?_) (a' := ?_) #[true, true, true, true, true, true, true, true, true] rfl rfl (any_of HT_.out (by kernel_rfl)) (fun _ _ _ h => h) (Or.inl ⟨by rfl, ?_⟩) ?_ ?_
          rotate_left
          · intro w'
            go_simp
            with_reducible rfl
          rotate_left
          · simp only [Act.put, List.setIfInBounds_toArray, List.set_cons_zero, List.set_cons_succ, i64_w, i32_w]
            rfl
          refine done_ (done_of HT_.out (by kernel_rfl)) ?_
          have hcz_0 : w6.cell? ⟨gb1, 0, none⟩ = some (.string d) := (blk_cell BK1.out 0).trans rfl
          have hcz_1 : w6.cell? ⟨gb1, 1, none⟩ = some (.string p) := (blk_cell BK1.out 1).trans rfl
          have hcz_2 : w6.cell? ⟨gb1, 2, none⟩ = some (.int .i64 n) := (blk_cell BK1.out 2).trans rfl
          have hcb : w6.cell? ⟨g2, m, none⟩ = some (.int .u8 c0) := (by rw [HC0.out]; exact HY.out.cell m (by omega))
          have hfb : w6.frozen? ⟨g2, m, none⟩ = false := (by exact HY.out.frozen m (by omega))
          have hset : BY (w6.setCell ⟨g2, m, none⟩ (.int .u8 c1)) g2 (sd.data.toList.set m (inv (sd.data.toList[m]'hmlt))) := (by rw [HC1.out]; exact HY.out.set m _)
          have hst := fun c => BY.str (P := Tryd.prog) (c := c) hset (n := m + 1) (by simp [hlen]) Tryd.underlying53 Tryd.underlying5 Tryd.underlying9
          simp only [hgl] at hst
          clear hset
          rw [HM.out]
          go_wp2
          go_ret2
          exact ⟨by first | rfl | (simp; done) | (simp [*]; done), by repeat (first | (with_reducible first | exact HB.out | apply below_alloc | apply pw_below_drewN | apply below_drew1 | refine below_set ?_ GE1.out | refine below_set ?_ GE2.out) | exact HB.out)⟩
        · have c4' : (torn && decide (keep > 0)) = false := Bool.eq_false_iff.mpr c4
          rw [c4'] at H1
          have htear : tear sd.data.toList false = sd.data.toList := rfl
          rw [htear] at H1
          have hid : (⟨sd.data.toList.toArray⟩ : ByteArray) = sd := by simp
          rw [hid] at H1
          obtain rfl := H1.out
          have HID := Aside0.mk hid
          clear hid hsz hsl hsz2 hsd
          by_cases c5 : torn = true
          · subst c5
            have c41d : decide (0 < keep) = false := by simpa using c4'
            go_enter Tryd.func24, Tryd.ntmps24
            go_wp2_with (first | ((with_reducible refine gate_dst (N := 3) rfl ?_); refine box_event ?hg (N := 3) ?hd (cs := #[.string d, .string p, .int .i64 n]) (t := 31) ?hr ?_; (case hd => rfl); (case hg => rfl); (case hr => first | (go_simp; done) | (go_simp; rfl)); intro gb1 hg w3 hbox hb; have n0_ := Aside0.mk (below_step (by repeat (first | (with_reducible first | exact HB.out | apply below_alloc | apply pw_below_drewN | apply below_drew1) | exact HB.out)) hb); have n2_ : Aside0 (w.heap.size ≤ gb1) := ⟨by rw [hg]; exact (below_size (by repeat (first | (with_reducible first | exact HB.out | apply below_alloc | apply pw_below_drewN | apply below_drew1) | exact HB.out)))⟩; clear HB; have HB := n0_; have BK1 := Aside0.mk hbox; have GE1 := n2_; clear n0_ n2_; clear hb hbox hg; have hcz_0 : w3.cell? ⟨gb1, 0, none⟩ = some (.string d) := (blk_cell BK1.out 0).trans rfl; have hcz_1 : w3.cell? ⟨gb1, 1, none⟩ = some (.string p) := (blk_cell BK1.out 1).trans rfl; have hcz_2 : w3.cell? ⟨gb1, 2, none⟩ = some (.int .i64 n) := (blk_cell BK1.out 2).trans rfl) | ((with_reducible refine gate_callee (f := 22) rfl ?_); refine goesL_ (some 10) rfl rfl Tryd.func22 (by kernel_rfl) rfl #[.agg #[.string d, .string p, .int .i64 n]] rfl (by (try simp only [List.map_toArray, List.map_cons, List.map_nil]); first | done | rfl | (simp only [List.length_drop, List.length_take]; rfl)) ?_; (with_reducible refine (impl_IsValidLog.calls k d p n true _ (LW.below HLW.out (by repeat (first | (with_reducible first | exact HB.out | apply below_alloc | apply pw_below_drewN | apply below_drew1) | exact HB.out))) A1.out).mono ?_); rintro e w4 ⟨rfl, hb⟩; refine ⟨_, rfl, ?_⟩; have n0_ := Aside0.mk (blk_below (g := gb1) (o := .cells #[.string d, .string p, .int .i64 n] 31 (0, 0)) (by (with_reducible repeat (first | refine blk_drewN ?_ _ | refine blk_drew ?_ | refine blk_alloc ?_ _)); exact BK1.out) hb); have n1_ := Aside0.mk (below_step (by repeat (first | (with_reducible first | exact HB.out | apply below_alloc | apply pw_below_drewN | apply below_drew1 | refine below_set ?_ GE1.out) | exact HB.out)) hb); clear BK1 HB; have BK1 := n0_; have HB := n1_; clear n0_ n1_; have hcz_0 : w4.cell? ⟨gb1, 0, none⟩ = some (.string d) := (blk_cell BK1.out 0).trans rfl; have hcz_1 : w4.cell? ⟨gb1, 1, none⟩ = some (.string p) := (blk_cell BK1.out 1).trans rfl; have hcz_2 : w4.cell? ⟨gb1, 2, none⟩ = some (.int .i64 n) := (blk_cell BK1.out 2).trans rfl; clear hb) | ((with_reducible refine gate_callee (f := 48) rfl ?_); (try (refine gate_guard (by rfl) ?_; dsimp only)); refine goesL_ (some 17) rfl rfl Tryd.func48 (by kernel_rfl) rfl #[.int .i64 keep, .int .i64 0, .int .i64 (p.size : Int)] rfl (by (try simp only [List.map_toArray, List.map_cons, List.map_nil]); first | done | rfl | (simp only [List.length_drop, List.length_take]; rfl)) ?_; (with_reducible refine (impl_within.calls keep 0 (p.size : Int) true _ A2.out).mono ?_); rintro e w' ⟨rfl, ⟨nd, rfl⟩⟩; refine ⟨_, rfl, ?_⟩; (try (rw [drewN_self w4]; generalize hq_ : World.drewN w4 _ = w5; have n0_ := Aside0.mk (blk_at hq_ BK1.out); have n1_ := Aside0.mk (below_at hq_ HB.out); clear hq_ BK1 HB; have BK1 := n0_; have HB := n1_; clear n0_ n1_; have hcz_0 : w5.cell? ⟨gb1, 0, none⟩ = some (.string d) := (blk_cell BK1.out 0).trans rfl; have hcz_1 : w5.cell? ⟨gb1, 1, none⟩ = some (.string p) := (blk_cell BK1.out 1).trans rfl; have hcz_2 : w5.cell? ⟨gb1, 2, none⟩ = some (.int .i64 n) := (blk_cell BK1.out 2).trans rfl))) | ((with_reducible refine gate_dst (N := 27) rfl ?_); refine conv_event ?hg (N := 27) ?hd (s := sd) ?hr ?_; (case hd => rfl); (case hg => rfl); (case hr => have hcv := fun W => Go.Lib.run_convert_string_bytes (P := Tryd.prog) W 9 53 5 sd Tryd.underlying9 Tryd.underlying53 Tryd.underlying5; first | (go_simp; rw [hcv]; rfl) | (go_simp; simp only [hcv]; rfl) | (go_simp; done) | (go_simp; rfl)); intro cc g2 w6 hg2 hby hb; have n2_ : Aside0 (w.heap.size ≤ g2) := ⟨Nat.le_trans (below_size (by repeat (first | (with_reducible first | exact HB.out | apply below_alloc | apply pw_below_drewN | apply below_drew1 | refine below_set ?_ GE1.out) | exact HB.out))) hg2⟩; have hne : gb1 ≠ g2 := (by have hl_ := blk_lt (g := gb1) (o := .cells #[.string d, .string p, .int .i64 n] 31 (0, 0)) (by (with_reducible repeat (first | refine blk_drewN ?_ _ | refine blk_drew ?_ | refine blk_alloc ?_ _)); exact BK1.out); omega); clear hg2; have GE2 := n2_; clear n2_; have HY := Aside0.mk hby; clear hby; have n0_ := Aside0.mk (blk_below (g := gb1) (o := .cells #[.string d, .string p, .int .i64 n] 31 (0, 0)) (by (with_reducible repeat (first | refine blk_drewN ?_ _ | refine blk_drew ?_ | refine blk_alloc ?_ _)); exact BK1.out) hb); have n1_ := Aside0.mk (below_step (by repeat (first | (with_reducible first | exact HB.out | apply below_alloc | apply pw_below_drewN | apply below_drew1 | refine below_set ?_ GE1.out) | exact HB.out)) hb); clear BK1 HB; have BK1 := n0_; have HB := n1_; clear n0_ n1_; have hcz_0 : w6.cell? ⟨gb1, 0, none⟩ = some (.string d) := (blk_cell BK1.out 0).trans rfl; have hcz_1 : w6.cell? ⟨gb1, 1, none⟩ = some (.string p) := (blk_cell BK1.out 1).trans rfl; have hcz_2 : w6.cell? ⟨gb1, 2, none⟩ = some (.int .i64 n) := (blk_cell BK1.out 2).trans rfl; clear hb; have hst : ∀ c, (convert 53 9 (.slice (some ⟨g2, 0, none⟩) sd.size c)).run Tryd.prog w6 = .ok (.string sd) w6 := (fun c => by have h_ := BY.str (P := Tryd.prog) (c := c) HY.out (n := sd.size) (by simp) Tryd.underlying53 Tryd.underlying5 Tryd.underlying9; have hid_ : (⟨sd.data.toList.toArray⟩ : ByteArray) = sd := (by simp); rwa [hid_] at h_)))
            have n0_ := Aside0.mk (blk_drew BK1.out)
            have n1_ := Aside0.mk (below_drew1 HB.out)
            clear BK1 HB
            have BK1 := n0_
            have HB := n1_
            clear n0_ n1_
            refine start_ (n := 9) (S := fun w' => w'.cell? ⟨gb1, 0, none⟩ = some (.string d) ∧ w'.cell? ⟨gb1, 1, none⟩ = some (.string p)) (ds := []) #[false, false, false, false, false, false, false, false, false] (by kernel_rfl) rfl rfl ⟨(blk_cell BK1.out 0).trans rfl, (blk_cell BK1.out 1).trans rfl⟩ (fun hHeld => ?_); refine with_tabW impl_CrashLog.tab3 impl_CrashLog.bits3 (fun HT_ HW_ => ?_)
            generalize w5.drew = w5b at BK1 HB hHeld ⊢
            refine pure_ (i := 0) (N := some 20) (v := ?_) (a' := ?_) #[true, false, false, false, false, false, false, false, false] rfl rfl (any_of HT_.out (by kernel_rfl)) (fun _ _ _ h => h) (Or.inl ⟨by rfl, ?_⟩) ?_ ?_
            rotate_left
            · intro w'
              go_simp
              with_reducible rfl
            rotate_left
            · simp only [Act.put, List.setIfInBounds_toArray, List.set_cons_zero, List.set_cons_succ, i64_w, i32_w]
              rfl
            refine take_ (i := 1) (N := some 21) (v := ?_) (a' := ?_) #[true, true, false, false, false, false, false, false, false] rfl rfl (take_ofW HT_.out HW_.out (by kernel_rfl)) (fun _ _ _ h => h) (Or.inl ⟨by rfl, ?_⟩) hHeld ?_ ?_
            rotate_left
            · rintro w' ⟨s0, s1⟩
              go_simp
              with_reducible rfl
            rotate_left
            · simp only [Act.put, List.setIfInBounds_toArray, List.set_cons_zero, List.set_cons_succ, i64_w, i32_w]
              rfl
            refine pure_ (i := 2) (N := some 22) (v := ?_) (a' := ?_) #[true, true, true, false, false, false, false, false, false] rfl rfl (any_of HT_.out (by kernel_rfl)) (fun _ _ _ h => h) (Or.inl ⟨by rfl, ?_⟩) ?_ ?_
            rotate_left
            · intro w'
              go_simp
              with_reducible rfl
            rotate_left
            · simp only [Act.put, List.setIfInBounds_toArray, List.set_cons_zero, List.set_cons_succ, i64_w, i32_w]
              rfl
            refine take_ (i := 3) (N := some 23) (v := ?_) (a' := ?_) #[true, true, true, true, false, false, false, false, false] rfl rfl (take_ofW HT_.out HW_.out (by kernel_rfl)) (fun _ _ _ h => h) (Or.inl ⟨by rfl, ?_⟩) hHeld ?_ ?_
            rotate_left
            · rintro w' ⟨s0, s1⟩
              go_simp
              with_reducible rfl
            rotate_left
            · simp only [Act.put, List.setIfInBounds_toArray, List.set_cons_zero, List.set_cons_succ, i64_w, i32_w]
              rfl
            refine pure_ (i := 4) (N := some 24) (v := ?_) (a' := ?_) #[true, true, true, true, true, false, false, false, false] rfl rfl (any_of HT_.out (by kernel_rfl)) (fun _ _ _ h => h) (Or.inl ⟨by rfl, ?_⟩) ?_ ?_
            rotate_left
            · intro w'
              go_simp
              with_reducible rfl
            rotate_left
            · simp only [Act.put, List.setIfInBounds_toArray, List.set_cons_zero, List.set_cons_succ, i64_w, i32_w]
              rfl
            refine pure_ (i := 5) (N := some 25) (v := ?_) (a' := ?_) #[true, true, true, true, true, true, false, false, false] rfl rfl (any_of HT_.out (by kernel_rfl)) (fun _ _ _ h => h) (Or.inl ⟨by rfl, ?_⟩) ?_ ?_
            rotate_left
            · intro w'
              go_simp
              with_reducible rfl
            rotate_left
            · simp only [Act.put, List.setIfInBounds_toArray, List.set_cons_zero, List.set_cons_succ, i64_w, i32_w]
              rfl
            refine pure_ (i := 6) (N := some 26) (v := ?_) (a' := ?_) #[true, true, true, true, true, true, true, false, false] rfl rfl (any_of HT_.out (by kernel_rfl)) (fun _ _ _ h => h) (Or.inl ⟨by rfl, ?_⟩) ?_ ?_
            rotate_left
            · intro w'
              go_simp
              with_reducible rfl
            rotate_left
            · simp only [Act.put, List.setIfInBounds_toArray, List.set_cons_zero, List.set_cons_succ, i64_w, i32_w]
              rfl
            refine one_ (i := 7) (N := some 27) #[true, true, true, true, true, true, true, true, false] rfl rfl (one_of HT_.out (by kernel_rfl)) (by decide) (fun K hK => ?_)
            refine conv_step ?hg (N := 27) ?hd (s := sd) ?hr ?_; (case hd => rfl); (case hg => rfl); (case hr => have hcv := fun W => Go.Lib.run_convert_string_bytes (P := Tryd.prog) W 9 53 5 sd Tryd.underlying9 Tryd.underlying53 Tryd.underlying5; first | (go_simp; rw [hcv]; rfl) | (go_simp; simp only [hcv]; rfl) | (go_simp; done) | (go_simp; rfl))
            intro cc g2 w6 hg2 hby hb
            have n2_ : Aside0 (w.heap.size ≤ g2) := ⟨Nat.le_trans (below_size (by repeat (first | (with_reducible first | exact HB.out | apply below_alloc | apply pw_below_drewN | apply below_drew1 | refine below_set ?_ GE1.out) | exact HB.out))) hg2⟩
            have hne : gb1 ≠ g2 := (by have hl_ := blk_lt (g := gb1) (o := .cells #[.string d, .string p, .int .i64 n] 31 (0, 0)) (by (with_reducible repeat (first | refine blk_drewN ?_ _ | refine blk_drew ?_ | refine blk_alloc ?_ _)); exact BK1.out); omega)
            clear hg2
            have GE2 := n2_
            clear n2_
            have HY := Aside0.mk hby
            clear hby
            have n0_ := Aside0.mk (blk_below (g := gb1) (o := .cells #[.string d, .string p, .int .i64 n] 31 (0, 0)) (by (with_reducible repeat (first | refine blk_drewN ?_ _ | refine blk_drew ?_ | refine blk_alloc ?_ _)); exact BK1.out) hb)
            have n1_ := Aside0.mk (below_step (by repeat (first | (with_reducible first | exact HB.out | apply below_alloc | apply pw_below_drewN | apply below_drew1 | refine below_set ?_ GE1.out) | exact HB.out)) hb)
            clear BK1 HB
            have BK1 := n0_
            have HB := n1_
            clear n0_ n1_
            clear hb
            refine hK.out _ _ ⟨(blk_cell BK1.out 0).trans rfl, (blk_cell BK1.out 1).trans rfl⟩ (fun hHeld => ?_)
            clear hK K
            refine norm_ (a' := ?_) ?_ ?_
            rotate_left
            · show Act.put _ (some 27) _ = _
              simp only [Act.put, List.setIfInBounds_toArray, List.set_cons_zero, List.set_cons_succ, i64_w, i32_w]
              rfl
            refine pure_ (i := 8) (N := some 8) (v := ?_) (a' := ?_) #[true, true, true, true, true, true, true, true, true] rfl rfl (any_of HT_.out (by kernel_rfl)) (fun _ _ _ h => h) (Or.inl ⟨by rfl, ?_⟩) ?_ ?_
            rotate_left
            · intro w'
              go_simp
              with_reducible rfl
            rotate_left
            · simp only [Act.put, List.setIfInBounds_toArray, List.set_cons_zero, List.set_cons_succ, i64_w, i32_w]
              rfl
            refine done_ (done_of HT_.out (by kernel_rfl)) ?_
            have hcz_0 : w6.cell? ⟨gb1, 0, none⟩ = some (.string d) := (blk_cell BK1.out 0).trans rfl
            have hcz_1 : w6.cell? ⟨gb1, 1, none⟩ = some (.string p) := (blk_cell BK1.out 1).trans rfl
            have hcz_2 : w6.cell? ⟨gb1, 2, none⟩ = some (.int .i64 n) := (blk_cell BK1.out 2).trans rfl
            have hst : ∀ c, (convert 53 9 (.slice (some ⟨g2, 0, none⟩) sd.size c)).run Tryd.prog w6 = .ok (.string sd) w6 := (fun c => by have h_ := BY.str (P := Tryd.prog) (c := c) HY.out (n := sd.size) (by simp) Tryd.underlying53 Tryd.underlying5 Tryd.underlying9; have hid_ : (⟨sd.data.toList.toArray⟩ : ByteArray) = sd := (by simp); rwa [hid_] at h_)
            go_wp2
            go_ret2
            exact ⟨by first | rfl | (simp; done) | (simp [*]; done), by repeat (first | (with_reducible first | exact HB.out | apply below_alloc | apply pw_below_drewN | apply below_drew1 | refine below_set ?_ GE1.out | refine below_set ?_ GE2.out) | exact HB.out)⟩
          · replace c5 := Bool.eq_false_iff.mpr c5
            subst c5
            go_enter Tryd.func24, Tryd.ntmps24
            go_wp2_with (first | ((with_reducible refine gate_dst (N := 3) rfl ?_); refine box_event ?hg (N := 3) ?hd (cs := #[.string d, .string p, .int .i64 n]) (t := 31) ?hr ?_; (case hd => rfl); (case hg => rfl); (case hr => first | (go_simp; done) | (go_simp; rfl)); intro gb1 hg w3 hbox hb; have n0_ := Aside0.mk (below_step (by repeat (first | (with_reducible first | exact HB.out | apply below_alloc | apply pw_below_drewN | apply below_drew1) | exact HB.out)) hb); have n2_ : Aside0 (w.heap.size ≤ gb1) := ⟨by rw [hg]; exact (below_size (by repeat (first | (with_reducible first | exact HB.out | apply below_alloc | apply pw_below_drewN | apply below_drew1) | exact HB.out)))⟩; clear HB; have HB := n0_; have BK1 := Aside0.mk hbox; have GE1 := n2_; clear n0_ n2_; clear hb hbox hg; have hcz_0 : w3.cell? ⟨gb1, 0, none⟩ = some (.string d) := (blk_cell BK1.out 0).trans rfl; have hcz_1 : w3.cell? ⟨gb1, 1, none⟩ = some (.string p) := (blk_cell BK1.out 1).trans rfl; have hcz_2 : w3.cell? ⟨gb1, 2, none⟩ = some (.int .i64 n) := (blk_cell BK1.out 2).trans rfl) | ((with_reducible refine gate_callee (f := 22) rfl ?_); refine goesL_ (some 10) rfl rfl Tryd.func22 (by kernel_rfl) rfl #[.agg #[.string d, .string p, .int .i64 n]] rfl (by (try simp only [List.map_toArray, List.map_cons, List.map_nil]); first | done | rfl | (simp only [List.length_drop, List.length_take]; rfl)) ?_; (with_reducible refine (impl_IsValidLog.calls k d p n true _ (LW.below HLW.out (by repeat (first | (with_reducible first | exact HB.out | apply below_alloc | apply pw_below_drewN | apply below_drew1) | exact HB.out))) A1.out).mono ?_); rintro e w4 ⟨rfl, hb⟩; refine ⟨_, rfl, ?_⟩; have n0_ := Aside0.mk (blk_below (g := gb1) (o := .cells #[.string d, .string p, .int .i64 n] 31 (0, 0)) (by (with_reducible repeat (first | refine blk_drewN ?_ _ | refine blk_drew ?_ | refine blk_alloc ?_ _)); exact BK1.out) hb); have n1_ := Aside0.mk (below_step (by repeat (first | (with_reducible first | exact HB.out | apply below_alloc | apply pw_below_drewN | apply below_drew1 | refine below_set ?_ GE1.out) | exact HB.out)) hb); clear BK1 HB; have BK1 := n0_; have HB := n1_; clear n0_ n1_; have hcz_0 : w4.cell? ⟨gb1, 0, none⟩ = some (.string d) := (blk_cell BK1.out 0).trans rfl; have hcz_1 : w4.cell? ⟨gb1, 1, none⟩ = some (.string p) := (blk_cell BK1.out 1).trans rfl; have hcz_2 : w4.cell? ⟨gb1, 2, none⟩ = some (.int .i64 n) := (blk_cell BK1.out 2).trans rfl; clear hb) | ((with_reducible refine gate_callee (f := 48) rfl ?_); (try (refine gate_guard (by rfl) ?_; dsimp only)); refine goesL_ (some 17) rfl rfl Tryd.func48 (by kernel_rfl) rfl #[.int .i64 keep, .int .i64 0, .int .i64 (p.size : Int)] rfl (by (try simp only [List.map_toArray, List.map_cons, List.map_nil]); first | done | rfl | (simp only [List.length_drop, List.length_take]; rfl)) ?_; (with_reducible refine (impl_within.calls keep 0 (p.size : Int) true _ A2.out).mono ?_); rintro e w' ⟨rfl, ⟨nd, rfl⟩⟩; refine ⟨_, rfl, ?_⟩; (try (rw [drewN_self w4]; generalize hq_ : World.drewN w4 _ = w5; have n0_ := Aside0.mk (blk_at hq_ BK1.out); have n1_ := Aside0.mk (below_at hq_ HB.out); clear hq_ BK1 HB; have BK1 := n0_; have HB := n1_; clear n0_ n1_; have hcz_0 : w5.cell? ⟨gb1, 0, none⟩ = some (.string d) := (blk_cell BK1.out 0).trans rfl; have hcz_1 : w5.cell? ⟨gb1, 1, none⟩ = some (.string p) := (blk_cell BK1.out 1).trans rfl; have hcz_2 : w5.cell? ⟨gb1, 2, none⟩ = some (.int .i64 n) := (blk_cell BK1.out 2).trans rfl))) | ((with_reducible refine gate_dst (N := 27) rfl ?_); refine conv_event ?hg (N := 27) ?hd (s := sd) ?hr ?_; (case hd => rfl); (case hg => rfl); (case hr => have hcv := fun W => Go.Lib.run_convert_string_bytes (P := Tryd.prog) W 9 53 5 sd Tryd.underlying9 Tryd.underlying53 Tryd.underlying5; first | (go_simp; rw [hcv]; rfl) | (go_simp; simp only [hcv]; rfl) | (go_simp; done) | (go_simp; rfl)); intro cc g2 w6 hg2 hby hb; have n2_ : Aside0 (w.heap.size ≤ g2) := ⟨Nat.le_trans (below_size (by repeat (first | (with_reducible first | exact HB.out | apply below_alloc | apply pw_below_drewN | apply below_drew1 | refine below_set ?_ GE1.out) | exact HB.out))) hg2⟩; have hne : gb1 ≠ g2 := (by have hl_ := blk_lt (g := gb1) (o := .cells #[.string d, .string p, .int .i64 n] 31 (0, 0)) (by (with_reducible repeat (first | refine blk_drewN ?_ _ | refine blk_drew ?_ | refine blk_alloc ?_ _)); exact BK1.out); omega); clear hg2; have GE2 := n2_; clear n2_; have HY := Aside0.mk hby; clear hby; have n0_ := Aside0.mk (blk_below (g := gb1) (o := .cells #[.string d, .string p, .int .i64 n] 31 (0, 0)) (by (with_reducible repeat (first | refine blk_drewN ?_ _ | refine blk_drew ?_ | refine blk_alloc ?_ _)); exact BK1.out) hb); have n1_ := Aside0.mk (below_step (by repeat (first | (with_reducible first | exact HB.out | apply below_alloc | apply pw_below_drewN | apply below_drew1 | refine below_set ?_ GE1.out) | exact HB.out)) hb); clear BK1 HB; have BK1 := n0_; have HB := n1_; clear n0_ n1_; have hcz_0 : w6.cell? ⟨gb1, 0, none⟩ = some (.string d) := (blk_cell BK1.out 0).trans rfl; have hcz_1 : w6.cell? ⟨gb1, 1, none⟩ = some (.string p) := (blk_cell BK1.out 1).trans rfl; have hcz_2 : w6.cell? ⟨gb1, 2, none⟩ = some (.int .i64 n) := (blk_cell BK1.out 2).trans rfl; clear hb; have hst : ∀ c, (convert 53 9 (.slice (some ⟨g2, 0, none⟩) sd.size c)).run Tryd.prog w6 = .ok (.string sd) w6 := (fun c => by have h_ := BY.str (P := Tryd.prog) (c := c) HY.out (n := sd.size) (by simp) Tryd.underlying53 Tryd.underlying5 Tryd.underlying9; have hid_ : (⟨sd.data.toList.toArray⟩ : ByteArray) = sd := (by simp); rwa [hid_] at h_)))
            have n0_ := Aside0.mk (blk_drew BK1.out)
            have n1_ := Aside0.mk (below_drew1 HB.out)
            clear BK1 HB
            have BK1 := n0_
            have HB := n1_
            clear n0_ n1_
            refine start_ (n := 9) (S := fun w' => w'.cell? ⟨gb1, 0, none⟩ = some (.string d) ∧ w'.cell? ⟨gb1, 1, none⟩ = some (.string p)) (ds := []) #[false, false, false, false, false, false, false, false, false] (by kernel_rfl) rfl rfl ⟨(blk_cell BK1.out 0).trans rfl, (blk_cell BK1.out 1).trans rfl⟩ (fun hHeld => ?_); refine with_tabW impl_CrashLog.tab3 impl_CrashLog.bits3 (fun HT_ HW_ => ?_)
            generalize w5.drew = w5b at BK1 HB hHeld ⊢
            refine pure_ (i := 0) (N := some 20) (v := ?_) (a' := ?_) #[true, false, false, false, false, false, false, false, false] rfl rfl (any_of HT_.out (by kernel_rfl)) (fun _ _ _ h => h) (Or.inl ⟨by rfl, ?_⟩) ?_ ?_
            rotate_left
            · intro w'
              go_simp
              with_reducible rfl
            rotate_left
            · simp only [Act.put, List.setIfInBounds_toArray, List.set_cons_zero, List.set_cons_succ, i64_w, i32_w]
              rfl
            refine take_ (i := 1) (N := some 21) (v := ?_) (a' := ?_) #[true, true, false, false, false, false, false, false, false] rfl rfl (take_ofW HT_.out HW_.out (by kernel_rfl)) (fun _ _ _ h => h) (Or.inl ⟨by rfl, ?_⟩) hHeld ?_ ?_
            rotate_left
            · rintro w' ⟨s0, s1⟩
              go_simp
              with_reducible rfl
            rotate_left
            · simp only [Act.put, List.setIfInBounds_toArray, List.set_cons_zero, List.set_cons_succ, i64_w, i32_w]
              rfl
            refine pure_ (i := 2) (N := some 22) (v := ?_) (a' := ?_) #[true, true, true, false, false, false, false, false, false] rfl rfl (any_of HT_.out (by kernel_rfl)) (fun _ _ _ h => h) (Or.inl ⟨by rfl, ?_⟩) ?_ ?_
            rotate_left
            · intro w'
              go_simp
              with_reducible rfl
            rotate_left
            · simp only [Act.put, List.setIfInBounds_toArray, List.set_cons_zero, List.set_cons_succ, i64_w, i32_w]
              rfl
            refine take_ (i := 3) (N := some 23) (v := ?_) (a' := ?_) #[true, true, true, true, false, false, false, false, false] rfl rfl (take_ofW HT_.out HW_.out (by kernel_rfl)) (fun _ _ _ h => h) (Or.inl ⟨by rfl, ?_⟩) hHeld ?_ ?_
            rotate_left
            · rintro w' ⟨s0, s1⟩
              go_simp
              with_reducible rfl
            rotate_left
            · simp only [Act.put, List.setIfInBounds_toArray, List.set_cons_zero, List.set_cons_succ, i64_w, i32_w]
              rfl
            refine pure_ (i := 4) (N := some 24) (v := ?_) (a' := ?_) #[true, true, true, true, true, false, false, false, false] rfl rfl (any_of HT_.out (by kernel_rfl)) (fun _ _ _ h => h) (Or.inl ⟨by rfl, ?_⟩) ?_ ?_
            rotate_left
            · intro w'
              go_simp
              with_reducible rfl
            rotate_left
            · simp only [Act.put, List.setIfInBounds_toArray, List.set_cons_zero, List.set_cons_succ, i64_w, i32_w]
              rfl
            refine pure_ (i := 5) (N := some 25) (v := ?_) (a' := ?_) #[true, true, true, true, true, true, false, false, false] rfl rfl (any_of HT_.out (by kernel_rfl)) (fun _ _ _ h => h) (Or.inl ⟨by rfl, ?_⟩) ?_ ?_
            rotate_left
            · intro w'
              go_simp
              with_reducible rfl
            rotate_left
            · simp only [Act.put, List.setIfInBounds_toArray, List.set_cons_zero, List.set_cons_succ, i64_w, i32_w]
              rfl
            refine pure_ (i := 6) (N := some 26) (v := ?_) (a' := ?_) #[true, true, true, true, true, true, true, false, false] rfl rfl (any_of HT_.out (by kernel_rfl)) (fun _ _ _ h => h) (Or.inl ⟨by rfl, ?_⟩) ?_ ?_
            rotate_left
            · intro w'
              go_simp
              with_reducible rfl
            rotate_left
            · simp only [Act.put, List.setIfInBounds_toArray, List.set_cons_zero, List.set_cons_succ, i64_w, i32_w]
              rfl
            refine one_ (i := 7) (N := some 27) #[true, true, true, true, true, true, true, true, false] rfl rfl (one_of HT_.out (by kernel_rfl)) (by decide) (fun K hK => ?_)
            refine conv_step ?hg (N := 27) ?hd (s := sd) ?hr ?_; (case hd => rfl); (case hg => rfl); (case hr => have hcv := fun W => Go.Lib.run_convert_string_bytes (P := Tryd.prog) W 9 53 5 sd Tryd.underlying9 Tryd.underlying53 Tryd.underlying5; first | (go_simp; rw [hcv]; rfl) | (go_simp; simp only [hcv]; rfl) | (go_simp; done) | (go_simp; rfl))
            intro cc g2 w6 hg2 hby hb
            have n2_ : Aside0 (w.heap.size ≤ g2) := ⟨Nat.le_trans (below_size (by repeat (first | (with_reducible first | exact HB.out | apply below_alloc | apply pw_below_drewN | apply below_drew1 | refine below_set ?_ GE1.out) | exact HB.out))) hg2⟩
            have hne : gb1 ≠ g2 := (by have hl_ := blk_lt (g := gb1) (o := .cells #[.string d, .string p, .int .i64 n] 31 (0, 0)) (by (with_reducible repeat (first | refine blk_drewN ?_ _ | refine blk_drew ?_ | refine blk_alloc ?_ _)); exact BK1.out); omega)
            clear hg2
            have GE2 := n2_
            clear n2_
            have HY := Aside0.mk hby
            clear hby
            have n0_ := Aside0.mk (blk_below (g := gb1) (o := .cells #[.string d, .string p, .int .i64 n] 31 (0, 0)) (by (with_reducible repeat (first | refine blk_drewN ?_ _ | refine blk_drew ?_ | refine blk_alloc ?_ _)); exact BK1.out) hb)
            have n1_ := Aside0.mk (below_step (by repeat (first | (with_reducible first | exact HB.out | apply below_alloc | apply pw_below_drewN | apply below_drew1 | refine below_set ?_ GE1.out) | exact HB.out)) hb)
            clear BK1 HB
            have BK1 := n0_
            have HB := n1_
            clear n0_ n1_
            clear hb
            refine hK.out _ _ ⟨(blk_cell BK1.out 0).trans rfl, (blk_cell BK1.out 1).trans rfl⟩ (fun hHeld => ?_)
            clear hK K
            refine norm_ (a' := ?_) ?_ ?_
            rotate_left
            · show Act.put _ (some 27) _ = _
              simp only [Act.put, List.setIfInBounds_toArray, List.set_cons_zero, List.set_cons_succ, i64_w, i32_w]
              rfl
            refine pure_ (i := 8) (N := some 8) (v := ?_) (a' := ?_) #[true, true, true, true, true, true, true, true, true] rfl rfl (any_of HT_.out (by kernel_rfl)) (fun _ _ _ h => h) (Or.inl ⟨by rfl, ?_⟩) ?_ ?_
            rotate_left
            · intro w'
              go_simp
              with_reducible rfl
            rotate_left
            · simp only [Act.put, List.setIfInBounds_toArray, List.set_cons_zero, List.set_cons_succ, i64_w, i32_w]
              rfl
            refine done_ (done_of HT_.out (by kernel_rfl)) ?_
            have hcz_0 : w6.cell? ⟨gb1, 0, none⟩ = some (.string d) := (blk_cell BK1.out 0).trans rfl
            have hcz_1 : w6.cell? ⟨gb1, 1, none⟩ = some (.string p) := (blk_cell BK1.out 1).trans rfl
            have hcz_2 : w6.cell? ⟨gb1, 2, none⟩ = some (.int .i64 n) := (blk_cell BK1.out 2).trans rfl
            have hst : ∀ c, (convert 53 9 (.slice (some ⟨g2, 0, none⟩) sd.size c)).run Tryd.prog w6 = .ok (.string sd) w6 := (fun c => by have h_ := BY.str (P := Tryd.prog) (c := c) HY.out (n := sd.size) (by simp) Tryd.underlying53 Tryd.underlying5 Tryd.underlying9; have hid_ : (⟨sd.data.toList.toArray⟩ : ByteArray) = sd := (by simp); rwa [hid_] at h_)
            go_wp2
            go_ret2
            exact ⟨by first | rfl | (simp; done) | (simp [*]; done), by repeat (first | (with_reducible first | exact HB.out | apply below_alloc | apply pw_below_drewN | apply below_drew1 | refine below_set ?_ GE1.out | refine below_set ?_ GE2.out) | exact HB.out)⟩
      · rw [if_neg c3] at H
        exact absurd H (by simp)
    · replace c2 := Bool.eq_false_iff.mpr c2
      subst c2
      rw [if_neg (show ¬ (false = true) by decide)] at H
      simp only [Option.some.injEq, Prod.mk.injEq] at H
      obtain ⟨rfl, rfl⟩ := H
      go_enter Tryd.func24, Tryd.ntmps24
      go_wp2_with (first | ((with_reducible refine gate_dst (N := 3) rfl ?_); refine box_event ?hg (N := 3) ?hd (cs := #[.string d, .string p, .int .i64 n]) (t := 31) ?hr ?_; (case hd => rfl); (case hg => rfl); (case hr => first | (go_simp; done) | (go_simp; rfl)); intro gb1 hg w3 hbox hb; have n0_ := Aside0.mk (below_step (by repeat (first | (with_reducible first | exact HB.out | apply below_alloc | apply pw_below_drewN | apply below_drew1) | exact HB.out)) hb); have n2_ : Aside0 (w.heap.size ≤ gb1) := ⟨by rw [hg]; exact (below_size (by repeat (first | (with_reducible first | exact HB.out | apply below_alloc | apply pw_below_drewN | apply below_drew1) | exact HB.out)))⟩; clear HB; have HB := n0_; have BK1 := Aside0.mk hbox; have GE1 := n2_; clear n0_ n2_; clear hb hbox hg; have hcz_0 : w3.cell? ⟨gb1, 0, none⟩ = some (.string d) := (blk_cell BK1.out 0).trans rfl; have hcz_1 : w3.cell? ⟨gb1, 1, none⟩ = some (.string p) := (blk_cell BK1.out 1).trans rfl; have hcz_2 : w3.cell? ⟨gb1, 2, none⟩ = some (.int .i64 n) := (blk_cell BK1.out 2).trans rfl) | ((with_reducible refine gate_callee (f := 22) rfl ?_); refine goesL_ (some 10) rfl rfl Tryd.func22 (by kernel_rfl) rfl #[.agg #[.string d, .string p, .int .i64 n]] rfl (by (try simp only [List.map_toArray, List.map_cons, List.map_nil]); first | done | rfl | (simp only [List.length_drop, List.length_take]; rfl)) ?_; (with_reducible refine (impl_IsValidLog.calls k d p n true _ (LW.below HLW.out (by repeat (first | (with_reducible first | exact HB.out | apply below_alloc | apply pw_below_drewN | apply below_drew1) | exact HB.out))) A1.out).mono ?_); rintro e w4 ⟨rfl, hb⟩; refine ⟨_, rfl, ?_⟩; have n0_ := Aside0.mk (blk_below (g := gb1) (o := .cells #[.string d, .string p, .int .i64 n] 31 (0, 0)) (by (with_reducible repeat (first | refine blk_drewN ?_ _ | refine blk_drew ?_ | refine blk_alloc ?_ _)); exact BK1.out) hb); have n1_ := Aside0.mk (below_step (by repeat (first | (with_reducible first | exact HB.out | apply below_alloc | apply pw_below_drewN | apply below_drew1 | refine below_set ?_ GE1.out) | exact HB.out)) hb); clear BK1 HB; have BK1 := n0_; have HB := n1_; clear n0_ n1_; have hcz_0 : w4.cell? ⟨gb1, 0, none⟩ = some (.string d) := (blk_cell BK1.out 0).trans rfl; have hcz_1 : w4.cell? ⟨gb1, 1, none⟩ = some (.string p) := (blk_cell BK1.out 1).trans rfl; have hcz_2 : w4.cell? ⟨gb1, 2, none⟩ = some (.int .i64 n) := (blk_cell BK1.out 2).trans rfl; clear hb) | ((with_reducible refine gate_callee (f := 48) rfl ?_); (try (refine gate_guard (by rfl) ?_; dsimp only)); refine goesL_ (some 17) rfl rfl Tryd.func48 (by kernel_rfl) rfl #[.int .i64 keep, .int .i64 0, .int .i64 (p.size : Int)] rfl (by (try simp only [List.map_toArray, List.map_cons, List.map_nil]); first | done | rfl | (simp only [List.length_drop, List.length_take]; rfl)) ?_; (with_reducible refine (impl_within.calls keep 0 (p.size : Int) false _ A2.out).mono ?_); rintro e w' ⟨rfl, ⟨nd, rfl⟩⟩; refine ⟨_, rfl, ?_⟩; (try (rw [drewN_self w4]; generalize hq_ : World.drewN w4 _ = w5; have n0_ := Aside0.mk (blk_at hq_ BK1.out); have n1_ := Aside0.mk (below_at hq_ HB.out); clear hq_ BK1 HB; have BK1 := n0_; have HB := n1_; clear n0_ n1_; have hcz_0 : w5.cell? ⟨gb1, 0, none⟩ = some (.string d) := (blk_cell BK1.out 0).trans rfl; have hcz_1 : w5.cell? ⟨gb1, 1, none⟩ = some (.string p) := (blk_cell BK1.out 1).trans rfl; have hcz_2 : w5.cell? ⟨gb1, 2, none⟩ = some (.int .i64 n) := (blk_cell BK1.out 2).trans rfl))))
      go_ret2
      exact ⟨by first | rfl | (simp; done) | (simp [*]; done), by repeat (first | (with_reducible first | exact HB.out | apply below_alloc | apply pw_below_drewN | apply below_drew1 | refine below_set ?_ GE1.out) | exact HB.out)⟩
  · replace c1 := Bool.eq_false_iff.mpr c1
    subst c1
    rw [if_neg (show ¬ (false = true) by decide)] at H
    simp only [Option.some.injEq, Prod.mk.injEq] at H
    obtain ⟨rfl, rfl⟩ := H
    go_enter Tryd.func24, Tryd.ntmps24
    go_wp2_with (first | ((with_reducible refine gate_dst (N := 3) rfl ?_); refine box_event ?hg (N := 3) ?hd (cs := #[.string d, .string p, .int .i64 n]) (t := 31) ?hr ?_; (case hd => rfl); (case hg => rfl); (case hr => first | (go_simp; done) | (go_simp; rfl)); intro gb1 hg w3 hbox hb; have n0_ := Aside0.mk (below_step (by repeat (first | (with_reducible first | exact HB.out | apply below_alloc | apply pw_below_drewN | apply below_drew1) | exact HB.out)) hb); have n2_ : Aside0 (w.heap.size ≤ gb1) := ⟨by rw [hg]; exact (below_size (by repeat (first | (with_reducible first | exact HB.out | apply below_alloc | apply pw_below_drewN | apply below_drew1) | exact HB.out)))⟩; clear HB; have HB := n0_; have BK1 := Aside0.mk hbox; have GE1 := n2_; clear n0_ n2_; clear hb hbox hg; have hcz_0 : w3.cell? ⟨gb1, 0, none⟩ = some (.string d) := (blk_cell BK1.out 0).trans rfl; have hcz_1 : w3.cell? ⟨gb1, 1, none⟩ = some (.string p) := (blk_cell BK1.out 1).trans rfl; have hcz_2 : w3.cell? ⟨gb1, 2, none⟩ = some (.int .i64 n) := (blk_cell BK1.out 2).trans rfl) | ((with_reducible refine gate_callee (f := 22) rfl ?_); refine goesL_ (some 10) rfl rfl Tryd.func22 (by kernel_rfl) rfl #[.agg #[.string d, .string p, .int .i64 n]] rfl (by (try simp only [List.map_toArray, List.map_cons, List.map_nil]); first | done | rfl | (simp only [List.length_drop, List.length_take]; rfl)) ?_; (with_reducible refine (impl_IsValidLog.calls k d p n false _ (LW.below HLW.out (by repeat (first | (with_reducible first | exact HB.out | apply below_alloc | apply pw_below_drewN | apply below_drew1) | exact HB.out))) A1.out).mono ?_); rintro e w4 ⟨rfl, hb⟩; refine ⟨_, rfl, ?_⟩; have n0_ := Aside0.mk (blk_below (g := gb1) (o := .cells #[.string d, .string p, .int .i64 n] 31 (0, 0)) (by (with_reducible repeat (first | refine blk_drewN ?_ _ | refine blk_drew ?_ | refine blk_alloc ?_ _)); exact BK1.out) hb); have n1_ := Aside0.mk (below_step (by repeat (first | (with_reducible first | exact HB.out | apply below_alloc | apply pw_below_drewN | apply below_drew1 | refine below_set ?_ GE1.out) | exact HB.out)) hb); clear BK1 HB; have BK1 := n0_; have HB := n1_; clear n0_ n1_; have hcz_0 : w4.cell? ⟨gb1, 0, none⟩ = some (.string d) := (blk_cell BK1.out 0).trans rfl; have hcz_1 : w4.cell? ⟨gb1, 1, none⟩ = some (.string p) := (blk_cell BK1.out 1).trans rfl; have hcz_2 : w4.cell? ⟨gb1, 2, none⟩ = some (.int .i64 n) := (blk_cell BK1.out 2).trans rfl; clear hb))
    go_ret2
    exact ⟨by first | rfl | (simp; done) | (simp [*]; done), by repeat (first | (with_reducible first | exact HB.out | apply below_alloc | apply pw_below_drewN | apply below_drew1 | refine below_set ?_ GE1.out) | exact HB.out)⟩
end Go.Proofs.YtonfhfcpnoehjaaDoor.Crash
