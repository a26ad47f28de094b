/- The statement FnExactIsValidConsole of this seat: for every input the law returns true and leaves its arguments alone; the listed variables of Go's library are tied to the program's text. -/
import Derived.Test.YtkgeffmmpgdkmaaDoorRows
import Derived.Test.YtkgeffmmpgdkmaaDoorL7
import Derived.Test.YtkgeffmmpgdkmaaDoorOnly
import Derived.Test.YtkgeffmmpgdkmaaDoorTie
import Derived.Test.YtkgeffmmpgdkmaaDoorCards
import Derived.ProofKit
import Derived.OpenShut
import Derived.ShutString
import Derived.ChangeOld
import Derived.Below
import Derived.SizedLaws
import Derived.Lib.SmallJoins
import Derived.LaidMore
import Derived.Stop.Joined
import Derived.Stop.LaidErr
import Derived.Lib.LaidTab
import Derived.SevenTiedAt
namespace Go.Proofs.YtkgeffmmpgdkmaaDoor.FnExactIsValidConsoleRow
open Go.ChangeShapes Go.WideShapes Go.ChangeAt Go.WideMaps Go.WideElems Go.RowKit Go.Joins
open Go.ChangeMaps (open_string shut_string)
open Go.Proofs.YtkgeffmmpgdkmaaDoorW.PrintWords Go.Proofs.YtkgeffmmpgdkmaaDoorW.PrintLast Go.Proofs.YtkgeffmmpgdkmaaDoor.Giv Go.Proofs.YtkgeffmmpgdkmaaDoor.L
set_option linter.unusedVariables false
set_option linter.unusedSimpArgs false
theorem own : ownKnob Tryd.prog.godebug = none := by kernel_rfl
theorem laidOut : laidOutB Tryd.prog = true := by kernel_rfl
noncomputable abbrev laidL : List (String × DataW Unit) := [("math/bits.deBruijn32tab", Rows.laid_math_bits_deBruijn32tab), ("math/bits.deBruijn64tab", Rows.laid_math_bits_deBruijn64tab), ("internal/strconv.uint64pow10", Rows.laid_internal_strconv_uint64pow10)]
theorem gT : Tryd.prog.globalNamed "internal/strconv.uint64pow10" = some 3 := by kernel_rfl
theorem door_met (os : Os) (args : Array Value) : laidMetH Tryd.prog laidL ((World.doorLaid Tryd.prog 400 os).forCall (fun _ _ => 0) ⟨#[], args, []⟩).memory :=
  laidMetH_of_parts3 (fuel := 8) (laidMet_of_run' 8 (by kernel_rfl) (by kernel_rfl)) (by kernel_rfl) (by kernel_rfl)
theorem of_laid {W : World} (h : laidMetH Tryd.prog laidL W) : LW W := by
  rw [MakeChecks.laidMetH_plain _ _ _ (by kernel_rfl)] at h
  have h2 : laidMet Tryd.prog [("internal/strconv.uint64pow10", Lib.tabData .u64 Lib.pow10Tab)] W := h.tail.tail
  exact Lib.tabIs_of_head gT (by kernel_rfl) Tryd.underlying136 Tryd.underlying122 (by kernel_rfl) (by kernel_rfl) h2
set_option maxRecDepth 100000 in
set_option maxHeartbeats 2000000 in
theorem openP0 {H : Type} {enc : TypeId × Value → H} {W : World} {base : Nat} {sp : Nat → Bool} {held : Bool} {r : Reach} {bb : Nat} {v : Value} {d : DataW H} {p : List MemPlace} (hv : Value.okWide Tryd.prog W r bb 38 v) (h : DataW.Trod enc Tryd.prog W base sp held 38 v d p) :
    ∃ (b0 : Int) (b1 : Int) (b2 : Int) (b3 : Int) (b4 : Int) (b5 : Int) (b6 : Int) (b7 : Int) (b8 : Int) (b9 : Int) (b10 : Int) (b11 : ByteArray) (b12 : ByteArray) (b13 : Int), v = .agg #[.int .i64 b0, .int .i64 b1, .int .i64 b2, .int .i64 b3, .int .i64 b4, .int .i64 b5, .int .i64 b6, .int .i64 b7, .int .i64 b8, .int .i64 b9, .int .i64 b10, .string b11, .string b12, .int .i64 b13] ∧ d = .agg [.agg [.agg [.agg [.lit (.int .i64 b0), .lit (.int .i64 b1), .lit (.int .i64 b2), .lit (.int .i64 b3)]], .agg [.lit (.int .i64 b4), .lit (.int .i64 b5), .lit (.int .i64 b6), .lit (.int .i64 b7)], .lit (.int .i64 b8), .lit (.int .i64 b9), .lit (.int .i64 b10)], .agg [.lit (.string b11.data.toList), .lit (.string b12.data.toList), .lit (.int .i64 b13)]] ∧ (Lit.int .i64 b0).wf = true ∧ (Lit.int .i64 b1).wf = true ∧ (Lit.int .i64 b2).wf = true ∧ (Lit.int .i64 b3).wf = true ∧ (Lit.int .i64 b4).wf = true ∧ (Lit.int .i64 b5).wf = true ∧ (Lit.int .i64 b6).wf = true ∧ (Lit.int .i64 b7).wf = true ∧ (Lit.int .i64 b8).wf = true ∧ (Lit.int .i64 b9).wf = true ∧ (Lit.int .i64 b10).wf = true ∧ (Lit.int .i64 b13).wf = true := by
  have hc3 : Tryd.prog.cellsOf 3 = 1 := by kernel_rfl
  have hc9 : Tryd.prog.cellsOf 9 = 1 := by kernel_rfl
  have hc22 : Tryd.prog.cellsOf 22 = 4 := by kernel_rfl
  have hc24 : Tryd.prog.cellsOf 24 = 4 := by kernel_rfl
  have hc34 : Tryd.prog.cellsOf 34 = 11 := by kernel_rfl
  have hc36 : Tryd.prog.cellsOf 36 = 3 := by kernel_rfl
  have hc38 : Tryd.prog.cellsOf 38 = 14 := by kernel_rfl
  obtain ⟨cs, rfl, hsz⟩ := okWide_struct Tryd.underlying38 hv
  obtain ⟨fuel, hy⟩ := h
  rw [hc38] at hsz
  obtain ⟨cs⟩ := cs
  match cs, hsz with
  | [x0, x1, x2, x3, x4, x5, x6, x7, x8, x9, x10, x11, x12, x13], _ =>
  simp only [Value.cells] at hy
  obtain ⟨ys, m, _, hx, _, hl, hf⟩ := DataW.trod_struct Tryd.underlying38 hy
  match ys, hl with
  | [y_0, y_1], _ =>
  have hy_0 := hf 0 _ rfl
  have hy_1 := hf 1 _ rfl
  simp [hc3, hc9, hc22, hc24, hc34, hc36, hc38] at hy_0 hy_1
  obtain ⟨ys_0, m_0, _, rfl, _, hl_0, hf_0⟩ := DataW.trod_struct Tryd.underlying34 hy_0
  match ys_0, hl_0 with
  | [y_0_0, y_0_1, y_0_2, y_0_3, y_0_4], _ =>
  have hy_0_0 := hf_0 0 _ rfl
  have hy_0_1 := hf_0 1 _ rfl
  have hy_0_2 := hf_0 2 _ rfl
  have hy_0_3 := hf_0 3 _ rfl
  have hy_0_4 := hf_0 4 _ rfl
  simp [hc3, hc9, hc22, hc24, hc34, hc36, hc38] at hy_0_0 hy_0_1 hy_0_2 hy_0_3 hy_0_4
  obtain ⟨ys_0_0, m_0_0, _, rfl, _, hl_0_0, hf_0_0⟩ := DataW.trod_struct Tryd.underlying24 hy_0_0
  match ys_0_0, hl_0_0 with
  | [y_0_0_0], _ =>
  have hy_0_0_0 := hf_0_0 0 _ rfl
  simp [hc3, hc9, hc22, hc24, hc34, hc36, hc38] at hy_0_0_0
  obtain ⟨ys_0_0_0, m_0_0_0, _, rfl, _, hl_0_0_0, hf_0_0_0⟩ := DataW.trod_array Tryd.underlying22 hy_0_0_0
  match ys_0_0_0, hl_0_0_0 with
  | [y_0_0_0_0, y_0_0_0_1, y_0_0_0_2, y_0_0_0_3], _ =>
  have hy_0_0_0_0 := hf_0_0_0 0 (by omega)
  have hy_0_0_0_1 := hf_0_0_0 1 (by omega)
  have hy_0_0_0_2 := hf_0_0_0 2 (by omega)
  have hy_0_0_0_3 := hf_0_0_0 3 (by omega)
  simp [hc3, hc9, hc22, hc24, hc34, hc36, hc38] at hy_0_0_0_0 hy_0_0_0_1 hy_0_0_0_2 hy_0_0_0_3
  obtain ⟨b0, e_0_0_0_0, rfl, s_b0⟩ := DataW.trod_int Tryd.underlying3 hy_0_0_0_0
  obtain ⟨b1, e_0_0_0_1, rfl, s_b1⟩ := DataW.trod_int Tryd.underlying3 hy_0_0_0_1
  obtain ⟨b2, e_0_0_0_2, rfl, s_b2⟩ := DataW.trod_int Tryd.underlying3 hy_0_0_0_2
  obtain ⟨b3, e_0_0_0_3, rfl, s_b3⟩ := DataW.trod_int Tryd.underlying3 hy_0_0_0_3
  obtain ⟨ys_0_1, m_0_1, _, rfl, _, hl_0_1, hf_0_1⟩ := DataW.trod_array Tryd.underlying22 hy_0_1
  match ys_0_1, hl_0_1 with
  | [y_0_1_0, y_0_1_1, y_0_1_2, y_0_1_3], _ =>
  have hy_0_1_0 := hf_0_1 0 (by omega)
  have hy_0_1_1 := hf_0_1 1 (by omega)
  have hy_0_1_2 := hf_0_1 2 (by omega)
  have hy_0_1_3 := hf_0_1 3 (by omega)
  simp [hc3, hc9, hc22, hc24, hc34, hc36, hc38] at hy_0_1_0 hy_0_1_1 hy_0_1_2 hy_0_1_3
  obtain ⟨b4, e_0_1_0, rfl, s_b4⟩ := DataW.trod_int Tryd.underlying3 hy_0_1_0
  obtain ⟨b5, e_0_1_1, rfl, s_b5⟩ := DataW.trod_int Tryd.underlying3 hy_0_1_1
  obtain ⟨b6, e_0_1_2, rfl, s_b6⟩ := DataW.trod_int Tryd.underlying3 hy_0_1_2
  obtain ⟨b7, e_0_1_3, rfl, s_b7⟩ := DataW.trod_int Tryd.underlying3 hy_0_1_3
  obtain ⟨b8, e_0_2, rfl, s_b8⟩ := DataW.trod_int Tryd.underlying3 hy_0_2
  obtain ⟨b9, e_0_3, rfl, s_b9⟩ := DataW.trod_int Tryd.underlying3 hy_0_3
  obtain ⟨b10, e_0_4, rfl, s_b10⟩ := DataW.trod_int Tryd.underlying3 hy_0_4
  obtain ⟨ys_1, m_1, _, rfl, _, hl_1, hf_1⟩ := DataW.trod_struct Tryd.underlying36 hy_1
  match ys_1, hl_1 with
  | [y_1_0, y_1_1, y_1_2], _ =>
  have hy_1_0 := hf_1 0 _ rfl
  have hy_1_1 := hf_1 1 _ rfl
  have hy_1_2 := hf_1 2 _ rfl
  simp [hc3, hc9, hc22, hc24, hc34, hc36, hc38] at hy_1_0 hy_1_1 hy_1_2
  obtain ⟨b11, e_1_0, rfl, _⟩ := DataW.trod_string Tryd.underlying9 hy_1_0
  obtain ⟨b12, e_1_1, rfl, _⟩ := DataW.trod_string Tryd.underlying9 hy_1_1
  obtain ⟨b13, e_1_2, rfl, s_b13⟩ := DataW.trod_int Tryd.underlying3 hy_1_2
  simp at e_0_0_0_0 e_0_0_0_1 e_0_0_0_2 e_0_0_0_3 e_0_1_0 e_0_1_1 e_0_1_2 e_0_1_3 e_0_2 e_0_3 e_0_4 e_1_0 e_1_1 e_1_2
  subst e_0_0_0_0 e_0_0_0_1 e_0_0_0_2 e_0_0_0_3 e_0_1_0 e_0_1_1 e_0_1_2 e_0_1_3 e_0_2 e_0_3 e_0_4 e_1_0 e_1_1 e_1_2
  obtain ⟨hx1, _⟩ := Prod.mk.inj hx
  exact ⟨b0, b1, b2, b3, b4, b5, b6, b7, b8, b9, b10, b11, b12, b13, rfl, by rw [hx1]; simp, s_b0, s_b1, s_b2, s_b3, s_b4, s_b5, s_b6, s_b7, s_b8, s_b9, s_b10, s_b13⟩
set_option maxRecDepth 100000 in
set_option maxHeartbeats 1000000 in
theorem lifted (os : Os) (started : os.Started) (H : Type) (enc : TypeId × Value → H) :
    ReturnsInHanded {} Tryd.checked os 4 .any (fun w args => (Rows.fnExactIsValidConsoleSpec.pre enc Tryd.prog Tryd.f4 [] false w args ∧ laidMetH Tryd.prog laidL w) ∧ sizedMet enc Tryd.prog Tryd.f4 (OpenSpec.ofChange Rows.fnExactIsValidConsoleSpec) false w args)
      (Rows.fnExactIsValidConsoleSpec.post enc Tryd.prog Tryd.f4 false true false false) := by
  refine returnsInHanded_of_change_and (C := Tryd.checked) (X := fun w _ => laidMetH Tryd.prog laidL w) (fun _ _ _ hh h => h.of_heap hh) own started (by kernel_rfl) Tryd.func4
    (ChangeSpec.witness_shaped (enc := enc) (C := Tryd.checked) (os := os) (X := fun w _ => laidMetH Tryd.prog laidL w) false (World.doorLaid Tryd.prog 400 os) #[.agg #[.int .i64 0, .int .i64 0, .int .i64 0, .int .i64 0, .int .i64 0, .int .i64 0, .int .i64 0, .int .i64 0, .int .i64 0, .int .i64 0, .int .i64 0, .string ByteArray.empty, .string ByteArray.empty, .int .i64 0]] 8 rfl (World.shaped_of_RefB (by kernel_rfl) (by kernel_rfl)) (by kernel_rfl) (by kernel_rfl) (by kernel_rfl) (door_met os _)) ?_
  intro W base args ds gs before hval0 hW hcnd hsz0 hLd _
  have hsz : (DataW.weightsEach Tryd.prog (Tryd.f4.params.toList ++ Rows.fnExactIsValidConsoleSpec.plain.varTypes Tryd.prog) (ds ++ gs)).all (· ≤ reachBytes) = true := hsz0
  have hval : ∀ (j : Nat) t v, Tryd.f4.params[j]? = some t → args[j]? = some v → Value.okWide Tryd.prog W .any base t v := hval0
  have hW' := hW
  obtain ⟨p, q, hA0, hV, rfl, hfz, hnd⟩ := hW
  have hA : DataW.TrodAll enc Tryd.prog W 0 (fun _ => true) true Tryd.f4.params.toList args.toList ds p := hA0
  rw [Tryd.params4] at hA hval hsz
  obtain ⟨v0, vs0, d0, ds0, p0, q0, hargs, rfl, rfl, h0, r0⟩ := trodAll_cons hA
  obtain ⟨rfl, rfl, rfl⟩ := trodAll_nil r0
  obtain rfl : args = #[v0] := by cases args; simp_all
  obtain ⟨rfl, rfl⟩ := trodVars_none hV
  have k0 := h0
  have lt0 : ∀ x ∈ p0, x.block < W.heap.size := by obtain ⟨m, hm⟩ := k0; exact DataW.trod_lt m _ _ _ hm
  obtain ⟨a0_0, a0_1, a0_2, a0_3, a0_4, a0_5, a0_6, a0_7, a0_8, a0_9, a0_10, a0_11, a0_12, a0_13, rfl, rfl, w0_0, w0_1, w0_2, w0_3, w0_4, w0_5, w0_6, w0_7, w0_8, w0_9, w0_10, w0_13⟩ := openP0 (hval 0 38 v0 rfl rfl) h0
  have w0_11 : a0_11.size ≤ 140737488351232 := by
    have z := List.all_eq_true.1 hsz a0_11.data.toList.length (DataW.weights_mem_each (j := 0) (t := 38) rfl rfl _ (by simp [DataW.weights, Tryd.underlying3, Tryd.underlying9, Tryd.underlying22, Tryd.underlying24, Tryd.underlying34, Tryd.underlying36, Tryd.underlying38, DataW.weightsEach]))
    rw [Array.length_toList] at z
    exact of_decide_eq_true z
  have w0_12 : a0_12.size ≤ 140737488351232 := by
    have z := List.all_eq_true.1 hsz a0_12.data.toList.length (DataW.weights_mem_each (j := 0) (t := 38) rfl rfl _ (by simp [DataW.weights, Tryd.underlying3, Tryd.underlying9, Tryd.underlying22, Tryd.underlying24, Tryd.underlying34, Tryd.underlying36, Tryd.underlying38, DataW.weightsEach]))
    rw [Array.length_toList] at z
    exact of_decide_eq_true z
  clear hA0 hval0 hsz0 hsz
  obtain ⟨k, hP⟩ := Pure.FnExactIsValidConsole a0_0 a0_1 a0_2 a0_3 a0_4 a0_5 a0_6 a0_7 a0_8 a0_9 a0_10 a0_11 a0_12 a0_13 w0_11 w0_12
  refine (laws_FnExactIsValidConsole.calls k a0_0 a0_1 a0_2 a0_3 a0_4 a0_5 a0_6 a0_7 a0_8 a0_9 a0_10 a0_11 a0_12 a0_13 true W (of_laid hLd) hP).mono fun e W' ⟨he, bel⟩ => ?_
  subst he
  exact ⟨_, rfl, _, _, _, [], _, [], hW', trodAll_mk1 (shut_bool Tryd.underlying4 _), (trodAll_cons_mk (Below.trod laidOut (by kernel_rfl) (of_decide_eq_true (by kernel_rfl)) k0 bel lt0) trodAll_mk0), rfl, bel.frame _, fun h => by cases h⟩
theorem over : Rows.FnExactIsValidConsoleSaid :=
  OpenClaim.holds_of_wide 4 Tryd.f4 rfl rfl rfl rfl rfl rfl rfl ⟨rfl, rfl, rfl, rfl, rfl⟩ rfl rfl rfl rfl rfl (by kernel_rfl) Tryd.func4 (by kernel_rfl)
    (of_decide_eq_true (by kernel_rfl)) (by unfold Func.isWrapper; first | (rw [if_pos (by decide +kernel)]; kernel_rfl) | (rw [if_neg (by decide +kernel)]; exact ⟨rfl, rfl⟩))
    (fun os started H enc _ => lifted os started H enc)
theorem card : Rows.FnExactIsValidConsoleCardSaid :=
  Claim7.holds_tied_plain_at .later [] [.data, .data, .data] true (true, "23f4f29a77140595946b32397771c869df54d6124fc15b0b094d1ebc4a6587b5") false
    over (fun _ h => by cases h) (by kernel_rfl) (fun _ h => by cases h) fnExactIsValidConsole_row_tie rfl ⟨rfl, rfl⟩ (by kernel_rfl) rfl
    (fun f fn hf hfn => by
      obtain rfl : f = 4 := Option.some.inj ((show Tryd.prog.funcNamed "loop.example/g01187/laws.FnExactIsValidConsole" = some 4 by kernel_rfl).symm.trans hf) |>.symm
      obtain rfl : fn = Tryd.f4 := (Option.some.inj (Tryd.func4.symm.trans hfn)).symm
      exact ⟨by kernel_rfl, fun j t ht => by
        rw [Tryd.params4] at ht
        have hm : t ∈ [38] := by simpa using Array.mem_of_getElem? ht
        have hall : ([38].all fun u => !Tryd.prog.wantsStandIn u) = true := by kernel_rfl
        exact (show Tryd.prog.wantsStandIn t = false by simpa using List.all_eq_true.1 hall t hm)⟩)
    (by kernel_rfl)
#print axioms card
end Go.Proofs.YtkgeffmmpgdkmaaDoor.FnExactIsValidConsoleRow
namespace Go.Proofs.YtkgeffmmpgdkmaaDoor
theorem fnExactIsValidConsole_holds : Rows.FnExactIsValidConsoleCardSaid := FnExactIsValidConsoleRow.card
#print axioms fnExactIsValidConsole_holds
end Go.Proofs.YtkgeffmmpgdkmaaDoor
