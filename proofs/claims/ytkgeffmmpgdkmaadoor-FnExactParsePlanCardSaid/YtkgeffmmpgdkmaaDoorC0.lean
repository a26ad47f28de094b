/- Printed by a program of mine out of the translation: each Go function as a Lean function, with a proof that the call comes to it; no condition but those in the theorems. -/
import Derived.Test.YtkgeffmmpgdkmaaDoorProg
import Derived.Below
import Derived.Deep.Draws
import Derived.Deep.AppendLies
import Derived.Maps.AppendAt
import Derived.OwnWalk
import Derived.Laws.BytesArg
import Derived.Laws.MakeOwn
import Derived.Laws.OwnMore
import Derived.Deep.OwnRows
import Derived.Tactics
import Derived.Lib.ConvBytes
import Derived.Laws.Slices
import Derived.WalkKit
import Derived.KernelRfl
import Derived.RowKit3
import Derived.Deep.LoopGhost
import Derived.Deep.QuietTactic
import Derived.BigQuiet
import Derived.WideLaws
import Derived.Deep.DeepCutAuto
import Derived.Deep.CutBlock
import Derived.Deep.RegionHeld3
import Derived.Laws.Rows
import Derived.Lib.AppendStr
import Derived.ArgAppend
import Derived.Laws.IdiomCopy
import Derived.OrdersHeld
import Derived.Laws.BitsLemmas
import Derived.RowKit
import Derived.Test.YtkgeffmmpgdkmaaDoorWWords
import Derived.Test.YtkgeffmmpgdkmaaDoorWLast
import Derived.Test.YtkgeffmmpgdkmaaDoorWTab
import Derived.Test.YtkgeffmmpgdkmaaDoorWFour
import Derived.Test.YtkgeffmmpgdkmaaDoorWQPut
import Derived.Test.YtkgeffmmpgdkmaaDoorWApart
import Derived.Test.YtkgeffmmpgdkmaaDoorWArr
import Derived.Test.YtkgeffmmpgdkmaaDoorWZeros
import Derived.Test.YtkgeffmmpgdkmaaDoorWFoot
import Derived.Test.YtkgeffmmpgdkmaaDoorWKept
import Derived.Test.YtkgeffmmpgdkmaaDoorWShare
import Derived.Test.YtkgeffmmpgdkmaaDoorWN
import Derived.Test.YtkgeffmmpgdkmaaDoorWFootNe
import Derived.Test.YtkgeffmmpgdkmaaDoorWAt
import Derived.Test.YtkgeffmmpgdkmaaDoorWEqStruct
import Derived.Test.YtkgeffmmpgdkmaaDoorWRepsOne
import Derived.Test.YtkgeffmmpgdkmaaDoorWInv
import Derived.Test.YtkgeffmmpgdkmaaDoorWInvWords
import Derived.Test.YtkgeffmmpgdkmaaDoorWGuard
import Derived.Test.YtkgeffmmpgdkmaaDoorWNEv
import Derived.Test.YtkgeffmmpgdkmaaDoorWMore
import Derived.Test.YtkgeffmmpgdkmaaDoorGivP
import Derived.Test.YtkgeffmmpgdkmaaDoorPlan
namespace Go.Proofs.YtkgeffmmpgdkmaaDoor.C
open Go.RowKit Go.Proofs.YtkgeffmmpgdkmaaDoor.GivP Go.Proofs.YtkgeffmmpgdkmaaDoor.Plan Go.Proofs.YtkgeffmmpgdkmaaDoorW.PrintWords Go.Proofs.YtkgeffmmpgdkmaaDoorW.PrintLast Go.Proofs.YtkgeffmmpgdkmaaDoorW.PrintMore
attribute [local go_sem] max2_int min2_int max_two min_two max_three min_three max_four min_four   -- for this text's walks alone
set_option linter.unusedVariables false
set_option linter.unusedSimpArgs false



def errW : Option Int → Value
  | none => .nilIface
  | some c => .iface 0 (.int .i64 c)
theorem errW_none : errW none = .nilIface := rfl
theorem errW_some (c : Int) : errW (some c) = .iface 0 (.int .i64 c) := rfl

theorem info3 : (Tryd.prog.info? 3).map (fun i => (i.zero, i.size, i.bytes)) = some (some (.int .i64 0), 1, 8) := by kernel_rfl
theorem info9 : (Tryd.prog.info? 9).map (fun i => (i.zero, i.size, i.bytes)) = some (some (.string ⟨#[]⟩), 1, 16) := by kernel_rfl
theorem ix22_0 (c0 c1 c2 c3 : Value) (W : World) : (Instr.index 22 (.agg #[c0, c1, c2, c3]) (.int .i64 0)).run Tryd.prog W = .ok c0 W := by kernel_rfl
theorem ix22_1 (c0 c1 c2 c3 : Value) (W : World) : (Instr.index 22 (.agg #[c0, c1, c2, c3]) (.int .i64 1)).run Tryd.prog W = .ok c1 W := by kernel_rfl
theorem ix22_2 (c0 c1 c2 c3 : Value) (W : World) : (Instr.index 22 (.agg #[c0, c1, c2, c3]) (.int .i64 2)).run Tryd.prog W = .ok c2 W := by kernel_rfl
theorem ix22_3 (c0 c1 c2 c3 : Value) (W : World) : (Instr.index 22 (.agg #[c0, c1, c2, c3]) (.int .i64 3)).run Tryd.prog W = .ok c3 W := by kernel_rfl

end Go.Proofs.YtkgeffmmpgdkmaaDoor.C
