/- Printed by a program of mine out of the translation: each Go function as a Lean function, with a proof that the call comes to it; no condition but those in the theorems. -/
import Derived.Test.YtkgeffmmpgdkmaaDoorL0
import Derived.Test.YtkgeffmmpgdkmaaDoorL1
import Derived.Test.YtkgeffmmpgdkmaaDoorL2
import Derived.Test.YtkgeffmmpgdkmaaDoorL3
import Derived.Test.YtkgeffmmpgdkmaaDoorL4
import Derived.Test.YtkgeffmmpgdkmaaDoorL5
import Derived.Test.YtkgeffmmpgdkmaaDoorL6
import Derived.Test.YtkgeffmmpgdkmaaDoorL7
namespace Go.Proofs.YtkgeffmmpgdkmaaDoor.L
open Go.RowKit Go.Proofs.YtkgeffmmpgdkmaaDoor.Giv Go.Proofs.YtkgeffmmpgdkmaaDoorW.PrintWords Go.Proofs.YtkgeffmmpgdkmaaDoorW.PrintLast
set_option linter.unusedVariables false
set_option linter.unusedSimpArgs false

end Go.Proofs.YtkgeffmmpgdkmaaDoor.L
