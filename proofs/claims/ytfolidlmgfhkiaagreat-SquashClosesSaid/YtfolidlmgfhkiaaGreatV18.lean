/- Lemmas on functions of the program, under the conditions that each states. -/
import Derived.Test.YtfolidlmgfhkiaaGreatV17
set_option linter.unusedVariables false
set_option linter.unusedSimpArgs false
set_option maxRecDepth 100000
set_option maxHeartbeats 4000000
namespace Go.Proofs.YtfolidlmgfhkiaaGreat
open Go.RowKit
theorem ls3:LsOK 3 0:=list_of 3 0 d_ stmt_of3
theorem ls2:LsOK 2 1:=list_of 2 1 d_ (stmt_lt 2 0 d_ ls3)
theorem ls1:LsOK 1 2:=list_of 1 2 d_ (stmt_lt 1 1 d_ ls2)
theorem ls0:LsOK 0 3:=list_of 0 3 d_ (stmt_lt 0 2 d_ ls1)
end Go.Proofs.YtfolidlmgfhkiaaGreat
