import Derived.Test.YtojepjkpnponoaaDoorFGPrint
import Derived.Test.YtojepjkpnponoaaDoorFWhole0
import Derived.Test.YtojepjkpnponoaaDoorFGDigits
import Derived.Lib.ItoaNum
import Derived.Lib.ItoaLen
import Derived.IntWalk
import Derived.Test.YtojepjkpnponoaaDoorFTB
set_option linter.unusedSimpArgs false
namespace Go.Proofs.YtojepjkpnponoaaDoor.Stim
open Go Go.RowKit Go.Proofs.YtojepjkpnponoaaDoorW.PrintWords Go.Proofs.YtojepjkpnponoaaDoorW.PrintLast Go.Proofs.YtojepjkpnponoaaDoorW.PrintMore Go.Proofs.YtojepjkpnponoaaDoor.Whole
set_option linter.unusedVariables false
def textOK (st : Int) (props : List S83) (init : List Bool) (ins : List (List Bool)) (loop : Int) : Bool :=
 printOK st props init ins loop && decide (0 ≤ st) && decide (st < 4294967296) && decide (loop < 4294967296) && props.all (fun p => decide (0 ≤ p.f1) && decide (p.f1 < 4294967296))
end Go.Proofs.YtojepjkpnponoaaDoor.Stim

