/- Layer 17: the record of a step. -/
import Derived.Test.YteaklmafjmnmiaaYMgBk16
section
namespace Go.Proofs.Yteaklmafjmnmiaa
open Go.RowKit Go.Proofs.YteaklmafjmnmiaaW.PrintWords Go.Proofs.YteaklmafjmnmiaaW.PrintLast Go.Proofs.YteaklmafjmnmiaaW.PrintMore
open Rf MapL MapV
set_option linter.unusedVariables false
set_option linter.unusedSimpArgs false
end Go.Proofs.Yteaklmafjmnmiaa
end
