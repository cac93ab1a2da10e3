/- A part of a proof. -/
-- Laid by a program of this session over the kit's print
import Derived.Test.YteapdhfeddgjbaaDoorSPDjx0
import Derived.Test.YteapdhfeddgjbaaDoorSPDjx1
import Derived.Test.YteapdhfeddgjbaaDoorSPDjx3
namespace Go.Proofs.YteapdhfeddgjbaaDoor.PDj
open Go.RowKit Go.Proofs.YteapdhfeddgjbaaDoorW.PrintWords Go.Proofs.YteapdhfeddgjbaaDoorW.PrintLast Go.Proofs.YteapdhfeddgjbaaDoorW.PrintMore
attribute [local go_sem] max2_int min2_int max_two min_two max_three min_three max_four min_four   -- for this text's walks alone
set_option linter.unusedVariables false
set_option linter.unusedSimpArgs false

end Go.Proofs.YteapdhfeddgjbaaDoor.PDj
