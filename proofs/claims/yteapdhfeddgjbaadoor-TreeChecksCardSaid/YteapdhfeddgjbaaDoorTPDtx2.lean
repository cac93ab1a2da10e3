/- A part of a proof. -/
-- Laid by a program of this session over the kit's print
import Derived.Test.YteapdhfeddgjbaaDoorTPDtx0
namespace Go.Proofs.YteapdhfeddgjbaaDoor.PDt
open Go.RowKit Go.Proofs.YteapdhfeddgjbaaDoorW.PrintWords Go.Proofs.YteapdhfeddgjbaaDoorW.PrintLast Go.Proofs.YteapdhfeddgjbaaDoorW.PrintMore
attribute [local go_sem] max2_int min2_int max_two min_two max_three min_three max_four min_four   -- for this text's walks alone
set_option linter.unusedVariables false
set_option linter.unusedSimpArgs false

/-! ### cleromancylaw24_Few: function 28 -/

end Go.Proofs.YteapdhfeddgjbaaDoor.PDt
