-- Laid by a program of this session over the kit's print
import Derived.Test.YtjkelnnjfpcapaaPNatx0
import Derived.Test.YtjkelnnjfpcapaaPNatx1
import Derived.Test.YtjkelnnjfpcapaaPNatx2
import Derived.Test.YtjkelnnjfpcapaaPNatx3
import Derived.Test.YtjkelnnjfpcapaaPNatx4
import Derived.Test.YtjkelnnjfpcapaaPNatx5
import Derived.Test.YtjkelnnjfpcapaaPNatx6
namespace Go.Proofs.Ytjkelnnjfpcapaa.PNat
open Go.RowKit Go.Proofs.YtjkelnnjfpcapaaW.PrintWords Go.Proofs.YtjkelnnjfpcapaaW.PrintLast Go.Proofs.YtjkelnnjfpcapaaW.PrintMore
attribute [local go_sem] max2_int min2_int max_two min_two max_three min_three max_four min_four   -- for this text's walks alone
set_option linter.unusedVariables false
set_option linter.unusedSimpArgs false

end Go.Proofs.Ytjkelnnjfpcapaa.PNat
