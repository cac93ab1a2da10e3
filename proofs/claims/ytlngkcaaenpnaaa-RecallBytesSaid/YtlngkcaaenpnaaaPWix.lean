-- Laid by a program of this session over the kit's print
import Derived.Test.YtlngkcaaenpnaaaPWix0
import Derived.Test.YtlngkcaaenpnaaaPWix1
import Derived.Test.YtlngkcaaenpnaaaPWix2
import Derived.Test.YtlngkcaaenpnaaaPWix3
import Derived.Test.YtlngkcaaenpnaaaPWix4
import Derived.Test.YtlngkcaaenpnaaaPWix5
namespace Go.Proofs.Ytlngkcaaenpnaaa.PWi
open Go.RowKit Go.Proofs.YtlngkcaaenpnaaaW.PrintWords Go.Proofs.YtlngkcaaenpnaaaW.PrintLast Go.Proofs.YtlngkcaaenpnaaaW.PrintMore
attribute [local go_sem] max2_int min2_int max_two min_two max_three min_three max_four min_four   -- for this text's walks alone
set_option linter.unusedVariables false
set_option linter.unusedSimpArgs false

end Go.Proofs.Ytlngkcaaenpnaaa.PWi
