-- Written by a program of this session over contracts proved by hand.
import Derived.Test.YtemgbakjlbdibaaQBx0
import Derived.Test.YtemgbakjlbdibaaQBx1
import Derived.Test.YtemgbakjlbdibaaQBx2
import Derived.Test.YtemgbakjlbdibaaQBx3
import Derived.Test.YtemgbakjlbdibaaQBx4
import Derived.Test.YtemgbakjlbdibaaQBx5
import Derived.Test.YtemgbakjlbdibaaQBx6
import Derived.Test.YtemgbakjlbdibaaQBx7
namespace Go.Proofs.Ytemgbakjlbdibaa.QB
open Go.RowKit Go.Proofs.YtemgbakjlbdibaaW.PrintWords Go.Proofs.YtemgbakjlbdibaaW.PrintLast Go.Proofs.YtemgbakjlbdibaaW.PrintMore
attribute [local go_sem] max2_int min2_int max_two min_two max_three min_three max_four min_four   -- for this text's walks alone
set_option linter.unusedVariables false
set_option linter.unusedSimpArgs false

end Go.Proofs.Ytemgbakjlbdibaa.QB
