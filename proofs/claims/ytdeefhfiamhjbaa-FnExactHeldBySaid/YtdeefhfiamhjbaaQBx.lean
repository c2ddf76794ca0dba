-- Written by a program of this session over contracts proved by hand.
import Derived.Test.YtdeefhfiamhjbaaQBx0
import Derived.Test.YtdeefhfiamhjbaaQBx1
import Derived.Test.YtdeefhfiamhjbaaQBx2
import Derived.Test.YtdeefhfiamhjbaaQBx3
import Derived.Test.YtdeefhfiamhjbaaQBx4
import Derived.Test.YtdeefhfiamhjbaaQBx5
import Derived.Test.YtdeefhfiamhjbaaQBx6
namespace Go.Proofs.Ytdeefhfiamhjbaa.QB
open Go.RowKit Go.Proofs.YtdeefhfiamhjbaaW.PrintWords Go.Proofs.YtdeefhfiamhjbaaW.PrintLast Go.Proofs.YtdeefhfiamhjbaaW.PrintMore
attribute [local go_sem] max2_int min2_int max_two min_two max_three min_three max_four min_four   -- for this text's walks alone
set_option linter.unusedVariables false
set_option linter.unusedSimpArgs false

end Go.Proofs.Ytdeefhfiamhjbaa.QB
