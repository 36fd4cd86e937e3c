-- By a program of this session (wip/myprint.sh) out of the translation; Lean checks it.
import Derived.Test.YtggiddekbocokaaDoorPLHx0
import Derived.Test.YtggiddekbocokaaDoorPLHx1
import Derived.Test.YtggiddekbocokaaDoorPLHx2
import Derived.Test.YtggiddekbocokaaDoorPLHx3
import Derived.Test.YtggiddekbocokaaDoorPLHx4
import Derived.Test.YtggiddekbocokaaDoorPLHx5
import Derived.Test.YtggiddekbocokaaDoorPLHx6
import Derived.Test.YtggiddekbocokaaDoorPLHx7
import Derived.Test.YtggiddekbocokaaDoorPLHx8
import Derived.Test.YtggiddekbocokaaDoorPLHx9
import Derived.Test.YtggiddekbocokaaDoorPLHx10
import Derived.Test.YtggiddekbocokaaDoorPLHx11
import Derived.Test.YtggiddekbocokaaDoorPLHx12
import Derived.Test.YtggiddekbocokaaDoorPLHx13
import Derived.Test.YtggiddekbocokaaDoorPLHx14
import Derived.Test.YtggiddekbocokaaDoorPLHx15
namespace Go.Proofs.YtggiddekbocokaaDoor.PLH
open Go.RowKit Go.Proofs.YtggiddekbocokaaDoorW.PrintWords Go.Proofs.YtggiddekbocokaaDoorW.PrintLast Go.Proofs.YtggiddekbocokaaDoorW.PrintMore
attribute [local go_sem] max2_int min2_int max_two min_two max_three min_three max_four min_four   -- for this text's walks alone
set_option linter.unusedVariables false
set_option linter.unusedSimpArgs false

end Go.Proofs.YtggiddekbocokaaDoor.PLH
