-- Written by wip/hprint.py, which calls the kit's print over functions proved by hand.
import Derived.Test.YtfebnnjdkkcphaaPAllx0
import Derived.Test.YtfebnnjdkkcphaaPAllx1
import Derived.Test.YtfebnnjdkkcphaaPAllx2
import Derived.Test.YtfebnnjdkkcphaaPAllx3
import Derived.Test.YtfebnnjdkkcphaaPAllx4
import Derived.Test.YtfebnnjdkkcphaaPAllx5
import Derived.Test.YtfebnnjdkkcphaaPAllx6
import Derived.Test.YtfebnnjdkkcphaaPAllx7
import Derived.Test.YtfebnnjdkkcphaaPAllx8
import Derived.Test.YtfebnnjdkkcphaaPAllx9
import Derived.Test.YtfebnnjdkkcphaaPAllx10
import Derived.Test.YtfebnnjdkkcphaaPAllx11
import Derived.Test.YtfebnnjdkkcphaaPAllx12
import Derived.Test.YtfebnnjdkkcphaaPAllx13
namespace Go.Proofs.Ytfebnnjdkkcphaa.PAll
open Go.RowKit Go.Proofs.Ytfebnnjdkkcphaa.Hand Go.Proofs.YtfebnnjdkkcphaaW.PrintWords Go.Proofs.YtfebnnjdkkcphaaW.PrintLast Go.Proofs.YtfebnnjdkkcphaaW.PrintMore
attribute [local go_sem] max2_int min2_int max_two min_two max_three min_three max_four min_four   -- for this text's walks alone
set_option linter.unusedVariables false
set_option linter.unusedSimpArgs false

end Go.Proofs.Ytfebnnjdkkcphaa.PAll
