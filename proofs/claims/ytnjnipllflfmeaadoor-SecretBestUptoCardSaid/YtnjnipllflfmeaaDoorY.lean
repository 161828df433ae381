-- Written by wip/xprint.py, a program of this session, out of the translation; Lean checks it.
import Derived.Test.YtnjnipllflfmeaaDoorY0
import Derived.Test.YtnjnipllflfmeaaDoorY1
import Derived.Test.YtnjnipllflfmeaaDoorY2
import Derived.Test.YtnjnipllflfmeaaDoorY3
import Derived.Test.YtnjnipllflfmeaaDoorY4
import Derived.Test.YtnjnipllflfmeaaDoorY5
import Derived.Test.YtnjnipllflfmeaaDoorY6
import Derived.Test.YtnjnipllflfmeaaDoorY7
import Derived.Test.YtnjnipllflfmeaaDoorY8
import Derived.Test.YtnjnipllflfmeaaDoorY9
namespace Go.Proofs.YtnjnipllflfmeaaDoor.Y
open Go.RowKit Go.Proofs.YtnjnipllflfmeaaDoorW.PrintWords Go.Proofs.YtnjnipllflfmeaaDoorW.PrintLast Go.Proofs.YtnjnipllflfmeaaDoorW.PrintMore
attribute [local go_sem] max2_int min2_int max_two min_two max_three min_three max_four min_four   -- for this text's walks alone
set_option linter.unusedVariables false
set_option linter.unusedSimpArgs false

end Go.Proofs.YtnjnipllflfmeaaDoor.Y
