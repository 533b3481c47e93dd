/- Made by a program of this session (out of the kit's print, with hand-made contracts): what each Go function that the law reaches computes, and that the machine's call does so. -/
import Derived.Test.YtaddjeoncbmohaaMFnExactFootprintx0
import Derived.Test.YtaddjeoncbmohaaMFnExactFootprintx1
import Derived.Test.YtaddjeoncbmohaaMFnExactFootprintx2
import Derived.Test.YtaddjeoncbmohaaMFnExactFootprintx3
import Derived.Test.YtaddjeoncbmohaaMFnExactFootprintx4
import Derived.Test.YtaddjeoncbmohaaMFnExactFootprintx5
import Derived.Test.YtaddjeoncbmohaaMFnExactFootprintx6
import Derived.Test.YtaddjeoncbmohaaMFnExactFootprintx7
import Derived.Test.YtaddjeoncbmohaaMFnExactFootprintx8
import Derived.Test.YtaddjeoncbmohaaMFnExactFootprintx9
import Derived.Test.YtaddjeoncbmohaaMFnExactFootprintx10
import Derived.Test.YtaddjeoncbmohaaMFnExactFootprintx11
import Derived.Test.YtaddjeoncbmohaaMFnExactFootprintx12
import Derived.Test.YtaddjeoncbmohaaMFnExactFootprintx13
import Derived.Test.YtaddjeoncbmohaaMFnExactFootprintx14
namespace Go.Proofs.Ytaddjeoncbmohaa.MFnExactFootprint
open Go.RowKit Go.Proofs.YtaddjeoncbmohaaW.PrintWords Go.Proofs.YtaddjeoncbmohaaW.PrintLast Go.Proofs.YtaddjeoncbmohaaW.PrintMore
attribute [local go_sem] max2_int min2_int max_two min_two max_three min_three max_four min_four   -- for this text's walks alone
set_option linter.unusedVariables false
set_option linter.unusedSimpArgs false

end Go.Proofs.Ytaddjeoncbmohaa.MFnExactFootprint
