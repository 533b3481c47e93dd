/- Made by a program of this session (out of the kit's print, with hand-made contracts): what each Go function that the law reaches computes, and that the machine's call does so. -/
import Derived.Test.YtaddjeoncbmohaaMFnExactAcksOfx0
import Derived.Test.YtaddjeoncbmohaaMFnExactAcksOfx1
import Derived.Test.YtaddjeoncbmohaaMFnExactAcksOfx2
import Derived.Test.YtaddjeoncbmohaaMFnExactAcksOfx3
import Derived.Test.YtaddjeoncbmohaaMFnExactAcksOfx4
import Derived.Test.YtaddjeoncbmohaaMFnExactAcksOfx5
import Derived.Test.YtaddjeoncbmohaaMFnExactAcksOfx6
import Derived.Test.YtaddjeoncbmohaaMFnExactAcksOfx7
import Derived.Test.YtaddjeoncbmohaaMFnExactAcksOfx8
import Derived.Test.YtaddjeoncbmohaaMFnExactAcksOfx9
import Derived.Test.YtaddjeoncbmohaaMFnExactAcksOfx10
import Derived.Test.YtaddjeoncbmohaaMFnExactAcksOfx11
import Derived.Test.YtaddjeoncbmohaaMFnExactAcksOfx12
import Derived.Test.YtaddjeoncbmohaaMFnExactAcksOfx13
import Derived.Test.YtaddjeoncbmohaaMFnExactAcksOfx14
import Derived.Test.YtaddjeoncbmohaaMFnExactAcksOfx15
import Derived.Test.YtaddjeoncbmohaaMFnExactAcksOfx16
import Derived.Test.YtaddjeoncbmohaaMFnExactAcksOfx17
namespace Go.Proofs.Ytaddjeoncbmohaa.MFnExactAcksOf
open Go.RowKit Go.Proofs.YtaddjeoncbmohaaW.PrintWords Go.Proofs.YtaddjeoncbmohaaW.PrintLast Go.Proofs.YtaddjeoncbmohaaW.PrintMore
attribute [local go_sem] max2_int min2_int max_two min_two max_three min_three max_four min_four   -- for this text's walks alone
set_option linter.unusedVariables false
set_option linter.unusedSimpArgs false

end Go.Proofs.Ytaddjeoncbmohaa.MFnExactAcksOf
