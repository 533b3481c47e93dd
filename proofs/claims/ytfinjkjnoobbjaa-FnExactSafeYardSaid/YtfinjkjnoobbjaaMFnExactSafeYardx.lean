/- Made by a program of this session (out of the kit's print, with hand-made contracts): what each Go function that the law reaches computes, and that the machine's call does so. -/
import Derived.Test.YtfinjkjnoobbjaaMFnExactSafeYardx0
import Derived.Test.YtfinjkjnoobbjaaMFnExactSafeYardx1
import Derived.Test.YtfinjkjnoobbjaaMFnExactSafeYardx2
import Derived.Test.YtfinjkjnoobbjaaMFnExactSafeYardx3
import Derived.Test.YtfinjkjnoobbjaaMFnExactSafeYardx4
import Derived.Test.YtfinjkjnoobbjaaMFnExactSafeYardx5
import Derived.Test.YtfinjkjnoobbjaaMFnExactSafeYardx6
import Derived.Test.YtfinjkjnoobbjaaMFnExactSafeYardx7
import Derived.Test.YtfinjkjnoobbjaaMFnExactSafeYardx8
import Derived.Test.YtfinjkjnoobbjaaMFnExactSafeYardx9
import Derived.Test.YtfinjkjnoobbjaaMFnExactSafeYardx10
import Derived.Test.YtfinjkjnoobbjaaMFnExactSafeYardx11
import Derived.Test.YtfinjkjnoobbjaaMFnExactSafeYardx12
import Derived.Test.YtfinjkjnoobbjaaMFnExactSafeYardx13
import Derived.Test.YtfinjkjnoobbjaaMFnExactSafeYardx14
import Derived.Test.YtfinjkjnoobbjaaMFnExactSafeYardx15
import Derived.Test.YtfinjkjnoobbjaaMFnExactSafeYardx16
import Derived.Test.YtfinjkjnoobbjaaMFnExactSafeYardx17
import Derived.Test.YtfinjkjnoobbjaaMFnExactSafeYardx18
import Derived.Test.YtfinjkjnoobbjaaMFnExactSafeYardx19
import Derived.Test.YtfinjkjnoobbjaaMFnExactSafeYardx20
import Derived.Test.YtfinjkjnoobbjaaMFnExactSafeYardx21
namespace Go.Proofs.Ytfinjkjnoobbjaa.MFnExactSafeYard
open Go.RowKit Go.Proofs.YtfinjkjnoobbjaaW.PrintWords Go.Proofs.YtfinjkjnoobbjaaW.PrintLast Go.Proofs.YtfinjkjnoobbjaaW.PrintMore
attribute [local go_sem] max2_int min2_int max_two min_two max_three min_three max_four min_four   -- for this text's walks alone
set_option linter.unusedVariables false
set_option linter.unusedSimpArgs false

end Go.Proofs.Ytfinjkjnoobbjaa.MFnExactSafeYard
