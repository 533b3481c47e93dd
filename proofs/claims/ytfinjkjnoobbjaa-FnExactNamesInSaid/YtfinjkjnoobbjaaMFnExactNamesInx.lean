/- Made by a program of this session (out of the kit's print, with hand-made contracts): what each Go function that the law reaches computes, and that the machine's call does so. -/
import Derived.Test.YtfinjkjnoobbjaaMFnExactNamesInx0
import Derived.Test.YtfinjkjnoobbjaaMFnExactNamesInx1
import Derived.Test.YtfinjkjnoobbjaaMFnExactNamesInx2
import Derived.Test.YtfinjkjnoobbjaaMFnExactNamesInx3
import Derived.Test.YtfinjkjnoobbjaaMFnExactNamesInx4
import Derived.Test.YtfinjkjnoobbjaaMFnExactNamesInx5
import Derived.Test.YtfinjkjnoobbjaaMFnExactNamesInx6
import Derived.Test.YtfinjkjnoobbjaaMFnExactNamesInx7
import Derived.Test.YtfinjkjnoobbjaaMFnExactNamesInx8
import Derived.Test.YtfinjkjnoobbjaaMFnExactNamesInx9
import Derived.Test.YtfinjkjnoobbjaaMFnExactNamesInx10
import Derived.Test.YtfinjkjnoobbjaaMFnExactNamesInx11
import Derived.Test.YtfinjkjnoobbjaaMFnExactNamesInx12
namespace Go.Proofs.Ytfinjkjnoobbjaa.MFnExactNamesIn
open Go.RowKit Go.Proofs.YtfinjkjnoobbjaaW.PrintWords Go.Proofs.YtfinjkjnoobbjaaW.PrintLast Go.Proofs.YtfinjkjnoobbjaaW.PrintMore
attribute [local go_sem] max2_int min2_int max_two min_two max_three min_three max_four min_four   -- for this text's walks alone
set_option linter.unusedVariables false
set_option linter.unusedSimpArgs false

end Go.Proofs.Ytfinjkjnoobbjaa.MFnExactNamesIn
