/- Made by a program of this session (out of the kit's print, with hand-made contracts): what each Go function that the law reaches computes, and that the machine's call does so. -/
import Derived.Test.YtfinjkjnoobbjaaMFnExactJobsOkx0
import Derived.Test.YtfinjkjnoobbjaaMFnExactJobsOkx1
import Derived.Test.YtfinjkjnoobbjaaMFnExactJobsOkx2
import Derived.Test.YtfinjkjnoobbjaaMFnExactJobsOkx3
import Derived.Test.YtfinjkjnoobbjaaMFnExactJobsOkx4
import Derived.Test.YtfinjkjnoobbjaaMFnExactJobsOkx5
import Derived.Test.YtfinjkjnoobbjaaMFnExactJobsOkx6
import Derived.Test.YtfinjkjnoobbjaaMFnExactJobsOkx7
import Derived.Test.YtfinjkjnoobbjaaMFnExactJobsOkx8
import Derived.Test.YtfinjkjnoobbjaaMFnExactJobsOkx9
import Derived.Test.YtfinjkjnoobbjaaMFnExactJobsOkx10
import Derived.Test.YtfinjkjnoobbjaaMFnExactJobsOkx11
import Derived.Test.YtfinjkjnoobbjaaMFnExactJobsOkx12
import Derived.Test.YtfinjkjnoobbjaaMFnExactJobsOkx13
import Derived.Test.YtfinjkjnoobbjaaMFnExactJobsOkx14
import Derived.Test.YtfinjkjnoobbjaaMFnExactJobsOkx15
import Derived.Test.YtfinjkjnoobbjaaMFnExactJobsOkx16
import Derived.Test.YtfinjkjnoobbjaaMFnExactJobsOkx17
namespace Go.Proofs.Ytfinjkjnoobbjaa.MFnExactJobsOk
open Go.RowKit Go.Proofs.YtfinjkjnoobbjaaW.PrintWords Go.Proofs.YtfinjkjnoobbjaaW.PrintLast Go.Proofs.YtfinjkjnoobbjaaW.PrintMore
attribute [local go_sem] max2_int min2_int max_two min_two max_three min_three max_four min_four   -- for this text's walks alone
set_option linter.unusedVariables false
set_option linter.unusedSimpArgs false

end Go.Proofs.Ytfinjkjnoobbjaa.MFnExactJobsOk
