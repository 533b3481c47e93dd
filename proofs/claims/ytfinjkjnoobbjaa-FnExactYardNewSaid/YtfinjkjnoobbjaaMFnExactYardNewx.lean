/- Made by a program of this session (out of the kit's print, with hand-made contracts): what each Go function that the law reaches computes, and that the machine's call does so. -/
import Derived.Test.YtfinjkjnoobbjaaMFnExactYardNewx0
import Derived.Test.YtfinjkjnoobbjaaMFnExactYardNewx1
import Derived.Test.YtfinjkjnoobbjaaMFnExactYardNewx2
import Derived.Test.YtfinjkjnoobbjaaMFnExactYardNewx3
import Derived.Test.YtfinjkjnoobbjaaMFnExactYardNewx4
import Derived.Test.YtfinjkjnoobbjaaMFnExactYardNewx5
import Derived.Test.YtfinjkjnoobbjaaMFnExactYardNewx6
import Derived.Test.YtfinjkjnoobbjaaMFnExactYardNewx7
import Derived.Test.YtfinjkjnoobbjaaMFnExactYardNewx8
import Derived.Test.YtfinjkjnoobbjaaMFnExactYardNewx9
import Derived.Test.YtfinjkjnoobbjaaMFnExactYardNewx10
import Derived.Test.YtfinjkjnoobbjaaMFnExactYardNewx11
import Derived.Test.YtfinjkjnoobbjaaMFnExactYardNewx12
namespace Go.Proofs.Ytfinjkjnoobbjaa.MFnExactYardNew
open Go.RowKit Go.Proofs.YtfinjkjnoobbjaaW.PrintWords Go.Proofs.YtfinjkjnoobbjaaW.PrintLast Go.Proofs.YtfinjkjnoobbjaaW.PrintMore
attribute [local go_sem] max2_int min2_int max_two min_two max_three min_three max_four min_four   -- for this text's walks alone
set_option linter.unusedVariables false
set_option linter.unusedSimpArgs false

end Go.Proofs.Ytfinjkjnoobbjaa.MFnExactYardNew
