/- Made by a program of this session (out of the kit's print, with hand-made contracts): what each Go function that the law reaches computes, and that the machine's call does so. -/
import Derived.Test.YtomchkdbhcakoaaMFnExactMapTextx0
import Derived.Test.YtomchkdbhcakoaaMFnExactMapTextx1
import Derived.Test.YtomchkdbhcakoaaMFnExactMapTextx2
import Derived.Test.YtomchkdbhcakoaaMFnExactMapTextx3
import Derived.Test.YtomchkdbhcakoaaMFnExactMapTextx4
import Derived.Test.YtomchkdbhcakoaaMFnExactMapTextx5
import Derived.Test.YtomchkdbhcakoaaMFnExactMapTextx6
import Derived.Test.YtomchkdbhcakoaaMFnExactMapTextx7
import Derived.Test.YtomchkdbhcakoaaMFnExactMapTextx8
import Derived.Test.YtomchkdbhcakoaaMFnExactMapTextx9
import Derived.Test.YtomchkdbhcakoaaMFnExactMapTextx10
import Derived.Test.YtomchkdbhcakoaaMFnExactMapTextx11
import Derived.Test.YtomchkdbhcakoaaMFnExactMapTextx12
import Derived.Test.YtomchkdbhcakoaaMFnExactMapTextx13
import Derived.Test.YtomchkdbhcakoaaMFnExactMapTextx14
import Derived.Test.YtomchkdbhcakoaaMFnExactMapTextx15
import Derived.Test.YtomchkdbhcakoaaMFnExactMapTextx16
import Derived.Test.YtomchkdbhcakoaaMFnExactMapTextx17
import Derived.Test.YtomchkdbhcakoaaMFnExactMapTextx18
import Derived.Test.YtomchkdbhcakoaaMFnExactMapTextx19
import Derived.Test.YtomchkdbhcakoaaMFnExactMapTextx20
namespace Go.Proofs.Ytomchkdbhcakoaa.MFnExactMapText
open Go.RowKit Go.Proofs.YtomchkdbhcakoaaW.PrintWords Go.Proofs.YtomchkdbhcakoaaW.PrintLast Go.Proofs.YtomchkdbhcakoaaW.PrintMore
attribute [local go_sem] max2_int min2_int max_two min_two max_three min_three max_four min_four   -- for this text's walks alone
set_option linter.unusedVariables false
set_option linter.unusedSimpArgs false

end Go.Proofs.Ytomchkdbhcakoaa.MFnExactMapText
