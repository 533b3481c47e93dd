/- Made by a program of this session (out of the kit's print, with hand-made contracts): what each Go function that the law reaches computes, and that the machine's call does so. -/
import Derived.Test.YtomchkdbhcakoaaMFnExactHeldByx0
import Derived.Test.YtomchkdbhcakoaaMFnExactHeldByx1
import Derived.Test.YtomchkdbhcakoaaMFnExactHeldByx2
import Derived.Test.YtomchkdbhcakoaaMFnExactHeldByx3
import Derived.Test.YtomchkdbhcakoaaMFnExactHeldByx4
import Derived.Test.YtomchkdbhcakoaaMFnExactHeldByx5
import Derived.Test.YtomchkdbhcakoaaMFnExactHeldByx6
import Derived.Test.YtomchkdbhcakoaaMFnExactHeldByx7
namespace Go.Proofs.Ytomchkdbhcakoaa.MFnExactHeldBy
open Go.RowKit Go.Proofs.YtomchkdbhcakoaaW.PrintWords Go.Proofs.YtomchkdbhcakoaaW.PrintLast Go.Proofs.YtomchkdbhcakoaaW.PrintMore
attribute [local go_sem] max2_int min2_int max_two min_two max_three min_three max_four min_four   -- for this text's walks alone
set_option linter.unusedVariables false
set_option linter.unusedSimpArgs false

end Go.Proofs.Ytomchkdbhcakoaa.MFnExactHeldBy
