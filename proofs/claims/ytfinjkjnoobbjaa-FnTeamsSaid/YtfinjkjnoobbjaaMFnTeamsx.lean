/- Made by a program of this session (out of the kit's print, with hand-made contracts): what each Go function that the law reaches computes, and that the machine's call does so. -/
import Derived.Test.YtfinjkjnoobbjaaMFnTeamsx0
import Derived.Test.YtfinjkjnoobbjaaMFnTeamsx1
import Derived.Test.YtfinjkjnoobbjaaMFnTeamsx2
import Derived.Test.YtfinjkjnoobbjaaMFnTeamsx3
import Derived.Test.YtfinjkjnoobbjaaMFnTeamsx4
import Derived.Test.YtfinjkjnoobbjaaMFnTeamsx5
import Derived.Test.YtfinjkjnoobbjaaMFnTeamsx6
import Derived.Test.YtfinjkjnoobbjaaMFnTeamsx7
import Derived.Test.YtfinjkjnoobbjaaMFnTeamsx8
import Derived.Test.YtfinjkjnoobbjaaMFnTeamsx9
import Derived.Test.YtfinjkjnoobbjaaMFnTeamsx10
import Derived.Test.YtfinjkjnoobbjaaMFnTeamsx11
import Derived.Test.YtfinjkjnoobbjaaMFnTeamsx12
import Derived.Test.YtfinjkjnoobbjaaMFnTeamsx13
import Derived.Test.YtfinjkjnoobbjaaMFnTeamsx14
import Derived.Test.YtfinjkjnoobbjaaMFnTeamsx15
import Derived.Test.YtfinjkjnoobbjaaMFnTeamsx16
import Derived.Test.YtfinjkjnoobbjaaMFnTeamsx17
import Derived.Test.YtfinjkjnoobbjaaMFnTeamsx18
import Derived.Test.YtfinjkjnoobbjaaMFnTeamsx19
import Derived.Test.YtfinjkjnoobbjaaMFnTeamsx20
namespace Go.Proofs.Ytfinjkjnoobbjaa.MFnTeams
open Go.RowKit Go.Proofs.YtfinjkjnoobbjaaW.PrintWords Go.Proofs.YtfinjkjnoobbjaaW.PrintLast Go.Proofs.YtfinjkjnoobbjaaW.PrintMore
attribute [local go_sem] max2_int min2_int max_two min_two max_three min_three max_four min_four   -- for this text's walks alone
set_option linter.unusedVariables false
set_option linter.unusedSimpArgs false

end Go.Proofs.Ytfinjkjnoobbjaa.MFnTeams
