/- Made by a program of this session (out of the kit's print, with hand-made contracts): what each Go function that the law reaches computes, and that the machine's call does so. -/
import Derived.Test.YtpkffapjplebgaaMFnFramesx0
import Derived.Test.YtpkffapjplebgaaMFnFramesx1
import Derived.Test.YtpkffapjplebgaaMFnFramesx2
import Derived.Test.YtpkffapjplebgaaMFnFramesx3
import Derived.Test.YtpkffapjplebgaaMFnFramesx4
import Derived.Test.YtpkffapjplebgaaMFnFramesx5
import Derived.Test.YtpkffapjplebgaaMFnFramesx6
namespace Go.Proofs.Ytpkffapjplebgaa.MFnFrames
open Go.RowKit Go.Proofs.YtpkffapjplebgaaW.PrintWords Go.Proofs.YtpkffapjplebgaaW.PrintLast Go.Proofs.YtpkffapjplebgaaW.PrintMore
attribute [local go_sem] max2_int min2_int max_two min_two max_three min_three max_four min_four   -- for this text's walks alone
set_option linter.unusedVariables false
set_option linter.unusedSimpArgs false

end Go.Proofs.Ytpkffapjplebgaa.MFnFrames
