-- PRINTED BY print.sh 35421559b90ae4d0a3588c463048766b98c2df88dd9212a6774a882060cdf62d: not written by this session
import Derived.Test.YtpkffapjplebgaaPFnExactJournalMorex0
import Derived.Test.YtpkffapjplebgaaPFnExactJournalMorex1
import Derived.Test.YtpkffapjplebgaaPFnExactJournalMorex2
import Derived.Test.YtpkffapjplebgaaPFnExactJournalMorex3
import Derived.Test.YtpkffapjplebgaaPFnExactJournalMorex4
import Derived.Test.YtpkffapjplebgaaPFnExactJournalMorex5
namespace Go.Proofs.Ytpkffapjplebgaa.PFnExactJournalMore
open Go.RowKit Go.Proofs.YtpkffapjplebgaaW.PrintWords Go.Proofs.YtpkffapjplebgaaW.PrintLast Go.Proofs.YtpkffapjplebgaaW.PrintMore
attribute [local go_sem] max2_int min2_int max_two min_two max_three min_three max_four min_four   -- for this text's walks alone
set_option linter.unusedVariables false
set_option linter.unusedSimpArgs false

end Go.Proofs.Ytpkffapjplebgaa.PFnExactJournalMore
