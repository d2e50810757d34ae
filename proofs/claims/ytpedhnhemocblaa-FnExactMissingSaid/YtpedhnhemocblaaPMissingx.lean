-- Functions of this seat and what their calls come to: written by a program of this session over the kit's printing tool; the functions told by the session's own contracts are marked by these.
import Derived.Test.YtpedhnhemocblaaPMissingx0
import Derived.Test.YtpedhnhemocblaaPMissingx1
import Derived.Test.YtpedhnhemocblaaPMissingx2
import Derived.Test.YtpedhnhemocblaaPMissingx3
namespace Go.Proofs.Ytpedhnhemocblaa.PMissing
open Go.RowKit Go.Proofs.YtpedhnhemocblaaW.PrintWords Go.Proofs.YtpedhnhemocblaaW.PrintLast Go.Proofs.YtpedhnhemocblaaW.PrintMore
attribute [local go_sem] max2_int min2_int max_two min_two max_three min_three max_four min_four   -- for this text's walks alone
set_option linter.unusedVariables false
set_option linter.unusedSimpArgs false

end Go.Proofs.Ytpedhnhemocblaa.PMissing
