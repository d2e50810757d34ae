-- Functions of this seat and what their calls come to: written by a program of this session over the kit's printing tool; the functions told by the session's own contracts are marked by these.
import Derived.Test.YtpedhnhemocblaaPHullBySubsetsx0
import Derived.Test.YtpedhnhemocblaaPHullBySubsetsx1
import Derived.Test.YtpedhnhemocblaaPHullBySubsetsx2
namespace Go.Proofs.Ytpedhnhemocblaa.PHullBySubsets
open Go.RowKit Go.Proofs.YtpedhnhemocblaaW.PrintWords Go.Proofs.YtpedhnhemocblaaW.PrintLast Go.Proofs.YtpedhnhemocblaaW.PrintMore
attribute [local go_sem] max2_int min2_int max_two min_two max_three min_three max_four min_four   -- for this text's walks alone
set_option linter.unusedVariables false
set_option linter.unusedSimpArgs false

end Go.Proofs.Ytpedhnhemocblaa.PHullBySubsets
