-- Functions of this seat and what their calls come to: written by a program of this session over the kit's printing tool; the functions told by the session's own contracts are marked by these.
import Derived.Test.YtbfbcecghokpoaaPPeersCarriedx0
import Derived.Test.YtbfbcecghokpoaaPPeersCarriedx1
import Derived.Test.YtbfbcecghokpoaaPPeersCarriedx2
import Derived.Test.YtbfbcecghokpoaaPPeersCarriedx3
import Derived.Test.YtbfbcecghokpoaaPPeersCarriedx4
import Derived.Test.YtbfbcecghokpoaaPPeersCarriedx5
namespace Go.Proofs.Ytbfbcecghokpoaa.PPeersCarried
open Go.RowKit Go.Proofs.YtbfbcecghokpoaaW.PrintWords Go.Proofs.YtbfbcecghokpoaaW.PrintLast Go.Proofs.YtbfbcecghokpoaaW.PrintMore
attribute [local go_sem] max2_int min2_int max_two min_two max_three min_three max_four min_four   -- for this text's walks alone
set_option linter.unusedVariables false
set_option linter.unusedSimpArgs false

end Go.Proofs.Ytbfbcecghokpoaa.PPeersCarried
