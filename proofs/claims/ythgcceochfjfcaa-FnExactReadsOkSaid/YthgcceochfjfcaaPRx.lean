-- Functions of this seat and what their calls come to: written by a program of this session over the kit's printing tool; the functions told by the session's own contracts are marked by these.
import Derived.Test.YthgcceochfjfcaaPRx0
import Derived.Test.YthgcceochfjfcaaPRx1
import Derived.Test.YthgcceochfjfcaaPRx2
import Derived.Test.YthgcceochfjfcaaPRx3
import Derived.Test.YthgcceochfjfcaaPRx4
import Derived.Test.YthgcceochfjfcaaPRx5
import Derived.Test.YthgcceochfjfcaaPRx6
namespace Go.Proofs.Ythgcceochfjfcaa.PR
open Go.RowKit Go.Proofs.YthgcceochfjfcaaW.PrintWords Go.Proofs.YthgcceochfjfcaaW.PrintLast Go.Proofs.YthgcceochfjfcaaW.PrintMore
attribute [local go_sem] max2_int min2_int max_two min_two max_three min_three max_four min_four   -- for this text's walks alone
set_option linter.unusedVariables false
set_option linter.unusedSimpArgs false

end Go.Proofs.Ythgcceochfjfcaa.PR
