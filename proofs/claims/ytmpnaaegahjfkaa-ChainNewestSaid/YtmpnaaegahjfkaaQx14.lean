

/- Written by a program of this session (wip/patch_print.py over the kit's print): functions of the given program as plain Lean functions, and that each call does what its function says, under no further conditions. -/
import Derived.Test.YtmpnaaegahjfkaaQx0
import Derived.Test.YtmpnaaegahjfkaaQx13
namespace Go.Proofs.Ytmpnaaegahjfkaa.Q
open Go.RowKit Go.Proofs.YtmpnaaegahjfkaaW.PrintWords Go.Proofs.YtmpnaaegahjfkaaW.PrintLast Go.Proofs.YtmpnaaegahjfkaaW.PrintMore
set_option linter.unusedVariables false
set_option linter.unusedSimpArgs false
/-! ### stowageref13_Alike: function 21 -/
end Go.Proofs.Ytmpnaaegahjfkaa.Q