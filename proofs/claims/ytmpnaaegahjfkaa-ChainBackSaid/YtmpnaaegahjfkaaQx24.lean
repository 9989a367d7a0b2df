

/- Written by a program of this session (wip/patch_print.py over the kit's print): functions of the given program as plain Lean functions, and that each call does what its function says, under no further conditions. -/
import Derived.Test.YtmpnaaegahjfkaaQx0
import Derived.Test.YtmpnaaegahjfkaaQx3
import Derived.Test.YtmpnaaegahjfkaaQx11
import Derived.Test.YtmpnaaegahjfkaaQx23
namespace Go.Proofs.Ytmpnaaegahjfkaa.Q
open Go.RowKit Go.Proofs.YtmpnaaegahjfkaaW.PrintWords Go.Proofs.YtmpnaaegahjfkaaW.PrintLast Go.Proofs.YtmpnaaegahjfkaaW.PrintMore
set_option linter.unusedVariables false
set_option linter.unusedSimpArgs false
/-! ### stowageref01_Reader_Number: function 65 -/
/-! ### stowageref01_Reader_Int: function 52 -/
/-! ### stowageref01_Reader_Bool: function 53 -/
/-! ### stowageref01_ReadText: function 67 -/
/-! ### stowageref01_Reader_Text: function 55 -/
/-! ### stowageref13_Read: function 54 -/
/-! ### stowageref01_Reader_End: function 56 -/
end Go.Proofs.Ytmpnaaegahjfkaa.Q