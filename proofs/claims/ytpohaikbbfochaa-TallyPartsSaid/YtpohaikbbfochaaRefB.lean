/-
  Contract of the reference's comparison of bits, and of the size that the statements consider.
-/
import Derived.Test.YtpohaikbbfochaaRefA
import Derived.Test.YtpohaikbbfochaaStr
namespace Go.Proofs.Ytpohaikbbfochaa
open Go.RowKit Cad Cad.Bit
set_option linter.unusedVariables false
set_option linter.unusedSimpArgs false

end Go.Proofs.Ytpohaikbbfochaa
