/-
  Contracts of the reference of chapter 6 (runs).
-/
import Derived.Test.YtpohaikbbfochaaRefD
import Derived.Test.YtpohaikbbfochaaUnaA
namespace Go.Proofs.Ytpohaikbbfochaa
open Go.RowKit Cad Cad.Bit Cad.Code
set_option linter.unusedVariables false
set_option linter.unusedSimpArgs false

end Go.Proofs.Ytpohaikbbfochaa
