/-
  Contracts of the reference of chapter 8: Learn, Long, Length.
-/
import Derived.Test.YtppilidcjlnmoaaRefY
namespace Go.Proofs.Ytppilidcjlnmoaa
open Go.RowKit Cad Cad.Bit Cad.Code
set_option linter.unusedVariables false
set_option linter.unusedSimpArgs false


end Go.Proofs.Ytppilidcjlnmoaa
