/-
  Contracts of the reference of chapter 6 (runs).
-/
import Derived.Test.YtppilidcjlnmoaaDoorRefD
import Derived.Test.YtppilidcjlnmoaaDoorUnaA
namespace Go.Proofs.YtppilidcjlnmoaaDoor
open Go.RowKit Cad Cad.Bit Cad.Code
set_option linter.unusedVariables false
set_option linter.unusedSimpArgs false

end Go.Proofs.YtppilidcjlnmoaaDoor
