/-
  Contract of the reference of chapter 8: Add.
-/
import Derived.Test.YtppilidcjlnmoaaDoorRefW
namespace Go.Proofs.YtppilidcjlnmoaaDoor
open Go.RowKit Cad Cad.Bit Cad.Code
set_option linter.unusedVariables false
set_option linter.unusedSimpArgs false


end Go.Proofs.YtppilidcjlnmoaaDoor
