/- The contract of usufructref01.Of. -/
import Derived.Test.YtimlbpjdgnapoaaMult
namespace Go.Proofs.Ytimlbpjdgnapoaa
set_option linter.unusedVariables false
set_option linter.unusedSimpArgs false
open Go.RowKit

def ofI (m : Int) : Int := if m = 0 then 1 else if m = 1 then 1 else if m = 2 then 2 else 3

end Go.Proofs.Ytimlbpjdgnapoaa
