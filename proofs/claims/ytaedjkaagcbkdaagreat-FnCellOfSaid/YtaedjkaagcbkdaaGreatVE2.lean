/- Values: the cells of an array one after the other. -/
import Derived.Test.YtaedjkaagcbkdaaGreatXCellOf
import Derived.Test.YtaedjkaagcbkdaaGreatVE1
namespace Go.LN
set_option linter.unusedVariables false
set_option linter.unusedSimpArgs false
def c0 (n : Int) : zA := ⟨[0, 0, 0, 0], n⟩
end Go.LN
