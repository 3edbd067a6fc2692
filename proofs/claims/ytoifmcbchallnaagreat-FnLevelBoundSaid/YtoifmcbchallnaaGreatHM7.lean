/- Helper of the proof (see the last text). -/
import Derived.Test.YtoifmcbchallnaaGreatHM6
set_option linter.unusedVariables false
set_option linter.unusedSimpArgs false
namespace Go.LN
open Go.Proofs
set_option maxRecDepth 20000
def gX (p:zK):Option ((List yL)):=do
 let y←tF p
 if (!y) then
  pure ([]:List yL)
 else
  let y1←jN p
  pure (id y1)
end Go.LN
