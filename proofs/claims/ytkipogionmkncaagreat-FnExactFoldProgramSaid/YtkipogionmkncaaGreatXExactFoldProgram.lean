/- Helper of the proof (see the last text). -/
import Derived.Test.YtkipogionmkncaaGreatLnA
import Derived.Test.YtkipogionmkncaaGreatLnH
import Derived.Test.YtkipogionmkncaaGreatLnO
import Derived.Test.YtkipogionmkncaaGreatTryzShelf
import Derived.Test.YtkipogionmkncaaGreatHM1
import Derived.Test.YtkipogionmkncaaGreatHM2
import Derived.Test.YtkipogionmkncaaGreatHM3
import Derived.Test.YtkipogionmkncaaGreatHM4
import Derived.Test.YtkipogionmkncaaGreatHM5
import Derived.Test.YtkipogionmkncaaGreatLnDP
import Derived.Test.YtkipogionmkncaaGreatTB
import Derived.Test.YtkipogionmkncaaGreatTC
import Derived.Test.YtkipogionmkncaaGreatTD
import Derived.Test.YtkipogionmkncaaGreatVB3
import Derived.Test.YtkipogionmkncaaGreatVQ2
import Derived.Test.YtkipogionmkncaaGreatLnR
import Derived.Test.YtkipogionmkncaaGreatLnRN
set_option linter.unusedVariables false
set_option linter.unusedSimpArgs false
