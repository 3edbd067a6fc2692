/- Helper of the proof (see the last text). -/
import Derived.Test.YtmlnffbepjijhaaGreatLnA
import Derived.Test.YtmlnffbepjijhaaGreatLnH
import Derived.Test.YtmlnffbepjijhaaGreatLnN
import Derived.Test.YtmlnffbepjijhaaGreatLnYD
import Derived.Test.YtmlnffbepjijhaaGreatTryzShelf
import Derived.Test.YtmlnffbepjijhaaGreatHM1
import Derived.Test.YtmlnffbepjijhaaGreatHM2
import Derived.Test.YtmlnffbepjijhaaGreatHM3
import Derived.Test.YtmlnffbepjijhaaGreatHM4
import Derived.Test.YtmlnffbepjijhaaGreatHM5
import Derived.Test.YtmlnffbepjijhaaGreatHM6
import Derived.Test.YtmlnffbepjijhaaGreatHM7
import Derived.Test.YtmlnffbepjijhaaGreatHM8
import Derived.Test.YtmlnffbepjijhaaGreatHM9
import Derived.Test.YtmlnffbepjijhaaGreatQT
import Derived.Test.YtmlnffbepjijhaaGreatQZ
import Derived.Test.YtmlnffbepjijhaaGreatVB1
import Derived.Test.YtmlnffbepjijhaaGreatVC1
import Derived.Test.YtmlnffbepjijhaaGreatLnR
set_option linter.unusedVariables false
set_option linter.unusedSimpArgs false
