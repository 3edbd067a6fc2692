/- Helper of the proof (see the last text). -/
import Derived.Test.YtndncjnhabjnbaaGreatLnA
import Derived.Test.YtndncjnhabjnbaaGreatLnH
import Derived.Test.YtndncjnhabjnbaaGreatLnN
import Derived.Test.YtndncjnhabjnbaaGreatLnZ1
import Derived.Test.YtndncjnhabjnbaaGreatTryzShelf
import Derived.Test.YtndncjnhabjnbaaGreatLnU5
import Derived.Test.YtndncjnhabjnbaaGreatHM1
import Derived.Test.YtndncjnhabjnbaaGreatHM2
import Derived.Test.YtndncjnhabjnbaaGreatHM3
import Derived.Test.YtndncjnhabjnbaaGreatHM4
import Derived.Test.YtndncjnhabjnbaaGreatHM5
import Derived.Test.YtndncjnhabjnbaaGreatHM6
import Derived.Test.YtndncjnhabjnbaaGreatHM7
import Derived.Test.YtndncjnhabjnbaaGreatHM8
import Derived.Test.YtndncjnhabjnbaaGreatQT
import Derived.Test.YtndncjnhabjnbaaGreatQZ
import Derived.Test.YtndncjnhabjnbaaGreatVB1
import Derived.Test.YtndncjnhabjnbaaGreatVC1
import Derived.Test.YtndncjnhabjnbaaGreatVK1
import Derived.Test.YtndncjnhabjnbaaGreatLnR
set_option linter.unusedVariables false
set_option linter.unusedSimpArgs false
