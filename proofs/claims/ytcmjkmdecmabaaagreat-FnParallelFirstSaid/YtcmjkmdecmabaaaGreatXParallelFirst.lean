/- Helper of the proof (see the last text). -/
import Derived.Test.YtcmjkmdecmabaaaGreatLnA
import Derived.Test.YtcmjkmdecmabaaaGreatLnI
import Derived.Test.YtcmjkmdecmabaaaGreatLnQ
import Derived.Test.YtcmjkmdecmabaaaGreatTryzShelf
import Derived.Test.YtcmjkmdecmabaaaGreatHM1
import Derived.Test.YtcmjkmdecmabaaaGreatHM2
import Derived.Test.YtcmjkmdecmabaaaGreatHM3
import Derived.Test.YtcmjkmdecmabaaaGreatHM4
import Derived.Test.YtcmjkmdecmabaaaGreatHM5
import Derived.Test.YtcmjkmdecmabaaaGreatHM6
import Derived.Test.YtcmjkmdecmabaaaGreatHM7
import Derived.Test.YtcmjkmdecmabaaaGreatHM8
import Derived.Test.YtcmjkmdecmabaaaGreatQT
import Derived.Test.YtcmjkmdecmabaaaGreatQZ
import Derived.Test.YtcmjkmdecmabaaaGreatVB1
import Derived.Test.YtcmjkmdecmabaaaGreatVC1
import Derived.Test.YtcmjkmdecmabaaaGreatVR6
import Derived.Test.YtcmjkmdecmabaaaGreatLnR
set_option linter.unusedVariables false
set_option linter.unusedSimpArgs false
