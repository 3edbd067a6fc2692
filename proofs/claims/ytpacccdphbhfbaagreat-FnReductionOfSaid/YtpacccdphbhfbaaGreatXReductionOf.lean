/- Helper of the proof (see the last text). -/
import Derived.Test.YtpacccdphbhfbaaGreatLnA
import Derived.Test.YtpacccdphbhfbaaGreatLnH
import Derived.Test.YtpacccdphbhfbaaGreatLnN
import Derived.Test.YtpacccdphbhfbaaGreatTryzShelf
import Derived.Test.YtpacccdphbhfbaaGreatHM1
import Derived.Test.YtpacccdphbhfbaaGreatHM2
import Derived.Test.YtpacccdphbhfbaaGreatHM3
import Derived.Test.YtpacccdphbhfbaaGreatHM4
import Derived.Test.YtpacccdphbhfbaaGreatHM5
import Derived.Test.YtpacccdphbhfbaaGreatHM6
import Derived.Test.YtpacccdphbhfbaaGreatHM7
import Derived.Test.YtpacccdphbhfbaaGreatHM8
import Derived.Test.YtpacccdphbhfbaaGreatQT
import Derived.Test.YtpacccdphbhfbaaGreatQZ
import Derived.Test.YtpacccdphbhfbaaGreatVB1
import Derived.Test.YtpacccdphbhfbaaGreatVJ9
import Derived.Test.YtpacccdphbhfbaaGreatLnR
set_option linter.unusedVariables false
set_option linter.unusedSimpArgs false
