/- All walks. -/
import Derived.Test.YthjmakpfalhadaaFn1
import Derived.Test.YthjmakpfalhadaaTb2
