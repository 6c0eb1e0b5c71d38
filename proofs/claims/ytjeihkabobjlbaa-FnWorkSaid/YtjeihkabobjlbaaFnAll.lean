/- All walks. -/
import Derived.Test.YtjeihkabobjlbaaFn2
import Derived.Test.YtjeihkabobjlbaaTb2
