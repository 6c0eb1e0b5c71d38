/- All walks. -/
import Derived.Test.YtjeihkabobjlbaaFn0
import Derived.Test.YtjeihkabobjlbaaTb2
