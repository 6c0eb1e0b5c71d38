/- Part. -/
import Derived.Test.YtdnkignjanfikaaGreatFx3
import Derived.Test.YtdnkignjanfikaaGreatTb2
