/- All walks. -/
import Derived.Test.YtgjlndaebhaciaaFx1
import Derived.Test.YtgjlndaebhaciaaTb2
