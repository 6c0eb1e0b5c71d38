/- All walks. -/
import Derived.Test.YtgjlndaebhaciaaFx0
import Derived.Test.YtgjlndaebhaciaaTb2
