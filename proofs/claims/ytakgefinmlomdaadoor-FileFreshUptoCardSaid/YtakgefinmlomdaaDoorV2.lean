/- Nothing of the shelf is wanted here. -/
import Derived.Test.YtakgefinmlomdaaDoorProg
