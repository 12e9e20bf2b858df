/- Nothing: slices.Grow is not reached here. -/
import Derived.Test.YtgipkhjpedpedaaDoorProg
