/- The functions in short, all. -/
import Derived.Test.YtgkknajopejleaaCda
import Derived.Test.YtgkknajopejleaaCdb
import Derived.Test.YtgkknajopejleaaCdc
