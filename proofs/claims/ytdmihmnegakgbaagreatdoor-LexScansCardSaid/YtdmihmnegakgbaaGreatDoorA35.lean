/- The abstract machine, part 35: arguments as typed values. -/
import Derived.Test.YtdmihmnegakgbaaGreatDoorA31
import Derived.Test.YtdmihmnegakgbaaGreatDoorA25
namespace Go.Abs

end Go.Abs
