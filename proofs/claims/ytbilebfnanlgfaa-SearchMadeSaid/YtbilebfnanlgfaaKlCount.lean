/- How many rows are like patterns. -/
import Derived.Test.YtbilebfnanlgfaaKlMusic
import Derived.Test.YtbilebfnanlgfaaKlRet
namespace Go.KL
abbrev Ty.str (s : ByteArray) : Ty := Ty.val (.string s)
end Go.KL
