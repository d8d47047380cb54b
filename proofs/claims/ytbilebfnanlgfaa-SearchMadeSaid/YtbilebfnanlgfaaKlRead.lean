/- Rows read and written as text; the row at a place; the laws of rows. -/
import Derived.Test.YtbilebfnanlgfaaKlDel
import Derived.Test.YtbilebfnanlgfaaKlRing
namespace Go.KL
end Go.KL
namespace Go.KL
end Go.KL
