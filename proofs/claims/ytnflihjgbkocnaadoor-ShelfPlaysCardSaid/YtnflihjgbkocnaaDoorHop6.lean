
/- The walks of layer 11 (hop), sixth part: Join. -/
import Derived.Test.YtnflihjgbkocnaaDoorHop3
import Derived.Test.YtnflihjgbkocnaaDoorJoin
namespace Go.Proofs.YtnflihjgbkocnaaDoor
open Go.RowKit Go.Dr

end Go.Proofs.YtnflihjgbkocnaaDoor
