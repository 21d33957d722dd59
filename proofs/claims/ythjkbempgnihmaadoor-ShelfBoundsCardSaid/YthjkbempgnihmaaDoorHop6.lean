
/- The walks of layer 11 (hop), sixth part: Join. -/
import Derived.Test.YthjkbempgnihmaaDoorHop3
import Derived.Test.YthjkbempgnihmaaDoorJoin
namespace Go.Proofs.YthjkbempgnihmaaDoor
open Go.RowKit Go.Dr

end Go.Proofs.YthjkbempgnihmaaDoor
