/- The document's answers on wide numbers: Div. -/
import Derived.Test.YtkefamalcmglgaaRefB
import Derived.Test.YtkefamalcmglgaaLate
namespace Go.Proofs.Ytkefamalcmglgaa
open Go.RowKit

end Go.Proofs.Ytkefamalcmglgaa
