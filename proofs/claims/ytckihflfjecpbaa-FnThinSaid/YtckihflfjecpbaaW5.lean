import Derived.Test.YtckihflfjecpbaaW4
namespace Go.Proofs.Ytckihflfjecpbaa
open Go.RowKit
set_option maxHeartbeats 400000
end Go.Proofs.Ytckihflfjecpbaa
