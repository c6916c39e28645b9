import Derived.Test.YtckihflfjecpbaaW3
namespace Go.Proofs.Ytckihflfjecpbaa
open Go.RowKit
set_option maxHeartbeats 400000
end Go.Proofs.Ytckihflfjecpbaa
