import Derived.Test.YtafbhangjeddaaaW4
namespace Go.Proofs.Ytafbhangjeddaaa
open Go.RowKit
set_option maxHeartbeats 400000
end Go.Proofs.Ytafbhangjeddaaa
