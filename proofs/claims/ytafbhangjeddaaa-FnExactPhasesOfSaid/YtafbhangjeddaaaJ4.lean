import Derived.Test.YtafbhangjeddaaaJ2
import Derived.Test.YtafbhangjeddaaaW51
namespace Go.Proofs.Ytafbhangjeddaaa
open Go.RowKit
theorem opens_S : Opens Try.prog 22 tS := opens_sl Try.underlying22 (by kernel_rfl) (opens_int Try.underlying2)
end Go.Proofs.Ytafbhangjeddaaa
