
import Derived.Test.YtcafmkekkcbamaaGreatCodeC
namespace Go.Proofs.YtcafmkekkcbamaaGreat
open Go.RowKit
namespace Vm
theorem r17 : runV tab17L tab17R 3000 40 24 [] = some (.bool true) := by kernel_rfl
end Vm
end Go.Proofs.YtcafmkekkcbamaaGreat
