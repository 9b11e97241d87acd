/- The examples answer true. No condition. -/
import Derived.Test.YtlminnpaeaganaaGreatMTab
namespace Go.Proofs.YtlminnpaeaganaaGreat
open Go Go.RowKit
set_option maxRecDepth 100000
theorem lined19 (ω : Orc) : E Tryz.prog 19 ω 20 [] = some (.bool true) := by kernel_rfl
end Go.Proofs.YtlminnpaeaganaaGreat
