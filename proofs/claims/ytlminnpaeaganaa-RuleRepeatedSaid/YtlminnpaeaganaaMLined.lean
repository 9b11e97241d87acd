/- The examples answer true. No condition. -/
import Derived.Test.YtlminnpaeaganaaMTab
namespace Go.Proofs.Ytlminnpaeaganaa
open Go Go.RowKit
set_option maxRecDepth 100000
theorem lined19 (ω : Orc) : E Try.prog 19 ω 17 [] = some (.bool true) := by kernel_rfl
end Go.Proofs.Ytlminnpaeaganaa
