/- Sorting and compacting, as the library has them. No condition. -/
import Derived.Test.YtlminnpaeaganaaMDice
namespace Go.Proofs.Ytlminnpaeaganaa
open Go Go.RowKit
theorem new_ok : NewOk Try.prog DiceI ⟨18, none, none⟩ := ⟨new_ok0, fun f h => (by cases h), fun f h => (by cases h)⟩
end Go.Proofs.Ytlminnpaeaganaa
