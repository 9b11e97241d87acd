/- Repeated: the law is proved. No condition. -/
import Derived.Test.YtlminnpaeaganaaRows
import Derived.Test.YtlminnpaeaganaaChecked
import Derived.Test.YtlminnpaeaganaaMRead
import Derived.Test.YtlminnpaeaganaaMRepF
namespace Go.Proofs.Ytlminnpaeaganaa
open Go Go.RowKit Go.WideShapes Go.ChangeShapes
set_option maxRecDepth 100000
theorem ruleRepeated_lifted (hE : ∀ qs, ShL Try.prog 6 Try.f11.params.toList qs → ∀ m, ECalls Try.prog 11 qs m fun v E m' => v = .bool true ∧ E = [] ∧ m' = m) (os : Os) (started : os.Started) (H : Type) (enc : TypeId × Value → H) :
    ReturnsInHanded {} Try.checked os 11 .any (Rows.ruleRepeatedSpec.pre6 enc Try.prog Try.f11 Rows.ruleRepeatedRow.domain false) (Rows.ruleRepeatedSpec.post enc Try.prog Try.f11 false true false false) := by
  refine returnsInHanded_of_change (C := Try.checked) own started (by kernel_rfl) Try.func11
    (ChangeSpec.witness6 (enc := enc) (C := Try.checked) false ⟨#[], #[.slice none 0 0], []⟩ 8 (by kernel_rfl) (by kernel_rfl) (by kernel_rfl) (by kernel_rfl)) ?_
  intro W base args ds gs before hval hW _ _
  refine law_contract (P := Try.prog) (k := 6) (bt := 4) laidOut rfl rfl (by kernel_rfl) (by kernel_rfl) (by
    intro t ht
    have : Try.f11.params.toList.all (fun t => Try.prog.readableRec t && decide (t < Try.prog.types.size)) = true := by kernel_rfl
    have := List.all_eq_true.1 this t ht
    simpa using this) (fun ds hl => ?_) (fun qs hq m => ?_) hval hW
  · match ds, hl with
    | [d0], _ => rfl
  · exact hE qs hq m
theorem ruleRepeated_holds (hE : ∀ qs, ShL Try.prog 6 Try.f11.params.toList qs → ∀ m, ECalls Try.prog 11 qs m fun v E m' => v = .bool true ∧ E = [] ∧ m' = m) : Rows.RuleRepeatedSaid :=
  OpenClaim.holds_of_wide 11 Try.f11 rfl rfl rfl rfl rfl rfl rfl ⟨rfl, rfl, rfl, rfl, rfl⟩ rfl rfl rfl rfl rfl (by kernel_rfl) Try.func11 (by kernel_rfl)
    (of_decide_eq_true (by kernel_rfl)) (by unfold Func.isWrapper; first | (rw [if_pos (by decide +kernel)]; kernel_rfl) | (rw [if_neg (by decide +kernel)]; exact ⟨rfl, rfl⟩))
    (fun os started H enc _ => ruleRepeated_lifted hE os started H enc)
end Go.Proofs.Ytlminnpaeaganaa
namespace Go.Proofs.Ytlminnpaeaganaa
open Go
theorem ruleRepeatedProved : Rows.RuleRepeatedSaid := ruleRepeated_holds law11
#print axioms ruleRepeatedProved
end Go.Proofs.Ytlminnpaeaganaa
