/- Part of the proof of RuleH. No condition. -/
import Derived.Test.YtlminnpaeaganaaGreatRows
import Derived.Test.YtlminnpaeaganaaGreatMHAW
import Derived.Test.YtlminnpaeaganaaGreatMFromA
namespace Go.Proofs.YtlminnpaeaganaaGreat
set_option maxRecDepth 100000
set_option linter.all false
section
open Go Go.RowKit Go.WideShapes Go.ChangeShapes
theorem anL(ej:∀bz,qu Tryz.prog 6 Tryz.f5.params.toList bz->∀ω,E Tryz.prog 20 ω 5 bz=some (.bool true))(os:Os)(started:os.Started)(H:Type)(enc:TypeId×Value->H):
  ReturnsInLeavingWide {} Tryz.checked os 5 .any (Rows.ruleFromSpec.pre6 enc Tryz.prog Tryz.f5 Rows.ruleFromRow.domain false) (Rows.ruleFromSpec.post enc Tryz.prog Tryz.f5 false true false false):=by
 letI:=my
 refine XM (k:=6) (bt:=4) started Tryz.func5
  (ChangeSpec.witness6 (enc:=enc) (C:=Tryz.checked) false ⟨#[],#[.slice none 0 0],[]⟩ 5 (by kernel_rfl) (by kernel_rfl) (by kernel_rfl) (by kernel_rfl))
  laidOut rfl rfl (by kernel_rfl) (by kernel_rfl) (by
  intro t a1;have:Tryz.f5.params.toList.all (λt=>Tryz.prog.readableRec t&&decide (t<Tryz.prog.types.size))=true:=by kernel_rfl
  have:=List.all_eq_true.1 this t a1;simpa using this) (λds ak=>?_) (by kernel_rfl) (by kernel_rfl) (λbz aH m=>?_)
 ·match ds,ak with
  |[d0],_=>rfl
 ·refine @gL.mono my _ _ _ _ _ _ ((IH 20).zG 5 bz (λω=>by rw[ej bz aH ω];rfl) bz m (Oo (Om aH))) ?_;rintro v E m' ⟨⟨ω,U⟩,_,ab,al⟩;rw[ej bz aH ω]at U;injection U with U;exact⟨U.symm,ab,al⟩
theorem anN(ej:∀bz,qu Tryz.prog 6 Tryz.f5.params.toList bz->∀ω,E Tryz.prog 20 ω 5 bz=some (.bool true)):Rows.RuleFromSaid:=
 OpenClaim.holds_of_wide_leaving 5 Tryz.f5 rfl rfl rfl rfl rfl rfl rfl ⟨rfl,rfl,rfl,rfl,rfl⟩ rfl rfl rfl rfl rfl (by kernel_rfl) Tryz.func5 (by kernel_rfl)
  (of_decide_eq_true (by kernel_rfl)) (by unfold Func.isWrapper;first|(rw[if_pos (by decide +kernel)];kernel_rfl)|(rw[if_neg (by decide +kernel)];exact⟨rfl,rfl⟩))
  (λos started H enc _=>anL ej os started H enc)
end
section
open Go
theorem ruleFromProved:Rows.RuleFromSaid:=anN aou
#print axioms ruleFromProved
end
end Go.Proofs.YtlminnpaeaganaaGreat
