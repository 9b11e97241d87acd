/-
  No cell of these rows narrows 'for every input' (looked for: loops, veiled, ifaces, maps, wideKeys, modest, calm, conditions, laid).
  DERIVED. THE GIVEN ROWS OF THIS SEAT. 13 by the template 'for every input the law returns true; each argument reads behind the call as it read before'; 0 by the template 'total and deterministic' (their statements: YtlminnpaeaganaaTotals.lean).
  GIVEN WITH THE SEED: the statements are not yours to turn. If you find one false, say at which input.
  Laid BY PROGRAM, IN A SANDBOX (cutbox-rows.mjs): the forced cells as the released guide's own fill.sh prints them over the translation 20d5154de1377ca0… (all of the seat's roots in one cut). By AI agents, Wed Nov 11 2026. No macro, syntax, notation, axiom, sorry.
-/
import Derived.Test.YtlminnpaeaganaaChecked
import GoSem.Claim
import GoSem.ClaimJoined
import GoSem.ClaimMapViews
import Derived.JoinedTies
import Derived.KernelRfl
namespace Go.Proofs.Ytlminnpaeaganaa
/- THE CELL 'sum', in the pinned program and in every row, IS THE sha256 OF THE DUMP (.gsa) THAT YtlminnpaeaganaaProg.lean LOADS. Nothing in Lean hashes anything: it is a label: what it is worth is what the hold of that sum in a sandbox is worth. -/
noncomputable def Try.pinned : Pinned := { name := "ytlminnpaeaganaa", sum := "20d5154de1377ca02bab4de5945e1c4413ad2bc6ba90ba324c10b55c9e4087fe", checked := Try.checked }
namespace Rows
def none {H : Type} : Left H := { results := [], args := [] }

/-- 'maculaturelaw02.RuleSpots': WHATEVER THE INPUT: true; the input reads as it did. -/
def ruleSpotsSpec : ChangeSpec := { name := "ruleSpots", fn := fun _ => fun
  | [d1, d2, d3, d4] => { results := [.lit (.bool true)], args := [d1, d2, d3, d4] }
  | _ => none }
def ruleSpotsRow : OpenClaim := { program := "ytlminnpaeaganaa", sum := "20d5154de1377ca02bab4de5945e1c4413ad2bc6ba90ba324c10b55c9e4087fe", func := "maculature/maculaturelaw02.RuleSpots", spec := "ruleSpots", unfollowed := true, recurses := true, apart := false }
def RuleSpotsSaid : Prop := ruleSpotsRow.holds Try.pinned (OpenSpec.ofChange ruleSpotsSpec)

/-- ITS FALSE NEIGHBOUR: 'it returns false'. Refute it at one input. -/
def ruleSpotsWrong : ChangeSpec := { name := "ruleSpots", fn := fun _ => fun
  | [d1, d2, d3, d4] => { results := [.lit (.bool false)], args := [d1, d2, d3, d4] }
  | _ => none }
def RuleSpotsWrongFalsely : Prop := ruleSpotsRow.holds Try.pinned (OpenSpec.ofChange ruleSpotsWrong)

/-- 'maculaturelaw02.RuleTells': WHATEVER THE INPUT: true; the input reads as it did. -/
def ruleTellsSpec : ChangeSpec := { name := "ruleTells", fn := fun _ => fun
  | [d1, d2, d3, d4] => { results := [.lit (.bool true)], args := [d1, d2, d3, d4] }
  | _ => none }
def ruleTellsRow : OpenClaim := { program := "ytlminnpaeaganaa", sum := "20d5154de1377ca02bab4de5945e1c4413ad2bc6ba90ba324c10b55c9e4087fe", func := "maculature/maculaturelaw02.RuleTells", spec := "ruleTells", unfollowed := true, recurses := true, apart := false }
def RuleTellsSaid : Prop := ruleTellsRow.holds Try.pinned (OpenSpec.ofChange ruleTellsSpec)

/-- ITS FALSE NEIGHBOUR: 'it returns false'. Refute it at one input. -/
def ruleTellsWrong : ChangeSpec := { name := "ruleTells", fn := fun _ => fun
  | [d1, d2, d3, d4] => { results := [.lit (.bool false)], args := [d1, d2, d3, d4] }
  | _ => none }
def RuleTellsWrongFalsely : Prop := ruleTellsRow.holds Try.pinned (OpenSpec.ofChange ruleTellsWrong)

/-- 'maculaturelaw02.RuleCut': WHATEVER THE INPUT: true; the input reads as it did. -/
def ruleCutSpec : ChangeSpec := { name := "ruleCut", fn := fun _ => fun
  | [d] => { results := [.lit (.bool true)], args := [d] }
  | _ => none }
def ruleCutRow : OpenClaim := { program := "ytlminnpaeaganaa", sum := "20d5154de1377ca02bab4de5945e1c4413ad2bc6ba90ba324c10b55c9e4087fe", func := "maculature/maculaturelaw02.RuleCut", spec := "ruleCut", unfollowed := true, recurses := true, apart := false }
def RuleCutSaid : Prop := ruleCutRow.holds Try.pinned (OpenSpec.ofChange ruleCutSpec)

/-- ITS FALSE NEIGHBOUR: 'it returns false'. Refute it at one input. -/
def ruleCutWrong : ChangeSpec := { name := "ruleCut", fn := fun _ => fun
  | [d] => { results := [.lit (.bool false)], args := [d] }
  | _ => none }
def RuleCutWrongFalsely : Prop := ruleCutRow.holds Try.pinned (OpenSpec.ofChange ruleCutWrong)

/-- 'maculaturelaw02.RuleTurned': WHATEVER THE INPUT: true; the input reads as it did. -/
def ruleTurnedSpec : ChangeSpec := { name := "ruleTurned", fn := fun _ => fun
  | [d] => { results := [.lit (.bool true)], args := [d] }
  | _ => none }
def ruleTurnedRow : OpenClaim := { program := "ytlminnpaeaganaa", sum := "20d5154de1377ca02bab4de5945e1c4413ad2bc6ba90ba324c10b55c9e4087fe", func := "maculature/maculaturelaw02.RuleTurned", spec := "ruleTurned", unfollowed := true, recurses := true, apart := false }
def RuleTurnedSaid : Prop := ruleTurnedRow.holds Try.pinned (OpenSpec.ofChange ruleTurnedSpec)

/-- ITS FALSE NEIGHBOUR: 'it returns false'. Refute it at one input. -/
def ruleTurnedWrong : ChangeSpec := { name := "ruleTurned", fn := fun _ => fun
  | [d] => { results := [.lit (.bool false)], args := [d] }
  | _ => none }
def RuleTurnedWrongFalsely : Prop := ruleTurnedRow.holds Try.pinned (OpenSpec.ofChange ruleTurnedWrong)

/-- 'maculaturelaw02.RuleLonger': WHATEVER THE INPUT: true; the input reads as it did. -/
def ruleLongerSpec : ChangeSpec := { name := "ruleLonger", fn := fun _ => fun
  | [d] => { results := [.lit (.bool true)], args := [d] }
  | _ => none }
def ruleLongerRow : OpenClaim := { program := "ytlminnpaeaganaa", sum := "20d5154de1377ca02bab4de5945e1c4413ad2bc6ba90ba324c10b55c9e4087fe", func := "maculature/maculaturelaw02.RuleLonger", spec := "ruleLonger", unfollowed := true, recurses := true, apart := false }
def RuleLongerSaid : Prop := ruleLongerRow.holds Try.pinned (OpenSpec.ofChange ruleLongerSpec)

/-- ITS FALSE NEIGHBOUR: 'it returns false'. Refute it at one input. -/
def ruleLongerWrong : ChangeSpec := { name := "ruleLonger", fn := fun _ => fun
  | [d] => { results := [.lit (.bool false)], args := [d] }
  | _ => none }
def RuleLongerWrongFalsely : Prop := ruleLongerRow.holds Try.pinned (OpenSpec.ofChange ruleLongerWrong)

/-- 'maculaturelaw02.RuleLost': WHATEVER THE INPUT: true; the input reads as it did. -/
def ruleLostSpec : ChangeSpec := { name := "ruleLost", fn := fun _ => fun
  | [d] => { results := [.lit (.bool true)], args := [d] }
  | _ => none }
def ruleLostRow : OpenClaim := { program := "ytlminnpaeaganaa", sum := "20d5154de1377ca02bab4de5945e1c4413ad2bc6ba90ba324c10b55c9e4087fe", func := "maculature/maculaturelaw02.RuleLost", spec := "ruleLost", unfollowed := true, recurses := true, apart := false }
def RuleLostSaid : Prop := ruleLostRow.holds Try.pinned (OpenSpec.ofChange ruleLostSpec)

/-- ITS FALSE NEIGHBOUR: 'it returns false'. Refute it at one input. -/
def ruleLostWrong : ChangeSpec := { name := "ruleLost", fn := fun _ => fun
  | [d] => { results := [.lit (.bool false)], args := [d] }
  | _ => none }
def RuleLostWrongFalsely : Prop := ruleLostRow.holds Try.pinned (OpenSpec.ofChange ruleLostWrong)

/-- 'maculaturelaw02.RuleWrong': WHATEVER THE INPUT: true; the input reads as it did. -/
def ruleWrongSpec : ChangeSpec := { name := "ruleWrong", fn := fun _ => fun
  | [d] => { results := [.lit (.bool true)], args := [d] }
  | _ => none }
def ruleWrongRow : OpenClaim := { program := "ytlminnpaeaganaa", sum := "20d5154de1377ca02bab4de5945e1c4413ad2bc6ba90ba324c10b55c9e4087fe", func := "maculature/maculaturelaw02.RuleWrong", spec := "ruleWrong", unfollowed := true, recurses := true, apart := false }
def RuleWrongSaid : Prop := ruleWrongRow.holds Try.pinned (OpenSpec.ofChange ruleWrongSpec)

/-- ITS FALSE NEIGHBOUR: 'it returns false'. Refute it at one input. -/
def ruleWrongWrong : ChangeSpec := { name := "ruleWrong", fn := fun _ => fun
  | [d] => { results := [.lit (.bool false)], args := [d] }
  | _ => none }
def RuleWrongWrongFalsely : Prop := ruleWrongRow.holds Try.pinned (OpenSpec.ofChange ruleWrongWrong)

/-- 'maculaturelaw02.RuleTold': WHATEVER THE INPUT: true; the input reads as it did. -/
def ruleToldSpec : ChangeSpec := { name := "ruleTold", fn := fun _ => fun
  | [d] => { results := [.lit (.bool true)], args := [d] }
  | _ => none }
def ruleToldRow : OpenClaim := { program := "ytlminnpaeaganaa", sum := "20d5154de1377ca02bab4de5945e1c4413ad2bc6ba90ba324c10b55c9e4087fe", func := "maculature/maculaturelaw02.RuleTold", spec := "ruleTold", unfollowed := true, recurses := true, apart := false }
def RuleToldSaid : Prop := ruleToldRow.holds Try.pinned (OpenSpec.ofChange ruleToldSpec)

/-- ITS FALSE NEIGHBOUR: 'it returns false'. Refute it at one input. -/
def ruleToldWrong : ChangeSpec := { name := "ruleTold", fn := fun _ => fun
  | [d] => { results := [.lit (.bool false)], args := [d] }
  | _ => none }
def RuleToldWrongFalsely : Prop := ruleToldRow.holds Try.pinned (OpenSpec.ofChange ruleToldWrong)

/-- 'maculaturelaw02.RuleRepeated': WHATEVER THE INPUT: true; the input reads as it did. -/
def ruleRepeatedSpec : ChangeSpec := { name := "ruleRepeated", fn := fun _ => fun
  | [d] => { results := [.lit (.bool true)], args := [d] }
  | _ => none }
def ruleRepeatedRow : OpenClaim := { program := "ytlminnpaeaganaa", sum := "20d5154de1377ca02bab4de5945e1c4413ad2bc6ba90ba324c10b55c9e4087fe", func := "maculature/maculaturelaw02.RuleRepeated", spec := "ruleRepeated", unfollowed := true, recurses := true, apart := false }
def RuleRepeatedSaid : Prop := ruleRepeatedRow.holds Try.pinned (OpenSpec.ofChange ruleRepeatedSpec)

/-- ITS FALSE NEIGHBOUR: 'it returns false'. Refute it at one input. -/
def ruleRepeatedWrong : ChangeSpec := { name := "ruleRepeated", fn := fun _ => fun
  | [d] => { results := [.lit (.bool false)], args := [d] }
  | _ => none }
def RuleRepeatedWrongFalsely : Prop := ruleRepeatedRow.holds Try.pinned (OpenSpec.ofChange ruleRepeatedWrong)

/-- 'maculaturelaw02.RuleWrongs': WHATEVER THE INPUT: true; the input reads as it did. -/
def ruleWrongsSpec : ChangeSpec := { name := "ruleWrongs", fn := fun _ => fun
  | [d1, d2, d3, d4] => { results := [.lit (.bool true)], args := [d1, d2, d3, d4] }
  | _ => none }
def ruleWrongsRow : OpenClaim := { program := "ytlminnpaeaganaa", sum := "20d5154de1377ca02bab4de5945e1c4413ad2bc6ba90ba324c10b55c9e4087fe", func := "maculature/maculaturelaw02.RuleWrongs", spec := "ruleWrongs", unfollowed := true, recurses := true, apart := false }
def RuleWrongsSaid : Prop := ruleWrongsRow.holds Try.pinned (OpenSpec.ofChange ruleWrongsSpec)

/-- ITS FALSE NEIGHBOUR: 'it returns false'. Refute it at one input. -/
def ruleWrongsWrong : ChangeSpec := { name := "ruleWrongs", fn := fun _ => fun
  | [d1, d2, d3, d4] => { results := [.lit (.bool false)], args := [d1, d2, d3, d4] }
  | _ => none }
def RuleWrongsWrongFalsely : Prop := ruleWrongsRow.holds Try.pinned (OpenSpec.ofChange ruleWrongsWrong)

/-- 'maculaturelaw02.RuleSlip': WHATEVER THE INPUT: true; the input reads as it did. -/
def ruleSlipSpec : ChangeSpec := { name := "ruleSlip", fn := fun _ => fun
  | [d] => { results := [.lit (.bool true)], args := [d] }
  | _ => none }
def ruleSlipRow : OpenClaim := { program := "ytlminnpaeaganaa", sum := "20d5154de1377ca02bab4de5945e1c4413ad2bc6ba90ba324c10b55c9e4087fe", func := "maculature/maculaturelaw02.RuleSlip", spec := "ruleSlip", unfollowed := true, recurses := true, apart := false }
def RuleSlipSaid : Prop := ruleSlipRow.holds Try.pinned (OpenSpec.ofChange ruleSlipSpec)

/-- ITS FALSE NEIGHBOUR: 'it returns false'. Refute it at one input. -/
def ruleSlipWrong : ChangeSpec := { name := "ruleSlip", fn := fun _ => fun
  | [d] => { results := [.lit (.bool false)], args := [d] }
  | _ => none }
def RuleSlipWrongFalsely : Prop := ruleSlipRow.holds Try.pinned (OpenSpec.ofChange ruleSlipWrong)

/-- 'maculaturelaw02.RulePricks': WHATEVER THE INPUT: true; the input reads as it did. -/
def rulePricksSpec : ChangeSpec := { name := "rulePricks", fn := fun _ => fun
  | [d1, d2, d3, d4, d5] => { results := [.lit (.bool true)], args := [d1, d2, d3, d4, d5] }
  | _ => none }
def rulePricksRow : OpenClaim := { program := "ytlminnpaeaganaa", sum := "20d5154de1377ca02bab4de5945e1c4413ad2bc6ba90ba324c10b55c9e4087fe", func := "maculature/maculaturelaw02.RulePricks", spec := "rulePricks", unfollowed := true, recurses := true, apart := false }
def RulePricksSaid : Prop := rulePricksRow.holds Try.pinned (OpenSpec.ofChange rulePricksSpec)

/-- ITS FALSE NEIGHBOUR: 'it returns false'. Refute it at one input. -/
def rulePricksWrong : ChangeSpec := { name := "rulePricks", fn := fun _ => fun
  | [d1, d2, d3, d4, d5] => { results := [.lit (.bool false)], args := [d1, d2, d3, d4, d5] }
  | _ => none }
def RulePricksWrongFalsely : Prop := rulePricksRow.holds Try.pinned (OpenSpec.ofChange rulePricksWrong)

/-- 'maculaturelaw02.RuleHoles': WHATEVER THE INPUT: true; the input reads as it did. -/
def ruleHolesSpec : ChangeSpec := { name := "ruleHoles", fn := fun _ => fun
  | [d] => { results := [.lit (.bool true)], args := [d] }
  | _ => none }
def ruleHolesRow : OpenClaim := { program := "ytlminnpaeaganaa", sum := "20d5154de1377ca02bab4de5945e1c4413ad2bc6ba90ba324c10b55c9e4087fe", func := "maculature/maculaturelaw02.RuleHoles", spec := "ruleHoles", unfollowed := true, recurses := true, apart := false }
def RuleHolesSaid : Prop := ruleHolesRow.holds Try.pinned (OpenSpec.ofChange ruleHolesSpec)

/-- ITS FALSE NEIGHBOUR: 'it returns false'. Refute it at one input. -/
def ruleHolesWrong : ChangeSpec := { name := "ruleHoles", fn := fun _ => fun
  | [d] => { results := [.lit (.bool false)], args := [d] }
  | _ => none }
def RuleHolesWrongFalsely : Prop := ruleHolesRow.holds Try.pinned (OpenSpec.ofChange ruleHolesWrong)

/- THE SECOND FORM. 'bulk': how many values and letters a reading holds, each counted each time it is reached (what is shared counts as often as it is met; a slice's spare places count too). A statement '..UptoSaid' is the law's where the arguments, and the package variables that the reading takes, are together of bulk at most 1048576: NARROWER than '..Said'. Prove '..Said' where nothing that the law and all that it calls make is longer than what came in: it says more and counts as full. Else prove '..UptoSaid'. A law counts once. -/
mutual
def uptoBulk {H : Type} : DataW H → Nat
  | .lit (.string bytes) => bytes.length + 1
  | .lit _ => 1
  | .nil => 1
  | .ptr d => uptoBulk d + 1
  | .slice elems spare => uptoBulkAll elems + uptoBulkAll spare + 1
  | .agg parts => uptoBulkAll parts + 1
  | .iface _ d => uptoBulk d + 1
  | .map entries => uptoBulkEntries entries + 1
  | .held _ => 1
def uptoBulkAll {H : Type} : List (DataW H) → Nat
  | [] => 0
  | d :: r => uptoBulk d + uptoBulkAll r
def uptoBulkEntries {H : Type} : List (Lit × DataW H) → Nat
  | [] => 0
  | x :: r => uptoBulkEntry x + uptoBulkEntries r
def uptoBulkEntry {H : Type} : Lit × DataW H → Nat
  | (.string bytes, d) => bytes.length + uptoBulk d + 1
  | (_, d) => uptoBulk d + 1
 end
def uptoSmall : (H : Type) → List (DataW H) → Bool := fun _ ds => decide (uptoBulkAll ds ≤ 1048576)
def OpenSpec.upto (s : _root_.Go.ChangeSpec) : _root_.Go.OpenSpec := { _root_.Go.OpenSpec.ofChange s with cond := some uptoSmall }

/-- 'maculaturelaw02.RuleSpots', WHERE WHAT IT READS IS OF BULK AT MOST 1048576: true; the input reads as it did. -/
def ruleSpotsUptoRow : OpenClaim := { program := "ytlminnpaeaganaa", sum := "20d5154de1377ca02bab4de5945e1c4413ad2bc6ba90ba324c10b55c9e4087fe", func := "maculature/maculaturelaw02.RuleSpots", spec := "ruleSpots", unfollowed := true, recurses := true, apart := false, narrowed := true }
def RuleSpotsUptoSaid : Prop := ruleSpotsUptoRow.holds Try.pinned (OpenSpec.upto ruleSpotsSpec)

/-- 'maculaturelaw02.RuleTells', WHERE WHAT IT READS IS OF BULK AT MOST 1048576: true; the input reads as it did. -/
def ruleTellsUptoRow : OpenClaim := { program := "ytlminnpaeaganaa", sum := "20d5154de1377ca02bab4de5945e1c4413ad2bc6ba90ba324c10b55c9e4087fe", func := "maculature/maculaturelaw02.RuleTells", spec := "ruleTells", unfollowed := true, recurses := true, apart := false, narrowed := true }
def RuleTellsUptoSaid : Prop := ruleTellsUptoRow.holds Try.pinned (OpenSpec.upto ruleTellsSpec)

/-- 'maculaturelaw02.RuleCut', WHERE WHAT IT READS IS OF BULK AT MOST 1048576: true; the input reads as it did. -/
def ruleCutUptoRow : OpenClaim := { program := "ytlminnpaeaganaa", sum := "20d5154de1377ca02bab4de5945e1c4413ad2bc6ba90ba324c10b55c9e4087fe", func := "maculature/maculaturelaw02.RuleCut", spec := "ruleCut", unfollowed := true, recurses := true, apart := false, narrowed := true }
def RuleCutUptoSaid : Prop := ruleCutUptoRow.holds Try.pinned (OpenSpec.upto ruleCutSpec)

/-- 'maculaturelaw02.RuleTurned', WHERE WHAT IT READS IS OF BULK AT MOST 1048576: true; the input reads as it did. -/
def ruleTurnedUptoRow : OpenClaim := { program := "ytlminnpaeaganaa", sum := "20d5154de1377ca02bab4de5945e1c4413ad2bc6ba90ba324c10b55c9e4087fe", func := "maculature/maculaturelaw02.RuleTurned", spec := "ruleTurned", unfollowed := true, recurses := true, apart := false, narrowed := true }
def RuleTurnedUptoSaid : Prop := ruleTurnedUptoRow.holds Try.pinned (OpenSpec.upto ruleTurnedSpec)

/-- 'maculaturelaw02.RuleLonger', WHERE WHAT IT READS IS OF BULK AT MOST 1048576: true; the input reads as it did. -/
def ruleLongerUptoRow : OpenClaim := { program := "ytlminnpaeaganaa", sum := "20d5154de1377ca02bab4de5945e1c4413ad2bc6ba90ba324c10b55c9e4087fe", func := "maculature/maculaturelaw02.RuleLonger", spec := "ruleLonger", unfollowed := true, recurses := true, apart := false, narrowed := true }
def RuleLongerUptoSaid : Prop := ruleLongerUptoRow.holds Try.pinned (OpenSpec.upto ruleLongerSpec)

/-- 'maculaturelaw02.RuleLost', WHERE WHAT IT READS IS OF BULK AT MOST 1048576: true; the input reads as it did. -/
def ruleLostUptoRow : OpenClaim := { program := "ytlminnpaeaganaa", sum := "20d5154de1377ca02bab4de5945e1c4413ad2bc6ba90ba324c10b55c9e4087fe", func := "maculature/maculaturelaw02.RuleLost", spec := "ruleLost", unfollowed := true, recurses := true, apart := false, narrowed := true }
def RuleLostUptoSaid : Prop := ruleLostUptoRow.holds Try.pinned (OpenSpec.upto ruleLostSpec)

/-- 'maculaturelaw02.RuleWrong', WHERE WHAT IT READS IS OF BULK AT MOST 1048576: true; the input reads as it did. -/
def ruleWrongUptoRow : OpenClaim := { program := "ytlminnpaeaganaa", sum := "20d5154de1377ca02bab4de5945e1c4413ad2bc6ba90ba324c10b55c9e4087fe", func := "maculature/maculaturelaw02.RuleWrong", spec := "ruleWrong", unfollowed := true, recurses := true, apart := false, narrowed := true }
def RuleWrongUptoSaid : Prop := ruleWrongUptoRow.holds Try.pinned (OpenSpec.upto ruleWrongSpec)

/-- 'maculaturelaw02.RuleTold', WHERE WHAT IT READS IS OF BULK AT MOST 1048576: true; the input reads as it did. -/
def ruleToldUptoRow : OpenClaim := { program := "ytlminnpaeaganaa", sum := "20d5154de1377ca02bab4de5945e1c4413ad2bc6ba90ba324c10b55c9e4087fe", func := "maculature/maculaturelaw02.RuleTold", spec := "ruleTold", unfollowed := true, recurses := true, apart := false, narrowed := true }
def RuleToldUptoSaid : Prop := ruleToldUptoRow.holds Try.pinned (OpenSpec.upto ruleToldSpec)

/-- 'maculaturelaw02.RuleRepeated', WHERE WHAT IT READS IS OF BULK AT MOST 1048576: true; the input reads as it did. -/
def ruleRepeatedUptoRow : OpenClaim := { program := "ytlminnpaeaganaa", sum := "20d5154de1377ca02bab4de5945e1c4413ad2bc6ba90ba324c10b55c9e4087fe", func := "maculature/maculaturelaw02.RuleRepeated", spec := "ruleRepeated", unfollowed := true, recurses := true, apart := false, narrowed := true }
def RuleRepeatedUptoSaid : Prop := ruleRepeatedUptoRow.holds Try.pinned (OpenSpec.upto ruleRepeatedSpec)

/-- 'maculaturelaw02.RuleWrongs', WHERE WHAT IT READS IS OF BULK AT MOST 1048576: true; the input reads as it did. -/
def ruleWrongsUptoRow : OpenClaim := { program := "ytlminnpaeaganaa", sum := "20d5154de1377ca02bab4de5945e1c4413ad2bc6ba90ba324c10b55c9e4087fe", func := "maculature/maculaturelaw02.RuleWrongs", spec := "ruleWrongs", unfollowed := true, recurses := true, apart := false, narrowed := true }
def RuleWrongsUptoSaid : Prop := ruleWrongsUptoRow.holds Try.pinned (OpenSpec.upto ruleWrongsSpec)

/-- 'maculaturelaw02.RuleSlip', WHERE WHAT IT READS IS OF BULK AT MOST 1048576: true; the input reads as it did. -/
def ruleSlipUptoRow : OpenClaim := { program := "ytlminnpaeaganaa", sum := "20d5154de1377ca02bab4de5945e1c4413ad2bc6ba90ba324c10b55c9e4087fe", func := "maculature/maculaturelaw02.RuleSlip", spec := "ruleSlip", unfollowed := true, recurses := true, apart := false, narrowed := true }
def RuleSlipUptoSaid : Prop := ruleSlipUptoRow.holds Try.pinned (OpenSpec.upto ruleSlipSpec)

/-- 'maculaturelaw02.RulePricks', WHERE WHAT IT READS IS OF BULK AT MOST 1048576: true; the input reads as it did. -/
def rulePricksUptoRow : OpenClaim := { program := "ytlminnpaeaganaa", sum := "20d5154de1377ca02bab4de5945e1c4413ad2bc6ba90ba324c10b55c9e4087fe", func := "maculature/maculaturelaw02.RulePricks", spec := "rulePricks", unfollowed := true, recurses := true, apart := false, narrowed := true }
def RulePricksUptoSaid : Prop := rulePricksUptoRow.holds Try.pinned (OpenSpec.upto rulePricksSpec)

/-- 'maculaturelaw02.RuleHoles', WHERE WHAT IT READS IS OF BULK AT MOST 1048576: true; the input reads as it did. -/
def ruleHolesUptoRow : OpenClaim := { program := "ytlminnpaeaganaa", sum := "20d5154de1377ca02bab4de5945e1c4413ad2bc6ba90ba324c10b55c9e4087fe", func := "maculature/maculaturelaw02.RuleHoles", spec := "ruleHoles", unfollowed := true, recurses := true, apart := false, narrowed := true }
def RuleHolesUptoSaid : Prop := ruleHolesUptoRow.holds Try.pinned (OpenSpec.upto ruleHolesSpec)

end Rows
end Go.Proofs.Ytlminnpaeaganaa
