/-
  No cell of these rows narrows 'for every input' (looked for: loops, veiled, ifaces, maps, wideKeys, modest, calm, conditions, laid).
  DERIVED. THE GIVEN ROWS OF THIS SEAT. 8 by the template 'for every input the law returns true; each argument reads behind the call as it read before'; 0 by the template 'total and deterministic' (their statements: YtlminnpaeaganaaGreatTotals.lean).
  GIVEN WITH THE SEED: the statements are not yours to turn. If you find one false, say at which input.
  Laid BY PROGRAM, IN A SANDBOX (cutbox-rows.mjs): the forced cells as the released guide's own fill.sh prints them over the translation 9d9b1a932a8626fc… (all of the seat's roots in one cut). By AI agents, Wed Nov 11 2026. No macro, syntax, notation, axiom, sorry.
-/
import Derived.Test.YtlminnpaeaganaaGreatChecked
import GoSem.Claim
import GoSem.ClaimJoined
import GoSem.ClaimMapViews
import Derived.JoinedTies
import Derived.KernelRfl
namespace Go.Proofs.YtlminnpaeaganaaGreat
/- THE CELL 'sum', in the pinned program and in every row, IS THE sha256 OF THE DUMP (.gsa) THAT YtlminnpaeaganaaGreatProg.lean LOADS. Nothing in Lean hashes anything: it is a label: what it is worth is what the hold of that sum in a sandbox is worth. -/
noncomputable def Tryz.pinned : Pinned := { name := "ytlminnpaeaganaagreat", sum := "9d9b1a932a8626fc01e99a3c739d8863549b3d7eb55abff1d2ef8065a14186eb", checked := Tryz.checked }
namespace Rows
def none {H : Type} : Left H := { results := [], args := [] }

/-- 'maculaturelaw02.RuleBack': WHATEVER THE INPUT: true; the input reads as it did. -/
def ruleBackSpec : ChangeSpec := { name := "ruleBack", fn := fun _ => fun
  | [d] => { results := [.lit (.bool true)], args := [d] }
  | _ => none }
def ruleBackRow : OpenClaim := { program := "ytlminnpaeaganaagreat", sum := "9d9b1a932a8626fc01e99a3c739d8863549b3d7eb55abff1d2ef8065a14186eb", func := "maculature/maculaturelaw02.RuleBack", spec := "ruleBack", inPlace := ["(*sync.WaitGroup).Add", "internal/race.ReleaseMerge", "internal/race.Disable", "internal/race.Enable", "internal/synctest.IsInBubble", "internal/synctest.Associate[sync.WaitGroup]", "sync.fatal", "sync/atomic.OrUint64", "sync/atomic.AddUint64", "internal/race.Read", "sync/atomic.LoadUint64", "sync/atomic.StoreUint64", "internal/synctest.Disassociate[sync.WaitGroup]", "sync.runtime_Semrelease", "(*sync.WaitGroup).Done", "(*sync.WaitGroup).Wait", "internal/race.Acquire", "internal/synctest.IsAssociated[sync.WaitGroup]", "sync/atomic.CompareAndSwapUint64", "internal/race.Write", "sync.runtime_SemacquireWaitGroup"], unfollowed := true, recurses := true, plainKeys := false, leaving := true, apart := false }
def RuleBackSaid : Prop := ruleBackRow.holds Tryz.pinned (OpenSpec.ofChange ruleBackSpec)

/-- ITS FALSE NEIGHBOUR: 'it returns false'. Refute it at one input. -/
def ruleBackWrong : ChangeSpec := { name := "ruleBack", fn := fun _ => fun
  | [d] => { results := [.lit (.bool false)], args := [d] }
  | _ => none }
def RuleBackWrongFalsely : Prop := ruleBackRow.holds Tryz.pinned (OpenSpec.ofChange ruleBackWrong)

/-- 'maculaturelaw02.RuleFroms': WHATEVER THE INPUT: true; the input reads as it did. -/
def ruleFromsSpec : ChangeSpec := { name := "ruleFroms", fn := fun _ => fun
  | [d1, d2, d3, d4] => { results := [.lit (.bool true)], args := [d1, d2, d3, d4] }
  | _ => none }
def ruleFromsRow : OpenClaim := { program := "ytlminnpaeaganaagreat", sum := "9d9b1a932a8626fc01e99a3c739d8863549b3d7eb55abff1d2ef8065a14186eb", func := "maculature/maculaturelaw02.RuleFroms", spec := "ruleFroms", inPlace := ["(*sync.WaitGroup).Add", "internal/race.ReleaseMerge", "internal/race.Disable", "internal/race.Enable", "internal/synctest.IsInBubble", "internal/synctest.Associate[sync.WaitGroup]", "sync.fatal", "sync/atomic.OrUint64", "sync/atomic.AddUint64", "internal/race.Read", "sync/atomic.LoadUint64", "sync/atomic.StoreUint64", "internal/synctest.Disassociate[sync.WaitGroup]", "sync.runtime_Semrelease", "(*sync.WaitGroup).Done", "(*sync.WaitGroup).Wait", "internal/race.Acquire", "internal/synctest.IsAssociated[sync.WaitGroup]", "sync/atomic.CompareAndSwapUint64", "internal/race.Write", "sync.runtime_SemacquireWaitGroup"], unfollowed := true, recurses := true, plainKeys := false, leaving := true, apart := false }
def RuleFromsSaid : Prop := ruleFromsRow.holds Tryz.pinned (OpenSpec.ofChange ruleFromsSpec)

/-- ITS FALSE NEIGHBOUR: 'it returns false'. Refute it at one input. -/
def ruleFromsWrong : ChangeSpec := { name := "ruleFroms", fn := fun _ => fun
  | [d1, d2, d3, d4] => { results := [.lit (.bool false)], args := [d1, d2, d3, d4] }
  | _ => none }
def RuleFromsWrongFalsely : Prop := ruleFromsRow.holds Tryz.pinned (OpenSpec.ofChange ruleFromsWrong)

/-- 'maculaturelaw02.RuleFrom': WHATEVER THE INPUT: true; the input reads as it did. -/
def ruleFromSpec : ChangeSpec := { name := "ruleFrom", fn := fun _ => fun
  | [d] => { results := [.lit (.bool true)], args := [d] }
  | _ => none }
def ruleFromRow : OpenClaim := { program := "ytlminnpaeaganaagreat", sum := "9d9b1a932a8626fc01e99a3c739d8863549b3d7eb55abff1d2ef8065a14186eb", func := "maculature/maculaturelaw02.RuleFrom", spec := "ruleFrom", inPlace := ["(*sync.WaitGroup).Add", "internal/race.ReleaseMerge", "internal/race.Disable", "internal/race.Enable", "internal/synctest.IsInBubble", "internal/synctest.Associate[sync.WaitGroup]", "sync.fatal", "sync/atomic.OrUint64", "sync/atomic.AddUint64", "internal/race.Read", "sync/atomic.LoadUint64", "sync/atomic.StoreUint64", "internal/synctest.Disassociate[sync.WaitGroup]", "sync.runtime_Semrelease", "(*sync.WaitGroup).Done", "(*sync.WaitGroup).Wait", "internal/race.Acquire", "internal/synctest.IsAssociated[sync.WaitGroup]", "sync/atomic.CompareAndSwapUint64", "internal/race.Write", "sync.runtime_SemacquireWaitGroup"], unfollowed := true, recurses := true, plainKeys := false, leaving := true, apart := false }
def RuleFromSaid : Prop := ruleFromRow.holds Tryz.pinned (OpenSpec.ofChange ruleFromSpec)

/-- ITS FALSE NEIGHBOUR: 'it returns false'. Refute it at one input. -/
def ruleFromWrong : ChangeSpec := { name := "ruleFrom", fn := fun _ => fun
  | [d] => { results := [.lit (.bool false)], args := [d] }
  | _ => none }
def RuleFromWrongFalsely : Prop := ruleFromRow.holds Tryz.pinned (OpenSpec.ofChange ruleFromWrong)

/-- 'maculaturelaw02.RuleCovers': WHATEVER THE INPUT: true; the input reads as it did. -/
def ruleCoversSpec : ChangeSpec := { name := "ruleCovers", fn := fun _ => fun
  | [d1, d2, d3] => { results := [.lit (.bool true)], args := [d1, d2, d3] }
  | _ => none }
def ruleCoversRow : OpenClaim := { program := "ytlminnpaeaganaagreat", sum := "9d9b1a932a8626fc01e99a3c739d8863549b3d7eb55abff1d2ef8065a14186eb", func := "maculature/maculaturelaw02.RuleCovers", spec := "ruleCovers", inPlace := ["(*sync.WaitGroup).Add", "internal/race.ReleaseMerge", "internal/race.Disable", "internal/race.Enable", "internal/synctest.IsInBubble", "internal/synctest.Associate[sync.WaitGroup]", "sync.fatal", "sync/atomic.OrUint64", "sync/atomic.AddUint64", "internal/race.Read", "sync/atomic.LoadUint64", "sync/atomic.StoreUint64", "internal/synctest.Disassociate[sync.WaitGroup]", "sync.runtime_Semrelease", "(*sync.WaitGroup).Done", "(*sync.WaitGroup).Wait", "internal/race.Acquire", "internal/synctest.IsAssociated[sync.WaitGroup]", "sync/atomic.CompareAndSwapUint64", "internal/race.Write", "sync.runtime_SemacquireWaitGroup"], unfollowed := true, recurses := true, plainKeys := false, leaving := true, apart := false }
def RuleCoversSaid : Prop := ruleCoversRow.holds Tryz.pinned (OpenSpec.ofChange ruleCoversSpec)

/-- ITS FALSE NEIGHBOUR: 'it returns false'. Refute it at one input. -/
def ruleCoversWrong : ChangeSpec := { name := "ruleCovers", fn := fun _ => fun
  | [d1, d2, d3] => { results := [.lit (.bool false)], args := [d1, d2, d3] }
  | _ => none }
def RuleCoversWrongFalsely : Prop := ruleCoversRow.holds Tryz.pinned (OpenSpec.ofChange ruleCoversWrong)

/-- 'maculaturelaw02.RuleCover': WHATEVER THE INPUT: true; the input reads as it did. -/
def ruleCoverSpec : ChangeSpec := { name := "ruleCover", fn := fun _ => fun
  | [d] => { results := [.lit (.bool true)], args := [d] }
  | _ => none }
def ruleCoverRow : OpenClaim := { program := "ytlminnpaeaganaagreat", sum := "9d9b1a932a8626fc01e99a3c739d8863549b3d7eb55abff1d2ef8065a14186eb", func := "maculature/maculaturelaw02.RuleCover", spec := "ruleCover", inPlace := ["(*sync.WaitGroup).Add", "internal/race.ReleaseMerge", "internal/race.Disable", "internal/race.Enable", "internal/synctest.IsInBubble", "internal/synctest.Associate[sync.WaitGroup]", "sync.fatal", "sync/atomic.OrUint64", "sync/atomic.AddUint64", "internal/race.Read", "sync/atomic.LoadUint64", "sync/atomic.StoreUint64", "internal/synctest.Disassociate[sync.WaitGroup]", "sync.runtime_Semrelease", "(*sync.WaitGroup).Done", "(*sync.WaitGroup).Wait", "internal/race.Acquire", "internal/synctest.IsAssociated[sync.WaitGroup]", "sync/atomic.CompareAndSwapUint64", "internal/race.Write", "sync.runtime_SemacquireWaitGroup"], unfollowed := true, recurses := true, plainKeys := false, leaving := true, apart := false }
def RuleCoverSaid : Prop := ruleCoverRow.holds Tryz.pinned (OpenSpec.ofChange ruleCoverSpec)

/-- ITS FALSE NEIGHBOUR: 'it returns false'. Refute it at one input. -/
def ruleCoverWrong : ChangeSpec := { name := "ruleCover", fn := fun _ => fun
  | [d] => { results := [.lit (.bool false)], args := [d] }
  | _ => none }
def RuleCoverWrongFalsely : Prop := ruleCoverRow.holds Tryz.pinned (OpenSpec.ofChange ruleCoverWrong)

/-- 'maculaturelaw02.RuleLies': WHATEVER THE INPUT: true; the input reads as it did. -/
def ruleLiesSpec : ChangeSpec := { name := "ruleLies", fn := fun _ => fun
  | [d1, d2, d3, d4] => { results := [.lit (.bool true)], args := [d1, d2, d3, d4] }
  | _ => none }
def ruleLiesRow : OpenClaim := { program := "ytlminnpaeaganaagreat", sum := "9d9b1a932a8626fc01e99a3c739d8863549b3d7eb55abff1d2ef8065a14186eb", func := "maculature/maculaturelaw02.RuleLies", spec := "ruleLies", unfollowed := true, recurses := true, plainKeys := false, leaving := true, apart := false }
def RuleLiesSaid : Prop := ruleLiesRow.holds Tryz.pinned (OpenSpec.ofChange ruleLiesSpec)

/-- ITS FALSE NEIGHBOUR: 'it returns false'. Refute it at one input. -/
def ruleLiesWrong : ChangeSpec := { name := "ruleLies", fn := fun _ => fun
  | [d1, d2, d3, d4] => { results := [.lit (.bool false)], args := [d1, d2, d3, d4] }
  | _ => none }
def RuleLiesWrongFalsely : Prop := ruleLiesRow.holds Tryz.pinned (OpenSpec.ofChange ruleLiesWrong)

/-- 'maculaturelaw02.RuleBeside': WHATEVER THE INPUT: true; the input reads as it did. -/
def ruleBesideSpec : ChangeSpec := { name := "ruleBeside", fn := fun _ => fun
  | [d] => { results := [.lit (.bool true)], args := [d] }
  | _ => none }
def ruleBesideRow : OpenClaim := { program := "ytlminnpaeaganaagreat", sum := "9d9b1a932a8626fc01e99a3c739d8863549b3d7eb55abff1d2ef8065a14186eb", func := "maculature/maculaturelaw02.RuleBeside", spec := "ruleBeside", inPlace := ["(*sync.WaitGroup).Add", "internal/race.ReleaseMerge", "internal/race.Disable", "internal/race.Enable", "internal/synctest.IsInBubble", "internal/synctest.Associate[sync.WaitGroup]", "sync.fatal", "sync/atomic.OrUint64", "sync/atomic.AddUint64", "internal/race.Read", "sync/atomic.LoadUint64", "sync/atomic.StoreUint64", "internal/synctest.Disassociate[sync.WaitGroup]", "sync.runtime_Semrelease", "(*sync.WaitGroup).Done", "(*sync.WaitGroup).Wait", "internal/race.Acquire", "internal/synctest.IsAssociated[sync.WaitGroup]", "sync/atomic.CompareAndSwapUint64", "internal/race.Write", "sync.runtime_SemacquireWaitGroup"], unfollowed := true, recurses := true, plainKeys := false, leaving := true, apart := false }
def RuleBesideSaid : Prop := ruleBesideRow.holds Tryz.pinned (OpenSpec.ofChange ruleBesideSpec)

/-- ITS FALSE NEIGHBOUR: 'it returns false'. Refute it at one input. -/
def ruleBesideWrong : ChangeSpec := { name := "ruleBeside", fn := fun _ => fun
  | [d] => { results := [.lit (.bool false)], args := [d] }
  | _ => none }
def RuleBesideWrongFalsely : Prop := ruleBesideRow.holds Tryz.pinned (OpenSpec.ofChange ruleBesideWrong)

/-- 'maculaturelaw02.RuleKnown': WHATEVER THE INPUT: true; the input reads as it did. -/
def ruleKnownSpec : ChangeSpec := { name := "ruleKnown", fn := fun _ => fun
  | [] => { results := [.lit (.bool true)], args := [] }
  | _ => none }
def ruleKnownRow : OpenClaim := { program := "ytlminnpaeaganaagreat", sum := "9d9b1a932a8626fc01e99a3c739d8863549b3d7eb55abff1d2ef8065a14186eb", func := "maculature/maculaturelaw02.RuleKnown", spec := "ruleKnown", inPlace := ["(*sync.WaitGroup).Add", "internal/race.ReleaseMerge", "internal/race.Disable", "internal/race.Enable", "internal/synctest.IsInBubble", "internal/synctest.Associate[sync.WaitGroup]", "sync.fatal", "sync/atomic.OrUint64", "sync/atomic.AddUint64", "internal/race.Read", "sync/atomic.LoadUint64", "sync/atomic.StoreUint64", "internal/synctest.Disassociate[sync.WaitGroup]", "sync.runtime_Semrelease", "(*sync.WaitGroup).Done", "(*sync.WaitGroup).Wait", "internal/race.Acquire", "internal/synctest.IsAssociated[sync.WaitGroup]", "sync/atomic.CompareAndSwapUint64", "internal/race.Write", "sync.runtime_SemacquireWaitGroup"], unfollowed := true, recurses := true, plainKeys := false, leaving := true, apart := false }
def RuleKnownSaid : Prop := ruleKnownRow.holds Tryz.pinned (OpenSpec.ofChange ruleKnownSpec)

/-- ITS FALSE NEIGHBOUR: 'it returns false'. Refute it at one input. -/
def ruleKnownWrong : ChangeSpec := { name := "ruleKnown", fn := fun _ => fun
  | [] => { results := [.lit (.bool false)], args := [] }
  | _ => none }
def RuleKnownWrongFalsely : Prop := ruleKnownRow.holds Tryz.pinned (OpenSpec.ofChange ruleKnownWrong)

/- THE SECOND FORM. 'bulk': how many values and letters a reading holds, each counted each time it is reached (what is shared counts as often as it is met; a slice's spare places count too). A statement '..UptoSaid' is the law's where the arguments, and the package variables that the reading takes, are together of bulk at most 1048576: NARROWER than '..Said'. Prove '..Said' where nothing that the law and all that it calls make is longer than what came in: it says more and counts as full. Else prove '..UptoSaid'. A law counts once. -/
mutual
def uptoBulk {H : Type} : DataW H → Nat
  | .lit (.string bytes) => bytes.length + 1
  | .lit _ => 1
  | .nil => 1
  | .ptr d => uptoBulk d + 1
  | .slice elems spare => uptoBulkAll elems + uptoBulkAll spare + 1
  | .agg parts => uptoBulkAll parts + 1
  | .iface _ d => uptoBulk d + 1
  | .map entries => uptoBulkEntries entries + 1
  | .held _ => 1
def uptoBulkAll {H : Type} : List (DataW H) → Nat
  | [] => 0
  | d :: r => uptoBulk d + uptoBulkAll r
def uptoBulkEntries {H : Type} : List (Lit × DataW H) → Nat
  | [] => 0
  | x :: r => uptoBulkEntry x + uptoBulkEntries r
def uptoBulkEntry {H : Type} : Lit × DataW H → Nat
  | (.string bytes, d) => bytes.length + uptoBulk d + 1
  | (_, d) => uptoBulk d + 1
 end
def uptoSmall : (H : Type) → List (DataW H) → Bool := fun _ ds => decide (uptoBulkAll ds ≤ 1048576)
def OpenSpec.upto (s : _root_.Go.ChangeSpec) : _root_.Go.OpenSpec := { _root_.Go.OpenSpec.ofChange s with cond := some uptoSmall }

/-- 'maculaturelaw02.RuleBack', WHERE WHAT IT READS IS OF BULK AT MOST 1048576: true; the input reads as it did. -/
def ruleBackUptoRow : OpenClaim := { program := "ytlminnpaeaganaagreat", sum := "9d9b1a932a8626fc01e99a3c739d8863549b3d7eb55abff1d2ef8065a14186eb", func := "maculature/maculaturelaw02.RuleBack", spec := "ruleBack", inPlace := ["(*sync.WaitGroup).Add", "internal/race.ReleaseMerge", "internal/race.Disable", "internal/race.Enable", "internal/synctest.IsInBubble", "internal/synctest.Associate[sync.WaitGroup]", "sync.fatal", "sync/atomic.OrUint64", "sync/atomic.AddUint64", "internal/race.Read", "sync/atomic.LoadUint64", "sync/atomic.StoreUint64", "internal/synctest.Disassociate[sync.WaitGroup]", "sync.runtime_Semrelease", "(*sync.WaitGroup).Done", "(*sync.WaitGroup).Wait", "internal/race.Acquire", "internal/synctest.IsAssociated[sync.WaitGroup]", "sync/atomic.CompareAndSwapUint64", "internal/race.Write", "sync.runtime_SemacquireWaitGroup"], unfollowed := true, recurses := true, plainKeys := false, leaving := true, apart := false, narrowed := true }
def RuleBackUptoSaid : Prop := ruleBackUptoRow.holds Tryz.pinned (OpenSpec.upto ruleBackSpec)

/-- 'maculaturelaw02.RuleFroms', WHERE WHAT IT READS IS OF BULK AT MOST 1048576: true; the input reads as it did. -/
def ruleFromsUptoRow : OpenClaim := { program := "ytlminnpaeaganaagreat", sum := "9d9b1a932a8626fc01e99a3c739d8863549b3d7eb55abff1d2ef8065a14186eb", func := "maculature/maculaturelaw02.RuleFroms", spec := "ruleFroms", inPlace := ["(*sync.WaitGroup).Add", "internal/race.ReleaseMerge", "internal/race.Disable", "internal/race.Enable", "internal/synctest.IsInBubble", "internal/synctest.Associate[sync.WaitGroup]", "sync.fatal", "sync/atomic.OrUint64", "sync/atomic.AddUint64", "internal/race.Read", "sync/atomic.LoadUint64", "sync/atomic.StoreUint64", "internal/synctest.Disassociate[sync.WaitGroup]", "sync.runtime_Semrelease", "(*sync.WaitGroup).Done", "(*sync.WaitGroup).Wait", "internal/race.Acquire", "internal/synctest.IsAssociated[sync.WaitGroup]", "sync/atomic.CompareAndSwapUint64", "internal/race.Write", "sync.runtime_SemacquireWaitGroup"], unfollowed := true, recurses := true, plainKeys := false, leaving := true, apart := false, narrowed := true }
def RuleFromsUptoSaid : Prop := ruleFromsUptoRow.holds Tryz.pinned (OpenSpec.upto ruleFromsSpec)

/-- 'maculaturelaw02.RuleFrom', WHERE WHAT IT READS IS OF BULK AT MOST 1048576: true; the input reads as it did. -/
def ruleFromUptoRow : OpenClaim := { program := "ytlminnpaeaganaagreat", sum := "9d9b1a932a8626fc01e99a3c739d8863549b3d7eb55abff1d2ef8065a14186eb", func := "maculature/maculaturelaw02.RuleFrom", spec := "ruleFrom", inPlace := ["(*sync.WaitGroup).Add", "internal/race.ReleaseMerge", "internal/race.Disable", "internal/race.Enable", "internal/synctest.IsInBubble", "internal/synctest.Associate[sync.WaitGroup]", "sync.fatal", "sync/atomic.OrUint64", "sync/atomic.AddUint64", "internal/race.Read", "sync/atomic.LoadUint64", "sync/atomic.StoreUint64", "internal/synctest.Disassociate[sync.WaitGroup]", "sync.runtime_Semrelease", "(*sync.WaitGroup).Done", "(*sync.WaitGroup).Wait", "internal/race.Acquire", "internal/synctest.IsAssociated[sync.WaitGroup]", "sync/atomic.CompareAndSwapUint64", "internal/race.Write", "sync.runtime_SemacquireWaitGroup"], unfollowed := true, recurses := true, plainKeys := false, leaving := true, apart := false, narrowed := true }
def RuleFromUptoSaid : Prop := ruleFromUptoRow.holds Tryz.pinned (OpenSpec.upto ruleFromSpec)

/-- 'maculaturelaw02.RuleCovers', WHERE WHAT IT READS IS OF BULK AT MOST 1048576: true; the input reads as it did. -/
def ruleCoversUptoRow : OpenClaim := { program := "ytlminnpaeaganaagreat", sum := "9d9b1a932a8626fc01e99a3c739d8863549b3d7eb55abff1d2ef8065a14186eb", func := "maculature/maculaturelaw02.RuleCovers", spec := "ruleCovers", inPlace := ["(*sync.WaitGroup).Add", "internal/race.ReleaseMerge", "internal/race.Disable", "internal/race.Enable", "internal/synctest.IsInBubble", "internal/synctest.Associate[sync.WaitGroup]", "sync.fatal", "sync/atomic.OrUint64", "sync/atomic.AddUint64", "internal/race.Read", "sync/atomic.LoadUint64", "sync/atomic.StoreUint64", "internal/synctest.Disassociate[sync.WaitGroup]", "sync.runtime_Semrelease", "(*sync.WaitGroup).Done", "(*sync.WaitGroup).Wait", "internal/race.Acquire", "internal/synctest.IsAssociated[sync.WaitGroup]", "sync/atomic.CompareAndSwapUint64", "internal/race.Write", "sync.runtime_SemacquireWaitGroup"], unfollowed := true, recurses := true, plainKeys := false, leaving := true, apart := false, narrowed := true }
def RuleCoversUptoSaid : Prop := ruleCoversUptoRow.holds Tryz.pinned (OpenSpec.upto ruleCoversSpec)

/-- 'maculaturelaw02.RuleCover', WHERE WHAT IT READS IS OF BULK AT MOST 1048576: true; the input reads as it did. -/
def ruleCoverUptoRow : OpenClaim := { program := "ytlminnpaeaganaagreat", sum := "9d9b1a932a8626fc01e99a3c739d8863549b3d7eb55abff1d2ef8065a14186eb", func := "maculature/maculaturelaw02.RuleCover", spec := "ruleCover", inPlace := ["(*sync.WaitGroup).Add", "internal/race.ReleaseMerge", "internal/race.Disable", "internal/race.Enable", "internal/synctest.IsInBubble", "internal/synctest.Associate[sync.WaitGroup]", "sync.fatal", "sync/atomic.OrUint64", "sync/atomic.AddUint64", "internal/race.Read", "sync/atomic.LoadUint64", "sync/atomic.StoreUint64", "internal/synctest.Disassociate[sync.WaitGroup]", "sync.runtime_Semrelease", "(*sync.WaitGroup).Done", "(*sync.WaitGroup).Wait", "internal/race.Acquire", "internal/synctest.IsAssociated[sync.WaitGroup]", "sync/atomic.CompareAndSwapUint64", "internal/race.Write", "sync.runtime_SemacquireWaitGroup"], unfollowed := true, recurses := true, plainKeys := false, leaving := true, apart := false, narrowed := true }
def RuleCoverUptoSaid : Prop := ruleCoverUptoRow.holds Tryz.pinned (OpenSpec.upto ruleCoverSpec)

/-- 'maculaturelaw02.RuleLies', WHERE WHAT IT READS IS OF BULK AT MOST 1048576: true; the input reads as it did. -/
def ruleLiesUptoRow : OpenClaim := { program := "ytlminnpaeaganaagreat", sum := "9d9b1a932a8626fc01e99a3c739d8863549b3d7eb55abff1d2ef8065a14186eb", func := "maculature/maculaturelaw02.RuleLies", spec := "ruleLies", unfollowed := true, recurses := true, plainKeys := false, leaving := true, apart := false, narrowed := true }
def RuleLiesUptoSaid : Prop := ruleLiesUptoRow.holds Tryz.pinned (OpenSpec.upto ruleLiesSpec)

/-- 'maculaturelaw02.RuleBeside', WHERE WHAT IT READS IS OF BULK AT MOST 1048576: true; the input reads as it did. -/
def ruleBesideUptoRow : OpenClaim := { program := "ytlminnpaeaganaagreat", sum := "9d9b1a932a8626fc01e99a3c739d8863549b3d7eb55abff1d2ef8065a14186eb", func := "maculature/maculaturelaw02.RuleBeside", spec := "ruleBeside", inPlace := ["(*sync.WaitGroup).Add", "internal/race.ReleaseMerge", "internal/race.Disable", "internal/race.Enable", "internal/synctest.IsInBubble", "internal/synctest.Associate[sync.WaitGroup]", "sync.fatal", "sync/atomic.OrUint64", "sync/atomic.AddUint64", "internal/race.Read", "sync/atomic.LoadUint64", "sync/atomic.StoreUint64", "internal/synctest.Disassociate[sync.WaitGroup]", "sync.runtime_Semrelease", "(*sync.WaitGroup).Done", "(*sync.WaitGroup).Wait", "internal/race.Acquire", "internal/synctest.IsAssociated[sync.WaitGroup]", "sync/atomic.CompareAndSwapUint64", "internal/race.Write", "sync.runtime_SemacquireWaitGroup"], unfollowed := true, recurses := true, plainKeys := false, leaving := true, apart := false, narrowed := true }
def RuleBesideUptoSaid : Prop := ruleBesideUptoRow.holds Tryz.pinned (OpenSpec.upto ruleBesideSpec)

/-- 'maculaturelaw02.RuleKnown', WHERE WHAT IT READS IS OF BULK AT MOST 1048576: true; the input reads as it did. -/
def ruleKnownUptoRow : OpenClaim := { program := "ytlminnpaeaganaagreat", sum := "9d9b1a932a8626fc01e99a3c739d8863549b3d7eb55abff1d2ef8065a14186eb", func := "maculature/maculaturelaw02.RuleKnown", spec := "ruleKnown", inPlace := ["(*sync.WaitGroup).Add", "internal/race.ReleaseMerge", "internal/race.Disable", "internal/race.Enable", "internal/synctest.IsInBubble", "internal/synctest.Associate[sync.WaitGroup]", "sync.fatal", "sync/atomic.OrUint64", "sync/atomic.AddUint64", "internal/race.Read", "sync/atomic.LoadUint64", "sync/atomic.StoreUint64", "internal/synctest.Disassociate[sync.WaitGroup]", "sync.runtime_Semrelease", "(*sync.WaitGroup).Done", "(*sync.WaitGroup).Wait", "internal/race.Acquire", "internal/synctest.IsAssociated[sync.WaitGroup]", "sync/atomic.CompareAndSwapUint64", "internal/race.Write", "sync.runtime_SemacquireWaitGroup"], unfollowed := true, recurses := true, plainKeys := false, leaving := true, apart := false, narrowed := true }
def RuleKnownUptoSaid : Prop := ruleKnownUptoRow.holds Tryz.pinned (OpenSpec.upto ruleKnownSpec)

end Rows
end Go.Proofs.YtlminnpaeaganaaGreat
