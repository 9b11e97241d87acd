/- Plain laws. No condition. -/
import Derived.Test.YtlminnpaeaganaaMPlainB
namespace Go.Proofs.Ytlminnpaeaganaa
open Go Go.RowKit
set_option linter.unusedVariables false
set_option linter.unusedSimpArgs false
set_option maxRecDepth 100000
end Go.Proofs.Ytlminnpaeaganaa
namespace Go.Proofs.Ytlminnpaeaganaa
open Go Go.RowKit
set_option linter.unusedVariables false
set_option linter.unusedSimpArgs false
set_option maxRecDepth 100000
end Go.Proofs.Ytlminnpaeaganaa
namespace Go.Proofs.Ytlminnpaeaganaa
open Go Go.RowKit
set_option linter.unusedVariables false
set_option linter.unusedSimpArgs false
set_option maxRecDepth 100000
def anyB (slip : Int) (r : Rg) (p : Pc) : Bool := decide (0 < (spots slip r p).length)
end Go.Proofs.Ytlminnpaeaganaa
namespace Go.Proofs.Ytlminnpaeaganaa
open Go Go.RowKit
set_option linter.unusedVariables false
set_option linter.unusedSimpArgs false
set_option maxRecDepth 100000
def stl (r : Rg) (n a : Nat) : List Int := (List.range n).map fun k => stp r (a + k)
def pcOf (r : Rg) (n a : Nat) : Pc := ⟨ilOf (stl r n a), stl r n a, 0, 0, 0, false⟩
def Told (slip : Int) (ra rb : Rg) (e g at_ : Int) : Prop :=
  (e = 0 ∧ ∃ n a : Nat, g = n ∧ at_ = a ∧ n ≤ 5 ∧ ((a + n : Nat) : Int) ≤ ra.lines - 1 ∧ anyB slip rb (pcOf ra n a) = false ∧ ∀ n' a' : Nat, n' < n ∨ (n' = n ∧ a' < a) → ((a' + n' : Nat) : Int) ≤ ra.lines - 1 → anyB slip rb (pcOf ra n' a') = true) ∨
  (e = 11 ∧ g = 0 ∧ at_ = 0 ∧ ∀ n' a' : Nat, n' ≤ 5 → ((a' + n' : Nat) : Int) ≤ ra.lines - 1 → anyB slip rb (pcOf ra n' a') = true)
end Go.Proofs.Ytlminnpaeaganaa
namespace Go.Proofs.Ytlminnpaeaganaa
open Go Go.RowKit
set_option linter.unusedVariables false
set_option linter.unusedSimpArgs false
set_option maxRecDepth 100000
def dupR (r : Rg) : Rg := ⟨.sl none 1 0 r.st.length (r.st.map iv), r.st, r.lines, r.width⟩
theorem dupR_ok {r : Rg} (h : r.ok) : (dupR r).ok := ⟨.inr ⟨0, rfl⟩, h.l1, h.l2, h.st, h.n1, h.n2, h.w1, h.w2⟩
def Needs (r : Rg) (p : Pc) (e m : Int) : Prop :=
  (e = 0 ∧ ∃ n : Nat, m = n ∧ n ≤ 3 ∧ anyB n r p = true ∧ ∀ n' : Nat, n' < n → anyB n' r p = false) ∨
  (e = 11 ∧ m = 0 ∧ ∀ n' : Nat, n' ≤ 3 → anyB n' r p = false)
end Go.Proofs.Ytlminnpaeaganaa
