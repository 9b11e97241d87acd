/- Plain laws of rulings. No condition. -/
import Derived.Test.YtlminnpaeaganaaMPlainB
namespace Go.Proofs.Ytlminnpaeaganaa
open Go Go.RowKit
set_option linter.unusedVariables false
set_option linter.unusedSimpArgs false
set_option maxRecDepth 100000
def above (p : Pc) (t : Bool) : Int := if t then p.dn else p.up
def below (p : Pc) (t : Bool) : Int := if t then p.up else p.dn
def lostOf (slip : Int) (r : Rg) (a b : Pc) (x y : Nat × Bool) : List Int := if y.1 ≤ x.1 + a.g.length then [] else if below a x.2 + above b y.2 - 2 * slip ≤ ht r y.1 - ht r (x.1 + a.g.length) then [(y.1 : Int) - (x.1 + a.g.length : Nat) - 1] else []
def lostY (slip : Int) (r : Rg) (a b : Pc) (x : Nat × Bool) (ys : List (Nat × Bool)) : List Int := ys.flatMap (lostOf slip r a b x)
def lostX (slip : Int) (r : Rg) (a b : Pc) (xs ys : List (Nat × Bool)) : List Int := xs.flatMap fun x => lostY slip r a b x ys
def lostR (slip : Int) (a b : Pc) (l : List Rg) : List Int := l.flatMap fun r => lostX slip r a b (spots slip r a) (spots slip r b)
theorem take_one {α : Type} [Inhabited α] {l : List α} {i : Nat} (h : i < l.length) : l.take (i + 1) = l.take i ++ [l.getD i default] := by
  rw [List.take_add_one]
  simp [List.getD_eq_getElem?_getD, h]
end Go.Proofs.Ytlminnpaeaganaa
