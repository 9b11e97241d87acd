/- Plain laws. No condition. -/
import Derived.Test.YtlminnpaeaganaaMRawA
namespace Go.Proofs.Ytlminnpaeaganaa
open Go Go.RowKit
set_option linter.unusedVariables false
set_option linter.unusedSimpArgs false
set_option maxRecDepth 100000
abbrev bl (l : List Bool) : List PV := l.map PV.bool
def BL (x : PV) (l : List Bool) : Prop := (x = .snil ∧ l = []) ∨ ∃ off, x = .sl none 1 off l.length (bl l)
theorem bl_plain (l : List Bool) : plainC (bl l) = true := by
  induction l with
  | nil => rfl
  | cons a l ih => simp [bl, plainC, PV.plain]; exact ih
theorem BL.plain {x : PV} {l : List Bool} (h : BL x l) : x.plain = true ∧ x.one = true := by
  rcases h with ⟨rfl, _⟩ | ⟨off, rfl⟩
  · exact ⟨rfl, rfl⟩
  · exact ⟨by simp only [PV.plain]; exact bl_plain l, rfl⟩
theorem unBL : Try.prog.underlying 105 = some (.slice 4) := by kernel_rfl
theorem BL.len {x : PV} {l : List Bool} (h : BL x l) : aLen Try.prog 105 x = some (iv l.length) := by
  rcases h with ⟨rfl, rfl⟩ | ⟨off, rfl⟩ <;> simp [aLen, unBL]
def blOf (l : List Bool) : PV := match l with
  | [] => .snil
  | a :: l => .sl none 1 0 (l.length + 1) (bl (a :: l))
section
variable {C : Orc → FuncId → List PV → Option PV} {n : Nat} {R : Out → Prop} {d : Nat} {st : List PV} {t : Tree}
end
def gsF (slip : Int) (r : Rg) (p : Pc) (line : Nat) (fl : List Bool) : Bool := (List.range p.g.length).all fun k => fl.getD k false || nr slip (p.g.getD k 0) (stp r (line + k))
def sitF (slip : Int) (r : Rg) (p : Pc) (line : Nat) (fl : List Bool) : Bool := decide (((line + p.g.length : Nat) : Int) ≤ r.lines - 1) && (gsF slip r p line fl && (!(upB slip r p line || dnB slip r p line) && wdB slip r p))
def sptF (slip : Int) (r : Rg) (p : Pc) (fl : List Bool) (t : Bool) : Nat → List (Nat × Bool)
  | 0 => []
  | n + 1 => sptF slip r p fl t n ++ if sitF slip r p n fl = true then [(n, t)] else []
def spotsF (slip : Int) (r : Rg) (p : Pc) (fl : List Bool) : List (Nat × Bool) := sptF slip r p fl false r.lines.toNat ++ if p.fr then sptF slip r (half p) fl.reverse true r.lines.toNat else []
end Go.Proofs.Ytlminnpaeaganaa
namespace Go.Proofs.Ytlminnpaeaganaa
open Go Go.RowKit
set_option linter.unusedVariables false
set_option linter.unusedSimpArgs false
set_option maxRecDepth 100000
def htlR (slip : Int) (l : List Rg) (n : Int) : List Int := if eop slip l [n] [] = 0 then htl (l.getD n.toNat default) (l.getD n.toNat default).lines.toNat else []
def spotsR (slip : Int) (l : List Rg) (n : Int) (p : Pc) : List (Nat × Bool) := if eop slip l [n] [p] = 0 then spots slip (l.getD n.toNat default) p else []
def dupP (p : Pc) : Pc := ⟨.sl none 1 0 p.g.length (p.g.map iv), p.g, p.up, p.dn, p.wd, p.fr⟩
end Go.Proofs.Ytlminnpaeaganaa
