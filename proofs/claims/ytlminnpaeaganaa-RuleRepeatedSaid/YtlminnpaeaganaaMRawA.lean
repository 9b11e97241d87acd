/- Plain laws. No condition. -/
import Derived.Test.YtlminnpaeaganaaMRawS
import Derived.Test.YtlminnpaeaganaaMWp
namespace Go.Proofs.Ytlminnpaeaganaa
open Go Go.RowKit
set_option linter.unusedVariables false
set_option linter.unusedSimpArgs false
set_option maxRecDepth 100000
def PL (x : PV) (l : List Pc) : Prop := (x = .snil ∧ l = []) ∨ ∃ off, x = .sl none 5 off l.length (pcells l)
theorem pcells_plainR {l : List Pc} (h : ∀ p ∈ l, IL p.gp p.g) : plainC (pcells l) = true := by
  induction l with
  | nil => rfl
  | cons p l ih =>
    have : pcells (p :: l) = p.cells ++ pcells l := by simp [pcells]
    rw [this]
    simp [Pc.cells, (h p (by simp)).plain, ih fun x hx => h x (by simp [hx])]
theorem PL.plain {x : PV} {l : List Pc} (h : PL x l) (hl : ∀ p ∈ l, IL p.gp p.g) : x.plain = true ∧ x.one = true := by
  rcases h with ⟨rfl, _⟩ | ⟨off, rfl⟩
  · simp
  · simp [pcells_plainR hl]
theorem PL.len {x : PV} {l : List Pc} (h : PL x l) : aLen Try.prog 29 x = some (iv l.length) := by
  obtain ⟨e, he⟩ := un29
  rcases h with ⟨rfl, rfl⟩ | ⟨off, rfl⟩ <;> simp [aLen, he]
theorem rcells_plainR {l : List Rg} (h : ∀ r ∈ l, IL r.sp r.st) : plainC (rcells l) = true := by
  induction l with
  | nil => rfl
  | cons r l ih => simp [Rg.cells, (h r (by simp)).plain, ih fun x hx => h x (by simp [hx])]
theorem RL.plainR {x : PV} {l : List Rg} (h : RL x l) (hl : ∀ r ∈ l, IL r.sp r.st) : x.plain = true ∧ x.one = true := by
  rcases h with ⟨rfl, _⟩ | ⟨off, rfl⟩
  · simp
  · simp [rcells_plainR hl]
theorem gmR {l : List Rg} {i : Nat} (h : i < l.length) : l.getD i default ∈ l := by simp [List.getD_eq_getElem?_getD, h]
section
variable {C : Orc → FuncId → List PV → Option PV} {n : Nat} {R : Out → Prop} {d : Nat} {st : List PV} {t : Tree}
end
structure RawH (lp : PV) (l : List Rg) : Prop where
  rl : RL lp l
  rd : ∀ r ∈ l, IL r.sp r.st
  len : l.length ≤ 20
  sh : ∀ r ∈ l, r.st.length ≤ 20
theorem RawH.plain {lp : PV} {l : List Rg} (h : RawH lp l) : lp.plain = true ∧ lp.one = true := h.rl.plainR h.rd
structure RawP (p : Pc) : Prop where
  il : IL p.gp p.g
  len : p.g.length ≤ 20
theorem Hand.raw {slip : Int} {lp : PV} {l : List Rg} (h : Hand slip lp l) : RawH lp l := ⟨h.rl, fun r hr => (h.ok r hr).il, by have := h.l1; omega, fun r hr => by have := (h.ok r hr).l2; omega⟩
theorem Pc.ok.raw {p : Pc} (h : p.ok) : RawP p := ⟨h.il, by have := h.gl; omega⟩
theorem ev64R (k : Nat) {r : Rg} (h : IL r.sp r.st) (hl : r.st.length ≤ 20) : Ev (k + 2) 64 [.agg r.cells] fun v => v = .agg (dupR r).cells := by
  refine rn_of (t := t64) rfl (fn := Try.f64) (by kernel_rfl) (by simp [fitArgs, flagsOf, Rg.cells, h.plain]) ?_
  have hpl := ints_plain r.st
  refine wp_agg (by simp only [tv, tp, tn, PE.dn, SE.dn, dnL, nth, projV, List.getD_cons_succ, List.getD_cons_zero, Rg.cells, Pc.cells]; rfl) rfl ?_
  refine wp_callE (ev56 k h (by omega)) rfl ?_
  first
  | (refine wp_one (by simp only [tv, tp, tn, PE.dn, SE.dn, dnL, nth, projV, List.getD_cons_succ, List.getD_cons_zero, Rg.cells, Pc.cells]; rfl) rfl ?_
     exact wp_ret rfl (by simp [PE.dn, SE.dn, dnL, nth, tv, tp, projV, hpl]) rfl)
  | (refine wp (.agg (r.st.map iv)) (by simp [Prim.rn, contV, tv, PE.dn, SE.dn, nth]) ?_
     refine wp (.bool false) rfl ?_
     refine wp (.sl none 1 0 r.st.length (r.st.map iv)) (by simp [Prim.rn, frzV, isNil, tv, PE.dn, SE.dn, nth, pushL]) ?_
     exact wp_ret rfl (by simp [PE.dn, SE.dn, dnL, nth, tv, tp, projV, hpl]) rfl)
theorem rawDup {l : List Rg} : ∀ r ∈ l.map dupR, IL r.sp r.st := fun r hr => by
  obtain ⟨r', hr', rfl⟩ := List.mem_map.1 hr
  exact .inr ⟨0, rfl⟩
theorem ev30 (k : Nat) {x y : PV} {l : List Int} (hx : IL x l) (hy : IL y l) (hl : l.length < 4000) : Ev (k + 1) 30 [x, y] fun v => v = .bool true := by
  refine rn_of (t := t30) rfl (fn := Try.f30) (by kernel_rfl) (by simp [fitArgs, flagsOf, hx.plain, hy.plain]) ?_
  try refine rn_norm (by (try simp only [List.length_cons, List.length_nil, Nat.reduceAdd, Nat.zero_add]); rfl) (by (try simp only [pushL]); rfl) ?_
  refine wp_len25 rfl hx ?_
  refine wp_len25 rfl hy ?_
  refine wp_eql rfl rfl ?_
  rw [decide_eq_true rfl]
  refine wp_join (fun vs => vs = [.bool true]) ?_ ?_
  · refine wp_loop (fun j vs => ∃ i : Nat, vs = [.bool true, iv i] ∧ i + j = l.length) l.length (by omega) ⟨0, rfl, by omega⟩ ?_
    rintro j vs ⟨i, rfl, hi⟩
    try refine rn_norm (by (try simp only [List.length_cons, List.length_nil, Nat.reduceAdd, Nat.zero_add]); rfl) (by (try simp only [pushL]); rfl) ?_
    refine wp_join (fun vs => vs = [.bool (decide ((i : Int) < l.length))]) ?_ ?_
    · refine wp_iteT rfl ?_
      refine wp_len25 rfl hx ?_
      refine wp_lss rfl rfl ?_
      exact wp_jump rfl
    rintro vs rfl
    try refine rn_norm (by (try simp only [List.length_cons, List.length_nil, Nat.reduceAdd, Nat.zero_add]); rfl) (by (try simp only [pushL]); rfl) ?_
    refine wp_iteP rfl (fun h => ?_) (fun h => ?_)
    · have ha := rowI hx (n := i) (by omega)
      have hb := rowI hy (n := i) (by omega)
      refine wp _ ha ?_
      refine wp _ hb ?_
      refine wp_eql rfl rfl ?_
      rw [decide_eq_true rfl]
      refine wp_add1 rfl rfl (by omega) ?_
      exact wp_jump ⟨j - 1, by omega, i + 1, rfl, by omega⟩
    · refine wp_jumpO (by decide) ?_
      exact wp_jump rfl
  rintro vs rfl
  exact wp_ret rfl rfl rfl
structure LikeR (a b : List Rg) : Prop where
  len : a.length = b.length
  st : ∀ i, i < a.length → (a.getD i default).st = (b.getD i default).st
  ln : ∀ i, i < a.length → (a.getD i default).lines = (b.getD i default).lines
  wd : ∀ i, i < a.length → (a.getD i default).width = (b.getD i default).width
theorem LikeR.symm {a b : List Rg} (h : LikeR a b) : LikeR b a := ⟨h.len.symm, fun i hi => (h.st i (by rw [h.len]; exact hi)).symm, fun i hi => (h.ln i (by rw [h.len]; exact hi)).symm, fun i hi => (h.wd i (by rw [h.len]; exact hi)).symm⟩
end Go.Proofs.Ytlminnpaeaganaa
namespace Go.Proofs.Ytlminnpaeaganaa
open Go Go.RowKit
set_option linter.unusedVariables false
set_option linter.unusedSimpArgs false
set_option maxRecDepth 100000
def gapsOk (l : List Int) (lo hi : Int) : Prop := ∀ x ∈ l, lo ≤ x ∧ x ≤ hi
instance (l : List Int) (lo hi : Int) : Decidable (gapsOk l lo hi) := inferInstanceAs (Decidable (∀ x ∈ l, lo ≤ x ∧ x ≤ hi))
def erg (r : Rg) : Int := if r.st.length = 0 then 7 else if 3 < r.st.length then 6 else if gapsOk r.st 2 20 then (if (2 ≤ r.lines ∧ r.lines ≤ 12) ∧ 1 ≤ r.width ∧ r.width ≤ 60 then 0 else 1) else 1
def erl : List Rg → Int
  | [] => 0
  | r :: l => if erg r ≠ 0 then erg r else erl l
def ehd (slip : Int) (l : List Rg) : Int := if 0 ≤ slip ∧ slip ≤ 3 then (if l.length = 0 then 7 else if 4 < l.length then 6 else erl l) else 1
def epc (p : Pc) : Int := if 5 < p.g.length then 6 else if gapsOk p.g 1 30 then (if (0 ≤ p.up ∧ p.up ≤ 30) ∧ (0 ≤ p.dn ∧ p.dn ≤ 30) ∧ 0 ≤ p.wd ∧ p.wd ≤ 60 then 0 else 1) else 1
def erp : List Pc → Int
  | [] => 0
  | p :: l => if epc p ≠ 0 then epc p else erp l
def eop (slip : Int) (l : List Rg) (ns : List Int) (ps : List Pc) : Int := if ehd slip l ≠ 0 then ehd slip l else if gapsOk ns 0 (l.length - 1) then erp ps else 3
end Go.Proofs.Ytlminnpaeaganaa
namespace Go.Proofs.Ytlminnpaeaganaa
open Go Go.RowKit
set_option linter.unusedVariables false
set_option linter.unusedSimpArgs false
set_option maxRecDepth 100000
def Opened (slip : Int) (lp : PV) (e : Int) (v : PV) : Prop := ∃ a b, v = .tup [.agg [a, b], iv e] ∧ (e = 0 → a = iv slip ∧ b = lp) ∧ plainC [a, b] = true
def epkA (l : List Int) (i : Nat) : Int := if 0 ≤ l.getD i 0 ∧ l.getD i 0 ≤ 300 then (if 0 < i ∧ l.getD i 0 ≤ l.getD (i - 1) 0 then 5 else 0) else 1
def epkL (l : List Int) : Nat → Int
  | 0 => 0
  | n + 1 => if epkL l n ≠ 0 then epkL l n else epkA l n
def epk (l : List Int) : Int := if 16 < l.length then 6 else epkL l l.length
def eho (slip : Int) (l : List Rg) (n : Int) (ps : List Int) : Int := if eop slip l [n] [] ≠ 0 then eop slip l [n] [] else epk ps
end Go.Proofs.Ytlminnpaeaganaa
namespace Go.Proofs.Ytlminnpaeaganaa
open Go Go.RowKit
set_option linter.unusedVariables false
set_option linter.unusedSimpArgs false
set_option maxRecDepth 100000
end Go.Proofs.Ytlminnpaeaganaa
namespace Go.Proofs.Ytlminnpaeaganaa
open Go Go.RowKit
set_option linter.unusedVariables false
set_option linter.unusedSimpArgs false
set_option maxRecDepth 100000
theorem c3 : Try.prog.cellsOf 3 = 1 := by kernel_rfl
end Go.Proofs.Ytlminnpaeaganaa
