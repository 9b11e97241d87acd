/- Plain laws. No condition. -/
import Derived.Test.YtlminnpaeaganaaGreatMRawA
namespace Go.Proofs.YtlminnpaeaganaaGreat
open Go Go.RowKit
set_option linter.unusedVariables false
set_option linter.unusedSimpArgs false
set_option maxRecDepth 100000
/-! ### Lists of bools -/
abbrev bl (l : List Bool) : List PV := l.map PV.bool
def BL (x : PV) (l : List Bool) : Prop := (x = .snil ∧ l = []) ∨ ∃ off, x = .sl none 1 off l.length (bl l)
theorem bl_plain (l : List Bool) : plainC (bl l) = true := by
  induction l with
  | nil => rfl
  | cons a l ih => simp [bl, plainC, PV.plain]; exact ih
theorem BL.plain {x : PV} {l : List Bool} (h : BL x l) : x.plain = true ∧ x.one = true := by
  rcases h with ⟨rfl, _⟩ | ⟨off, rfl⟩
  · exact ⟨rfl, rfl⟩
  · exact ⟨by simp only [PV.plain]; exact bl_plain l, rfl⟩
theorem unBL : Tryz.prog.underlying 119 = some (.slice 4) := by kernel_rfl
theorem BL.len {x : PV} {l : List Bool} (h : BL x l) : aLen Tryz.prog 119 x = some (iv l.length) := by
  rcases h with ⟨rfl, rfl⟩ | ⟨off, rfl⟩ <;> simp [aLen, unBL]
theorem rowB1 {x : PV} {l : List Bool} (h : BL x l) {n : Nat} (hn : n < l.length) : rowV 1 x (iv n) = some (.agg [.bool (l.getD n false)]) := by
  rcases h with ⟨rfl, rfl⟩ | ⟨off, rfl⟩
  · simp at hn
  · have e : ((bl l).drop (n * 1)).take 1 = [.bool (l.getD n false)] := by
      rw [Nat.mul_one, List.drop_eq_getElem_cons (by simpa using hn)]
      simp [List.getD_eq_getElem?_getD, hn]
    simp only [rowV, Int.toNat_natCast]
    rw [if_pos ⟨by omega, by omega, trivial, by rw [e]; rfl⟩, e]
def blOf (l : List Bool) : PV := match l with
  | [] => .snil
  | a :: l => .sl none 1 0 (l.length + 1) (bl (a :: l))
theorem bl_of (l : List Bool) : BL (blOf l) l := by
  cases l with
  | nil => exact .inl ⟨rfl, rfl⟩
  | cons a l => exact .inr ⟨0, rfl⟩
section
variable {C : Orc → FuncId → List PV → Option PV} {n : Nat} {R : Out → Prop} {d : Nat} {st : List PV} {t : Tree}
theorem wp_len105 {x : PE} {v : PV} {l : List Bool} (hx : x.dn d st = v) (h : BL v l) (k : Rn C n t (d + 1) (iv l.length :: st) R) : Rn C n (.prim (.len 119 x) t) d st R := wp _ (by rw [← h.len, ← hx]; rfl) k
theorem wp_mkB {x : PE} {m : Nat} (hx : x.dn d st = iv m) (hm : m < 1000000) (k : Rn C n t (d + 1) (.agg (bl (List.replicate m false)) :: st) R) : Rn C n (.prim (.mk [.bool false] 1 x) t) d st R := wp _ (by
  have e : ∀ n : Nat, repl [.bool false] n = bl (List.replicate n false) := by
    intro n
    induction n with
    | zero => rfl
    | succ n ih => rw [repl, ih, List.replicate_succ]; rfl
  simp only [Prim.rn, hx, mkV, e, Int.toNat_natCast]
  rw [if_pos (by omega)]) k
theorem wp_frzBR {c : SE} {l : List Bool} (hc : c.dn d st = .agg (bl l)) (k : Rn C n t (d + 1) (.sl none 1 0 l.length (bl l) :: st) R) : Rn C n (.prim (.frz 1 .real c) t) d st R := wp _ (by simp [Prim.rn, hc, frzV, isNil]) k
theorem wp_frzBN {c : SE} {l : List Bool} (hc : c.dn d st = .agg (bl l)) (k : Rn C n t (d + 1) (blOf l :: st) R) : Rn C n (.prim (.frz 1 .nil0 c) t) d st R := wp _ (by
  cases l with
  | nil => simp [Prim.rn, hc, frzV, isNil, blOf]
  | cons a l => simp [Prim.rn, hc, frzV, isNil, blOf]) k
theorem wp_pushB {c : SE} {y : PE} {l : List Bool} {a : Bool} (hc : c.dn d st = .agg (bl l)) (hy : y.dn d st = .sl none 1 0 1 [.bool a]) (hl : l.length < 1000000) (k : Rn C n t (d + 1) (.agg (bl (l ++ [a])) :: st) R) : Rn C n (.prim (.push 1 1 c y) t) d st R := wp _ (by
  simp [Prim.rn, hc, hy]
  omega) k
end
/-! ### Where a piece fits -/
def gsF (slip : Int) (r : Rg) (p : Pc) (line : Nat) (fl : List Bool) : Bool := (List.range p.g.length).all fun k => fl.getD k false || nr slip (p.g.getD k 0) (stp r (line + k))
def sitF (slip : Int) (r : Rg) (p : Pc) (line : Nat) (fl : List Bool) : Bool := decide (((line + p.g.length : Nat) : Int) ≤ r.lines - 1) && (gsF slip r p line fl && (!(upB slip r p line || dnB slip r p line) && wdB slip r p))
theorem sitF_sure {slip : Int} {r : Rg} {p : Pc} {line n : Nat} : sitF slip r p line (List.replicate n false) = sitB slip r p line := by
  have e : ∀ k, (List.replicate n false).getD k false = false := fun k => by
    simp only [List.getD_eq_getElem?_getD, List.getElem?_replicate]
    split <;> rfl
  have h : gsF slip r p line (List.replicate n false) = gsB slip r p line := by
    unfold gsF gsB
    congr 1
    funext k
    rw [e]; rfl
  unfold sitF sitB
  rw [h]
theorem upB_eq {slip : Int} {r : Rg} {p : Pc} {line : Nat} : upB slip r p line = decide (0 < line ∧ stp r (line - 1) ≤ p.up - slip) := by
  unfold upB fa
  by_cases h1 : 0 < line <;> by_cases h2 : p.up - slip < stp r (line - 1)
  · have : ¬ stp r (line - 1) ≤ p.up - slip := by omega
    simp [h1, h2, this]
  · have : stp r (line - 1) ≤ p.up - slip := by omega
    simp [h1, h2, this]
  · simp [h1]
  · simp [h1]
theorem dnB_eq {slip : Int} {r : Rg} {p : Pc} {line : Nat} : dnB slip r p line = decide (((line + p.g.length : Nat) : Int) < r.lines - 1 ∧ stp r (line + p.g.length) ≤ p.dn - slip) := by
  unfold dnB fa
  by_cases h1 : ((line + p.g.length : Nat) : Int) < r.lines - 1 <;> by_cases h2 : p.dn - slip < stp r (line + p.g.length)
  · have : ¬ stp r (line + p.g.length) ≤ p.dn - slip := by omega
    rw [decide_eq_true h1, decide_eq_true h2, decide_eq_false (fun h => this h.2)]; rfl
  · have : stp r (line + p.g.length) ≤ p.dn - slip := by omega
    rw [decide_eq_true h1, decide_eq_false h2, decide_eq_true ⟨h1, this⟩]; rfl
  · have h3 : ¬ (((line + p.g.length : Nat) : Int) < r.lines - 1 ∧ stp r (line + p.g.length) ≤ p.dn - slip) := fun h => h1 h.1
    rw [decide_eq_false h1, decide_eq_false h3]; rfl
  · have h3 : ¬ (((line + p.g.length : Nat) : Int) < r.lines - 1 ∧ stp r (line + p.g.length) ≤ p.dn - slip) := fun h => h1 h.1
    rw [decide_eq_false h1, decide_eq_false h3]; rfl
theorem nr_eq {slip a b : Int} : nr slip a b = decide (a - b ≤ slip ∧ b - a ≤ slip) := by simp [nr]
theorem ev101 (k : Nat) {slip : Int} (h0 : 0 ≤ slip) (h1 : slip ≤ 3) {r : Rg} (hr : r.ok) {p : Pc} (hp : p.ok) {line : Nat} (hl : line < 100) {x : PV} {fl : List Bool} (hx : BL x fl) (hfl : fl.length = p.g.length) : Ev (k + 2) 115 [.agg r.cells, iv slip, .agg p.cells, iv line, x] fun v => v = .bool (sitF slip r p line fl) := by
  refine rn_of (t := t115) rfl (fn := Tryz.f115) (by kernel_rfl) (by simp [fitArgs, flagsOf, Pc.cells, hp.il.plain, Rg.cells, hr.il.plain, hx.plain]) ?_
  have g5 := hp.gl
  have n1 := hr.n1
  have n2 := hr.n2
  have w1 := hr.w1
  have w2 := hr.w2
  have p1 := hp.u0; have p2 := hp.u1; have p3 := hp.d0; have p4 := hp.d1; have p5 := hp.w0; have p6 := hp.w1
  have hst := stp_ok hr
  have hil := hp.il
  refine wp_agg (by simp only [tv, tp, tn, PE.dn, SE.dn, dnL, nth, projV, List.getD_cons_succ, List.getD_cons_zero, Rg.cells, Pc.cells]; rfl) rfl ?_
  refine wp_agg (by simp only [tv, tp, tn, PE.dn, SE.dn, dnL, nth, projV, List.getD_cons_succ, List.getD_cons_zero, Rg.cells, Pc.cells]; rfl) rfl ?_
  refine wp_len25 rfl (by assumption) ?_
  refine wp_addN rfl rfl (by omega) ?_
  refine wp_join (fun vs => vs = [.bool (decide (r.lines - 1 < ((line + p.g.length : Nat) : Int)))]) ?_ ?_
  · refine wp_lss rfl rfl ?_
    refine wp_itePF rfl (by omega) ?_
    refine wp_sub rfl rfl (by omega) (by omega) ?_
    refine wp_gtr rfl rfl ?_
    exact wp_jump rfl
  rintro vs rfl
  try refine rn_norm (by (try simp only [List.length_cons, List.length_nil, Nat.reduceAdd, Nat.zero_add]); rfl) (by (try simp only [pushL]); rfl) ?_
  refine wp_iteP rfl (fun h2 => ?_) (fun h2 => ?_)
  · refine wp_ret rfl rfl ?_
    have h3 : ¬ (((line + p.g.length : Nat) : Int) ≤ r.lines - 1) := by omega
    unfold sitF
    rw [decide_eq_false h3]; rfl
  have hd : decide (((line + p.g.length : Nat) : Int) ≤ r.lines - 1) = true := decide_eq_true (by omega)
  refine wp_join (fun vs => vs = [] ∧ gsF slip r p line fl = true) ?_ ?_
  · refine wp_loop (fun j vs => ∃ i : Nat, vs = [iv i] ∧ i + j = p.g.length ∧ ∀ k, k < i → (fl.getD k false || nr slip (p.g.getD k 0) (stp r (line + k))) = true) p.g.length (by omega) ⟨0, rfl, by omega, fun k hk => by omega⟩ ?_
    rintro j vs ⟨i, rfl, hi, hb⟩
    refine wp_len25 rfl (by assumption) ?_
    refine wp_lss rfl rfl ?_
    refine wp_iteP rfl (fun h3 => ?_) (fun h3 => ?_)
    · have hlt : i < p.g.length := by omega
      have hg := hp.get hlt
      have hs := hst (line + i)
      have hrg := rowI hil hlt
      have hbad : (fl.getD i false || nr slip (p.g.getD i 0) (stp r (line + i))) = false → gsF slip r p line fl = false := fun h => Bool.eq_false_iff.2 fun hc => by
        have := List.all_eq_true.1 hc i (by simpa using hlt)
        rw [h] at this; cases this
      have hst : (fl.getD i false || nr slip (p.g.getD i 0) (stp r (line + i))) = true → ∀ k, k < i + 1 → (fl.getD k false || nr slip (p.g.getD k 0) (stp r (line + k))) = true := fun h k hk => by
        by_cases e : k = i
        · subst e; exact h
        · exact hb k (by omega)
      generalize p.g.getD i 0 = a at hg hrg hbad hst
      clear hil
      refine wp_join (fun vs => vs = [.bool (!(fl.getD i false || nr slip a (stp r (line + i))))]) ?_ ?_
      · refine wp _ (rowB1 hx (by omega)) ?_
        refine wp_not rfl ?_
        refine wp_iteB rfl (fun h4 => ?_) (fun h4 => ?_)
        · have e : fl.getD i false = false := by simpa using h4
          refine wp _ hrg ?_
          refine wp_addN rfl rfl (by omega) ?_
          refine wp_callE (ev83 (k + 0) hr (line + i)) rfl ?_
          refine wp_callE (ev114 (k + 0) (slip := slip) (m := a) (r := stp r (line + i)) (by omega)) rfl ?_
          refine wp_not rfl ?_
          rw [e, nr_eq, Bool.false_or]
          exact wp_jump rfl
        · have e : fl.getD i false = true := by simpa using h4
          rw [e, Bool.true_or]
          exact wp_jump rfl
      rintro vs rfl
      try refine rn_norm (by (try simp only [List.length_cons, List.length_nil, Nat.reduceAdd, Nat.zero_add]); rfl) (by (try simp only [pushL]); rfl) ?_
      refine wp_iteB rfl (fun h4 => ?_) (fun h4 => ?_)
      · refine wp_retO ?_
        refine wp_retO ?_
        refine wp_ret rfl rfl ?_
        unfold sitF
        rw [hd, hbad (by cases hv : (fl.getD i false || nr slip a (stp r (line + i))) with | false => rfl | true => rw [hv] at h4; cases h4)]; rfl
      · refine wp_add1 rfl rfl (by omega) ?_
        exact wp_jump ⟨j - 1, by omega, i + 1, rfl, by omega, hst (by cases hv : (fl.getD i false || nr slip a (stp r (line + i))) with | true => rfl | false => rw [hv] at h4; cases h4)⟩
    · refine wp_jumpO (by decide) ?_
      exact wp_jump ⟨rfl, List.all_eq_true.2 fun k hk => hb k (by simp at hk; omega)⟩
  rintro vs ⟨rfl, hgs⟩
  try refine rn_norm (by (try simp only [List.length_cons, List.length_nil, Nat.reduceAdd, Nat.zero_add]); rfl) (by (try simp only [pushL]); rfl) ?_
  refine wp_join (fun vs => vs = [.bool (decide (0 < line ∧ stp r (line - 1) ≤ p.up - slip))]) ?_ ?_
  · refine wp_gtr rfl rfl ?_
    refine wp_iteP rfl (fun h3 => ?_) (fun h3 => ?_)
    · refine wp_sub1 rfl rfl (by omega) ?_
      refine wp_callE (ev83 (k + 0) hr (line - 1)) rfl ?_
      refine wp_sub rfl rfl (by omega) (by omega) ?_
      refine wp_leq rfl rfl ?_
      exact wp_jump (jb_eq (by omega))
    · exact wp_jump (jb_fd (by omega))
  rintro vs rfl
  try refine rn_norm (by (try simp only [List.length_cons, List.length_nil, Nat.reduceAdd, Nat.zero_add]); rfl) (by (try simp only [pushL]); rfl) ?_
  refine wp_iteP rfl (fun h3 => ?_) (fun h3 => ?_)
  · refine wp_ret rfl rfl ?_
    unfold sitF
    rw [hd, hgs, upB_eq, decide_eq_true h3]; rfl
  refine wp_join (fun vs => vs = [.bool (decide (((line + p.g.length : Nat) : Int) < r.lines - 1 ∧ stp r (line + p.g.length) ≤ p.dn - slip))]) ?_ ?_
  · refine wp_sub rfl rfl (by omega) (by omega) ?_
    refine wp_lss rfl rfl ?_
    refine wp_iteP rfl (fun h4 => ?_) (fun h4 => ?_)
    · refine wp_callE (ev83 (k + 0) hr (line + p.g.length)) rfl ?_
      refine wp_sub rfl rfl (by omega) (by omega) ?_
      refine wp_leq rfl rfl ?_
      exact wp_jump (jb_eq (by omega))
    · exact wp_jump (jb_fd (by omega))
  rintro vs rfl
  try refine rn_norm (by (try simp only [List.length_cons, List.length_nil, Nat.reduceAdd, Nat.zero_add]); rfl) (by (try simp only [pushL]); rfl) ?_
  refine wp_iteP rfl (fun h4 => ?_) (fun h4 => ?_)
  · refine wp_ret rfl rfl ?_
    unfold sitF
    rw [hd, hgs, upB_eq, dnB_eq, decide_eq_true h4, decide_eq_false h3]; rfl
  refine wp_join (fun vs => vs = [.bool (wdB slip r p)]) ?_ ?_
  · refine wp_eql rfl rfl ?_
    refine wp_iteP rfl (fun h5 => ?_) (fun h5 => ?_)
    · have e : wdB slip r p = true := by unfold wdB; rw [decide_eq_true h5]; rfl
      rw [e]
      exact wp_jump rfl
    · refine wp_callE (ev114 (k + 0) (slip := slip) (m := p.wd) (r := r.width) (by omega)) rfl ?_
      have e : wdB slip r p = nr slip p.wd r.width := by unfold wdB; rw [decide_eq_false h5]; rfl
      rw [e, nr_eq]
      exact wp_jump rfl
  rintro vs rfl
  try refine rn_norm (by (try simp only [List.length_cons, List.length_nil, Nat.reduceAdd, Nat.zero_add]); rfl) (by (try simp only [pushL]); rfl) ?_
  refine wp_ret rfl rfl ?_
  unfold sitF
  rw [hd, hgs, upB_eq, dnB_eq, decide_eq_false h4, decide_eq_false h3]; rfl
/-! ### Turned by half -/
theorem ev102 (k : Nat) {p : Pc} (hp : p.ok) : Ev (k + 1) 116 [.agg p.cells] fun v => v = .agg [ilOf p.g.reverse, iv p.dn, iv p.up, iv p.wd, .bool p.fr] := by
  refine rn_of (t := t116) rfl (fn := Tryz.f116) (by kernel_rfl) (by simp [fitArgs, flagsOf, Pc.cells, hp.il.plain]) ?_
  have g5 := hp.gl
  have hil := hp.il
  refine wp_agg (cs := p.cells) rfl rfl ?_
  refine wp_len25 rfl hil ?_
  refine wp_sub rfl rfl (by omega) (by omega) ?_
  refine wp_join (fun vs => vs = [.agg (p.g.reverse.map iv)]) ?_ ?_
  · refine wp_loop (fun j vs => ∃ L : List Int, vs = [iv ((j : Int) - 1), .agg (L.map iv)] ∧ L.length + j = p.g.length ∧ L = p.g.reverse.take L.length) p.g.length (by omega) ⟨[], rfl, by simp, by simp⟩ ?_
    rintro j vs ⟨L, rfl, hL, hk⟩
    refine wp_geq rfl rfl ?_
    refine wp_iteP rfl (fun h => ?_) (fun h => ?_)
    · obtain ⟨m, rfl⟩ : ∃ m, j = m + 1 := ⟨j - 1, by omega⟩
      have e : ((m + 1 : Nat) : Int) - 1 = (m : Int) := by omega
      rw [e]
      refine wp_row1 (m := m) rfl hil rfl (by omega) ?_
      refine wp_pushI rfl rfl (by decide) (by omega) ?_
      refine wp_sub rfl rfl (by omega) (by omega) ?_
      refine wp_jump ⟨m, by omega, L ++ [p.g.getD m 0], rfl, by simp; omega, ?_⟩
      rw [List.length_append, List.length_singleton, take_oneI (by simp; omega), ← hk]
      congr 2
      simp only [List.getD_eq_getElem?_getD]
      rw [List.getElem?_reverse (by omega)]
      congr 2
      omega
    · refine wp_jumpO (by decide) ?_
      have e : L = p.g.reverse := by rw [hk]; exact List.take_of_length_le (by simp; omega)
      rw [e]
      exact wp_jump rfl
  rintro vs rfl
  try refine rn_norm (by (try simp only [List.length_cons, List.length_nil, Nat.reduceAdd, Nat.zero_add]); rfl) (by (try simp only [pushL]); rfl) ?_
  refine wp_frzN rfl ?_
  have hq := (il_of p.g.reverse).plain
  exact wp_ret (v := .agg [ilOf p.g.reverse, iv p.dn, iv p.up, iv p.wd, .bool p.fr]) rfl (by simp [hq]) rfl
theorem ev103 (k : Nat) {x : PV} {fl : List Bool} (hx : BL x fl) (hl : fl.length ≤ 20) : Ev (k + 1) 117 [x] fun v => v = blOf fl.reverse := by
  refine rn_of (t := t117) rfl (fn := Tryz.f117) (by kernel_rfl) (by simp [fitArgs, flagsOf, hx.plain]) ?_
  refine wp_len105 rfl hx ?_
  refine wp_sub rfl rfl (by omega) (by omega) ?_
  refine wp_join (fun vs => vs = [.agg (bl fl.reverse)]) ?_ ?_
  · refine wp_loop (fun j vs => ∃ L : List Bool, vs = [.agg (bl L), iv ((j : Int) - 1)] ∧ L.length + j = fl.length ∧ L = fl.reverse.take L.length) fl.length (by omega) ⟨[], rfl, by simp, by simp⟩ ?_
    rintro j vs ⟨L, rfl, hL, hk⟩
    refine wp_geq rfl rfl ?_
    refine wp_iteP rfl (fun h => ?_) (fun h => ?_)
    · obtain ⟨m, rfl⟩ : ∃ m, j = m + 1 := ⟨j - 1, by omega⟩
      have e : ((m + 1 : Nat) : Int) - 1 = (m : Int) := by omega
      rw [e]
      refine wp _ (rowB1 (n := m) hx (by omega)) ?_
      refine wp_pushB rfl rfl (by omega) ?_
      refine wp_sub rfl rfl (by omega) (by omega) ?_
      refine wp_jump ⟨m, by omega, L ++ [fl.getD m false], rfl, by simp; omega, ?_⟩
      rw [List.length_append, List.length_singleton, List.take_add_one, ← hk]
      congr 1
      rw [List.getElem?_reverse (by omega), show fl.length - 1 - L.length = m by omega]
      have hm : m < fl.length := by omega
      simp [List.getD_eq_getElem?_getD, hm]
    · refine wp_jumpO (by decide) ?_
      have e : L = fl.reverse := by rw [hk]; exact List.take_of_length_le (by simp; omega)
      rw [e]
      exact wp_jump rfl
  rintro vs rfl
  try refine rn_norm (by (try simp only [List.length_cons, List.length_nil, Nat.reduceAdd, Nat.zero_add]); rfl) (by (try simp only [pushL]); rfl) ?_
  refine wp_frzBN rfl ?_
  exact wp_ret rfl (bl_of fl.reverse).plain.1 rfl
/-! ### All spots -/
def sptF (slip : Int) (r : Rg) (p : Pc) (fl : List Bool) (t : Bool) : Nat → List (Nat × Bool)
  | 0 => []
  | n + 1 => sptF slip r p fl t n ++ if sitF slip r p n fl = true then [(n, t)] else []
def spotsF (slip : Int) (r : Rg) (p : Pc) (fl : List Bool) : List (Nat × Bool) := sptF slip r p fl false r.lines.toNat ++ if p.fr then sptF slip r (half p) fl.reverse true r.lines.toNat else []
theorem sptF_len (slip : Int) (r : Rg) (p : Pc) (fl : List Bool) (t : Bool) (n : Nat) : (sptF slip r p fl t n).length ≤ n := by
  induction n with
  | zero => simp [sptF]
  | succ n ih => simp only [sptF]; split <;> simp <;> omega
theorem sptF_sure {slip : Int} {r : Rg} {p : Pc} {m : Nat} {t : Bool} : ∀ n, sptF slip r p (List.replicate m false) t n = spt slip r p t n
  | 0 => rfl
  | n + 1 => by simp only [sptF, spt, sptF_sure n, sitF_sure]
theorem spotsF_sure {slip : Int} {r : Rg} {p : Pc} {m : Nat} : spotsF slip r p (List.replicate m false) = spots slip r p := by
  unfold spotsF spots
  rw [List.reverse_replicate, sptF_sure, sptF_sure]
theorem ev77 (k : Nat) {slip : Int} (h0 : 0 ≤ slip) (h1 : slip ≤ 3) {r : Rg} (hr : r.ok) {p : Pc} (hp : p.ok) {x : PV} {fl : List Bool} (hx : BL x fl) (hfl : fl.length = p.g.length) : Ev (k + 3) 81 [.agg r.cells, iv slip, .agg p.cells, x] fun v => SL v (spotsF slip r p fl) := by
  refine rn_of (t := t81) rfl (fn := Tryz.f81) (by kernel_rfl) (by simp [fitArgs, flagsOf, Pc.cells, hp.il.plain, Rg.cells, hr.il.plain, hx.plain]) ?_
  have n1 := hr.n1
  have n2 := hr.n2
  have g5 := hp.gl
  refine wp_agg (by simp only [tv, tp, tn, PE.dn, SE.dn, dnL, nth, projV, List.getD_cons_succ, List.getD_cons_zero, Rg.cells, Pc.cells]; rfl) rfl ?_
  refine wp_agg (by simp only [tv, tp, tn, PE.dn, SE.dn, dnL, nth, projV, List.getD_cons_succ, List.getD_cons_zero, Rg.cells, Pc.cells]; rfl) rfl ?_
  refine wp_join (fun vs => vs = [.agg (scells (sptF slip r p fl false r.lines.toNat))]) ?_ ?_
  · refine wp_loop (fun j vs => ∃ i : Nat, vs = [.agg (scells (sptF slip r p fl false i)), iv i] ∧ i + j = r.lines.toNat) r.lines.toNat (by omega) ⟨0, rfl, by omega⟩ ?_
    rintro j vs ⟨i, rfl, hi⟩
    refine wp_lss rfl rfl ?_
    refine wp_iteP rfl (fun h => ?_) (fun h => ?_)
    · have hlen := sptF_len slip r p fl false i
      refine wp_callE (ev101 k h0 h1 hr hp (line := i) (by omega) hx hfl) rfl ?_
      refine wp_join (fun vs => vs = [.agg (scells (sptF slip r p fl false (i + 1)))]) ?_ ?_
      · simp only [sptF]
        refine wp_iteB rfl (fun h3 => ?_) (fun h3 => ?_)
        · rw [if_pos h3]
          refine wp_one (by simp only [tv, tp, tn, PE.dn, SE.dn, dnL, nth, projV, List.getD_cons_succ, List.getD_cons_zero, Rg.cells, Pc.cells]; rfl) rfl ?_
          refine wp_pushS rfl rfl (by first | omega | (simp; omega)) ?_
          exact wp_jump rfl
        · rw [if_neg (by simp [h3]), List.append_nil]
          exact wp_jump rfl
      rintro vs rfl
      refine wp_add1 rfl rfl (by omega) ?_
      exact wp_jump ⟨j - 1, by omega, i + 1, rfl, by omega⟩
    · refine wp_jumpO (by decide) ?_
      have e : r.lines.toNat = i := by omega
      rw [e]
      exact wp_jump rfl
  rintro vs rfl
  try refine rn_norm (by (try simp only [List.length_cons, List.length_nil, Nat.reduceAdd, Nat.zero_add]); rfl) (by (try simp only [pushL]); rfl) ?_
  have hlF := sptF_len slip r p fl false r.lines.toNat
  have hp2 : (Pc.mk (ilOf p.g.reverse) p.g.reverse p.dn p.up p.wd p.fr).ok := ⟨il_of _, by simpa using hp.gl, fun x hx => hp.gs x (by simpa using hx), hp.d0, hp.d1, hp.u0, hp.u1, hp.w0, hp.w1⟩
  have hcong : ∀ i, sitF slip r ⟨ilOf p.g.reverse, p.g.reverse, p.dn, p.up, p.wd, p.fr⟩ i fl.reverse = sitF slip r (half p) i fl.reverse := fun i => rfl
  have hF : spotsF slip r p fl = sptF slip r p fl false r.lines.toNat ++ if p.fr then sptF slip r (half p) fl.reverse true r.lines.toNat else [] := rfl
  rw [hF]
  generalize sptF slip r p fl false r.lines.toNat = F at hlF
  refine wp_loop (fun j vs => ∃ i : Nat, vs = [iv i, .agg (scells (F ++ if p.fr then sptF slip r (half p) fl.reverse true i else []))] ∧ i + j = r.lines.toNat ∧ (p.fr = false → i = 0)) r.lines.toNat (by omega) ⟨0, by cases p.fr <;> simp [sptF] <;> rfl, by omega, fun _ => rfl⟩ ?_
  rintro j vs ⟨i, rfl, hi, hz⟩
  try refine rn_norm (by (try simp only [List.length_cons, List.length_nil, Nat.reduceAdd, Nat.zero_add]); rfl) (by (try simp only [pushL]); rfl) ?_
  refine wp_join (fun vs => vs = [.bool (decide ((i : Int) < r.lines) && p.fr)]) ?_ ?_
  · refine wp_lss rfl rfl ?_
    refine wp_iteP rfl (fun h => ?_) (fun h => ?_)
    · rw [decide_eq_true h, Bool.true_and]
      exact wp_jump rfl
    · rw [decide_eq_false h, Bool.false_and]
      exact wp_jump rfl
  rintro vs rfl
  try refine rn_norm (by (try simp only [List.length_cons, List.length_nil, Nat.reduceAdd, Nat.zero_add]); rfl) (by (try simp only [pushL]); rfl) ?_
  refine wp_iteB rfl (fun h => ?_) (fun h => ?_)
  · simp only [Bool.and_eq_true, decide_eq_true_eq] at h
    obtain ⟨hlt, hfr⟩ := h
    have hlen := sptF_len slip r (half p) fl.reverse true i
    refine wp_callE (ev102 (k + 1) hp) rfl ?_
    refine wp_callE (ev103 (k + 1) hx (by omega)) rfl ?_
    refine wp_callE (ev101 k h0 h1 hr hp2 (line := i) (by omega) (bl_of fl.reverse) (by simpa using hfl)) rfl ?_
    rw [hcong]
    have hstep : (F ++ if p.fr then sptF slip r (half p) fl.reverse true (i + 1) else []) = (F ++ if p.fr then sptF slip r (half p) fl.reverse true i else []) ++ if sitF slip r (half p) i fl.reverse = true then [(i, true)] else [] := by
      rw [if_pos hfr, if_pos hfr, List.append_assoc]; rfl
    have hll : (F ++ if p.fr then sptF slip r (half p) fl.reverse true i else []).length ≤ 24 := by rw [if_pos hfr, List.length_append]; omega
    generalize (F ++ if p.fr then sptF slip r (half p) fl.reverse true i else []) = G at hstep hll
    refine wp_iteB rfl (fun h3 => ?_) (fun h3 => ?_)
    · rw [if_pos (c := sitF slip r (half p) i fl.reverse = true) h3] at hstep
      refine wp_one (by simp only [tv, tp, tn, PE.dn, SE.dn, dnL, nth, projV, List.getD_cons_succ, List.getD_cons_zero, Rg.cells, Pc.cells]; rfl) rfl ?_
      refine wp_pushS rfl rfl (by first | omega | (simp; omega)) ?_
      refine wp_add1 rfl rfl (by omega) ?_
      refine wp_jump ⟨j - 1, by omega, i + 1, ?_, by omega, fun h => by rw [hfr] at h; cases h⟩
      rw [hstep]; rfl
    · rw [if_neg (show ¬ sitF slip r (half p) i fl.reverse = true by rw [h3]; exact Bool.false_ne_true), List.append_nil] at hstep
      refine wp_add1 rfl rfl (by omega) ?_
      refine wp_jump ⟨j - 1, by omega, i + 1, ?_, by omega, fun h => by rw [hfr] at h; cases h⟩
      rw [hstep]; rfl
  · have e : (if p.fr then sptF slip r (half p) fl.reverse true i else []) = if p.fr then sptF slip r (half p) fl.reverse true r.lines.toNat else [] := by
      cases hfr : p.fr with
      | false => rfl
      | true =>
        rw [hfr] at h
        have : ¬ ((i : Int) < r.lines) := by simpa using h
        rw [show i = r.lines.toNat by omega]
    rw [e]
    refine wp_frzS rfl ?_
    refine wp_retO ?_
    exact wp_ret rfl (sl_of _).plain.1 (sl_of _)
theorem ev78 (k : Nat) {p : Pc} (hp : p.ok) : Ev (k + 1) 82 [.agg p.cells] fun v => v = .sl none 1 0 p.g.length (bl (List.replicate p.g.length false)) := by
  refine rn_of (t := t82) rfl (fn := Tryz.f82) (by kernel_rfl) (by simp [fitArgs, flagsOf, Pc.cells, hp.il.plain]) ?_
  have g5 := hp.gl
  refine wp_agg (cs := p.cells) rfl rfl ?_
  refine wp_len25 rfl hp.il ?_
  refine wp_mkB rfl (by omega) ?_
  refine wp_frzBR rfl ?_
  have hq := bl_plain (List.replicate p.g.length false)
  rw [List.length_replicate]
  exact wp_ret (v := .sl none 1 0 p.g.length (bl (List.replicate p.g.length false))) rfl (by simpa using hq) rfl
theorem ev77s (k : Nat) {slip : Int} (h0 : 0 ≤ slip) (h1 : slip ≤ 3) {r : Rg} (hr : r.ok) {p : Pc} (hp : p.ok) : Ev (k + 3) 81 [.agg r.cells, iv slip, .agg p.cells, .sl none 1 0 p.g.length (bl (List.replicate p.g.length false))] fun v => SL v (spots slip r p) := by
  have := ev77 k h0 h1 hr hp (x := .sl none 1 0 p.g.length (bl (List.replicate p.g.length false))) (fl := List.replicate p.g.length false) (.inr ⟨0, by simp⟩) (by simp)
  rwa [spotsF_sure] at this
end Go.Proofs.YtlminnpaeaganaaGreat
namespace Go.Proofs.YtlminnpaeaganaaGreat
open Go Go.RowKit
set_option linter.unusedVariables false
set_option linter.unusedSimpArgs false
set_option maxRecDepth 100000
/-! ### What opens -/
theorem snil1 : IL .snil [] := .inl ⟨rfl, rfl⟩
/-! ### Heights -/
def htlR (slip : Int) (l : List Rg) (n : Int) : List Int := if eop slip l [n] [] = 0 then htl (l.getD n.toNat default) (l.getD n.toNat default).lines.toNat else []
/-! ### Spots -/
def spotsR (slip : Int) (l : List Rg) (n : Int) (p : Pc) : List (Nat × Bool) := if eop slip l [n] [p] = 0 then spots slip (l.getD n.toNat default) p else []
/-! ### Pieces alike -/
def dupP (p : Pc) : Pc := ⟨.sl none 1 0 p.g.length (p.g.map iv), p.g, p.up, p.dn, p.wd, p.fr⟩
theorem RawP.dup {p : Pc} (h : RawP p) : RawP (dupP p) := ⟨.inr ⟨0, rfl⟩, h.len⟩
/-! ### Copies have the same answers -/
theorem erg_dup (r : Rg) : erg (dupR r) = erg r := rfl
theorem erl_dup : ∀ l : List Rg, erl (l.map dupR) = erl l
  | [] => rfl
  | r :: l => by simp only [List.map_cons, erl, erg_dup, erl_dup l]
theorem ehd_dup {slip : Int} {l : List Rg} : ehd slip (l.map dupR) = ehd slip l := by simp only [ehd, List.length_map, erl_dup]
theorem eop_dup {slip : Int} {l : List Rg} {ns : List Int} {ps : List Pc} : eop slip (l.map dupR) ns ps = eop slip l ns ps := by simp only [eop, ehd_dup, List.length_map]
theorem getD_dup {l : List Rg} {i : Nat} (h : i < l.length) : (l.map dupR).getD i default = dupR (l.getD i default) := by simp [List.getD_eq_getElem?_getD, h]
theorem ht_dup (r : Rg) : ∀ i, ht (dupR r) i = ht r i
  | 0 => rfl
  | i + 1 => by simp only [ht, ht_dup r i]; rfl
theorem spt_dupP {slip : Int} {r : Rg} {p : Pc} {t : Bool} : ∀ n, spt slip r (dupP p) t n = spt slip r p t n
  | 0 => rfl
  | n + 1 => by
    unfold spt
    rw [spt_dupP n]
    rfl
theorem spt_dupH {slip : Int} {r : Rg} {p : Pc} {t : Bool} : ∀ n, spt slip r (half (dupP p)) t n = spt slip r (half p) t n
  | 0 => rfl
  | n + 1 => by
    unfold spt
    rw [spt_dupH n]
    rfl
theorem spots_dupP {slip : Int} {r : Rg} {p : Pc} : spots slip r (dupP p) = spots slip r p := by
  unfold spots
  rw [spt_dupP, spt_dupH]
  rfl
end Go.Proofs.YtlminnpaeaganaaGreat
