/- Plain laws. No condition. -/
import Derived.Test.YtlminnpaeaganaaGreatMRawT
import Derived.Test.YtlminnpaeaganaaGreatMWp
namespace Go.Proofs.YtlminnpaeaganaaGreat
open Go Go.RowKit
set_option linter.unusedVariables false
set_option linter.unusedSimpArgs false
set_option maxRecDepth 100000
/-! ### Rules -/
def PL (x : PV) (l : List Pc) : Prop := (x = .snil ∧ l = []) ∨ ∃ off, x = .sl none 5 off l.length (pcells l)
theorem pcells_plainR {l : List Pc} (h : ∀ p ∈ l, IL p.gp p.g) : plainC (pcells l) = true := by
  induction l with
  | nil => rfl
  | cons p l ih =>
    have : pcells (p :: l) = p.cells ++ pcells l := by simp [pcells]
    rw [this]
    simp [Pc.cells, (h p (by simp)).plain, ih fun x hx => h x (by simp [hx])]
theorem PL.plain {x : PV} {l : List Pc} (h : PL x l) (hl : ∀ p ∈ l, IL p.gp p.g) : x.plain = true ∧ x.one = true := by
  rcases h with ⟨rfl, _⟩ | ⟨off, rfl⟩
  · simp
  · simp [pcells_plainR hl]
theorem PL.len {x : PV} {l : List Pc} (h : PL x l) : aLen Tryz.prog 47 x = some (iv l.length) := by
  obtain ⟨e, he⟩ := un29
  rcases h with ⟨rfl, rfl⟩ | ⟨off, rfl⟩ <;> simp [aLen, he]
theorem rowP {x : PV} {l : List Pc} (h : PL x l) {n : Nat} (hn : n < l.length) : rowV 5 x (iv n) = some (.agg (l.getD n default).cells) := by
  rcases h with ⟨rfl, rfl⟩ | ⟨off, rfl⟩
  · simp at hn
  · exact row5 hn
theorem rcells_plainR {l : List Rg} (h : ∀ r ∈ l, IL r.sp r.st) : plainC (rcells l) = true := by
  induction l with
  | nil => rfl
  | cons r l ih => simp [Rg.cells, (h r (by simp)).plain, ih fun x hx => h x (by simp [hx])]
theorem RL.plainR {x : PV} {l : List Rg} (h : RL x l) (hl : ∀ r ∈ l, IL r.sp r.st) : x.plain = true ∧ x.one = true := by
  rcases h with ⟨rfl, _⟩ | ⟨off, rfl⟩
  · simp
  · simp [rcells_plainR hl]
theorem gmR {l : List Rg} {i : Nat} (h : i < l.length) : l.getD i default ∈ l := by simp [List.getD_eq_getElem?_getD, h]
theorem gmP {l : List Pc} {i : Nat} (h : i < l.length) : l.getD i default ∈ l := by simp [List.getD_eq_getElem?_getD, h]
theorem gmI {l : List Int} {i : Nat} (h : i < l.length) : l.getD i 0 ∈ l := by simp [List.getD_eq_getElem?_getD, h]
section
variable {C : Orc → FuncId → List PV → Option PV} {n : Nat} {R : Out → Prop} {d : Nat} {st : List PV} {t : Tree}
theorem wp_notP {x : PE} {p : Prop} [inst : Decidable p] (hx : x.dn d st = .bool (decide p)) (k : Rn C n t (d + 1) (.bool (decide (¬p)) :: st) R) : Rn C n (.prim (.un .not x) t) d st R := by
  refine wp_not hx ?_
  rwa [← decide_not]
theorem wp_len29 {x : PE} {v : PV} {l : List Pc} (hx : x.dn d st = v) (h : PL v l) (k : Rn C n t (d + 1) (iv l.length :: st) R) : Rn C n (.prim (.len 47 x) t) d st R := wp _ (by rw [← h.len, ← hx]; rfl) k
theorem wp_lenc3 {c : SE} {l : List Rg} (hc : c.dn d st = .agg (rcells l)) (k : Rn C n t (d + 1) (iv l.length :: st) R) : Rn C n (.prim (.lenc 3 c) t) d st R := wp _ (by simp [Prim.rn, hc]) k
theorem wp_chk3 {c : SE} {i : PE} {l : List Rg} {m : Nat} (hc : c.dn d st = .agg (rcells l)) (hi : i.dn d st = iv m) (hm : m < l.length) (k : Rn C n t (d + 1) (iv m :: st) R) : Rn C n (.prim (.chk 3 c i) t) d st R := wp _ (by simp [Prim.rn, hc, hi]; omega) k
theorem wp_put3 {c i : SE} {xs : List PE} {l : List Rg} {m : Nat} {r : Rg} (hc : c.dn d st = .agg (rcells l)) (hi : i.dn d st = iv m) (hx : dnL d st xs = r.cells) (hm : m < l.length) (k : Rn C n t (d + 1) (.agg (rcells (l.set m r)) :: st) R) : Rn C n (.prim (.put 3 0 c i xs) t) d st R := wp _ (by simp only [Prim.rn, hc, hi, hx]; exact put_rg hm) k
theorem wp_mk3 {x : PE} {m : Nat} (hx : x.dn d st = iv m) (hm : m < 1000000) (k : Rn C n t (d + 1) (.agg (rcells (List.replicate m default)) :: st) R) : Rn C n (.prim (.mk [.snil, iv 0, iv 0] 40 x) t) d st R := wp _ (by simp only [Prim.rn, hx]; exact mk_rg hm) k
theorem wp_frz3 {c : SE} {l : List Rg} (hc : c.dn d st = .agg (rcells l)) (k : Rn C n t (d + 1) (.sl none 3 0 l.length (rcells l) :: st) R) : Rn C n (.prim (.frz 3 .real c) t) d st R := wp _ (by simp [Prim.rn, hc, frzV, isNil]) k
end
/-! ### What is read -/
/-- Rulings that are read, with short lists. -/
structure RawH (lp : PV) (l : List Rg) : Prop where
  rl : RL lp l
  rd : ∀ r ∈ l, IL r.sp r.st
  len : l.length ≤ 20
  sh : ∀ r ∈ l, r.st.length ≤ 20
theorem RawH.plain {lp : PV} {l : List Rg} (h : RawH lp l) : lp.plain = true ∧ lp.one = true := h.rl.plainR h.rd
structure RawP (p : Pc) : Prop where
  il : IL p.gp p.g
  len : p.g.length ≤ 20
theorem Hand.raw {slip : Int} {lp : PV} {l : List Rg} (h : Hand slip lp l) : RawH lp l := ⟨h.rl, fun r hr => (h.ok r hr).il, by have := h.l1; omega, fun r hr => by have := (h.ok r hr).l2; omega⟩
theorem Pc.ok.raw {p : Pc} (h : p.ok) : RawP p := ⟨h.il, by have := h.gl; omega⟩
/-! ### Copies -/
theorem ev64R (k : Nat) {r : Rg} (h : IL r.sp r.st) (hl : r.st.length ≤ 20) : Ev (k + 2) 61 [.agg r.cells] fun v => v = .agg (dupR r).cells := by
  refine rn_of (t := t61) rfl (fn := Tryz.f61) (by kernel_rfl) (by simp [fitArgs, flagsOf, Rg.cells, h.plain]) ?_
  have hpl := ints_plain r.st
  refine wp_agg (by simp only [tv, tp, tn, PE.dn, SE.dn, dnL, nth, projV, List.getD_cons_succ, List.getD_cons_zero, Rg.cells, Pc.cells]; rfl) rfl ?_
  refine wp_callE (ev56 k h (by omega)) rfl ?_
  refine wp_one (by simp only [tv, tp, tn, PE.dn, SE.dn, dnL, nth, projV, List.getD_cons_succ, List.getD_cons_zero, Rg.cells, Pc.cells]; rfl) rfl ?_
  exact wp_ret rfl (by simp [PE.dn, SE.dn, dnL, nth, tv, tp, projV, hpl]) rfl
theorem rawDup {l : List Rg} : ∀ r ∈ l.map dupR, IL r.sp r.st := fun r hr => by
  obtain ⟨r', hr', rfl⟩ := List.mem_map.1 hr
  exact .inr ⟨0, rfl⟩
theorem RawH.dup {lp : PV} {l : List Rg} (h : RawH lp l) : RawH (.sl none 3 0 l.length (rcells (l.map dupR))) (l.map dupR) :=
  ⟨.inr ⟨0, by simp⟩, rawDup, by simpa using h.len, fun r hr => by
    obtain ⟨r', hr', rfl⟩ := List.mem_map.1 hr
    exact h.sh r' hr'⟩
theorem ev22R (k : Nat) {slip : Int} {lp : PV} {l : List Rg} (h : RawH lp l) : Ev (k + 3) 24 [.agg [iv slip, lp]] fun v => v = .agg [iv slip, .sl none 3 0 l.length (rcells (l.map dupR))] := by
  refine rn_of (t := t24) rfl (fn := Tryz.f24) (by kernel_rfl) (by simp [fitArgs, flagsOf, h.plain]) ?_
  have l1 := h.len
  refine wp_agg (by simp only [tv, tp, tn, PE.dn, SE.dn, dnL, nth, projV, List.getD_cons_succ, List.getD_cons_zero, Rg.cells, Pc.cells]; rfl) rfl ?_
  refine wp_len22 rfl h.rl ?_
  refine wp_mk3 rfl (by omega) ?_
  refine wp_join (fun vs => vs = [.agg (rcells (l.map dupR))]) ?_ ?_
  · refine wp_loop (fun j vs => ∃ (i : Nat) (L : List Rg), vs = [iv i, .agg (rcells L)] ∧ i + j = l.length ∧ L.length = l.length ∧ ∀ k, k < i → L.getD k default = dupR (l.getD k default)) l.length (by omega) ⟨0, List.replicate l.length default, rfl, by omega, by simp, by simp⟩ ?_
    rintro j vs ⟨i, L, rfl, hi, hL, hk⟩
    try refine rn_norm (by (try simp only [List.length_cons, List.length_nil, Nat.reduceAdd, Nat.zero_add]); rfl) (by (try simp only [pushL]); rfl) ?_
    refine wp_lenc3 rfl ?_
    refine wp_lss rfl rfl ?_
    refine wp_iteP rfl (fun h' => ?_) (fun h' => ?_)
    · have hlt : i < l.length := by omega
      have hrow := rowR h.rl hlt
      have hri := h.rd _ (gmR hlt)
      have hrs := h.sh _ (gmR hlt)
      generalize hR : l.getD i default = r at hri hrs hrow
      refine wp _ hrow ?_
      refine wp_callE (ev64R k hri hrs) rfl ?_
      refine wp_chk3 rfl rfl (by omega) ?_
      refine wp_agg (by simp only [tv, tp, tn, PE.dn, SE.dn, dnL, nth, projV, List.getD_cons_succ, List.getD_cons_zero, Rg.cells, Pc.cells]; rfl) rfl ?_
      refine wp_put3 (r := dupR r) rfl rfl rfl (by omega) ?_
      refine wp_add1 rfl rfl (by omega) ?_
      refine wp_jump ⟨j - 1, by omega, i + 1, L.set i (dupR r), rfl, by omega, by simpa using hL, fun k hk' => ?_⟩
      by_cases e : k = i
      · subst e
        have : k < L.length := by omega
        rw [hR]
        simp [List.getD_eq_getElem?_getD, this]
      · have := hk k (by omega)
        simp only [List.getD_eq_getElem?_getD] at this ⊢
        rw [List.getElem?_set_ne (by omega)]
        exact this
    · refine wp_jumpO (by decide) ?_
      have e : L = l.map dupR := List.ext_getElem (by simpa using hL) fun k h1 h2 => by
        have h3 : k < l.length := by simpa using h2
        have := hk k (by omega)
        simpa [List.getD_eq_getElem?_getD, h1, h3] using this
      rw [e]
      exact wp_jump rfl
  rintro vs rfl
  have hpl : plainC (rcells (l.map dupR)) = true := rcells_plainR rawDup
  try refine rn_norm (by (try simp only [List.length_cons, List.length_nil, Nat.reduceAdd, Nat.zero_add]); rfl) (by (try simp only [pushL]); rfl) ?_
  refine wp_frz3 rfl ?_
  rw [List.length_map]
  exact wp_ret rfl (by simp [PE.dn, SE.dn, dnL, nth, tv, tp, projV, pushL, hpl]) rfl
theorem ev23R (k : Nat) {p : Pc} (hp : RawP p) : Ev (k + 2) 25 [.agg p.cells] fun v => v = .agg [.sl none 1 0 p.g.length (p.g.map iv), iv p.up, iv p.dn, iv p.wd, .bool p.fr] := by
  refine rn_of (t := t25) rfl (fn := Tryz.f25) (by kernel_rfl) (by simp [fitArgs, flagsOf, Pc.cells, hp.il.plain]) ?_
  have hpl := ints_plain p.g
  have := hp.len
  refine wp_agg (by simp only [tv, tp, tn, PE.dn, SE.dn, dnL, nth, projV, List.getD_cons_succ, List.getD_cons_zero, Rg.cells, Pc.cells]; rfl) rfl ?_
  refine wp_callE (ev56 k hp.il (by omega)) rfl ?_
  refine wp_one (by simp only [tv, tp, tn, PE.dn, SE.dn, dnL, nth, projV, List.getD_cons_succ, List.getD_cons_zero, Rg.cells, Pc.cells]; rfl) rfl ?_
  exact wp_ret rfl (by simp [PE.dn, SE.dn, dnL, nth, tv, tp, projV, hpl]) rfl
/-! ### Comparisons of what is alike -/
theorem ev30 (k : Nat) {x y : PV} {l : List Int} (hx : IL x l) (hy : IL y l) (hl : l.length < 4000) : Ev (k + 1) 16 [x, y] fun v => v = .bool true := by
  refine rn_of (t := t16) rfl (fn := Tryz.f16) (by kernel_rfl) (by simp [fitArgs, flagsOf, hx.plain, hy.plain]) ?_
  try refine rn_norm (by (try simp only [List.length_cons, List.length_nil, Nat.reduceAdd, Nat.zero_add]); rfl) (by (try simp only [pushL]); rfl) ?_
  refine wp_len25 rfl hx ?_
  refine wp_len25 rfl hy ?_
  refine wp_eql rfl rfl ?_
  rw [decide_eq_true rfl]
  refine wp_join (fun vs => vs = [.bool true]) ?_ ?_
  · refine wp_loop (fun j vs => ∃ i : Nat, vs = [.bool true, iv i] ∧ i + j = l.length) l.length (by omega) ⟨0, rfl, by omega⟩ ?_
    rintro j vs ⟨i, rfl, hi⟩
    try refine rn_norm (by (try simp only [List.length_cons, List.length_nil, Nat.reduceAdd, Nat.zero_add]); rfl) (by (try simp only [pushL]); rfl) ?_
    refine wp_join (fun vs => vs = [.bool (decide ((i : Int) < l.length))]) ?_ ?_
    · refine wp_iteT rfl ?_
      refine wp_len25 rfl hx ?_
      refine wp_lss rfl rfl ?_
      exact wp_jump rfl
    rintro vs rfl
    try refine rn_norm (by (try simp only [List.length_cons, List.length_nil, Nat.reduceAdd, Nat.zero_add]); rfl) (by (try simp only [pushL]); rfl) ?_
    refine wp_iteP rfl (fun h => ?_) (fun h => ?_)
    · have ha := rowI hx (n := i) (by omega)
      have hb := rowI hy (n := i) (by omega)
      refine wp _ ha ?_
      refine wp _ hb ?_
      refine wp_eql rfl rfl ?_
      rw [decide_eq_true rfl]
      refine wp_add1 rfl rfl (by omega) ?_
      exact wp_jump ⟨j - 1, by omega, i + 1, rfl, by omega⟩
    · refine wp_jumpO (by decide) ?_
      exact wp_jump rfl
  rintro vs rfl
  exact wp_ret rfl rfl rfl
/-- Rulings alike. -/
structure LikeR (a b : List Rg) : Prop where
  len : a.length = b.length
  st : ∀ i, i < a.length → (a.getD i default).st = (b.getD i default).st
  ln : ∀ i, i < a.length → (a.getD i default).lines = (b.getD i default).lines
  wd : ∀ i, i < a.length → (a.getD i default).width = (b.getD i default).width
theorem dup_like (l : List Rg) : LikeR l (l.map dupR) := by
  have key : ∀ i, i < l.length → (l.map dupR).getD i default = dupR (l.getD i default) := fun i hi => by simp [List.getD_eq_getElem?_getD, hi]
  exact ⟨by simp, fun i hi => by rw [key i hi]; rfl, fun i hi => by rw [key i hi]; rfl, fun i hi => by rw [key i hi]; rfl⟩
theorem LikeR.symm {a b : List Rg} (h : LikeR a b) : LikeR b a := ⟨h.len.symm, fun i hi => (h.st i (by rw [h.len]; exact hi)).symm, fun i hi => (h.ln i (by rw [h.len]; exact hi)).symm, fun i hi => (h.wd i (by rw [h.len]; exact hi)).symm⟩
theorem ev37 (k : Nat) {slip : Int} {x y : PV} {a b : List Rg} (hx : RawH x a) (hy : RawH y b) (h : LikeR a b) : Ev (k + 2) 68 [.agg [iv slip, x], .agg [iv slip, y]] fun v => v = .bool true := by
  refine rn_of (t := t68) rfl (fn := Tryz.f68) (by kernel_rfl) (by simp [fitArgs, flagsOf, hx.plain, hy.plain]) ?_
  have hl := hx.len
  have hll := h.len
  refine wp_agg (by simp only [tv, tp, tn, PE.dn, SE.dn, dnL, nth, projV, List.getD_cons_succ, List.getD_cons_zero, Rg.cells, Pc.cells]; rfl) rfl ?_
  refine wp_agg (by simp only [tv, tp, tn, PE.dn, SE.dn, dnL, nth, projV, List.getD_cons_succ, List.getD_cons_zero, Rg.cells, Pc.cells]; rfl) rfl ?_
  refine wp_join (fun vs => vs = [.bool false]) ?_ ?_
  · refine wp_neq rfl rfl ?_
    refine wp_itePF rfl (by omega) ?_
    refine wp_len22 rfl hx.rl ?_
    refine wp_len22 rfl hy.rl ?_
    refine wp_neq rfl rfl ?_
    exact wp_jump (jb_f (by omega))
  rintro vs rfl
  refine wp_iteF rfl ?_
  refine wp_join (fun vs => vs = []) ?_ ?_
  · refine wp_loop (fun j vs => ∃ i : Nat, vs = [iv i] ∧ i + j = a.length) a.length (by omega) ⟨0, rfl, by omega⟩ ?_
    rintro j vs ⟨i, rfl, hi⟩
    try refine rn_norm (by (try simp only [List.length_cons, List.length_nil, Nat.reduceAdd, Nat.zero_add]); rfl) (by (try simp only [pushL]); rfl) ?_
    refine wp_len22 rfl hx.rl ?_
    refine wp_lss rfl rfl ?_
    refine wp_iteP rfl (fun h' => ?_) (fun h' => ?_)
    · have hlt : i < a.length := by omega
      have ra := rowR hx.rl hlt
      have rb := rowR hy.rl (show i < b.length by omega)
      have ia := hx.rd _ (gmR hlt)
      have ib := hy.rd _ (gmR (show i < b.length by omega))
      have sa := hx.sh _ (gmR hlt)
      have e1 := h.st i hlt
      have e2 := h.ln i hlt
      have e3 := h.wd i hlt
      generalize a.getD i default = r at ra ia sa e1 e2 e3
      generalize b.getD i default = s at rb ib e1 e2 e3
      rw [← e1] at ib
      refine wp _ ra ?_
      refine wp _ rb ?_
      refine wp_join (fun vs => vs = [.bool false]) ?_ ?_
      · refine wp_callE (ev30 k ia ib (by omega)) rfl ?_
        refine wp_not rfl ?_
        refine wp_iteF rfl ?_
        refine wp_neq rfl rfl ?_
        refine wp_itePF rfl (by omega) ?_
        refine wp_neq rfl rfl ?_
        exact wp_jump (jb_f (by omega))
      rintro vs rfl
      refine wp_iteF rfl ?_
      refine wp_add1 rfl rfl (by omega) ?_
      exact wp_jump ⟨j - 1, by omega, i + 1, rfl, by omega⟩
    · refine wp_jumpO (by decide) ?_
      exact wp_jump rfl
  rintro vs rfl
  exact wp_ret rfl rfl rfl
end Go.Proofs.YtlminnpaeaganaaGreat
namespace Go.Proofs.YtlminnpaeaganaaGreat
open Go Go.RowKit
set_option linter.unusedVariables false
set_option linter.unusedSimpArgs false
set_option maxRecDepth 100000
theorem all_get {α : Type} {l : List α} {d : α} {P : α → Prop} (h : ∀ m, m < l.length → P (l.getD m d)) : ∀ x ∈ l, P x := fun x hx => by
  obtain ⟨n, hn, rfl⟩ := List.getElem_of_mem hx
  have := h n hn
  simpa [List.getD_eq_getElem?_getD, hn] using this
/-! ### Errors -/
def gapsOk (l : List Int) (lo hi : Int) : Prop := ∀ x ∈ l, lo ≤ x ∧ x ≤ hi
instance (l : List Int) (lo hi : Int) : Decidable (gapsOk l lo hi) := inferInstanceAs (Decidable (∀ x ∈ l, lo ≤ x ∧ x ≤ hi))
def erg (r : Rg) : Int := if r.st.length = 0 then 7 else if 3 < r.st.length then 6 else if gapsOk r.st 2 20 then (if (2 ≤ r.lines ∧ r.lines ≤ 12) ∧ 1 ≤ r.width ∧ r.width ≤ 60 then 0 else 1) else 1
def erl : List Rg → Int
  | [] => 0
  | r :: l => if erg r ≠ 0 then erg r else erl l
def ehd (slip : Int) (l : List Rg) : Int := if 0 ≤ slip ∧ slip ≤ 3 then (if l.length = 0 then 7 else if 4 < l.length then 6 else erl l) else 1
def epc (p : Pc) : Int := if 5 < p.g.length then 6 else if gapsOk p.g 1 30 then (if (0 ≤ p.up ∧ p.up ≤ 30) ∧ (0 ≤ p.dn ∧ p.dn ≤ 30) ∧ 0 ≤ p.wd ∧ p.wd ≤ 60 then 0 else 1) else 1
def erp : List Pc → Int
  | [] => 0
  | p :: l => if epc p ≠ 0 then epc p else erp l
def eop (slip : Int) (l : List Rg) (ns : List Int) (ps : List Pc) : Int := if ehd slip l ≠ 0 then ehd slip l else if gapsOk ns 0 (l.length - 1) then erp ps else 3
theorem erl_zero : ∀ {l : List Rg}, (∀ m, m < l.length → erg (l.getD m default) = 0) → erl l = 0
  | [], _ => rfl
  | r :: l, h => by
    have h0 : erg r = 0 := by simpa using h 0 (by simp)
    simp only [erl, h0]
    rw [if_neg (by simp)]
    exact erl_zero fun m hm => by simpa using h (m + 1) (by simpa using hm)
theorem erl_at : ∀ {l : List Rg} {i : Nat}, i < l.length → (∀ m, m < i → erg (l.getD m default) = 0) → erg (l.getD i default) ≠ 0 → erl l = erg (l.getD i default)
  | r :: l, 0, _, _, hn => by simp only [List.getD_cons_zero] at hn ⊢; simp only [erl]; rw [if_pos hn]
  | r :: l, i + 1, hi, h, hn => by
    have h0 : erg r = 0 := by simpa using h 0 (by omega)
    simp only [List.getD_cons_succ] at hn ⊢
    simp only [erl, h0]
    rw [if_neg (by simp)]
    exact erl_at (by simpa using hi) (fun m hm => by simpa using h (m + 1) (by omega)) hn
theorem erl_ok : ∀ {l : List Rg}, erl l = 0 → ∀ r ∈ l, erg r = 0
  | [], _, r, hr => by simp at hr
  | a :: l, h, r, hr => by
    simp only [erl] at h
    by_cases h0 : erg a = 0
    · rw [if_neg (by simpa using h0)] at h
      rcases List.mem_cons.1 hr with rfl | hr
      · exact h0
      · exact erl_ok h r hr
    · rw [if_pos h0] at h; exact absurd h h0
theorem erp_zero : ∀ {l : List Pc}, (∀ m, m < l.length → epc (l.getD m default) = 0) → erp l = 0
  | [], _ => rfl
  | r :: l, h => by
    have h0 : epc r = 0 := by simpa using h 0 (by simp)
    simp only [erp, h0]
    rw [if_neg (by simp)]
    exact erp_zero fun m hm => by simpa using h (m + 1) (by simpa using hm)
theorem erp_at : ∀ {l : List Pc} {i : Nat}, i < l.length → (∀ m, m < i → epc (l.getD m default) = 0) → epc (l.getD i default) ≠ 0 → erp l = epc (l.getD i default)
  | r :: l, 0, _, _, hn => by simp only [List.getD_cons_zero] at hn ⊢; simp only [erp]; rw [if_pos hn]
  | r :: l, i + 1, hi, h, hn => by
    have h0 : epc r = 0 := by simpa using h 0 (by omega)
    simp only [List.getD_cons_succ] at hn ⊢
    simp only [erp, h0]
    rw [if_neg (by simp)]
    exact erp_at (by simpa using hi) (fun m hm => by simpa using h (m + 1) (by omega)) hn
theorem erp_ok : ∀ {l : List Pc}, erp l = 0 → ∀ p ∈ l, epc p = 0
  | [], _, r, hr => by simp at hr
  | a :: l, h, r, hr => by
    simp only [erp] at h
    by_cases h0 : epc a = 0
    · rw [if_neg (by simpa using h0)] at h
      rcases List.mem_cons.1 hr with rfl | hr
      · exact h0
      · exact erp_ok h r hr
    · rw [if_pos h0] at h; exact absurd h h0
theorem rg_ok {r : Rg} (hi : IL r.sp r.st) (h : erg r = 0) : r.ok := by
  unfold erg at h
  split at h
  · cases h
  split at h
  · cases h
  split at h
  · split at h
    · rename_i h1 h2 h3 h4
      exact ⟨hi, by omega, by omega, h3, h4.1.1, h4.1.2, h4.2.1, h4.2.2⟩
    · cases h
  · cases h
theorem pc_ok {p : Pc} (hi : IL p.gp p.g) (h : epc p = 0) : p.ok := by
  unfold epc at h
  split at h
  · cases h
  split at h
  · split at h
    · rename_i h1 h3 h4
      exact ⟨hi, by omega, h3, h4.1.1, h4.1.2, h4.2.1.1, h4.2.1.2, h4.2.2.1, h4.2.2.2⟩
    · cases h
  · cases h
theorem hd_ok {slip : Int} {lp : PV} {l : List Rg} (hr : RawH lp l) (h : ehd slip l = 0) : Hand slip lp l := by
  unfold ehd at h
  split at h
  · split at h
    · cases h
    split at h
    · cases h
    rename_i h1 h2 h3
    exact ⟨h1.1, h1.2, hr.rl, by omega, by omega, fun r hm => rg_ok (hr.rd r hm) (erl_ok h r hm)⟩
  · cases h
/-! ### As the program finds them -/
theorem ev71P (k : Nat) (x lo hi : Int) : Ev (k + 1) 88 [iv x, iv lo, iv hi] fun v => v = .bool (decide (lo ≤ x ∧ x ≤ hi)) := (ev71 k x lo hi).mono fun v e => by rw [e]; simp
theorem ev74P (k : Nat) (x lo hi : Int) : Ev (k + 1) 106 [iv x, iv lo, iv hi] fun v => v = .bool (decide (lo ≤ x ∧ x ≤ hi)) := by
  refine rn_of (t := t106) rfl (fn := Tryz.f106) (by kernel_rfl) rfl ?_
  try refine rn_norm (by (try simp only [List.length_cons, List.length_nil, Nat.reduceAdd, Nat.zero_add]); rfl) (by (try simp only [pushL]); rfl) ?_
  refine wp_join (fun vs => vs = [.bool (decide (lo ≤ x ∧ x ≤ hi))]) ?_ ?_
  · refine wp_geq rfl rfl ?_
    refine wp_iteP rfl (fun h => ?_) (fun h => ?_)
    · refine wp_leq rfl rfl ?_
      exact wp_jump (jb_eq (by omega))
    · exact wp_jump (jb_fd (by omega))
  · rintro vs rfl
    exact wp_ret rfl rfl rfl
theorem ev73R (k : Nat) {r : Rg} (hi : IL r.sp r.st) (hl : r.st.length ≤ 20) : Ev (k + 2) 90 [.agg r.cells] fun v => v = iv (erg r) := by
  refine rn_of (t := t90) rfl (fn := Tryz.f90) (by kernel_rfl) (by simp [fitArgs, flagsOf, Rg.cells, hi.plain]) ?_
  refine wp_agg (by simp only [tv, tp, tn, PE.dn, SE.dn, dnL, nth, projV, List.getD_cons_succ, List.getD_cons_zero, Rg.cells, Pc.cells]; rfl) rfl ?_
  refine wp_len25 rfl (by assumption) ?_
  refine wp_callE (ev72 k _ _) rfl ?_
  by_cases h1 : r.st.length = 0
  · rw [if_pos (by omega)]
    refine wp_neq rfl rfl ?_
    refine wp_itePT rfl (by omega) ?_
    refine wp_ret (v := iv _) rfl rfl ?_
    unfold erg; rw [if_pos h1]
  rw [if_neg (by omega)]
  by_cases h2 : 3 < r.st.length
  · rw [if_pos (by omega)]
    refine wp_neq rfl rfl ?_
    refine wp_itePT rfl (by omega) ?_
    refine wp_ret (v := iv _) rfl rfl ?_
    unfold erg; rw [if_neg h1, if_pos h2]
  rw [if_neg (by omega)]
  refine wp_neq rfl rfl ?_
  refine wp_itePF rfl (by omega) ?_
  refine wp_len25 rfl (by assumption) ?_
  refine wp_join (fun vs => vs = [] ∧ gapsOk r.st 2 20) ?_ ?_
  · refine wp_loop (fun j vs => ∃ i : Nat, vs = [iv i] ∧ i + j = r.st.length ∧ ∀ m, m < i → 2 ≤ r.st.getD m 0 ∧ r.st.getD m 0 ≤ 20) r.st.length (by omega) ⟨0, rfl, by omega, fun m hm => by omega⟩ ?_
    rintro j vs ⟨i, rfl, hij, hb⟩
    refine wp_lss rfl rfl ?_
    refine wp_iteP rfl (fun h' => ?_) (fun h' => ?_)
    · have hlt : i < r.st.length := by omega
      refine wp_row1 rfl hi rfl hlt ?_
      refine wp_callE (ev71P k _ _ _) rfl ?_
      refine wp_notP rfl ?_
      refine wp_iteP rfl (fun h3 => ?_) (fun h3 => ?_)
      · refine wp_retO ?_
        refine wp_retO ?_
        refine wp_ret (v := iv _) rfl rfl ?_
        unfold erg
        rw [if_neg (by omega), if_neg (by omega), if_neg (fun hc => h3 (hc _ (gmI hlt)))]
      · refine wp_add1 rfl rfl (by omega) ?_
        refine wp_jump ⟨j - 1, by omega, i + 1, rfl, by omega, fun m hm => ?_⟩
        by_cases e : m = i
        · subst e; exact Decidable.not_not.1 h3
        · exact hb m (by omega)
    · refine wp_jumpO (by decide) ?_
      exact wp_jump ⟨rfl, all_get (d := 0) fun m hm => hb m (by omega)⟩
  rintro vs ⟨rfl, hg⟩
  try refine rn_norm (by (try simp only [List.length_cons, List.length_nil, Nat.reduceAdd, Nat.zero_add]); rfl) (by (try simp only [pushL]); rfl) ?_
  refine wp_join (fun vs => vs = [.bool (decide (¬((2 ≤ r.lines ∧ r.lines ≤ 12) ∧ 1 ≤ r.width ∧ r.width ≤ 60)))]) ?_ ?_
  · refine wp_callE (ev71P k _ _ _) rfl ?_
    refine wp_notP rfl ?_
    refine wp_iteP rfl (fun h3 => ?_) (fun h3 => ?_)
    · exact wp_jump (jb_t (by omega))
    · refine wp_callE (ev71P k _ _ _) rfl ?_
      refine wp_notP rfl ?_
      exact wp_jump (jb_eq (by omega))
  rintro vs rfl
  try refine rn_norm (by (try simp only [List.length_cons, List.length_nil, Nat.reduceAdd, Nat.zero_add]); rfl) (by (try simp only [pushL]); rfl) ?_
  refine wp_iteP rfl (fun h3 => ?_) (fun h3 => ?_)
  · refine wp_ret (v := iv _) rfl rfl ?_
    unfold erg
    rw [if_neg (by omega), if_neg (by omega), if_pos hg, if_neg h3]
  · refine wp_ret (v := iv _) rfl rfl ?_
    unfold erg
    rw [if_neg (by omega), if_neg (by omega), if_pos hg, if_pos (Decidable.not_not.1 h3)]
theorem ev75R (k : Nat) {r : Rg} (hi : IL r.sp r.st) (hl : r.st.length ≤ 20) : Ev (k + 2) 114 [.agg r.cells] fun v => v = iv (erg r) := by
  refine rn_of (t := t114) rfl (fn := Tryz.f114) (by kernel_rfl) (by simp [fitArgs, flagsOf, Rg.cells, hi.plain]) ?_
  refine wp_agg (by simp only [tv, tp, tn, PE.dn, SE.dn, dnL, nth, projV, List.getD_cons_succ, List.getD_cons_zero, Rg.cells, Pc.cells]; rfl) rfl ?_
  refine wp_len25 rfl (by assumption) ?_
  refine wp_eql rfl rfl ?_
  try refine rn_norm (by (try simp only [List.length_cons, List.length_nil, Nat.reduceAdd, Nat.zero_add]); rfl) (by (try simp only [pushL]); rfl) ?_
  refine wp_iteP rfl (fun h1 => ?_) (fun h1 => ?_)
  · refine wp_ret (v := iv _) rfl rfl ?_
    unfold erg; rw [if_pos (by omega)]
  refine wp_len25 rfl hi ?_
  refine wp_gtr rfl rfl ?_
  refine wp_iteP rfl (fun h2 => ?_) (fun h2 => ?_)
  · refine wp_ret (v := iv _) rfl rfl ?_
    unfold erg; rw [if_neg (by omega), if_pos (by omega)]
  refine wp_join (fun vs => vs = [] ∧ gapsOk r.st 2 20) ?_ ?_
  · refine wp_loop (fun j vs => ∃ i : Nat, vs = [iv i] ∧ i + j = r.st.length ∧ ∀ m, m < i → 2 ≤ r.st.getD m 0 ∧ r.st.getD m 0 ≤ 20) r.st.length (by omega) ⟨0, rfl, by omega, fun m hm => by omega⟩ ?_
    rintro j vs ⟨i, rfl, hij, hb⟩
    try refine rn_norm (by (try simp only [List.length_cons, List.length_nil, Nat.reduceAdd, Nat.zero_add]); rfl) (by (try simp only [pushL]); rfl) ?_
    refine wp_len25 rfl hi ?_
    refine wp_lss rfl rfl ?_
    refine wp_iteP rfl (fun h' => ?_) (fun h' => ?_)
    · have hlt : i < r.st.length := by omega
      refine wp_row1 rfl hi rfl hlt ?_
      refine wp_callE (ev74P k _ _ _) rfl ?_
      refine wp_notP rfl ?_
      refine wp_iteP rfl (fun h3 => ?_) (fun h3 => ?_)
      · refine wp_retO ?_
        refine wp_retO ?_
        refine wp_ret (v := iv _) rfl rfl ?_
        unfold erg
        rw [if_neg (by omega), if_neg (by omega), if_neg (fun hc => h3 (hc _ (gmI hlt)))]
      · refine wp_add1 rfl rfl (by omega) ?_
        refine wp_jump ⟨j - 1, by omega, i + 1, rfl, by omega, fun m hm => ?_⟩
        by_cases e : m = i
        · subst e; exact Decidable.not_not.1 h3
        · exact hb m (by omega)
    · refine wp_jumpO (by decide) ?_
      exact wp_jump ⟨rfl, all_get (d := 0) fun m hm => hb m (by omega)⟩
  rintro vs ⟨rfl, hg⟩
  try refine rn_norm (by (try simp only [List.length_cons, List.length_nil, Nat.reduceAdd, Nat.zero_add]); rfl) (by (try simp only [pushL]); rfl) ?_
  refine wp_join (fun vs => vs = [.bool (decide (¬((2 ≤ r.lines ∧ r.lines ≤ 12) ∧ 1 ≤ r.width ∧ r.width ≤ 60)))]) ?_ ?_
  · refine wp_callE (ev74P k _ _ _) rfl ?_
    refine wp_notP rfl ?_
    refine wp_iteP rfl (fun h3 => ?_) (fun h3 => ?_)
    · exact wp_jump (jb_t (by omega))
    · refine wp_callE (ev74P k _ _ _) rfl ?_
      refine wp_notP rfl ?_
      exact wp_jump (jb_eq (by omega))
  rintro vs rfl
  try refine rn_norm (by (try simp only [List.length_cons, List.length_nil, Nat.reduceAdd, Nat.zero_add]); rfl) (by (try simp only [pushL]); rfl) ?_
  refine wp_iteP rfl (fun h3 => ?_) (fun h3 => ?_)
  · refine wp_ret (v := iv _) rfl rfl ?_
    unfold erg
    rw [if_neg (by omega), if_neg (by omega), if_pos hg, if_neg h3]
  · refine wp_ret (v := iv _) rfl rfl ?_
    unfold erg
    rw [if_neg (by omega), if_neg (by omega), if_pos hg, if_pos (Decidable.not_not.1 h3)]
theorem ev26R (k : Nat) {slip : Int} {lp : PV} {l : List Rg} (h : RawH lp l) : Ev (k + 3) 41 [.agg [iv slip, lp]] fun v => v = iv (ehd slip l) := by
  refine rn_of (t := t41) rfl (fn := Tryz.f41) (by kernel_rfl) (by simp [fitArgs, flagsOf, h.plain]) ?_
  have hlen := h.len
  refine wp_agg (by simp only [tv, tp, tn, PE.dn, SE.dn, dnL, nth, projV, List.getD_cons_succ, List.getD_cons_zero, Rg.cells, Pc.cells]; rfl) rfl ?_
  refine wp_callE (ev71P (k + 1) _ _ _) rfl ?_
  refine wp_notP rfl ?_
  refine wp_iteP rfl (fun hs => ?_) (fun hs => ?_)
  · refine wp_ret (v := iv _) rfl rfl ?_
    unfold ehd; rw [if_neg hs]
  replace hs := Decidable.not_not.1 hs
  refine wp_len22 rfl h.rl ?_
  refine wp_callE (ev72 (k + 1) _ _) rfl ?_
  by_cases h1 : l.length = 0
  · rw [if_pos (by omega)]
    refine wp_neq rfl rfl ?_
    refine wp_itePT rfl (by omega) ?_
    refine wp_ret (v := iv _) rfl rfl ?_
    unfold ehd; rw [if_pos hs, if_pos h1]
  rw [if_neg (by omega)]
  by_cases h2 : 4 < l.length
  · rw [if_pos (by omega)]
    refine wp_neq rfl rfl ?_
    refine wp_itePT rfl (by omega) ?_
    refine wp_ret (v := iv _) rfl rfl ?_
    unfold ehd; rw [if_pos hs, if_neg h1, if_pos h2]
  rw [if_neg (by omega)]
  refine wp_neq rfl rfl ?_
  refine wp_itePF rfl (by omega) ?_
  refine wp_len22 rfl h.rl ?_
  refine wp_join (fun vs => vs = [] ∧ erl l = 0) ?_ ?_
  · refine wp_loop (fun j vs => ∃ i : Nat, vs = [iv i] ∧ i + j = l.length ∧ ∀ m, m < i → erg (l.getD m default) = 0) l.length (by omega) ⟨0, rfl, by omega, fun m hm => by omega⟩ ?_
    rintro j vs ⟨i, rfl, hij, hb⟩
    refine wp_lss rfl rfl ?_
    refine wp_iteP rfl (fun h' => ?_) (fun h' => ?_)
    · have hlt : i < l.length := by omega
      have hrow := rowR h.rl hlt
      have hat := fun hb' => erl_at (l := l) hlt hb hb'
      have hri := h.rd _ (gmR hlt)
      have hrs := h.sh _ (gmR hlt)
      have hst : erg (l.getD i default) = 0 → ∀ m, m < i + 1 → erg (l.getD m default) = 0 := fun h0 m hm => by
        by_cases e : m = i
        · subst e; exact h0
        · exact hb m (by omega)
      generalize l.getD i default = r at hrow hat hri hrs hst
      refine wp _ hrow ?_
      refine wp_callE (ev73R k hri hrs) rfl ?_
      refine wp_neq rfl rfl ?_
      refine wp_iteP rfl (fun h3 => ?_) (fun h3 => ?_)
      · refine wp_retO ?_
        refine wp_retO ?_
        refine wp_ret (v := iv _) rfl rfl ?_
        unfold ehd
        rw [if_pos hs, if_neg (by omega), if_neg (by omega), hat h3]
      · refine wp_add1 rfl rfl (by omega) ?_
        exact wp_jump ⟨j - 1, by omega, i + 1, rfl, by omega, hst (Decidable.not_not.1 h3)⟩
    · refine wp_jumpO (by decide) ?_
      exact wp_jump ⟨rfl, erl_zero fun m hm => hb m (by omega)⟩
  rintro vs ⟨rfl, hg⟩
  refine wp_ret (v := iv _) rfl rfl ?_
  unfold ehd; rw [if_pos hs, if_neg h1, if_neg h2, hg]
theorem ev27R (k : Nat) {slip : Int} {lp : PV} {l : List Rg} (h : RawH lp l) : Ev (k + 3) 73 [.agg [iv slip, lp]] fun v => v = iv (ehd slip l) := by
  refine rn_of (t := t73) rfl (fn := Tryz.f73) (by kernel_rfl) (by simp [fitArgs, flagsOf, h.plain]) ?_
  have hlen := h.len
  refine wp_agg (by simp only [tv, tp, tn, PE.dn, SE.dn, dnL, nth, projV, List.getD_cons_succ, List.getD_cons_zero, Rg.cells, Pc.cells]; rfl) rfl ?_
  refine wp_callE (ev74P (k + 1) _ _ _) rfl ?_
  refine wp_notP rfl ?_
  refine wp_iteP rfl (fun hs => ?_) (fun hs => ?_)
  · refine wp_ret (v := iv _) rfl rfl ?_
    unfold ehd; rw [if_neg hs]
  replace hs := Decidable.not_not.1 hs
  refine wp_len22 rfl h.rl ?_
  refine wp_eql rfl rfl ?_
  refine wp_iteP rfl (fun h1 => ?_) (fun h1 => ?_)
  · refine wp_ret (v := iv _) rfl rfl ?_
    unfold ehd; rw [if_pos hs, if_pos (by omega)]
  refine wp_len22 rfl h.rl ?_
  refine wp_gtr rfl rfl ?_
  refine wp_iteP rfl (fun h2 => ?_) (fun h2 => ?_)
  · refine wp_ret (v := iv _) rfl rfl ?_
    unfold ehd; rw [if_pos hs, if_neg (by omega), if_pos (by omega)]
  refine wp_join (fun vs => vs = [] ∧ erl l = 0) ?_ ?_
  · refine wp_loop (fun j vs => ∃ i : Nat, vs = [iv i] ∧ i + j = l.length ∧ ∀ m, m < i → erg (l.getD m default) = 0) l.length (by omega) ⟨0, rfl, by omega, fun m hm => by omega⟩ ?_
    rintro j vs ⟨i, rfl, hij, hb⟩
    try refine rn_norm (by (try simp only [List.length_cons, List.length_nil, Nat.reduceAdd, Nat.zero_add]); rfl) (by (try simp only [pushL]); rfl) ?_
    refine wp_len22 rfl h.rl ?_
    refine wp_lss rfl rfl ?_
    refine wp_iteP rfl (fun h' => ?_) (fun h' => ?_)
    · have hlt : i < l.length := by omega
      have hrow := rowR h.rl hlt
      have hat := fun hb' => erl_at (l := l) hlt hb hb'
      have hri := h.rd _ (gmR hlt)
      have hrs := h.sh _ (gmR hlt)
      have hst : erg (l.getD i default) = 0 → ∀ m, m < i + 1 → erg (l.getD m default) = 0 := fun h0 m hm => by
        by_cases e : m = i
        · subst e; exact h0
        · exact hb m (by omega)
      generalize l.getD i default = r at hrow hat hri hrs hst
      refine wp _ hrow ?_
      refine wp_callE (ev75R k hri hrs) rfl ?_
      refine wp_neq rfl rfl ?_
      refine wp_iteP rfl (fun h3 => ?_) (fun h3 => ?_)
      · refine wp_retO ?_
        refine wp_retO ?_
        refine wp_ret (v := iv _) rfl rfl ?_
        unfold ehd
        rw [if_pos hs, if_neg (by omega), if_neg (by omega), hat h3]
      · refine wp_add1 rfl rfl (by omega) ?_
        exact wp_jump ⟨j - 1, by omega, i + 1, rfl, by omega, hst (Decidable.not_not.1 h3)⟩
    · refine wp_jumpO (by decide) ?_
      exact wp_jump ⟨rfl, erl_zero fun m hm => hb m (by omega)⟩
  rintro vs ⟨rfl, hg⟩
  refine wp_ret (v := iv _) rfl rfl ?_
  unfold ehd; rw [if_pos hs, if_neg (by omega), if_neg (by omega), hg]
theorem ev28R (k : Nat) {p : Pc} (h : RawP p) : Ev (k + 2) 99 [.agg p.cells] fun v => v = iv (epc p) := by
  refine rn_of (t := t99) rfl (fn := Tryz.f99) (by kernel_rfl) (by simp [fitArgs, flagsOf, Pc.cells, h.il.plain]) ?_
  have hlen := h.len
  refine wp_agg (by simp only [tv, tp, tn, PE.dn, SE.dn, dnL, nth, projV, List.getD_cons_succ, List.getD_cons_zero, Rg.cells, Pc.cells]; rfl) rfl ?_
  refine wp_len25 rfl h.il ?_
  refine wp_gtr rfl rfl ?_
  refine wp_iteP rfl (fun h1 => ?_) (fun h1 => ?_)
  · refine wp_ret (v := iv _) rfl rfl ?_
    unfold epc; rw [if_pos (by omega)]
  refine wp_len25 rfl h.il ?_
  refine wp_join (fun vs => vs = [] ∧ gapsOk p.g 1 30) ?_ ?_
  · refine wp_loop (fun j vs => ∃ i : Nat, vs = [iv i] ∧ i + j = p.g.length ∧ ∀ m, m < i → 1 ≤ p.g.getD m 0 ∧ p.g.getD m 0 ≤ 30) p.g.length (by omega) ⟨0, rfl, by omega, fun m hm => by omega⟩ ?_
    rintro j vs ⟨i, rfl, hij, hb⟩
    refine wp_lss rfl rfl ?_
    refine wp_iteP rfl (fun h' => ?_) (fun h' => ?_)
    · have hlt : i < p.g.length := by omega
      refine wp_row1 rfl h.il rfl hlt ?_
      refine wp_callE (ev71P k _ _ _) rfl ?_
      refine wp_notP rfl ?_
      refine wp_iteP rfl (fun h3 => ?_) (fun h3 => ?_)
      · refine wp_retO ?_
        refine wp_retO ?_
        refine wp_ret (v := iv _) rfl rfl ?_
        unfold epc
        rw [if_neg (by omega), if_neg (fun hc => h3 (hc _ (gmI hlt)))]
      · refine wp_add1 rfl rfl (by omega) ?_
        refine wp_jump ⟨j - 1, by omega, i + 1, rfl, by omega, fun m hm => ?_⟩
        by_cases e : m = i
        · subst e; exact Decidable.not_not.1 h3
        · exact hb m (by omega)
    · refine wp_jumpO (by decide) ?_
      exact wp_jump ⟨rfl, all_get (d := 0) fun m hm => hb m (by omega)⟩
  rintro vs ⟨rfl, hg⟩
  try refine rn_norm (by (try simp only [List.length_cons, List.length_nil, Nat.reduceAdd, Nat.zero_add]); rfl) (by (try simp only [pushL]); rfl) ?_
  refine wp_join (fun vs => vs = [.bool (decide (¬((0 ≤ p.up ∧ p.up ≤ 30) ∧ (0 ≤ p.dn ∧ p.dn ≤ 30) ∧ 0 ≤ p.wd ∧ p.wd ≤ 60)))]) ?_ ?_
  · refine wp_callE (ev71P k _ _ _) rfl ?_
    refine wp_notP rfl ?_
    refine wp_iteP rfl (fun h3 => ?_) (fun h3 => ?_)
    · exact wp_jump (jb_t (by omega))
    · refine wp_callE (ev71P k _ _ _) rfl ?_
      refine wp_notP rfl ?_
      refine wp_iteP rfl (fun h4 => ?_) (fun h4 => ?_)
      · exact wp_jump (jb_t (by omega))
      · refine wp_callE (ev71P k _ _ _) rfl ?_
        refine wp_notP rfl ?_
        exact wp_jump (jb_eq (by omega))
  rintro vs rfl
  try refine rn_norm (by (try simp only [List.length_cons, List.length_nil, Nat.reduceAdd, Nat.zero_add]); rfl) (by (try simp only [pushL]); rfl) ?_
  refine wp_iteP rfl (fun h3 => ?_) (fun h3 => ?_)
  · refine wp_ret (v := iv _) rfl rfl ?_
    unfold epc
    rw [if_neg (by omega), if_pos hg, if_neg h3]
  · refine wp_ret (v := iv _) rfl rfl ?_
    unfold epc
    rw [if_neg (by omega), if_pos hg, if_pos (Decidable.not_not.1 h3)]
theorem ev29R (k : Nat) {p : Pc} (h : RawP p) : Ev (k + 2) 107 [.agg p.cells] fun v => v = iv (epc p) := by
  refine rn_of (t := t107) rfl (fn := Tryz.f107) (by kernel_rfl) (by simp [fitArgs, flagsOf, Pc.cells, h.il.plain]) ?_
  have hlen := h.len
  refine wp_agg (by simp only [tv, tp, tn, PE.dn, SE.dn, dnL, nth, projV, List.getD_cons_succ, List.getD_cons_zero, Rg.cells, Pc.cells]; rfl) rfl ?_
  refine wp_len25 rfl h.il ?_
  refine wp_gtr rfl rfl ?_
  refine wp_iteP rfl (fun h1 => ?_) (fun h1 => ?_)
  · refine wp_ret (v := iv _) rfl rfl ?_
    unfold epc; rw [if_pos (by omega)]
  refine wp_join (fun vs => vs = [] ∧ gapsOk p.g 1 30) ?_ ?_
  · refine wp_loop (fun j vs => ∃ i : Nat, vs = [iv i] ∧ i + j = p.g.length ∧ ∀ m, m < i → 1 ≤ p.g.getD m 0 ∧ p.g.getD m 0 ≤ 30) p.g.length (by omega) ⟨0, rfl, by omega, fun m hm => by omega⟩ ?_
    rintro j vs ⟨i, rfl, hij, hb⟩
    try refine rn_norm (by (try simp only [List.length_cons, List.length_nil, Nat.reduceAdd, Nat.zero_add]); rfl) (by (try simp only [pushL]); rfl) ?_
    refine wp_len25 rfl h.il ?_
    refine wp_lss rfl rfl ?_
    refine wp_iteP rfl (fun h' => ?_) (fun h' => ?_)
    · have hlt : i < p.g.length := by omega
      refine wp_row1 rfl h.il rfl hlt ?_
      refine wp_callE (ev74P k _ _ _) rfl ?_
      refine wp_notP rfl ?_
      refine wp_iteP rfl (fun h3 => ?_) (fun h3 => ?_)
      · refine wp_retO ?_
        refine wp_retO ?_
        refine wp_ret (v := iv _) rfl rfl ?_
        unfold epc
        rw [if_neg (by omega), if_neg (fun hc => h3 (hc _ (gmI hlt)))]
      · refine wp_add1 rfl rfl (by omega) ?_
        refine wp_jump ⟨j - 1, by omega, i + 1, rfl, by omega, fun m hm => ?_⟩
        by_cases e : m = i
        · subst e; exact Decidable.not_not.1 h3
        · exact hb m (by omega)
    · refine wp_jumpO (by decide) ?_
      exact wp_jump ⟨rfl, all_get (d := 0) fun m hm => hb m (by omega)⟩
  rintro vs ⟨rfl, hg⟩
  try refine rn_norm (by (try simp only [List.length_cons, List.length_nil, Nat.reduceAdd, Nat.zero_add]); rfl) (by (try simp only [pushL]); rfl) ?_
  refine wp_join (fun vs => vs = [.bool (decide (¬((0 ≤ p.up ∧ p.up ≤ 30) ∧ (0 ≤ p.dn ∧ p.dn ≤ 30) ∧ 0 ≤ p.wd ∧ p.wd ≤ 60)))]) ?_ ?_
  · refine wp_callE (ev74P k _ _ _) rfl ?_
    refine wp_notP rfl ?_
    refine wp_iteP rfl (fun h3 => ?_) (fun h3 => ?_)
    · exact wp_jump (jb_t (by omega))
    · refine wp_callE (ev74P k _ _ _) rfl ?_
      refine wp_notP rfl ?_
      refine wp_iteP rfl (fun h4 => ?_) (fun h4 => ?_)
      · exact wp_jump (jb_t (by omega))
      · refine wp_callE (ev74P k _ _ _) rfl ?_
        refine wp_notP rfl ?_
        exact wp_jump (jb_eq (by omega))
  rintro vs rfl
  try refine rn_norm (by (try simp only [List.length_cons, List.length_nil, Nat.reduceAdd, Nat.zero_add]); rfl) (by (try simp only [pushL]); rfl) ?_
  refine wp_iteP rfl (fun h3 => ?_) (fun h3 => ?_)
  · refine wp_ret (v := iv _) rfl rfl ?_
    unfold epc
    rw [if_neg (by omega), if_pos hg, if_neg h3]
  · refine wp_ret (v := iv _) rfl rfl ?_
    unfold epc
    rw [if_neg (by omega), if_pos hg, if_pos (Decidable.not_not.1 h3)]
end Go.Proofs.YtlminnpaeaganaaGreat
namespace Go.Proofs.YtlminnpaeaganaaGreat
open Go Go.RowKit
set_option linter.unusedVariables false
set_option linter.unusedSimpArgs false
set_option maxRecDepth 100000
theorem ehd_len {slip : Int} {l : List Rg} (h : ehd slip l = 0) : 1 ≤ l.length := by
  unfold ehd at h
  split at h
  · split at h
    · cases h
    · omega
  · cases h
theorem ev69R (k : Nat) {slip : Int} {lp x y : PV} {l : List Rg} {ns : List Int} {ps : List Pc} (h : RawH lp l) (hx : IL x ns) (hnl : ns.length < 4000) (hy : PL y ps) (hp : ∀ p ∈ ps, RawP p) (hpl : ps.length < 4000) : Ev (k + 4) 64 [.agg [iv slip, lp], x, y] fun v => v = iv (eop slip l ns ps) := by
  refine rn_of (t := t64) rfl (fn := Tryz.f64) (by kernel_rfl) (by simp [fitArgs, flagsOf, h.plain, hx.plain, hy.plain fun p hm => (hp p hm).il]) ?_
  have hlen := h.len
  refine wp_agg (by simp only [tv, tp, tn, PE.dn, SE.dn, dnL, nth, projV, List.getD_cons_succ, List.getD_cons_zero, Rg.cells, Pc.cells]; rfl) rfl ?_
  refine wp_callE (ev27R k h) rfl ?_
  refine wp_neq rfl rfl ?_
  refine wp_iteP rfl (fun he => ?_) (fun he => ?_)
  · refine wp_ret (v := iv _) rfl rfl ?_
    unfold eop; rw [if_pos he]
  replace he := Decidable.not_not.1 he
  have hl1 := ehd_len he
  refine wp_join (fun vs => vs = [] ∧ gapsOk ns 0 (l.length - 1)) ?_ ?_
  · refine wp_loop (fun j vs => ∃ i : Nat, vs = [iv i] ∧ i + j = ns.length ∧ ∀ m, m < i → 0 ≤ ns.getD m 0 ∧ ns.getD m 0 ≤ (l.length : Int) - 1) ns.length (by omega) ⟨0, rfl, by omega, fun m hm => by omega⟩ ?_
    rintro j vs ⟨i, rfl, hij, hb⟩
    try refine rn_norm (by (try simp only [List.length_cons, List.length_nil, Nat.reduceAdd, Nat.zero_add]); rfl) (by (try simp only [pushL]); rfl) ?_
    refine wp_len25 rfl hx ?_
    refine wp_lss rfl rfl ?_
    refine wp_iteP rfl (fun h' => ?_) (fun h' => ?_)
    · have hlt : i < ns.length := by omega
      refine wp_row1 rfl hx rfl hlt ?_
      refine wp_len22 rfl h.rl ?_
      refine wp_sub1 rfl rfl (by omega) ?_
      refine wp_callE (ev74P _ _ _ _) rfl ?_
      refine wp_notP rfl ?_
      refine wp_iteP rfl (fun h3 => ?_) (fun h3 => ?_)
      · refine wp_retO ?_
        refine wp_retO ?_
        refine wp_ret (v := iv _) rfl rfl ?_
        unfold eop
        rw [if_neg (by simpa using he), if_neg (fun hc => h3 (by have := hc _ (gmI hlt); omega))]
        skip
      · refine wp_add1 rfl rfl (by omega) ?_
        refine wp_jump ⟨j - 1, by omega, i + 1, rfl, by omega, fun m hm => ?_⟩
        by_cases e : m = i
        · subst e; have := Decidable.not_not.1 h3; omega
        · exact hb m (by omega)
    · refine wp_jumpO (by decide) ?_
      exact wp_jump ⟨rfl, all_get (d := 0) fun m hm => hb m (by omega)⟩
  rintro vs ⟨rfl, hg⟩
  try refine rn_norm (by (try simp only [List.length_cons, List.length_nil, Nat.reduceAdd, Nat.zero_add]); rfl) (by (try simp only [pushL]); rfl) ?_
  refine wp_join (fun vs => vs = [] ∧ erp ps = 0) ?_ ?_
  · refine wp_loop (fun j vs => ∃ i : Nat, vs = [iv i] ∧ i + j = ps.length ∧ ∀ m, m < i → epc (ps.getD m default) = 0) ps.length (by omega) ⟨0, rfl, by omega, fun m hm => by omega⟩ ?_
    rintro j vs ⟨i, rfl, hij, hb⟩
    try refine rn_norm (by (try simp only [List.length_cons, List.length_nil, Nat.reduceAdd, Nat.zero_add]); rfl) (by (try simp only [pushL]); rfl) ?_
    refine wp_len29 rfl hy ?_
    refine wp_lss rfl rfl ?_
    refine wp_iteP rfl (fun h' => ?_) (fun h' => ?_)
    · have hlt : i < ps.length := by omega
      have hrow := rowP hy hlt
      have hat := fun hb' => erp_at (l := ps) hlt hb hb'
      have hri := hp _ (gmP hlt)
      have hst : epc (ps.getD i default) = 0 → ∀ m, m < i + 1 → epc (ps.getD m default) = 0 := fun h0 m hm => by
        by_cases e : m = i
        · subst e; exact h0
        · exact hb m (by omega)
      generalize ps.getD i default = p at hrow hat hri hst
      refine wp _ hrow ?_
      refine wp_callE (ev29R _ hri) rfl ?_
      refine wp_neq rfl rfl ?_
      refine wp_iteP rfl (fun h3 => ?_) (fun h3 => ?_)
      · refine wp_retO ?_
        refine wp_retO ?_
        refine wp_ret (v := iv _) rfl rfl ?_
        unfold eop
        rw [if_neg (by simpa using he), if_pos hg, hat h3]
        skip
      · refine wp_add1 rfl rfl (by omega) ?_
        exact wp_jump ⟨j - 1, by omega, i + 1, rfl, by omega, hst (Decidable.not_not.1 h3)⟩
    · refine wp_jumpO (by decide) ?_
      exact wp_jump ⟨rfl, erp_zero fun m hm => hb m (by omega)⟩
  rintro vs ⟨rfl, hz⟩
  refine wp_ret (v := iv _) rfl rfl ?_
  unfold eop
  rw [if_neg (by simpa using he), if_pos hg, hz]
/-- What opening gives. -/
def Opened (slip : Int) (lp : PV) (e : Int) (v : PV) : Prop := ∃ a b, v = .tup [.agg [a, b], iv e] ∧ (e = 0 → a = iv slip ∧ b = lp) ∧ plainC [a, b] = true
theorem opened_no {slip : Int} {lp : PV} {e : Int} (h : e ≠ 0) : Opened slip lp e (.tup [.agg [iv 0, .snil], iv e]) := ⟨_, _, rfl, fun h' => absurd h' h, rfl⟩
theorem ev67R (k : Nat) {slip : Int} {lp x y : PV} {l : List Rg} {ns : List Int} {ps : List Pc} (h : RawH lp l) (hx : IL x ns) (hnl : ns.length < 4000) (hy : PL y ps) (hp : ∀ p ∈ ps, RawP p) (hpl : ps.length < 4000) : Ev (k + 4) 56 [.agg [iv slip, lp], x, y] (Opened slip lp (eop slip l ns ps)) := by
  refine rn_of (t := t56) rfl (fn := Tryz.f56) (by kernel_rfl) (by simp [fitArgs, flagsOf, h.plain, hx.plain, hy.plain fun p hm => (hp p hm).il]) ?_
  have hlen := h.len
  refine wp_agg (by simp only [tv, tp, tn, PE.dn, SE.dn, dnL, nth, projV, List.getD_cons_succ, List.getD_cons_zero, Rg.cells, Pc.cells]; rfl) rfl ?_
  refine wp_callE (ev26R k h) rfl ?_
  refine wp_neq rfl rfl ?_
  refine wp_iteP rfl (fun he => ?_) (fun he => ?_)
  · refine wp_ret (v := .tup [.agg [iv 0, .snil], iv _]) rfl rfl ?_
    unfold eop; rw [if_pos he]; exact opened_no he
  replace he := Decidable.not_not.1 he
  have hl1 := ehd_len he
  refine wp_len25 rfl hx ?_
  refine wp_join (fun vs => vs = [] ∧ gapsOk ns 0 (l.length - 1)) ?_ ?_
  · refine wp_loop (fun j vs => ∃ i : Nat, vs = [iv i] ∧ i + j = ns.length ∧ ∀ m, m < i → 0 ≤ ns.getD m 0 ∧ ns.getD m 0 ≤ (l.length : Int) - 1) ns.length (by omega) ⟨0, rfl, by omega, fun m hm => by omega⟩ ?_
    rintro j vs ⟨i, rfl, hij, hb⟩
    refine wp_lss rfl rfl ?_
    refine wp_iteP rfl (fun h' => ?_) (fun h' => ?_)
    · have hlt : i < ns.length := by omega
      refine wp_row1 rfl hx rfl hlt ?_
      refine wp_len22 rfl h.rl ?_
      refine wp_sub1 rfl rfl (by omega) ?_
      refine wp_callE (ev71P _ _ _ _) rfl ?_
      refine wp_notP rfl ?_
      refine wp_iteP rfl (fun h3 => ?_) (fun h3 => ?_)
      · refine wp_retO ?_
        refine wp_retO ?_
        refine wp_ret (v := .tup [.agg [iv 0, .snil], iv 3]) rfl rfl ?_
        unfold eop
        rw [if_neg (by simpa using he), if_neg (fun hc => h3 (by have := hc _ (gmI hlt); omega))]
        exact opened_no (by decide)
      · refine wp_add1 rfl rfl (by omega) ?_
        refine wp_jump ⟨j - 1, by omega, i + 1, rfl, by omega, fun m hm => ?_⟩
        by_cases e : m = i
        · subst e; have := Decidable.not_not.1 h3; omega
        · exact hb m (by omega)
    · refine wp_jumpO (by decide) ?_
      exact wp_jump ⟨rfl, all_get (d := 0) fun m hm => hb m (by omega)⟩
  rintro vs ⟨rfl, hg⟩
  try refine rn_norm (by (try simp only [List.length_cons, List.length_nil, Nat.reduceAdd, Nat.zero_add]); rfl) (by (try simp only [pushL]); rfl) ?_
  refine wp_len29 rfl hy ?_
  refine wp_join (fun vs => vs = [] ∧ erp ps = 0) ?_ ?_
  · refine wp_loop (fun j vs => ∃ i : Nat, vs = [iv i] ∧ i + j = ps.length ∧ ∀ m, m < i → epc (ps.getD m default) = 0) ps.length (by omega) ⟨0, rfl, by omega, fun m hm => by omega⟩ ?_
    rintro j vs ⟨i, rfl, hij, hb⟩
    refine wp_lss rfl rfl ?_
    refine wp_iteP rfl (fun h' => ?_) (fun h' => ?_)
    · have hlt : i < ps.length := by omega
      have hrow := rowP hy hlt
      have hat := fun hb' => erp_at (l := ps) hlt hb hb'
      have hri := hp _ (gmP hlt)
      have hst : epc (ps.getD i default) = 0 → ∀ m, m < i + 1 → epc (ps.getD m default) = 0 := fun h0 m hm => by
        by_cases e : m = i
        · subst e; exact h0
        · exact hb m (by omega)
      generalize ps.getD i default = p at hrow hat hri hst
      refine wp _ hrow ?_
      refine wp_callE (ev28R _ hri) rfl ?_
      refine wp_neq rfl rfl ?_
      refine wp_iteP rfl (fun h3 => ?_) (fun h3 => ?_)
      · refine wp_retO ?_
        refine wp_retO ?_
        refine wp_ret (v := .tup [.agg [iv 0, .snil], iv (epc p)]) rfl rfl ?_
        unfold eop
        rw [if_neg (by simpa using he), if_pos hg, hat h3]
        exact opened_no h3
      · refine wp_add1 rfl rfl (by omega) ?_
        exact wp_jump ⟨j - 1, by omega, i + 1, rfl, by omega, hst (Decidable.not_not.1 h3)⟩
    · refine wp_jumpO (by decide) ?_
      exact wp_jump ⟨rfl, erp_zero fun m hm => hb m (by omega)⟩
  rintro vs ⟨rfl, hz⟩
  refine wp_ret (v := .tup [.agg [iv slip, lp], iv 0]) rfl (by simp [h.plain]) ?_
  unfold eop
  rw [if_neg (by simpa using he), if_pos hg, hz]
  exact ⟨_, _, rfl, fun _ => ⟨rfl, rfl⟩, by simp [h.plain]⟩
/-! ### Pricks -/
def epkA (l : List Int) (i : Nat) : Int := if 0 ≤ l.getD i 0 ∧ l.getD i 0 ≤ 300 then (if 0 < i ∧ l.getD i 0 ≤ l.getD (i - 1) 0 then 5 else 0) else 1
def epkL (l : List Int) : Nat → Int
  | 0 => 0
  | n + 1 => if epkL l n ≠ 0 then epkL l n else epkA l n
def epk (l : List Int) : Int := if 16 < l.length then 6 else epkL l l.length
/-- The error of rulings, of the number of one, of pricks. -/
def eho (slip : Int) (l : List Rg) (n : Int) (ps : List Int) : Int := if eop slip l [n] [] ≠ 0 then eop slip l [n] [] else epk ps
end Go.Proofs.YtlminnpaeaganaaGreat
namespace Go.Proofs.YtlminnpaeaganaaGreat
open Go Go.RowKit
set_option linter.unusedVariables false
set_option linter.unusedSimpArgs false
set_option maxRecDepth 100000
theorem take_oneI {l : List Int} {i : Nat} (h : i < l.length) : l.take (i + 1) = l.take i ++ [l.getD i 0] := by
  rw [List.take_add_one]
  simp [List.getD_eq_getElem?_getD, h]
theorem wp_rem {C : Orc → FuncId → List PV → Option PV} {n : Nat} {R : Out → Prop} {d : Nat} {st : List PV} {t : Tree} {T : TypeId} {x y : PE} {a b : Nat} (hx : x.dn d st = iv a) (hy : y.dn d st = iv b) (hb : 0 < b) (k : Rn C n t (d + 1) (iv ((a % b : Nat) : Int) :: st) R) : Rn C n (.prim (.bin .rem T x y) t) d st R := by
  refine wp (iv ((a % b : Nat) : Int)) ?_ k
  have e : Int.tmod (a : Int) (b : Int) = ((a % b : Nat) : Int) := by rw [Int.tmod_eq_emod_of_nonneg (by omega)]; simp
  simp only [Prim.rn, hx, hy]
  rw [aBin_rem (by omega), e]
/-! ### Valid ones, as the document does it -/
theorem ev83 (k : Nat) {r : Rg} (h : r.ok) (i : Nat) : Ev (k + 1) 118 [.agg r.cells, iv i] fun v => v = iv (stp r i) := by
  refine rn_of (t := t118) rfl (fn := Tryz.f118) (by kernel_rfl) (by simp [fitArgs, flagsOf, Rg.cells, h.il.plain]) ?_
  have h1 := h.l1
  have hi := h.il
  refine wp_agg (by simp only [tv, tp, tn, PE.dn, SE.dn, dnL, nth, projV, List.getD_cons_succ, List.getD_cons_zero, Rg.cells, Pc.cells]; rfl) rfl ?_
  refine wp_len25 rfl (by assumption) ?_
  refine wp_rem rfl rfl (by omega) ?_
  refine wp_row1 rfl hi rfl (Nat.mod_lt _ h.l1) ?_
  exact wp_ret rfl rfl rfl
theorem ev70 (k : Nat) {r : Rg} (h : r.ok) : Ev (k + 2) 83 [.agg r.cells] fun v => IL v (htl r r.lines.toNat) := by
  refine rn_of (t := t83) rfl (fn := Tryz.f83) (by kernel_rfl) (by simp [fitArgs, flagsOf, Rg.cells, h.il.plain]) ?_
  have h1 := h.n1
  have h2 := h.n2
  refine wp_agg (by simp only [tv, tp, tn, PE.dn, SE.dn, dnL, nth, projV, List.getD_cons_succ, List.getD_cons_zero, Rg.cells, Pc.cells]; rfl) rfl ?_
  refine wp_lst ?_
  refine wp_loop (fun j vs => ∃ i : Nat, vs = [iv i, .agg ((htl r (i + 1)).map iv)] ∧ (i : Int) + 1 + j = r.lines) (r.lines - 1).toNat (by omega) ⟨0, rfl, by omega⟩ ?_
  rintro j vs ⟨i, rfl, hi⟩
  refine wp_sub rfl rfl (by omega) (by omega) ?_
  refine wp_lss rfl rfl ?_
  refine wp_iteP rfl (fun h' => ?_) (fun h' => ?_)
  · have hk := ht_ok h i
    have hs := stp_ok h i
    refine wp_chkI rfl rfl (by rw [htl_len]; omega) ?_
    refine wp_getI rfl rfl (by rw [htl_len]; omega) ?_
    rw [htl_get r (by omega)]
    refine wp_callE (ev83 k h i) rfl ?_
    refine wp_add rfl rfl (by omega) (by omega) ?_
    refine wp_pushI (l := htl r (i + 1)) (a := ht r (i + 1)) rfl rfl (by decide) (by rw [htl_len]; omega) ?_
    rw [← htl_succ]
    refine wp_add1 rfl rfl (by omega) ?_
    exact wp_jump ⟨j - 1, by omega, i + 1, rfl, by omega⟩
  · have e : r.lines.toNat = i + 1 := by omega
    rw [e]
    have hp := ints_plain (htl r (i + 1))
    refine wp_frzR (l := htl r (i + 1)) rfl ?_
    refine wp_retO ?_
    exact wp_ret (v := .sl none 1 0 _ (List.map iv (htl r (i + 1)))) rfl (by simpa using hp) (.inr ⟨0, rfl⟩)
theorem ev114 (k : Nat) {slip m r : Int} (h : -1000000 ≤ m ∧ m ≤ 1000000 ∧ -1000000 ≤ r ∧ r ≤ 1000000) : Ev (k + 1) 151 [iv m, iv r, iv slip] fun v => v = .bool (decide (m - r ≤ slip ∧ r - m ≤ slip)) := by
  refine rn_of (t := t151) rfl (fn := Tryz.f151) (by kernel_rfl) rfl ?_
  try refine rn_norm (by (try simp only [List.length_cons, List.length_nil, Nat.reduceAdd, Nat.zero_add]); rfl) (by (try simp only [pushL]); rfl) ?_
  refine wp_join (fun vs => vs = [.bool (decide (m - r ≤ slip ∧ r - m ≤ slip))]) ?_ ?_
  · refine wp_sub rfl rfl (by omega) (by omega) ?_
    refine wp_leq rfl rfl ?_
    refine wp_iteP rfl (fun h1 => ?_) (fun h1 => ?_)
    · refine wp_sub rfl rfl (by omega) (by omega) ?_
      refine wp_leq rfl rfl ?_
      exact wp_jump (jb_eq (by omega))
    · exact wp_jump (jb_fd (by omega))
  · rintro vs rfl
    exact wp_ret rfl rfl rfl
theorem eop_hd {slip : Int} {l : List Rg} {ns : List Int} {ps : List Pc} (h : eop slip l ns ps = 0) : ehd slip l = 0 ∧ gapsOk ns 0 (l.length - 1) ∧ erp ps = 0 := by
  unfold eop at h
  split at h
  · rename_i hc; exact absurd h hc
  · rename_i hc
    split at h
    · rename_i hg; exact ⟨Decidable.not_not.1 hc, hg, h⟩
    · cases h
end Go.Proofs.YtlminnpaeaganaaGreat
namespace Go.Proofs.YtlminnpaeaganaaGreat
open Go Go.RowKit
set_option linter.unusedVariables false
set_option linter.unusedSimpArgs false
set_option maxRecDepth 100000
/-! ### Data -/
theorem shC_int {k : Nat} {cs : List PV} (h : ShC Tryz.prog (k + 1) 3 cs) : ∃ n, cs = [iv n] := by
  unfold ShC at h
  rw [unInt] at h
  obtain ⟨n, hn, _⟩ := h
  exact ⟨n, hn⟩
theorem unB4 : Tryz.prog.underlying 4 = some .bool := by kernel_rfl
theorem shC_bool {k : Nat} {cs : List PV} (h : ShC Tryz.prog (k + 1) 4 cs) : ∃ b, cs = [.bool b] := by
  unfold ShC at h
  rw [unB4] at h
  exact h
theorem c3 : Tryz.prog.cellsOf 3 = 1 := by kernel_rfl
theorem c57 : Tryz.prog.cellsOf 58 = 3 := by kernel_rfl
theorem shC_ints {k : Nat} {cs : List PV} (h : ShC Tryz.prog (k + 2) 22 cs) : ∃ x l, cs = [x] ∧ IL x l := by
  unfold ShC at h
  rw [unL'] at h
  simp only at h
  rcases h with h | ⟨off, ls, h, _, hl⟩
  · exact ⟨.snil, [], h, .inl ⟨rfl, rfl⟩⟩
  · rw [c3] at h hl
    have key : ∀ ls : List (List PV), (∀ l ∈ ls, ∃ n, l = [iv n]) → ∃ ns : List Int, ls.flatten = ns.map iv ∧ ns.length = ls.length := by
      intro ls
      induction ls with
      | nil => intro _; exact ⟨[], rfl, rfl⟩
      | cons a ls ih =>
        intro ha
        obtain ⟨n, rfl⟩ := ha a (by simp)
        obtain ⟨ns, h1, h2⟩ := ih fun l hm => ha l (by simp [hm])
        exact ⟨n :: ns, by simp [h1], by simp [h2]⟩
    obtain ⟨ns, h1, h2⟩ := key ls fun l hm => shC_int (hl l hm).1
    rw [h1, ← h2] at h
    exact ⟨_, ns, h, .inr ⟨off, rfl⟩⟩
theorem shC_struct {k : Nat} {t : TypeId} {ts : List TypeId} {cs : List PV} (ht : (match Tryz.prog.underlying t with | some (.struct fs) => decide (fs.toList.map (·.type) = ts) | _ => false) = true) (h : ShC Tryz.prog (k + 1) t cs) : ∃ ls : List (List PV), cs = ls.flatten ∧ ls.length = ts.length ∧ ∀ (i : Nat) u l, ts[i]? = some u → ls[i]? = some l → ShC Tryz.prog k u l := by
  unfold ShC at h
  split at ht
  · rename_i fs hfs
    rw [hfs] at h
    simp only [decide_eq_true_eq] at ht
    obtain ⟨ls, h1, h2, h3⟩ := h
    refine ⟨ls, h1, by rw [h2, ← ht]; simp, fun i u l hu hl => ?_⟩
    rw [← ht] at hu
    simp only [List.getElem?_map, Option.map_eq_some_iff] at hu
    obtain ⟨f, hf, rfl⟩ := hu
    exact (h3 i f l (by simpa using hf) hl).1
  · cases ht
theorem list3 {α : Type} {l : List α} (h : l.length = 3) : ∃ a b c, l = [a, b, c] := by
  match l, h with
  | [a, b, c], _ => exact ⟨a, b, c, rfl⟩
theorem list2 {α : Type} {l : List α} (h : l.length = 2) : ∃ a b, l = [a, b] := by
  match l, h with
  | [a, b], _ => exact ⟨a, b, rfl⟩
theorem list5 {α : Type} {l : List α} (h : l.length = 5) : ∃ a b c d e, l = [a, b, c, d, e] := by
  match l, h with
  | [a, b, c, d, e], _ => exact ⟨a, b, c, d, e, rfl⟩
theorem shC_ruling {k : Nat} {cs : List PV} (h : ShC Tryz.prog (k + 3) 58 cs) : ∃ r : Rg, cs = r.cells ∧ IL r.sp r.st := by
  obtain ⟨ls, rfl, hl, hs⟩ := shC_struct (ts := [22, 3, 3]) (by kernel_rfl) h
  obtain ⟨a, b, c, rfl⟩ := list3 hl
  obtain ⟨x, st, rfl, hi⟩ := shC_ints (hs 0 22 a rfl rfl)
  obtain ⟨n, rfl⟩ := shC_int (hs 1 3 b rfl rfl)
  obtain ⟨m, rfl⟩ := shC_int (hs 2 3 c rfl rfl)
  exact ⟨⟨x, st, n, m⟩, rfl, hi⟩
theorem shV_rulings {q : PV} (h : ShV Tryz.prog 6 27 q) : ∃ slip lp l, q = .agg [iv slip, lp] ∧ RL lp l ∧ ∀ r ∈ l, IL r.sp r.st := by
  have ha : aggT Tryz.prog 27 = some true := by kernel_rfl
  unfold ShV at h
  rw [ha] at h
  obtain ⟨cs, rfl, hc⟩ := h
  obtain ⟨ls, rfl, hl, hs⟩ := shC_struct (ts := [3, 25]) (by kernel_rfl) hc
  obtain ⟨a, b, rfl⟩ := list2 hl
  obtain ⟨slip, rfl⟩ := shC_int (hs 0 3 a rfl rfl)
  have hb := hs 1 25 b rfl rfl
  unfold ShC at hb
  rw [unR] at hb
  simp only at hb
  rcases hb with rfl | ⟨off, ls, rfl, _, hl⟩
  · exact ⟨slip, .snil, [], rfl, .inl ⟨rfl, rfl⟩, by simp⟩
  · rw [c57] at hl
    have key : ∀ ls : List (List PV), (∀ l ∈ ls, ∃ r : Rg, l = r.cells ∧ IL r.sp r.st) → ∃ rs : List Rg, ls.flatten = rcells rs ∧ rs.length = ls.length ∧ ∀ r ∈ rs, IL r.sp r.st := by
      intro ls
      induction ls with
      | nil => intro _; exact ⟨[], rfl, rfl, by simp⟩
      | cons a ls ih =>
        intro ha
        obtain ⟨r, rfl, hr⟩ := ha a (by simp)
        obtain ⟨rs, h1, h2, h3⟩ := ih fun l hm => ha l (by simp [hm])
        exact ⟨r :: rs, by simp [h1], by simp [h2], by simp; exact ⟨hr, h3⟩⟩
    obtain ⟨rs, h1, h2, h3⟩ := key ls fun l hm => shC_ruling (hl l hm).1
    refine ⟨slip, _, rs, rfl, .inr ⟨off, ?_⟩, h3⟩
    rw [c57, h1, h2]
theorem shV_patch {q : PV} (h : ShV Tryz.prog 6 30 q) : ∃ p : Pc, q = .agg p.cells ∧ IL p.gp p.g := by
  have ha : aggT Tryz.prog 30 = some true := by kernel_rfl
  unfold ShV at h
  rw [ha] at h
  obtain ⟨cs, rfl, hc⟩ := h
  obtain ⟨ls, rfl, hl, hs⟩ := shC_struct (ts := [22, 3, 3, 3, 4]) (by kernel_rfl) hc
  obtain ⟨a, b, c, d, e, rfl⟩ := list5 hl
  obtain ⟨x, st, rfl, hi⟩ := shC_ints (hs 0 22 a rfl rfl)
  obtain ⟨n, rfl⟩ := shC_int (hs 1 3 b rfl rfl)
  obtain ⟨m, rfl⟩ := shC_int (hs 2 3 c rfl rfl)
  obtain ⟨w, rfl⟩ := shC_int (hs 3 3 d rfl rfl)
  obtain ⟨f, rfl⟩ := shC_bool (hs 4 4 e rfl rfl)
  exact ⟨⟨x, st, n, m, w, f⟩, rfl, hi⟩
theorem shL_cons {P : Program} {k : Nat} {t : TypeId} {ts : List TypeId} {qs : List PV} (h : ShL P k (t :: ts) qs) : ∃ q qs', qs = q :: qs' ∧ ShV P k t q ∧ ShL P k ts qs' := by
  cases qs with
  | nil => exact h.elim
  | cons q qs => exact ⟨q, qs, rfl, h.1, h.2⟩
theorem shL_nil {P : Program} {k : Nat} {qs : List PV} (h : ShL P k [] qs) : qs = [] := by
  cases qs with
  | nil => rfl
  | cons q qs => exact h.elim
/-! ### Long lists -/
theorem ev16 (k : Nat) {slip : Int} {lp y : PV} {l : List Rg} {ps : List Pc} (hr : RL lp l) (hrd : ∀ r ∈ l, IL r.sp r.st) (hy : PL y ps) (hpd : ∀ p ∈ ps, IL p.gp p.g) : Ev (k + 1) 21 [.agg [iv slip, lp], y] fun v => ∃ b, v = .bool b ∧ (b = false → (l.length ≤ 20 ∧ ∀ r ∈ l, r.st.length ≤ 20) ∧ ps.length ≤ 20 ∧ ∀ p ∈ ps, p.g.length ≤ 20) := by
  refine rn_of (t := t21) rfl (fn := Tryz.f21) (by kernel_rfl) (by simp [fitArgs, flagsOf, hr.plainR hrd, hy.plain hpd]) ?_
  refine wp_agg (by simp only [tv, tp, tn, PE.dn, SE.dn, dnL, nth, projV, List.getD_cons_succ, List.getD_cons_zero, Rg.cells, Pc.cells]; rfl) rfl ?_
  refine wp_join (fun vs => vs = [.bool (decide (20 < l.length ∨ 20 < ps.length))]) ?_ ?_
  · refine wp_len22 rfl hr ?_
    refine wp_gtr rfl rfl ?_
    refine wp_iteP rfl (fun h1 => ?_) (fun h1 => ?_)
    · exact wp_jump (jb_t (by omega))
    · refine wp_len29 rfl hy ?_
      refine wp_gtr rfl rfl ?_
      exact wp_jump (jb_eq (by omega))
  rintro vs rfl
  try refine rn_norm (by (try simp only [List.length_cons, List.length_nil, Nat.reduceAdd, Nat.zero_add]); rfl) (by (try simp only [pushL]); rfl) ?_
  refine wp_iteP rfl (fun h1 => ?_) (fun h1 => ?_)
  · exact wp_ret rfl rfl ⟨true, rfl, fun h => by cases h⟩
  refine wp_join (fun vs => vs = [] ∧ ∀ r ∈ l, r.st.length ≤ 20) ?_ ?_
  · refine wp_loop (fun j vs => ∃ i : Nat, vs = [iv i] ∧ i + j = l.length ∧ ∀ m, m < i → (l.getD m default).st.length ≤ 20) l.length (by omega) ⟨0, rfl, by omega, fun m hm => by omega⟩ ?_
    rintro j vs ⟨i, rfl, hi, hb⟩
    try refine rn_norm (by (try simp only [List.length_cons, List.length_nil, Nat.reduceAdd, Nat.zero_add]); rfl) (by (try simp only [pushL]); rfl) ?_
    refine wp_len22 rfl hr ?_
    refine wp_lss rfl rfl ?_
    refine wp_iteP rfl (fun h2 => ?_) (fun h2 => ?_)
    · have hlt : i < l.length := by omega
      have hrow := rowR hr hlt
      have hri := hrd _ (gmR hlt)
      have hst : (l.getD i default).st.length ≤ 20 → ∀ m, m < i + 1 → (l.getD m default).st.length ≤ 20 := fun h0 m hm => by
        by_cases e : m = i
        · subst e; exact h0
        · exact hb m (by omega)
      generalize l.getD i default = r at hrow hri hst
      refine wp _ hrow ?_
      refine wp_len25 rfl hri ?_
      refine wp_gtr rfl rfl ?_
      refine wp_iteP rfl (fun h3 => ?_) (fun h3 => ?_)
      · refine wp_retO ?_
        refine wp_retO ?_
        exact wp_ret rfl rfl ⟨true, rfl, fun h => by cases h⟩
      · refine wp_add1 rfl rfl (by omega) ?_
        exact wp_jump ⟨j - 1, by omega, i + 1, rfl, by omega, hst (by omega)⟩
    · refine wp_jumpO (by decide) ?_
      exact wp_jump ⟨rfl, all_get (d := default) (P := fun r : Rg => r.st.length ≤ 20) fun m hm => hb m (by omega)⟩
  rintro vs ⟨rfl, hg1⟩
  try refine rn_norm (by (try simp only [List.length_cons, List.length_nil, Nat.reduceAdd, Nat.zero_add]); rfl) (by (try simp only [pushL]); rfl) ?_
  refine wp_join (fun vs => vs = [] ∧ ∀ p ∈ ps, p.g.length ≤ 20) ?_ ?_
  · refine wp_loop (fun j vs => ∃ i : Nat, vs = [iv i] ∧ i + j = ps.length ∧ ∀ m, m < i → (ps.getD m default).g.length ≤ 20) ps.length (by omega) ⟨0, rfl, by omega, fun m hm => by omega⟩ ?_
    rintro j vs ⟨i, rfl, hi, hb⟩
    try refine rn_norm (by (try simp only [List.length_cons, List.length_nil, Nat.reduceAdd, Nat.zero_add]); rfl) (by (try simp only [pushL]); rfl) ?_
    refine wp_len29 rfl hy ?_
    refine wp_lss rfl rfl ?_
    refine wp_iteP rfl (fun h2 => ?_) (fun h2 => ?_)
    · have hlt : i < ps.length := by omega
      have hrow := rowP hy hlt
      have hri := hpd _ (gmP hlt)
      have hst : (ps.getD i default).g.length ≤ 20 → ∀ m, m < i + 1 → (ps.getD m default).g.length ≤ 20 := fun h0 m hm => by
        by_cases e : m = i
        · subst e; exact h0
        · exact hb m (by omega)
      generalize ps.getD i default = p at hrow hri hst
      refine wp _ hrow ?_
      refine wp_len25 rfl hri ?_
      refine wp_gtr rfl rfl ?_
      refine wp_iteP rfl (fun h3 => ?_) (fun h3 => ?_)
      · refine wp_retO ?_
        refine wp_retO ?_
        exact wp_ret rfl rfl ⟨true, rfl, fun h => by cases h⟩
      · refine wp_add1 rfl rfl (by omega) ?_
        exact wp_jump ⟨j - 1, by omega, i + 1, rfl, by omega, hst (by omega)⟩
    · refine wp_jumpO (by decide) ?_
      exact wp_jump ⟨rfl, all_get (d := default) (P := fun p : Pc => p.g.length ≤ 20) fun m hm => hb m (by omega)⟩
  rintro vs ⟨rfl, hg2⟩
  exact wp_ret rfl rfl ⟨false, rfl, fun _ => ⟨⟨by omega, hg1⟩, by omega, hg2⟩⟩
/-! ### Sets of rulings -/
theorem rawSet {l : List Rg} {i : Nat} {r : Rg} (h : ∀ r ∈ l, IL r.sp r.st) (hr : IL r.sp r.st) : ∀ s ∈ l.set i r, IL s.sp s.st := fun s hs => by
  rcases List.mem_or_eq_of_mem_set hs with h' | h'
  · exact h s h'
  · rw [h']; exact hr
theorem ev19 (k : Nat) {slip : Int} {lp : PV} {l : List Rg} (h : RawH lp l) : Ev (k + 6) 22 [.agg [iv slip, lp], dv] fun v => ∃ s2 lp2 l2 lp3 l3, v = .sl none 2 0 4 [iv slip, lp, iv s2, lp2, iv s2, lp3, iv s2, lp2] ∧ Hand s2 lp2 l2 ∧ l2.length ≤ 3 ∧ RawH lp3 l3 ∧ l3.length = l2.length := by
  refine rn_of (t := t22) rfl (fn := Tryz.f22) (by kernel_rfl) (by simp [fitArgs, flagsOf, h.plain]) ?_
  refine wp_agg (by simp only [tv, tp, tn, PE.dn, SE.dn, dnL, nth, projV, List.getD_cons_succ, List.getD_cons_zero, Rg.cells, Pc.cells]; rfl) rfl ?_
  refine wp_call (ev38 k 3 (by omega) (by omega)) rfl ?_
  rintro v ⟨s2, lp2, l2, rfl, s0, s3, hrl, hl1, hl2, hok⟩
  have hH : Hand s2 lp2 l2 := ⟨s0, s3, hrl, hl1, by omega, hok⟩
  refine wp_agg (by simp only [tv, tp, tn, PE.dn, SE.dn, dnL, nth, projV, List.getD_cons_succ, List.getD_cons_zero, Rg.cells, Pc.cells]; rfl) rfl ?_
  refine wp_len22 rfl (by assumption) ?_
  refine wp_mk3 rfl (by omega) ?_
  refine wp_join (fun vs => vs = [.agg (rcells (l2.map dupR))]) ?_ ?_
  · refine wp_loop (fun j vs => ∃ (i : Nat) (L : List Rg), vs = [iv i, .agg (rcells L)] ∧ i + j = l2.length ∧ L.length = l2.length ∧ ∀ k, k < i → L.getD k default = dupR (l2.getD k default)) l2.length (by omega) ⟨0, List.replicate l2.length default, rfl, by omega, by simp, by simp⟩ ?_
    rintro j vs ⟨i, L, rfl, hi, hL, hk⟩
    try refine rn_norm (by (try simp only [List.length_cons, List.length_nil, Nat.reduceAdd, Nat.zero_add]); rfl) (by (try simp only [pushL]); rfl) ?_
    refine wp_lenc3 rfl ?_
    refine wp_lss rfl rfl ?_
    refine wp_iteP rfl (fun h' => ?_) (fun h' => ?_)
    · have hlt : i < l2.length := by omega
      have hrow := rowR hrl hlt
      have hr := hH.get hlt
      have hri := hr.il
      have hrs := hr.l2
      generalize hR : l2.getD i default = r at hri hrs hrow
      refine wp _ hrow ?_
      refine wp_callE (ev64R (k + 3) hri (by omega)) rfl ?_
      refine wp_chk3 rfl rfl (by omega) ?_
      refine wp_agg (cs := (dupR r).cells) rfl rfl ?_
      refine wp_put3 (r := dupR r) rfl rfl rfl (by omega) ?_
      refine wp_add1 rfl rfl (by omega) ?_
      refine wp_jump ⟨j - 1, by omega, i + 1, L.set i (dupR r), rfl, by omega, by simpa using hL, fun k hk' => ?_⟩
      by_cases e : k = i
      · subst e
        have : k < L.length := by omega
        rw [hR]
        simp [List.getD_eq_getElem?_getD, this]
      · have := hk k (by omega)
        simp only [List.getD_eq_getElem?_getD] at this ⊢
        rw [List.getElem?_set_ne (by omega)]
        exact this
    · refine wp_jumpO (by decide) ?_
      have e : L = l2.map dupR := List.ext_getElem (by simpa using hL) fun k h1 h2 => by
        have h3 : k < l2.length := by simpa using h2
        have := hk k (by omega)
        simpa [List.getD_eq_getElem?_getD, h1, h3] using this
      rw [e]
      exact wp_jump rfl
  rintro vs rfl
  try refine rn_norm (by (try simp only [List.length_cons, List.length_nil, Nat.reduceAdd, Nat.zero_add]); rfl) (by (try simp only [pushL]); rfl) ?_
  refine wp_len22 rfl h.rl ?_
  refine wp_gtr rfl rfl ?_
  have hdl : (l2.map dupR).length = l2.length := by simp
  have hdr : ∀ r ∈ l2.map dupR, IL r.sp r.st := rawDup
  have hds : ∀ r ∈ l2.map dupR, r.st.length ≤ 20 := fun r hr => by
    obtain ⟨r', hr', rfl⟩ := List.mem_map.1 hr
    have := (hok r' hr').l2
    show r'.st.length ≤ 20
    omega
  generalize l2.map dupR = D at hdl hdr hds
  refine wp_join (fun vs => ∃ L : List Rg, vs = [.agg (rcells L)] ∧ L.length = l2.length ∧ (∀ r ∈ L, IL r.sp r.st) ∧ ∀ r ∈ L, r.st.length ≤ 20) ?_ ?_
  · refine wp_iteP rfl (fun h1 => ?_) (fun h1 => ?_)
    · have hlt : 0 < l.length := by omega
      have hrow := rowR h.rl hlt
      have hri := h.rd _ (gmR hlt)
      have hrs := h.sh _ (gmR hlt)
      generalize l.getD 0 default = r at hrow hri hrs
      refine wp_lenc3 rfl ?_
      refine wp_sub1 rfl rfl (by omega) ?_
      refine wp_call (ev21 (k + 3) ((D.length - 1 : Nat) : Int) (by omega) (by omega)) rfl ?_
      rintro v ⟨m, rfl, hm0, hm1⟩
      obtain ⟨m, rfl⟩ := Int.eq_ofNat_of_zero_le hm0
      refine wp _ hrow ?_
      refine wp_callE (ev64R (k + 3) hri hrs) rfl ?_
      refine wp_chk3 rfl rfl (by omega) ?_
      refine wp_agg (cs := (dupR r).cells) rfl rfl ?_
      refine wp_put3 (r := dupR r) rfl rfl rfl (by omega) ?_
      refine wp_jump ⟨D.set m (dupR r), rfl, by simp [hdl], rawSet hdr (.inr ⟨0, rfl⟩), fun s hs => ?_⟩
      rcases List.mem_or_eq_of_mem_set hs with h' | h'
      · exact hds s h'
      · rw [h']; exact hrs
    · exact wp_jump ⟨D, rfl, hdl, hdr, hds⟩
  rintro vs ⟨L, rfl, hL1, hL2, hL3⟩
  try refine rn_norm (by (try simp only [List.length_cons, List.length_nil, Nat.reduceAdd, Nat.zero_add]); rfl) (by (try simp only [pushL]); rfl) ?_
  refine wp_frz3 rfl ?_
  have p1 := h.plain
  have p2 := hH.plain
  have p3 := rcells_plainR hL2
  refine wp_ret (v := .sl none 2 0 4 [iv slip, lp, iv s2, lp2, iv s2, .sl none 3 0 L.length (rcells L), iv s2, lp2]) rfl (by simp [p1, p2, p3]) ⟨s2, lp2, l2, _, L, rfl, hH, by omega, ⟨.inr ⟨0, rfl⟩, hL2, by omega, hL3⟩, hL1⟩
theorem row4 {a0 b0 a1 b1 a2 b2 a3 b3 : PV} : ∀ i : Nat, i < 4 → rowV 2 (.sl none 2 0 4 [a0, b0, a1, b1, a2, b2, a3, b3]) (iv i) = some (.agg [[a0, a1, a2, a3].getD i .bad, [b0, b1, b2, b3].getD i .bad])
  | 0, _ => rfl
  | 1, _ => rfl
  | 2, _ => rfl
  | 3, _ => rfl
theorem len33 {id : Option Nat} {a b n : Nat} {cs : List PV} : aLen Tryz.prog 48 (.sl id a b n cs) = some (iv n) := by
  have h : (match Tryz.prog.underlying 48 with | some (.slice _) => true | _ => false) = true := by kernel_rfl
  split at h
  · rename_i e he; simp [aLen, he]
  · cases h
theorem wp_len33 {C : Orc → FuncId → List PV → Option PV} {n : Nat} {R : Out → Prop} {d : Nat} {st : List PV} {t : Tree} {x : PE} {id : Option Nat} {a b m : Nat} {cs : List PV} (hx : x.dn d st = .sl id a b m cs) (k : Rn C n t (d + 1) (iv m :: st) R) : Rn C n (.prim (.len 48 x) t) d st R := wp _ (by simp only [Prim.rn, hx]; exact len33) k
end Go.Proofs.YtlminnpaeaganaaGreat
