/- Plain laws of rulings. No condition. -/
import Derived.Test.YtlminnpaeaganaaMPlain
import Derived.Test.YtlminnpaeaganaaMLined
import Derived.Test.YtlminnpaeaganaaMRead
namespace Go.Proofs.Ytlminnpaeaganaa
open Go Go.RowKit
set_option linter.unusedVariables false
set_option linter.unusedSimpArgs false
set_option maxRecDepth 100000
theorem nums_shape {q : PV} (h : ShV Try.prog 6 25 q) : intsB q = true ∧ q.plain = true ∧ q.one = true := by
  have ha : aggT Try.prog 25 ≠ some true := by
    have : (match aggT Try.prog 25 with | some true => false | _ => true) = true := by kernel_rfl
    intro e; rw [e] at this; cases this
  have h' : ∃ q', q = q' ∧ ShC Try.prog 6 25 [q'] := by
    unfold ShV at h
    split at h
    · exact absurd (by assumption) ha
    · exact h
  obtain ⟨q', rfl, hc⟩ := h'
  have hp := shC_plain _ _ _ hc
  unfold ShC at hc
  rw [unL'] at hc
  simp only at hc
  rcases hc with hc | ⟨off, ls, hc, _, hl⟩
  · injection hc with hc
    subst hc
    exact ⟨rfl, rfl, rfl⟩
  · injection hc with hc
    subst hc
    have h3 : Try.prog.cellsOf 3 = 1 := by kernel_rfl
    have hi : ∀ l ∈ ls, ∃ n, l = [iv n] := by
      intro l hm
      have := (hl l hm).1
      unfold ShC at this
      rw [unInt] at this
      obtain ⟨n, hn, _⟩ := this
      exact ⟨n, hn⟩
    refine ⟨?_, by simpa [plainC] using hp, rfl⟩
    rw [h3]
    simp only [intsB, Bool.and_eq_true, decide_eq_true_eq, List.all_eq_true]
    refine ⟨?_, fun c hc => ?_⟩
    · rw [flatten_len (n := 1) (fun l hm => by obtain ⟨n, rfl⟩ := hi l hm; rfl), Nat.mul_one]
    · obtain ⟨l, hm, hcl⟩ := List.mem_flatten.1 hc
      obtain ⟨n, rfl⟩ := hi l hm
      simp at hcl
      subst hcl
      rfl
theorem Pr.push {l : List Int} {a : Int} (h : Pr l) (hl : l.length < 16) (h0 : 0 ≤ a) (h1 : a ≤ 300) (hlast : 0 < l.length → l.getD (l.length - 1) 0 < a) : Pr (l ++ [a]) := by
  refine ⟨by simp; omega, fun p hp => ?_, fun i hi => ?_⟩
  · rcases List.mem_append.1 hp with h' | h'
    · exact h.rng p h'
    · simp at h'; omega
  · simp at hi
    have g0 : ∀ i, i < l.length → (l ++ [a]).getD i 0 = l.getD i 0 := fun i hi => by simp [List.getD_eq_getElem?_getD, List.getElem?_append_left hi]
    rw [g0 i (by omega)]
    by_cases hh : i + 1 < l.length
    · rw [g0 _ hh]
      exact h.asc i hh
    · have e : i + 1 = l.length := by omega
      have e2 : (l ++ [a]).getD (i + 1) 0 = a := by simp [e]
      rw [e2, show i = l.length - 1 by omega]
      exact hlast (by omega)
theorem mk_int {n : Nat} (hn : n < 1000000) : mkV [iv 0] 8 (iv n) = some (.agg ((List.replicate n (0 : Int)).map iv)) := by
  have e : ∀ n : Nat, repl [iv 0] n = (List.replicate n (0 : Int)).map iv := by
    intro n
    induction n with
    | zero => rfl
    | succ n ih => simp [repl, ih, List.replicate_succ]
  simp only [mkV, e, Int.toNat_natCast]
  rw [if_pos (by omega)]
theorem put_int {l : List Int} {i : Nat} {a : Int} (hi : i < l.length) : putV 1 0 (.agg (l.map iv)) (iv i) [iv a] = some (.agg ((l.set i a).map iv)) := by
  have e : splice (l.map iv) (i * 1 + 0) [iv a] = (l.set i a).map iv := by
    rw [List.set_eq_take_append_cons_drop, if_pos hi]
    simp [splice, List.map_take, List.map_drop]
  simp only [putV, Int.toNat_natCast]
  rw [if_pos (by simp; omega), e]
end Go.Proofs.Ytlminnpaeaganaa
namespace Go.Proofs.Ytlminnpaeaganaa
open Go Go.RowKit
set_option linter.unusedVariables false
set_option linter.unusedSimpArgs false
set_option maxRecDepth 100000
theorem mk_ev {n k : Nat} {R : Out → Prop} {ρ : List PV} {g : FuncId} {args : List PV} {es : List PE} {t : Tree} {Q : PV → Prop} (h : Ev k g args Q) (e : denL ρ es = args) (kk : ∀ v, Q v → Run Try.prog (E Try.prog k) n t (ρ ++ [v]) R) : Run Try.prog (E Try.prog k) n (.call g es t) ρ R := mk_call (by rw [e]; exact h) kk
theorem flat_row {α : Type} [Inhabited α] {f : α → List PV} {n : Nat} (hf : ∀ a, (f a).length = n) : ∀ (l : List α) (j : Nat), j < l.length → ((l.flatMap f).drop (j * n)).take n = f (l.getD j default) := by
  intro l
  induction l with
  | nil => intro j hj; simp at hj
  | cons r l ih =>
    intro j hj
    cases j with
    | zero =>
      simp only [List.flatMap_cons, Nat.zero_mul, List.drop_zero, List.getD_cons_zero]
      rw [← hf r, List.take_left]
    | succ j =>
      rw [List.flatMap_cons, show (j + 1) * n = (f r).length + j * n by rw [hf, Nat.add_mul]; omega, List.drop_length_add_append]
      simpa using ih j (by simpa using hj)
structure Pc where
  gp : PV
  g : List Int
  up : Int
  dn : Int
  wd : Int
  fr : Bool
instance : Inhabited Pc := ⟨⟨.snil, [], 0, 0, 0, false⟩⟩
def Pc.cells (p : Pc) : List PV := [p.gp, iv p.up, iv p.dn, iv p.wd, .bool p.fr]
structure Pc.ok (p : Pc) : Prop where
  il : IL p.gp p.g
  gl : p.g.length ≤ 5
  gs : ∀ x ∈ p.g, 1 ≤ x ∧ x ≤ 30
  u0 : 0 ≤ p.up
  u1 : p.up ≤ 30
  d0 : 0 ≤ p.dn
  d1 : p.dn ≤ 30
  w0 : 0 ≤ p.wd
  w1 : p.wd ≤ 60
theorem Pc.ok.get {p : Pc} (h : p.ok) {i : Nat} (hi : i < p.g.length) : 1 ≤ p.g.getD i 0 ∧ p.g.getD i 0 ≤ 30 := h.gs _ (by simp [List.getD_eq_getElem?_getD, hi])
theorem ev28 (k : Nat) {p : Pc} (h : p.ok) : Ev (k + 2) 28 [.agg p.cells] fun v => v = iv 0 := by
  refine ev_of (t := t28) rfl (fn := Try.f28) (by kernel_rfl) (by simp [fitArgs, flagsOf, Pc.cells, h.il.plain]) ?_
  have h1 := h.gl
  simp [t28, tv, tp, tn, Pc.cells, h.il.len]
  refine pif (fun h => ?_) (fun h => ?_) <;> simp at h
  · omega
  · rename_i hh
    refine mk_join (fun vs => vs = []) ?_ ?_
    · refine mk_loop (fun j vs => ∃ i : Nat, vs = [iv i] ∧ i + j = p.g.length) p.g.length (by omega) ⟨0, rfl, by omega⟩ ?_
      rintro j vs ⟨i, rfl, hi⟩
      simp
      refine pif (fun h => ?_) (fun h => ?_) <;> simp at h
      · have hlt : i < p.g.length := by omega
        have hs := hh.get hlt
        refine ⟨_, rowI hh.il hlt, ?_⟩
        refine mk_call (ev71 k _ _ _) ?_
        rintro v rfl
        simp at hs
        simp [hs, wrap64 (n := (i : Int) + 1) (by omega) (by omega)]
        exact ⟨j - 1, by omega, i + 1, by simp, by omega⟩
      · simp [atL]
    · rintro vs rfl
      simp
      refine mk_join (fun vs => vs = [.bool false]) ?_ ?_
      · have := hh.u0; have := hh.u1; have := hh.d0; have := hh.d1; have := hh.w0; have := hh.w1
        refine mk_call (ev71 k _ _ _) ?_
        rintro v rfl
        simp [*]
        refine mk_call (ev71 k _ _ _) ?_
        rintro v rfl
        simp [*]
        refine mk_call (ev71 k _ _ _) ?_
        rintro v rfl
        simp [*]
      · rintro vs rfl
        simp
def pcells (l : List Pc) : List PV := l.flatMap Pc.cells
theorem pcells_plain {l : List Pc} (h : ∀ p ∈ l, p.ok) : plainC (pcells l) = true := by
  induction l with
  | nil => rfl
  | cons p l ih =>
    have : pcells (p :: l) = p.cells ++ pcells l := by simp [pcells]
    rw [this]
    simp [Pc.cells, (h p (by simp)).il.plain, ih fun x hx => h x (by simp [hx])]
theorem row5 {l : List Pc} {off n : Nat} (hn : n < l.length) : rowV 5 (.sl none 5 off l.length (pcells l)) (iv n) = some (.agg (l.getD n default).cells) := by
  have e := flat_row (f := Pc.cells) (n := 5) (fun _ => rfl) l n hn
  simp only [rowV, pcells, Int.toNat_natCast]
  rw [if_pos ⟨by omega, by omega, trivial, by rw [e]; rfl⟩, e]
theorem ev67p (k : Nat) {slip : Int} {lp : PV} {l : List Rg} (h : Hand slip lp l) {x : PV} {ns : List Int} (hx : IL x ns) (hn : ∀ n ∈ ns, 0 ≤ n ∧ n < l.length) (hl : ns.length < 4000) {ps : List Pc} (hp : ∀ p ∈ ps, p.ok) (hpl : ps.length < 4000) : Ev (k + 4) 67 [.agg [iv slip, lp], x, .sl none 5 0 ps.length (pcells ps)] fun v => v = .tup [.agg [iv slip, lp], iv 0] := by
  refine ev_of (t := t67) rfl (fn := Try.f67) (by kernel_rfl) (by simp [fitArgs, flagsOf, h.plain, hx.plain, pcells_plain hp]) ?_
  have h3 := h.l0
  have h4 := h.l1
  simp [t67, tv, tp, tn]
  refine mk_call (ev26 k h) ?_
  rintro v rfl
  simp [hx.len]
  refine mk_join (fun vs => vs = []) ?_ ?_
  · refine mk_loop (fun j vs => ∃ i : Nat, vs = [iv i] ∧ i + j = ns.length) ns.length (by omega) ⟨0, rfl, by omega⟩ ?_
    rintro j vs ⟨i, rfl, hi⟩
    simp
    refine pif (fun h => ?_) (fun h => ?_) <;> simp at h
    · rename_i hh
      have hlt : i < ns.length := by omega
      have hs := hn (ns.getD i 0) (by simp [List.getD_eq_getElem?_getD, hlt])
      refine ⟨_, row1 hx (i := (i : Int)) (by omega) (by omega), ?_⟩
      simp [hh.rl.len, wrap64 (n := (l.length : Int) - 1) (by omega) (by omega)]
      refine mk_call (ev71 (k + 2) _ _ _) ?_
      rintro v rfl
      simp [List.getD_eq_getElem?_getD, hlt] at hs
      have e1 : ns[i] ≤ (l.length : Int) - 1 := by omega
      simp [List.getD_eq_getElem?_getD, hlt, hs, e1, wrap64 (n := (i : Int) + 1) (by omega) (by omega)]
      exact ⟨j - 1, by omega, i + 1, by simp, by omega⟩
    · simp [atL]
  · rintro vs rfl
    have e29 : aLen Try.prog 29 (.sl none 5 0 ps.length (pcells ps)) = some (iv ps.length) := by obtain ⟨e, he⟩ := un29; simp [aLen, he]
    simp [e29]
    refine mk_join (fun vs => vs = []) ?_ ?_
    · refine mk_loop (fun j vs => ∃ i : Nat, vs = [iv i] ∧ i + j = ps.length) ps.length (by omega) ⟨0, rfl, by omega⟩ ?_
      rintro j vs ⟨i, rfl, hi⟩
      simp
      refine pif (fun h => ?_) (fun h => ?_) <;> simp at h
      · have hlt : i < ps.length := by omega
        have hs := hp (ps.getD i default) (by simp [List.getD_eq_getElem?_getD, hlt])
        refine ⟨_, row5 hlt, ?_⟩
        simp [Pc.cells]
        refine mk_ev (Q := fun v => v = iv 0) (ev28 (k + 1) hs) (by simp [Pc.cells]) ?_
        rintro v rfl
        simp [wrap64 (n := (i : Int) + 1) (by omega) (by omega)]
        exact ⟨j - 1, by omega, i + 1, by simp, by omega⟩
      · simp [atL]
    · rintro vs rfl
      simp [h.plain]
def nr (slip a b : Int) : Bool := decide (a - b ≤ slip) && decide (b - a ≤ slip)
def fa (slip a b : Int) : Bool := decide (a - slip < b)
theorem ev105 (k : Nat) {slip m r : Int} (h : -1000000 ≤ m ∧ m ≤ 1000000 ∧ 0 ≤ slip ∧ slip ≤ 1000000) : Ev (k + 1) 105 [iv m, iv r, rf [iv slip]] fun v => v = .bool (fa slip m r) := by
  refine ev_of (t := t105) rfl (fn := Try.f105) (by kernel_rfl) rfl ?_
  simp [t105, tv, tp, tn, wrap64 (n := m - slip) (by omega) (by omega), fa]
theorem ev106 (k : Nat) (i : Nat) : Ev (k + 1) 106 [.int .u8 0, iv i] fun v => v = .bool false := by
  refine ev_of (t := t106) rfl (fn := Try.f106) (by kernel_rfl) rfl ?_
  have e0 : bits .and .u8 0 1 = 0 := by decide
  simp [t106, tv, tp, tn, aBin, e0]
def gsB (slip : Int) (r : Rg) (p : Pc) (line : Nat) : Bool := (List.range p.g.length).all fun k => nr slip (p.g.getD k 0) (stp r (line + k))
def upB (slip : Int) (r : Rg) (p : Pc) (line : Nat) : Bool := decide (0 < line) && !fa slip p.up (stp r (line - 1))
def dnB (slip : Int) (r : Rg) (p : Pc) (line : Nat) : Bool := decide (((line + p.g.length : Nat) : Int) < r.lines - 1) && !fa slip p.dn (stp r (line + p.g.length))
def wdB (slip : Int) (r : Rg) (p : Pc) : Bool := decide (p.wd = 0) || nr slip p.wd r.width
def sitB (slip : Int) (r : Rg) (p : Pc) (line : Nat) : Bool := decide (((line + p.g.length : Nat) : Int) ≤ r.lines - 1) && (gsB slip r p line && (!(upB slip r p line || dnB slip r p line) && wdB slip r p))
theorem ev118 (k : Nat) {slip : Int} (h0 : 0 ≤ slip) (h1 : slip ≤ 3) {r : Rg} (hr : r.ok) {p : Pc} (hp : p.ok) {line : Nat} (hl : line < 100) : Ev (k + 2) 118 [.agg (gv slip), .agg r.cells, .agg p.cells, iv line, .int .u8 0] fun v => v = .bool (sitB slip r p line) := by
  refine ev_of (t := t118) rfl (fn := Try.f118) (by kernel_rfl) (by simp [fitArgs, flagsOf, Pc.cells, hp.il.plain, Rg.cells, hr.il.plain]) ?_
  have g5 := hp.gl
  have n1 := hr.n1
  have n2 := hr.n2
  have w1 := hr.w1
  have w2 := hr.w2
  have p1 := hp.u0; have p2 := hp.u1; have p3 := hp.d0; have p4 := hp.d1; have p5 := hp.w0; have p6 := hp.w1
  have hst := stp_ok hr
  have c104 := fun (a b : Int) (h : -1000000 ≤ a ∧ a ≤ 1000000 ∧ -1000000 ≤ b ∧ b ≤ 1000000) => ev104 k (slip := slip) h
  have hlen := hp.il.len
  have hrow := fun (i : Nat) (hi : i < p.g.length) => rowI hp.il hi
  simp [t118, tv, tp, tn, Pc.cells, Rg.cells, hp.il.len, wrap64 (n := (line : Int) + p.g.length) (by omega) (by omega), wrap64 (n := r.lines - 1) (by omega) (by omega)]
  refine mk_join (fun vs => vs = [.bool (decide (r.lines - 1 < (line : Int) + p.g.length))]) ?_ ?_
  · have : ¬ ((line : Int) < 0) := by omega
    simp [this, wrap64 (n := r.lines - 1) (by omega) (by omega)]
  rintro vs rfl
  simp
  refine pif (fun h => ?_) (fun h => ?_) <;> simp at h
  · have : ¬ ((line : Int) + p.g.length ≤ r.lines - 1) := by omega
    simp [sitB, this]
  · have hle : ((line + p.g.length : Nat) : Int) ≤ r.lines - 1 := by omega
    simp [hp.il.len]
    refine mk_join (fun vs => vs = [] ∧ gsB slip r p line = true) ?_ ?_
    · refine mk_loop (fun j vs => ∃ i : Nat, vs = [iv i] ∧ i + j = p.g.length ∧ ∀ k, k < i → nr slip (p.g.getD k 0) (stp r (line + k)) = true) p.g.length (by omega) ⟨0, rfl, by omega, by simp⟩ ?_
      rintro j vs ⟨i, rfl, hi, hb⟩
      simp
      refine pif (fun h => ?_) (fun h => ?_) <;> simp at h
      · have hlt : i < p.g.length := by omega
        have hg := hp.get hlt
        have hs := hst (line + i)
        refine ⟨_, hrow i hlt, ?_⟩
        refine mk_join (fun vs => vs = [.bool (!nr slip (p.g.getD i 0) (stp r (line + i)))]) ?_ ?_
        · refine mk_call (ev106 (k + 0) i) ?_
          rintro v rfl
          simp only [run_prim]
          refine ⟨.bool true, by simp, ?_⟩
          simp only [run_ite, SE.den, List.cons_append, List.nil_append, List.getD_cons_succ, List.getD_cons_zero, pifv_bool, pif_true, run_prim]
          refine ⟨iv ((line + i : Nat) : Int), by simp [wrap64 (n := (line : Int) + i) (by omega) (by omega)], ?_⟩
          refine mk_ev (Q := fun v => v = iv (stp r (line + i))) (ev81 k hr (line + i)) (by simp [Rg.cells]) ?_
          rintro v rfl
          refine mk_callv (g := 104) (caps := [rf [iv slip]]) (by simp) (c104 (p.g.getD i 0) (stp r (line + i)) (by omega)) ?_
          rintro v rfl
          simp [nr]
        · rintro vs rfl
          simp
          refine pif (fun h' => ?_) (fun h' => ?_) <;> simp at h'
          · have : gsB slip r p line = false := by
              refine Bool.eq_false_iff.2 fun hc => ?_
              have := List.all_eq_true.1 hc i (by simpa using hlt)
              simp [h'] at this
            simp [sitB, this]
          · simp [wrap64 (n := (i : Int) + 1) (by omega) (by omega)]
            refine ⟨j - 1, by omega, i + 1, by simp, by omega, fun k hk => ?_⟩
            by_cases e : k = i
            · subst e; simpa using h'
            · have := hb k (by omega); simpa using this
      · simp [atL]
        refine List.all_eq_true.2 fun k hk => hb k ?_
        simp at hk; omega
    rintro vs ⟨rfl, hg⟩
    refine mk_join (fun vs => vs = [.bool (upB slip r p line || dnB slip r p line)]) ?_ ?_
    · simp only [run_prim]
      refine ⟨.bool (decide (0 < line)), by simp, ?_⟩
      simp only [run_ite, SE.den, List.cons_append, List.nil_append, List.getD_cons_succ, List.getD_cons_zero, pifv_bool]
      refine pif (fun h2 => ?_) (fun h2 => ?_) <;> simp only [decide_eq_true_eq, decide_eq_false_iff_not] at h2
      · simp only [run_prim]
        refine ⟨iv ((line - 1 : Nat) : Int), by have e : (line : Int) - 1 = ((line - 1 : Nat) : Int) := by omega
                                                simp [e, wrap64 (n := ((line - 1 : Nat) : Int)) (by omega) (by omega)], ?_⟩
        refine mk_ev (Q := fun v => v = iv (stp r (line - 1))) (ev81 k hr (line - 1)) (by simp [Rg.cells]) ?_
        rintro v rfl
        refine mk_callv (g := 105) (caps := [rf [iv slip]]) (by simp) (ev105 k (slip := slip) (m := p.up) (r := stp r (line - 1)) (by omega)) ?_
        rintro v rfl
        simp only [run_prim]
        refine ⟨.bool (!fa slip p.up (stp r (line - 1))), by simp, ?_⟩
        simp only [run_ite, SE.den, List.cons_append, List.nil_append, List.getD_cons_succ, List.getD_cons_zero, pifv_bool]
        refine pif (fun h4 => ?_) (fun h4 => ?_)
        · have hu : upB slip r p line = true := by simp [upB, h2]; simpa using h4
          simp [hu]
        · have hu : upB slip r p line = false := by simp [upB, h2]; simpa using h4
          simp only [run_prim]
          refine ⟨iv (r.lines - 1), by simp [wrap64 (n := r.lines - 1) (by omega) (by omega)], .bool (decide (((line + p.g.length : Nat) : Int) < r.lines - 1)), by simp, ?_⟩
          simp only [run_ite, SE.den, List.cons_append, List.nil_append, List.getD_cons_succ, List.getD_cons_zero, pifv_bool]
          refine pif (fun h3 => ?_) (fun h3 => ?_) <;> simp only [decide_eq_true_eq, decide_eq_false_iff_not] at h3
          · refine mk_ev (Q := fun v => v = iv (stp r (line + p.g.length))) (ev81 k hr (line + p.g.length)) (by simp [Rg.cells]) ?_
            rintro v rfl
            refine mk_callv (g := 105) (caps := [rf [iv slip]]) (by simp) (ev105 k (slip := slip) (m := p.dn) (r := stp r (line + p.g.length)) (by omega)) ?_
            rintro v rfl
            have h3' : (line : Int) + p.g.length < r.lines - 1 := by omega
            simp [hu, dnB, h3']
          · have h3' : ¬ ((line : Int) + p.g.length < r.lines - 1) := by omega
            simp [hu, dnB, h3']
      · have hu : upB slip r p line = false := by simp [upB, h2]
        simp only [run_prim]
        refine ⟨iv (r.lines - 1), by simp [wrap64 (n := r.lines - 1) (by omega) (by omega)], .bool (decide (((line + p.g.length : Nat) : Int) < r.lines - 1)), by simp, ?_⟩
        simp only [run_ite, SE.den, List.cons_append, List.nil_append, List.getD_cons_succ, List.getD_cons_zero, pifv_bool]
        refine pif (fun h3 => ?_) (fun h3 => ?_) <;> simp only [decide_eq_true_eq, decide_eq_false_iff_not] at h3
        · refine mk_ev (Q := fun v => v = iv (stp r (line + p.g.length))) (ev81 k hr (line + p.g.length)) (by simp [Rg.cells]) ?_
          rintro v rfl
          refine mk_callv (g := 105) (caps := [rf [iv slip]]) (by simp) (ev105 k (slip := slip) (m := p.dn) (r := stp r (line + p.g.length)) (by omega)) ?_
          rintro v rfl
          have h3' : (line : Int) + p.g.length < r.lines - 1 := by omega
          simp [hu, dnB, h3']
        · have h3' : ¬ ((line : Int) + p.g.length < r.lines - 1) := by omega
          simp [hu, dnB, h3']
    rintro vs rfl
    simp only [run_ite, SE.den, List.cons_append, List.nil_append, List.getD_cons_succ, List.getD_cons_zero, pifv_bool]
    refine pif (fun h2 => ?_) (fun h2 => ?_)
    · simp [sitB, hg, h2]
    · refine mk_join (fun vs => vs = [.bool (wdB slip r p)]) ?_ ?_
      · simp only [run_prim]
        refine ⟨.bool (decide (p.wd = 0)), by simp, ?_⟩
        simp only [run_ite, SE.den, List.cons_append, List.nil_append, List.getD_cons_succ, List.getD_cons_zero, pifv_bool]
        refine pif (fun h3 => ?_) (fun h3 => ?_) <;> simp only [decide_eq_true_eq, decide_eq_false_iff_not] at h3
        · simp [wdB, h3]
        · refine mk_callv (g := 104) (caps := [rf [iv slip]]) (by simp) (c104 p.wd r.width (by omega)) ?_
          rintro v rfl
          simp [wdB, h3, nr]
      · rintro vs rfl
        have h2' : (upB slip r p line || dnB slip r p line) = false := h2
        have hle' : (line : Int) + p.g.length ≤ r.lines - 1 := by omega
        simp
        rw [sitB, h2', hg]
        simp [hle']
end Go.Proofs.Ytlminnpaeaganaa
namespace Go.Proofs.Ytlminnpaeaganaa
open Go Go.RowKit
set_option linter.unusedVariables false
set_option linter.unusedSimpArgs false
set_option maxRecDepth 100000
theorem un25 : Try.prog.underlying 25 = some (.slice 3) := by kernel_rfl
theorem ev122 (k : Nat) {x : PV} {l : List Int} (hx : IL x l) (hl : l.length < 1000000) : Ev (k + 1) 122 [x] fun v => (v = .snil ∧ l = []) ∨ v = .sl none 1 0 l.length (l.map iv) := by
  refine ev_of (t := t122) rfl (fn := Try.f122) (by kernel_rfl) (by simp [fitArgs, flagsOf, hx.plain]) ?_
  rcases hx with ⟨rfl, rfl⟩ | ⟨off, rfl⟩
  · simp [t122, tv, tp, tn, aBin, un25]
  · have hp := ints_plain l
    have hb : l.length * 8 ≤ 140737488355328 ∧ l.length ≤ 9223372036854775807 := by omega
    simp [t122, tv, tp, tn, aBin, un25, frzV, isNil, hb, hp]
def half (p : Pc) : Pc := ⟨p.gp, p.g.reverse, p.dn, p.up, p.wd, p.fr⟩
theorem ev119 (k : Nat) {p : Pc} (hp : p.ok) : Ev (k + 2) 119 [.agg p.cells] fun v => ∃ q : PV, v = .agg [q, iv p.dn, iv p.up, iv p.wd, .bool p.fr] ∧ IL q p.g.reverse := by
  refine ev_of (t := t119) rfl (fn := Try.f119) (by kernel_rfl) (by simp [fitArgs, flagsOf, Pc.cells, hp.il.plain]) ?_
  have g5 := hp.gl
  simp only [t119, tv, tp, tn, run_prim]
  refine ⟨.agg p.cells, by simp [Pc.cells], ?_⟩
  refine mk_ev (Q := fun v => (v = .snil ∧ p.g = []) ∨ v = .sl none 1 0 p.g.length (p.g.map iv)) (ev122 k hp.il (by omega)) (by simp [Pc.cells]) ?_
  intro y hy
  simp only [run_prim]
  generalize hn : p.g.length = n at *
  refine ⟨.agg (p.g.map iv), ?_, .bool (match y with | .snil => true | _ => false), ?_, iv n, by simp [hn], iv ((n : Int) - 1), by simp [wrap64 (n := (n : Int) - 1) (by omega) (by omega)], ?_⟩
  · rcases hy with ⟨rfl, h⟩ | rfl
    · simp [contV, h]
    · simp [contV, hn]
  · rcases hy with ⟨rfl, h⟩ | rfl <;> simp [isnilV]
  refine mk_join (fun vs => vs = [.agg (p.g.reverse.map iv)]) ?_ ?_
  · refine mk_loop (fun j vs => ∃ (i : Nat) (L : List Int), vs = [iv i, iv ((n : Int) - 1 - i), .agg (L.map iv)] ∧ i + j = n ∧ L.length = n ∧ ∀ k, k < n → L.getD k 0 = if k < i ∨ n < k + 1 + i then p.g.getD (n - 1 - k) 0 else p.g.getD k 0) n (by omega) ⟨0, p.g, by simp, by omega, hn, fun k hk => by rw [if_neg (by omega)]⟩ ?_
    rintro j vs ⟨i, L, rfl, hi, hL, hk⟩
    simp only [run_prim]
    refine ⟨.bool (decide ((i : Int) < (n : Int) - 1 - i)), by simp, ?_⟩
    simp only [run_ite, SE.den, List.cons_append, List.nil_append, List.getD_cons_succ, List.getD_cons_zero, pifv_bool]
    refine pif (fun h => ?_) (fun h => ?_) <;> simp only [decide_eq_true_eq, decide_eq_false_iff_not] at h
    · have ej : ((n : Int) - 1 - i) = ((n - 1 - i : Nat) : Int) := by omega
      rw [ej]
      have gi := get_int (l := L) (i := (i : Int)) (by omega) (by omega)
      have gj := get_int (l := L) (i := ((n - 1 - i : Nat) : Int)) (by omega) (by omega)
      rw [Int.toNat_natCast] at gi gj
      simp only [run_prim]
      refine ⟨iv ((n - 1 - i : Nat) : Int), chk_int (l := L) (by omega) (by omega), .agg [iv (L.getD (n - 1 - i) 0)], gj, iv i, chk_int (l := L) (by omega) (by omega), .agg [iv (L.getD i 0)], gi, iv i, chk_int (l := L) (by omega) (by omega), .agg ((L.set i (L.getD (n - 1 - i) 0)).map iv), put_int (by omega), iv ((n - 1 - i : Nat) : Int), chk_int (l := L.set i (L.getD (n - 1 - i) 0)) (by omega) (by simp; omega), .agg (((L.set i (L.getD (n - 1 - i) 0)).set (n - 1 - i) (L.getD i 0)).map iv), put_int (by simp; omega), iv ((i + 1 : Nat) : Int), by simp [wrap64 (n := (i : Int) + 1) (by omega) (by omega)], iv ((n : Int) - 1 - (i + 1 : Nat)), ?_, ?_⟩
      · have : ((n - 1 - i : Nat) : Int) - 1 = (n : Int) - 1 - (i + 1 : Nat) := by omega
        simp only [Prim.run, PE.den, SE.den, List.cons_append, List.nil_append, List.getD_cons_succ, List.getD_cons_zero, aBin_sub, this]
        rw [wrap64 (by omega) (by omega)]
      · simp only [run_jump, atL_same]
        refine ⟨j - 1, by omega, i + 1, (L.set i (L.getD (n - 1 - i) 0)).set (n - 1 - i) (L.getD i 0), by simp, by omega, by simpa using hL, fun k hk' => ?_⟩
        have h1 := hk i (by omega)
        have h2 := hk (n - 1 - i) (by omega)
        rw [if_neg (by omega)] at h1 h2
        by_cases e1 : k = n - 1 - i
        · rw [if_pos (by omega)]
          have : n - 1 - k = i := by omega
          rw [this, ← h1]
          subst e1
          simp only [List.getD_eq_getElem?_getD]
          rw [List.getElem?_set_self (by simp; omega)]
          rfl
        · by_cases e2 : k = i
          · rw [if_pos (by omega)]
            rw [e2, ← h2]
            simp only [List.getD_eq_getElem?_getD]
            rw [List.getElem?_set_ne (by omega), List.getElem?_set_self (by omega)]
            rfl
          · have h3 := hk k hk'
            simp only [List.getD_eq_getElem?_getD] at h3 ⊢
            rw [List.getElem?_set_ne (by omega), List.getElem?_set_ne (by omega), h3]
            by_cases c : k < i ∨ n < k + 1 + i
            · rw [if_pos c, if_pos (by omega)]
            · rw [if_neg c, if_neg (by omega)]
    · have e : L = p.g.reverse := List.ext_getElem (by simp [hL, hn]) fun k h1 h2 => by
        have h3 := hk k (by omega)
        have h4 : k < p.g.length := by omega
        have h5 : n - 1 - k < p.g.length := by omega
        rw [List.getElem_reverse]
        simp only [hn]
        simp only [List.getD_eq_getElem?_getD, List.getElem?_eq_getElem h1, List.getElem?_eq_getElem h4, List.getElem?_eq_getElem h5, Option.getD_some] at h3
        rw [h3]
        by_cases c : k < i ∨ n < k + 1 + i
        · rw [if_pos c]
        · have : n - 1 - k = k := by omega
          rw [if_neg c]; simp only [this]
      simp [atL, e]
  · rintro vs rfl
    simp only [run_prim]
    rcases hy with ⟨rfl, h⟩ | rfl
    · refine ⟨.snil, by simp [frzV, isNil, h], ?_⟩
      simp [h, IL, Pc.cells]
    · have hpl := ints_plain p.g.reverse
      refine ⟨.sl none 1 0 n (p.g.reverse.map iv), by simp [frzV, isNil, hn], ?_⟩
      simp only [run_ret]
      refine ⟨_, rfl, ?_, .sl none 1 0 n (p.g.reverse.map iv), by simp [Pc.cells], .inr ⟨0, by simp [hn]⟩⟩
      simp at hpl
      simp [hpl, Pc.cells]
def scells (l : List (Nat × Bool)) : List PV := l.flatMap fun s => [iv s.1, .bool s.2]
theorem scells_append (k l : List (Nat × Bool)) : scells (k ++ l) = scells k ++ scells l := by simp [scells]
theorem scells_len (l : List (Nat × Bool)) : (scells l).length = l.length * 2 := by
  induction l with
  | nil => rfl
  | cons s l ih => have : scells (s :: l) = [iv s.1, .bool s.2] ++ scells l := by simp [scells]
                   rw [this, List.length_append, ih]; simp; omega
theorem scells_plain (l : List (Nat × Bool)) : plainC (scells l) = true := by
  induction l with
  | nil => rfl
  | cons s l ih => have : scells (s :: l) = [iv s.1, .bool s.2] ++ scells l := by simp [scells]
                   rw [this]; simp [ih]
def SL (x : PV) (l : List (Nat × Bool)) : Prop := (x = .snil ∧ l = []) ∨ ∃ off, x = .sl none 2 off l.length (scells l)
theorem SL.plain {x : PV} {l : List (Nat × Bool)} (h : SL x l) : x.plain = true ∧ x.one = true := by
  rcases h with ⟨rfl, _⟩ | ⟨off, rfl⟩
  · simp
  · simp [scells_plain]
def slOf (l : List (Nat × Bool)) : PV := match l with
  | [] => .snil
  | s :: l => .sl none 2 0 (l.length + 1) (scells (s :: l))
theorem sl_of (l : List (Nat × Bool)) : SL (slOf l) l := by
  cases l with
  | nil => exact .inl ⟨rfl, rfl⟩
  | cons s l => exact .inr ⟨0, rfl⟩
theorem frz_nil0S (ρ : List PV) (c : SE) (l : List (Nat × Bool)) (h : c.den ρ = .agg (scells l)) : Prim.run Try.prog ρ (.frz 2 .nil0 c) = some (slOf l) := by
  simp only [Prim.run, h]
  cases l with
  | nil => rfl
  | cons s l =>
    have h1 : (scells (s :: l)).length / 2 = l.length + 1 := by rw [scells_len]; simp
    have h2 : scells (s :: l) = iv s.1 :: (.bool s.2 :: scells l) := by simp [scells]
    simp only [frzV, isNil]
    rw [h2] at h1 ⊢
    simp only [slOf, h1, h2]
theorem push_spot {l : List (Nat × Bool)} {i : Nat} {t : Bool} (hl : l.length < 1000000) : pushV 2 16 (.agg (scells l)) (.sl none 2 0 1 [iv i, .bool t]) = some (.agg (scells (l ++ [(i, t)]))) := by
  simp [scells_append, scells_len]
  refine ⟨by omega, by simp [scells]⟩
theorem un45 : ∃ e, Try.prog.underlying 45 = some (.slice e) := by
  have h : (match Try.prog.underlying 45 with | some (.slice _) => true | _ => false) = true := by kernel_rfl
  split at h
  · exact ⟨_, by assumption⟩
  · cases h
theorem SL.len {x : PV} {l : List (Nat × Bool)} (h : SL x l) : aLen Try.prog 45 x = some (iv l.length) := by
  obtain ⟨e, he⟩ := un45
  rcases h with ⟨rfl, rfl⟩ | ⟨off, rfl⟩ <;> simp [aLen, he]
theorem rowS {x : PV} {l : List (Nat × Bool)} (h : SL x l) {n : Nat} (hn : n < l.length) : rowV 2 x (iv n) = some (.agg [iv (l.getD n default).1, .bool (l.getD n default).2]) := by
  rcases h with ⟨rfl, rfl⟩ | ⟨off, rfl⟩
  · simp at hn
  · have e := flat_row (f := fun s : Nat × Bool => [iv s.1, .bool s.2]) (n := 2) (fun _ => rfl) l n hn
    simp only [rowV, scells, Int.toNat_natCast]
    rw [if_pos ⟨by omega, by omega, trivial, by rw [e]; rfl⟩, e]
def spt (slip : Int) (r : Rg) (p : Pc) (t : Bool) : Nat → List (Nat × Bool)
  | 0 => []
  | i + 1 => spt slip r p t i ++ if sitB slip r p i then [(i, t)] else []
theorem spt_len (slip : Int) (r : Rg) (p : Pc) (t : Bool) (n : Nat) : (spt slip r p t n).length ≤ n := by
  induction n with
  | zero => simp [spt]
  | succ n ih => simp only [spt]; split <;> simp <;> omega
theorem sit_congr {slip : Int} {r : Rg} {p q : Pc} {i : Nat} (h1 : p.g = q.g) (h2 : p.up = q.up) (h3 : p.dn = q.dn) (h4 : p.wd = q.wd) : sitB slip r p i = sitB slip r q i := by
  cases p; cases q
  simp only at h1 h2 h3 h4
  subst h1 h2 h3 h4
  rfl
def spots (slip : Int) (r : Rg) (p : Pc) : List (Nat × Bool) := spt slip r p false r.lines.toNat ++ if p.fr then spt slip r (half p) true r.lines.toNat else []
end Go.Proofs.Ytlminnpaeaganaa
namespace Go.Proofs.Ytlminnpaeaganaa
open Go Go.RowKit
set_option linter.unusedVariables false
set_option linter.unusedSimpArgs false
set_option maxRecDepth 100000
theorem ev76 (k : Nat) {slip : Int} {lp : PV} {l : List Rg} (h : Hand slip lp l) {n : Nat} (hn : n < l.length) {p : Pc} (hp : p.ok) : Ev (k + 4) 76 [.agg [iv slip, lp], iv n, .agg p.cells] fun v => SL v (spots slip (l.getD n default) p) := by
  refine ev_of (t := t76) rfl (fn := Try.f76) (by kernel_rfl) (by simp [fitArgs, flagsOf, h.plain, Pc.cells, hp.il.plain]) ?_
  have hr := h.get hn
  have hrow := rowR h.rl hn
  have g5 := hp.gl
  have hs0 := h.s0
  have hs1 := h.s1
  generalize hR : l.getD n default = r at *
  have n1 := hr.n1
  have n2 := hr.n2
  have hN : (r.lines.toNat : Int) = r.lines := by omega
  simp only [t76, tv, tp, tn, run_prim]
  refine ⟨.agg [iv slip, lp], by simp, .agg p.cells, by simp [Pc.cells], ?_⟩
  refine mk_call (ev80 (k + 2) slip) ?_
  rintro v rfl
  simp only [run_prim]
  refine ⟨.agg r.cells, by simpa using hrow, .agg (gv slip), by simp, ?_⟩
  refine mk_join (fun vs => vs = [.agg (scells (spots slip r p))]) ?_ ?_
  · refine mk_join (fun vs => vs = [.bool (!p.fr), .agg (scells (spt slip r p false r.lines.toNat))]) ?_ ?_
    · refine mk_join (fun vs => vs = [.agg (scells (spt slip r p false r.lines.toNat))]) ?_ ?_
      · refine mk_loop (fun j vs => ∃ i : Nat, vs = [iv i, .agg (scells (spt slip r p false i))] ∧ i + j = r.lines.toNat) r.lines.toNat (by omega) ⟨0, rfl, by omega⟩ ?_
        rintro j vs ⟨i, rfl, hi⟩
        simp only [run_prim]
        refine ⟨.bool (decide ((i : Int) < r.lines)), by simp [Rg.cells], ?_⟩
        simp only [run_ite, SE.den, List.cons_append, List.nil_append, List.getD_cons_succ, List.getD_cons_zero, pifv_bool]
        refine pif (fun h => ?_) (fun h => ?_) <;> simp only [decide_eq_true_eq, decide_eq_false_iff_not] at h
        · have hlen := spt_len slip r p false i
          refine mk_join (fun vs => vs = [.bool false, .agg (scells (spt slip r p false (i + 1)))]) ?_ ?_
          · refine mk_ev (Q := fun v => v = .bool (sitB slip r p i)) (ev118 (k + 1) hs0 hs1 hr hp (line := i) (by omega)) (by simp [Rg.cells, Pc.cells]) ?_
            rintro v rfl
            simp only [run_ite, SE.den, List.cons_append, List.nil_append, List.getD_cons_succ, List.getD_cons_zero, pifv_bool]
            refine pif (fun h2 => ?_) (fun h2 => ?_)
            · simp only [run_prim]
              refine ⟨iv i, by simp, .agg (scells (spt slip r p false i ++ [(i, false)])), push_spot (by omega), ?_⟩
              simp [spt, h2]
            · simp [spt, h2]
          · rintro vs rfl
            simp only [run_ite, SE.den, List.cons_append, List.nil_append, List.getD_cons_succ, List.getD_cons_zero, pifv_bool]
            simp [wrap64 (n := (i : Int) + 1) (by omega) (by omega)]
            exact ⟨j - 1, by omega, i + 1, by simp, by omega⟩
        · have e : r.lines.toNat = i := by omega
          simp [atL, e]
      · rintro vs rfl
        simp [Pc.cells]
    · rintro vs rfl
      simp only [run_ite, SE.den, List.cons_append, List.nil_append, List.getD_cons_succ, List.getD_cons_zero, pifv_bool]
      refine pif (fun h => ?_) (fun h => ?_) <;> simp only [Bool.not_eq_true', Bool.not_eq_false'] at h
      · simp [spots, h]
      · simp only [run_prim]
        refine ⟨iv p.g.length, by simpa [Pc.cells] using hp.il.len, ?_⟩
        refine mk_join (fun vs => vs = [.int .u8 0]) ?_ ?_
        · refine mk_loop (fun j vs => ∃ i : Nat, vs = [.int .u8 0, iv i] ∧ i + j = p.g.length) p.g.length (by omega) ⟨0, rfl, by omega⟩ ?_
          rintro j vs ⟨i, rfl, hi⟩
          simp only [run_prim]
          refine ⟨.bool (decide ((i : Int) < p.g.length)), by simp, ?_⟩
          simp only [run_ite, SE.den, List.cons_append, List.nil_append, List.getD_cons_succ, List.getD_cons_zero, pifv_bool]
          refine pif (fun h => ?_) (fun h => ?_) <;> simp only [decide_eq_true_eq, decide_eq_false_iff_not] at h
          · refine mk_call (ev106 (k + 2) i) ?_
            rintro v rfl
            refine mk_join (fun vs => vs = [.int .u8 0]) ?_ ?_
            · simp
            · rintro vs rfl
              simp [wrap64 (n := (i : Int) + 1) (by omega) (by omega)]
              exact ⟨j - 1, by omega, i + 1, by simp, by omega⟩
          · simp [atL]
        · rintro vs rfl
          refine mk_ev (Q := fun v => ∃ q : PV, v = .agg [q, iv p.dn, iv p.up, iv p.wd, .bool p.fr] ∧ IL q p.g.reverse) (ev119 (k + 1) hp) (by simp [Pc.cells]) ?_
          rintro v ⟨q, rfl, hq⟩
          have hp2 : (Pc.mk q p.g.reverse p.dn p.up p.wd p.fr).ok := ⟨hq, by simpa using hp.gl, fun x hx => hp.gs x (by simpa using hx), hp.d0, hp.d1, hp.u0, hp.u1, hp.w0, hp.w1⟩
          have hc := fun i => sit_congr (slip := slip) (r := r) (p := ⟨q, p.g.reverse, p.dn, p.up, p.wd, p.fr⟩) (q := half p) (i := i) rfl rfl rfl rfl
          simp only [run_prim]
          refine ⟨.agg [q, iv p.dn, iv p.up, iv p.wd, .bool p.fr], by simp, ?_⟩
          have hlf := spt_len slip r p false r.lines.toNat
          generalize hF : spt slip r p false r.lines.toNat = F at *
          refine mk_join (fun vs => vs = [.agg (scells (F ++ spt slip r (half p) true r.lines.toNat))]) ?_ ?_
          · refine mk_loop (fun j vs => ∃ i : Nat, vs = [iv i, .agg (scells (F ++ spt slip r (half p) true i))] ∧ i + j = r.lines.toNat) r.lines.toNat (by omega) ⟨0, by simp [spt], by omega⟩ ?_
            rintro j vs ⟨i, rfl, hi⟩
            simp only [run_prim]
            refine ⟨.bool (decide ((i : Int) < r.lines)), by simp [Rg.cells], ?_⟩
            simp only [run_ite, SE.den, List.cons_append, List.nil_append, List.getD_cons_succ, List.getD_cons_zero, pifv_bool]
            refine pif (fun h => ?_) (fun h => ?_) <;> simp only [decide_eq_true_eq, decide_eq_false_iff_not] at h
            · have hlen := spt_len slip r (half p) true i
              refine mk_join (fun vs => vs = [.bool false, .agg (scells (F ++ spt slip r (half p) true (i + 1)))]) ?_ ?_
              · refine mk_ev (Q := fun v => v = .bool (sitB slip r (half p) i)) ((ev118 (k + 1) hs0 hs1 hr hp2 (line := i) (by omega)).mono fun v e => by rw [e, hc]) (by simp [Rg.cells, Pc.cells]) ?_
                rintro v rfl
                simp only [run_ite, SE.den, List.cons_append, List.nil_append, List.getD_cons_succ, List.getD_cons_zero, pifv_bool]
                refine pif (fun h2 => ?_) (fun h2 => ?_)
                · simp only [run_prim]
                  refine ⟨iv i, by simp, .agg (scells ((F ++ spt slip r (half p) true i) ++ [(i, true)])), push_spot (by simp; omega), ?_⟩
                  simp [spt, h2]
                · simp [spt, h2]
              · rintro vs rfl
                simp only [run_ite, SE.den, List.cons_append, List.nil_append, List.getD_cons_succ, List.getD_cons_zero, pifv_bool]
                simp [wrap64 (n := (i : Int) + 1) (by omega) (by omega)]
                exact ⟨j - 1, by omega, i + 1, by simp, by omega⟩
            · have e : r.lines.toNat = i := by omega
              simp [atL, e]
          · rintro vs rfl
            simp [spots, h, hF]
  · rintro vs rfl
    simp only [run_prim]
    refine ⟨slOf (spots slip r p), frz_nil0S _ _ _ (by simp), ?_⟩
    simp only [run_ret]
    refine ⟨_, rfl, ?_, sl_of _⟩
    exact (sl_of _).plain.1
theorem ev31 (k : Nat) {slip : Int} {lp : PV} {l : List Rg} (h : Hand slip lp l) {n : Nat} (hn : n < l.length) {p : Pc} (hp : p.ok) : Ev (k + 5) 31 [.agg [iv slip, lp], iv n, .agg p.cells] fun v => ∃ x, v = .tup [x, iv 0] ∧ SL x (spots slip (l.getD n default) p) := by
  refine ev_of (t := t31) rfl (fn := Try.f31) (by kernel_rfl) (by simp [fitArgs, flagsOf, h.plain, Pc.cells, hp.il.plain]) ?_
  simp only [t31, tv, tp, tn, run_prim]
  refine ⟨.agg [iv slip, lp], by simp, .agg p.cells, by simp [Pc.cells], iv n, by simp, ?_⟩
  refine mk_ev (ev67p k h (x := .sl none 1 0 1 [iv n]) (ns := [(n : Int)]) (.inr ⟨0, rfl⟩) (by simp; omega) (by simp) (ps := [p]) (by simpa using hp) (by simp)) (by simp [pcells, Pc.cells]) ?_
  rintro v rfl
  simp
  refine mk_ev (Q := fun v => SL v (spots slip (l.getD n default) p)) (ev76 k h hn hp) (by simp [Pc.cells]) ?_
  intro x hx
  simp [hx.plain]
  simpa using hx
end Go.Proofs.Ytlminnpaeaganaa
namespace Go.Proofs.Ytlminnpaeaganaa
open Go Go.RowKit
set_option linter.unusedVariables false
set_option linter.unusedSimpArgs false
set_option maxRecDepth 100000
theorem gmem {l : List Int} {i : Nat} (h : i < l.length) : l.getD i 0 ∈ l := by simp [List.getD_eq_getElem?_getD, h]
theorem ev85 (k : Nat) {n slip lo hi : Int} (h0 : 0 ≤ slip) (h1 : slip ≤ 3) (hl : lo ≤ hi) (hn0 : -1000 ≤ n) (hn1 : n ≤ 1000) : Ev (k + 4) 85 [dv, iv n, iv slip, iv lo, iv hi] fun v => ∃ x, v = iv x ∧ lo ≤ x ∧ x ≤ hi ∧ (lo ≤ n → n ≤ hi → x - n ≤ slip ∧ n - x ≤ slip) := by
  refine ev_of (t := t85) rfl (fn := Try.f85) (by kernel_rfl) rfl ?_
  simp only [t85, tv, tp, tn, run_prim]
  refine ⟨iv (-slip), by simp [aUn, wrap64 (n := -slip) (by omega) (by omega)], ?_⟩
  refine mk_call (ev44 k (-slip) slip (by omega) (by omega) (by omega) (by omega)) ?_
  rintro v ⟨y, rfl, hy0, hy1⟩
  simp only [run_prim]
  refine ⟨iv (n + y), by simp [wrap64 (n := n + y) (by omega) (by omega)], iv (if lo < n + y then n + y else lo), by simp [aMax], iv (if (if lo < n + y then n + y else lo) < hi then (if lo < n + y then n + y else lo) else hi), by simp [aMin], ?_⟩
  simp only [run_ret]
  refine ⟨_, rfl, by simp, _, rfl, ?_⟩
  split <;> split <;> omega
structure Mea (slip : Int) (p q : Pc) : Prop where
  len : q.g.length = p.g.length
  gs : ∀ i, i < p.g.length → nr slip (q.g.getD i 0) (p.g.getD i 0) = true
  up : q.up - p.up ≤ slip ∧ p.up - q.up ≤ slip
  dn : q.dn - p.dn ≤ slip ∧ p.dn - q.dn ≤ slip
  wd : (p.wd = 0 ∧ q.wd = 0) ∨ (0 < p.wd ∧ nr slip q.wd p.wd = true)
  fr : q.fr = p.fr
theorem ev39 (k : Nat) {slip : Int} (h0 : 0 ≤ slip) (h1 : slip ≤ 3) {p : Pc} (hp : p.ok) : Ev (k + 5) 39 [dv, .agg p.cells, iv slip] fun v => ∃ q : Pc, v = .agg q.cells ∧ q.ok ∧ q.gp = .sl none 1 0 q.g.length (q.g.map iv) ∧ Mea slip p q := by
  refine ev_of (t := t39) rfl (fn := Try.f39) (by kernel_rfl) (by simp [fitArgs, flagsOf, Pc.cells, hp.il.plain]) ?_
  have g5 := hp.gl
  have p1 := hp.u0; have p2 := hp.u1; have p3 := hp.d0; have p4 := hp.d1; have p5 := hp.w0; have p6 := hp.w1
  have hlen := hp.il.len
  have hgrow := fun (i : Nat) (hi : i < p.g.length) => rowI hp.il hi
  simp only [t39, tv, tp, tn, run_prim]
  refine ⟨.agg p.cells, by simp [Pc.cells], iv p.g.length, by simpa [Pc.cells] using hlen, _, mk_int (n := p.g.length) (by omega), ?_⟩
  refine mk_join (fun vs => vs = [.agg (p.g.map iv)]) ?_ ?_
  · refine mk_loop (fun j vs => ∃ (i : Nat) (L : List Int), vs = [iv i, .agg (L.map iv)] ∧ i + j = p.g.length ∧ L.length = p.g.length ∧ ∀ k, k < i → L.getD k 0 = p.g.getD k 0) p.g.length (by omega) ⟨0, List.replicate p.g.length 0, by simp, by omega, by simp, by simp⟩ ?_
    rintro j vs ⟨i, L, rfl, hi, hL, hk⟩
    simp only [run_prim]
    refine ⟨iv p.g.length, by simpa [Pc.cells] using hlen, .bool (decide ((i : Int) < p.g.length)), by simp, ?_⟩
    simp only [run_ite, SE.den, List.cons_append, List.nil_append, List.getD_cons_succ, List.getD_cons_zero, pifv_bool]
    refine pif (fun h => ?_) (fun h => ?_) <;> simp only [decide_eq_true_eq, decide_eq_false_iff_not] at h
    · have hlt : i < p.g.length := by omega
      simp only [run_prim]
      refine ⟨.agg [iv (p.g.getD i 0)], by simpa [Pc.cells] using hgrow i hlt, iv i, by simp; omega, .agg ((L.set i (p.g.getD i 0)).map iv), put_int (by omega), ?_⟩
      simp [wrap64 (n := (i : Int) + 1) (by omega) (by omega)]
      refine ⟨j - 1, by omega, i + 1, L.set i (p.g.getD i 0), by simp, by omega, by simpa using hL, fun k hk' => ?_⟩
      by_cases e : k = i
      · subst e
        have : k < L.length := by omega
        simp [List.getD_eq_getElem?_getD, this]
      · have := hk k (by omega)
        simp only [List.getD_eq_getElem?_getD] at this ⊢
        rw [List.getElem?_set_ne (by omega)]
        exact this
    · have e : L = p.g := List.ext_getElem hL fun k h1 h2 => by
        have := hk k (by omega)
        simpa [List.getD_eq_getElem?_getD, h1, h2] using this
      simp [atL, e]
  rintro vs rfl
  refine mk_join (fun vs => ∃ L : List Int, vs = [.agg (L.map iv)] ∧ L.length = p.g.length ∧ (∀ x ∈ L, 1 ≤ x ∧ x ≤ 30) ∧ ∀ i, i < p.g.length → nr slip (L.getD i 0) (p.g.getD i 0) = true) ?_ ?_
  · refine mk_loop (fun j vs => ∃ (i : Nat) (L : List Int), vs = [iv i, .agg (L.map iv)] ∧ i + j = p.g.length ∧ L.length = p.g.length ∧ (∀ x ∈ L, 1 ≤ x ∧ x ≤ 30) ∧ (∀ k, k < i → nr slip (L.getD k 0) (p.g.getD k 0) = true) ∧ ∀ k, i ≤ k → k < p.g.length → L.getD k 0 = p.g.getD k 0) p.g.length (by omega) ⟨0, p.g, by simp, by omega, rfl, hp.gs, by simp, fun k _ _ => rfl⟩ ?_
    rintro j vs ⟨i, L, rfl, hi, hL, hb, hk, hk2⟩
    simp only [run_prim]
    refine ⟨iv L.length, by simp, .bool (decide ((i : Int) < L.length)), by simp, ?_⟩
    simp only [run_ite, SE.den, List.cons_append, List.nil_append, List.getD_cons_succ, List.getD_cons_zero, pifv_bool]
    refine pif (fun h => ?_) (fun h => ?_) <;> simp only [decide_eq_true_eq, decide_eq_false_iff_not] at h
    · have hlt : i < L.length := by omega
      have hg := hb _ (gmem hlt)
      have gi := get_int (l := L) (i := (i : Int)) (by omega) (by omega)
      rw [Int.toNat_natCast] at gi
      simp only [run_prim]
      refine ⟨iv i, chk_int (l := L) (by omega) (by omega), .agg [iv (L.getD i 0)], gi, ?_⟩
      refine mk_call (ev85 k (n := L.getD i 0) h0 h1 (by omega) (by omega) (by omega)) ?_
      rintro v ⟨x, rfl, hx0, hx1, hx2⟩
      have hx3 := hx2 (by omega) (by omega)
      simp only [run_prim]
      refine ⟨iv i, chk_int (l := L) (by omega) (by omega), iv x, by simp, .agg ((L.set i x).map iv), put_int (by omega), ?_⟩
      simp [wrap64 (n := (i : Int) + 1) (by omega) (by omega)]
      refine ⟨j - 1, by omega, i + 1, L.set i x, by simp, by omega, by simpa using hL, fun y hy => ?_, fun k hk' => ?_, fun k h1 h2 => ?_⟩
      · rcases List.mem_or_eq_of_mem_set hy with h | h
        · exact hb y h
        · omega
      · by_cases e : k = i
        · subst e
          have e2 := hk2 k (by omega) (by omega)
          rw [e2] at hx3
          have : (L.set k x)[k]?.getD 0 = x := by simp [hlt]
          rw [this]
          simp only [List.getD_eq_getElem?_getD] at hx3
          simp [nr, hx3]
        · have := hk k (by omega)
          simp only [List.getD_eq_getElem?_getD] at this ⊢
          rw [List.getElem?_set_ne (by omega)]
          exact this
      · have := hk2 k (by omega) h2
        simp only [List.getD_eq_getElem?_getD] at this ⊢
        rw [List.getElem?_set_ne (by omega)]
        exact this
    · simp only [run_jump, atL_same]
      simp only [atL]
      simp
      exact ⟨L, rfl, hL, hb, fun i hi => by have := hk i (by omega); simpa using this⟩
  rintro vs ⟨L, rfl, hL, hb, hk⟩
  refine mk_ev (Q := fun v => ∃ x, v = iv x ∧ 0 ≤ x ∧ x ≤ 30 ∧ (x - p.up ≤ slip ∧ p.up - x ≤ slip)) ((ev85 k (n := p.up) h0 h1 (lo := 0) (hi := 30) (by omega) (by omega) (by omega)).mono fun v ⟨x, e, a, b, c⟩ => ⟨x, e, a, b, c (by omega) (by omega)⟩) (by simp [Pc.cells]) ?_
  rintro v ⟨u, rfl, hu0, hu1, hu2⟩
  refine mk_ev (Q := fun v => ∃ x, v = iv x ∧ 0 ≤ x ∧ x ≤ 30 ∧ (x - p.dn ≤ slip ∧ p.dn - x ≤ slip)) ((ev85 k (n := p.dn) h0 h1 (lo := 0) (hi := 30) (by omega) (by omega) (by omega)).mono fun v ⟨x, e, a, b, c⟩ => ⟨x, e, a, b, c (by omega) (by omega)⟩) (by simp [Pc.cells]) ?_
  rintro v ⟨d, rfl, hd0, hd1, hd2⟩
  simp only [run_prim]
  refine ⟨iv u, by simp, iv d, by simp, .bool (decide (0 < p.wd)), by simp [Pc.cells], ?_⟩
  refine mk_join (fun vs => ∃ w, vs = [iv w] ∧ 0 ≤ w ∧ w ≤ 60 ∧ ((p.wd = 0 ∧ w = 0) ∨ (0 < p.wd ∧ nr slip w p.wd = true))) ?_ ?_
  · simp only [run_ite, SE.den, List.cons_append, List.nil_append, List.getD_cons_succ, List.getD_cons_zero, pifv_bool]
    refine pif (fun h => ?_) (fun h => ?_) <;> simp only [decide_eq_true_eq, decide_eq_false_iff_not] at h
    · refine mk_ev (Q := fun v => ∃ x, v = iv x ∧ 1 ≤ x ∧ x ≤ 60 ∧ (x - p.wd ≤ slip ∧ p.wd - x ≤ slip)) ((ev85 k (n := p.wd) h0 h1 (lo := 1) (hi := 60) (by omega) (by omega) (by omega)).mono fun v ⟨x, e, a, b, c⟩ => ⟨x, e, a, b, c (by omega) (by omega)⟩) (by simp [Pc.cells]) ?_
      rintro v ⟨w, rfl, hw0, hw1, hw2⟩
      simp only [run_prim]
      refine ⟨iv w, by simp, ?_⟩
      simp only [run_jump, atL_same]
      exact ⟨w, by simp, by omega, by omega, .inr ⟨h, by simp [nr, hw2]⟩⟩
    · simp only [run_jump, atL_same]
      exact ⟨p.wd, by simp [Pc.cells], by omega, by omega, .inl ⟨by omega, by omega⟩⟩
  rintro vs ⟨w, rfl, hw0, hw1, hw2⟩
  simp only [run_prim]
  refine ⟨.sl none 1 0 L.length (L.map iv), by simp, ?_⟩
  simp only [run_ret]
  have hpl := ints_plain L
  refine ⟨_, rfl, ?_, ⟨.sl none 1 0 L.length (L.map iv), L, u, d, w, p.fr⟩, by simp [Pc.cells], ⟨.inr ⟨0, rfl⟩, by show L.length ≤ 5; omega, hb, hu0, hu1, hd0, hd1, hw0, hw1⟩, rfl, ⟨hL, hk, hu2, hd2, by rcases hw2 with h | h; exact .inl h; exact .inr h, rfl⟩⟩
  simp [Pc.cells, hpl]
structure Cut (r : Rg) (a b : Nat) (q : Pc) : Prop where
  ok : q.ok
  fr : q.fr = false
  len : q.g.length = b - a
  gs : ∀ i, i < b - a → q.g.getD i 0 = stp r (a + i)
  up : 0 < a → q.up < stp r (a - 1)
  dn : (b : Int) < r.lines - 1 → q.dn < stp r b
  wd : q.wd = 0 ∨ q.wd = r.width
theorem ev40 (k : Nat) {r : Rg} (hr : r.ok) {a b : Nat} (hab : a ≤ b) (hb5 : b ≤ a + 5) (hbl : (b : Int) ≤ r.lines - 1) : Ev (k + 4) 40 [dv, .agg r.cells, iv a, iv b] fun v => ∃ q : Pc, v = .agg q.cells ∧ Cut r a b q := by
  refine ev_of (t := t40) rfl (fn := Try.f40) (by kernel_rfl) (by simp [fitArgs, flagsOf, Rg.cells, hr.il.plain]) ?_
  have n1 := hr.n1
  have n2 := hr.n2
  have w1 := hr.w1
  have w2 := hr.w2
  have hst := stp_ok hr
  simp only [t40, tv, tp, tn, run_prim]
  refine ⟨.agg r.cells, by simp [Rg.cells], ?_⟩
  refine mk_join (fun vs => ∃ L : List Int, vs = [.agg (L.map iv)] ∧ L.length = b - a ∧ (∀ x ∈ L, 1 ≤ x ∧ x ≤ 30) ∧ ∀ i, i < b - a → L.getD i 0 = stp r (a + i)) ?_ ?_
  · refine mk_loop (fun j vs => ∃ L : List Int, vs = [iv ((a + L.length : Nat) : Int), .agg (L.map iv)] ∧ L.length + j = b - a ∧ (∀ x ∈ L, 1 ≤ x ∧ x ≤ 30) ∧ ∀ i, i < L.length → L.getD i 0 = stp r (a + i)) (b - a) (by omega) ⟨[], by simp, by simp, by simp, by simp⟩ ?_
    rintro j vs ⟨L, rfl, hi, hb, hk⟩
    simp only [run_prim]
    refine ⟨.bool (decide (((a + L.length : Nat) : Int) < b)), by simp, ?_⟩
    simp only [run_ite, SE.den, List.cons_append, List.nil_append, List.getD_cons_succ, List.getD_cons_zero, pifv_bool]
    refine pif (fun h => ?_) (fun h => ?_) <;> simp only [decide_eq_true_eq, decide_eq_false_iff_not] at h
    · refine mk_ev (Q := fun v => v = iv (stp r (a + L.length))) (ev51 (k + 1) hr (a + L.length)) (by simp [Rg.cells]) ?_
      rintro v rfl
      have hs := hst (a + L.length)
      simp only [run_prim]
      refine ⟨iv (stp r (a + L.length)), by simp, .agg ((L ++ [stp r (a + L.length)]).map iv), push_int (by decide) (by omega), iv ((a + (L ++ [stp r (a + L.length)]).length : Nat) : Int), ?_, ?_⟩
      · simp
        rw [wrap64 (by omega) (by omega)]
        omega
      · simp only [run_jump, atL_same]
        refine ⟨j - 1, by omega, L ++ [stp r (a + L.length)], by simp, by simp; omega, fun x hx => ?_, fun i hi' => ?_⟩
        · rcases List.mem_append.1 hx with h' | h'
          · exact hb x h'
          · simp at h'; omega
        · by_cases e : i < L.length
          · have := hk i e
            simp only [List.getD_eq_getElem?_getD] at this ⊢
            rw [List.getElem?_append_left e, this]
          · have e : i = L.length := by simp at hi'; omega
            subst e
            simp
    · simp only [run_jump]
      simp only [atL]
      simp
      exact ⟨L, rfl, by omega, hb, fun i hi => by have := hk i (by omega); simpa using this⟩
  rintro vs ⟨L, rfl, hL, hb, hk⟩
  refine mk_call (ev21 (k + 1) 30 (by omega) (by omega)) ?_
  rintro v ⟨x, rfl, hx0, hx1⟩
  refine mk_call (ev21 (k + 1) 30 (by omega) (by omega)) ?_
  rintro v ⟨y, rfl, hy0, hy1⟩
  simp only [run_prim]
  refine ⟨iv x, by simp, iv y, by simp, .bool (decide (0 < a)), by simp, ?_⟩
  refine mk_join (fun vs => ∃ u, vs = [iv u] ∧ 0 ≤ u ∧ u ≤ 30 ∧ (0 < a → u < stp r (a - 1))) ?_ ?_
  · simp only [run_ite, SE.den, List.cons_append, List.nil_append, List.getD_cons_succ, List.getD_cons_zero, pifv_bool]
    refine pif (fun h => ?_) (fun h => ?_) <;> simp only [decide_eq_true_eq, decide_eq_false_iff_not] at h
    · have hs := hst (a - 1)
      simp only [run_prim]
      refine ⟨iv ((a - 1 : Nat) : Int), by have e : (a : Int) - 1 = ((a - 1 : Nat) : Int) := by omega
                                           simp [e, wrap64 (n := ((a - 1 : Nat) : Int)) (by omega) (by omega)], ?_⟩
      refine mk_ev (Q := fun v => v = iv (stp r (a - 1))) (ev51 (k + 1) hr (a - 1)) (by simp [Rg.cells]) ?_
      rintro v rfl
      simp only [run_prim]
      refine ⟨iv (stp r (a - 1) - 1), by simp [wrap64 (n := stp r (a - 1) - 1) (by omega) (by omega)], ?_⟩
      refine mk_call (ev21 (k + 1) (stp r (a - 1) - 1) (by omega) (by omega)) ?_
      rintro v ⟨z, rfl, hz0, hz1⟩
      simp only [run_prim]
      refine ⟨iv z, by simp, ?_⟩
      simp only [run_jump, atL_same]
      exact ⟨z, by simp, by omega, by omega, fun _ => by omega⟩
    · simp only [run_jump, atL_same]
      exact ⟨x, by simp, by omega, by omega, fun h' => by omega⟩
  rintro vs ⟨u, rfl, hu0, hu1, hu2⟩
  simp only [run_prim]
  refine ⟨iv (r.lines - 1), by simp [Rg.cells, wrap64 (n := r.lines - 1) (by omega) (by omega)], .bool (decide ((b : Int) < r.lines - 1)), by simp, ?_⟩
  refine mk_join (fun vs => ∃ d, vs = [iv d] ∧ 0 ≤ d ∧ d ≤ 30 ∧ ((b : Int) < r.lines - 1 → d < stp r b)) ?_ ?_
  · simp only [run_ite, SE.den, List.cons_append, List.nil_append, List.getD_cons_succ, List.getD_cons_zero, pifv_bool]
    refine pif (fun h => ?_) (fun h => ?_) <;> simp only [decide_eq_true_eq, decide_eq_false_iff_not] at h
    · have hs := hst b
      refine mk_ev (Q := fun v => v = iv (stp r b)) (ev51 (k + 1) hr b) (by simp [Rg.cells]) ?_
      rintro v rfl
      simp only [run_prim]
      refine ⟨iv (stp r b - 1), by simp [wrap64 (n := stp r b - 1) (by omega) (by omega)], ?_⟩
      refine mk_call (ev21 (k + 1) (stp r b - 1) (by omega) (by omega)) ?_
      rintro v ⟨z, rfl, hz0, hz1⟩
      simp only [run_prim]
      refine ⟨iv z, by simp, ?_⟩
      simp only [run_jump, atL_same]
      exact ⟨z, by simp, by omega, by omega, fun _ => by omega⟩
    · simp only [run_jump, atL_same]
      exact ⟨y, by simp, by omega, by omega, fun h' => absurd h' h⟩
  rintro vs ⟨d, rfl, hd0, hd1, hd2⟩
  refine mk_ev (Q := fun v => ∃ c, v = iv c ∧ c ∈ [0, r.width]) (ev65 k (l := [0, r.width]) (.inr ⟨0, rfl⟩) (by simp) (by simp)) (by simp [Rg.cells]) ?_
  rintro v ⟨c, rfl, hc⟩
  have hc' : c = 0 ∨ c = r.width := by simpa using hc
  simp only [run_prim]
  refine ⟨iv c, by simp, ilOf L, by simp, ?_⟩
  simp only [run_ret]
  refine ⟨_, rfl, ?_, ⟨ilOf L, L, u, d, c, false⟩, by simp [Pc.cells], ⟨⟨il_of L, by show L.length ≤ 5; omega, hb, hu0, hu1, hd0, hd1, by show 0 ≤ c; omega, by show c ≤ 60; omega⟩, rfl, hL, hk, hu2, hd2, hc'⟩⟩
  simp [(il_of L).plain.1, (il_of L).plain.2]
end Go.Proofs.Ytlminnpaeaganaa
namespace Go.Proofs.Ytlminnpaeaganaa
open Go Go.RowKit
set_option linter.unusedVariables false
set_option linter.unusedSimpArgs false
set_option maxRecDepth 100000
theorem ev20 (k : Nat) {slip : Int} {lp : PV} {l : List Rg} (h : Hand slip lp l) : Ev (k + 6) 20 [dv, .agg [iv slip, lp]] fun v => ∃ p : Pc, v = .agg p.cells ∧ p.ok := by
  refine ev_of (t := t20) rfl (fn := Try.f20) (by kernel_rfl) (by simp [fitArgs, flagsOf, h.plain]) ?_
  have l0 := h.l0
  have l1 := h.l1
  simp only [t20, tv, tp, tn, run_prim]
  refine ⟨.agg [iv slip, lp], by simp, iv l.length, by simpa using h.rl.len, iv ((l.length : Int) - 1), by simp [wrap64 (n := (l.length : Int) - 1) (by omega) (by omega)], ?_⟩
  refine mk_call (ev21 (k + 3) ((l.length : Int) - 1) (by omega) (by omega)) ?_
  rintro v ⟨n, rfl, hn0, hn1⟩
  obtain ⟨n, rfl⟩ := Int.eq_ofNat_of_zero_le hn0
  have hn : n < l.length := by omega
  have hr := h.get hn
  have hrow := rowR h.rl hn
  generalize hR : l.getD n default = r at hr hrow
  have n1 := hr.n1
  have n2 := hr.n2
  simp only [run_prim]
  refine ⟨.agg r.cells, by simpa using hrow, iv (r.lines - 1), by simp [Rg.cells, wrap64 (n := r.lines - 1) (by omega) (by omega)], ?_⟩
  refine mk_call (ev21 (k + 3) (r.lines - 1) (by omega) (by omega)) ?_
  rintro v ⟨a, rfl, ha0, ha1⟩
  obtain ⟨a, rfl⟩ := Int.eq_ofNat_of_zero_le ha0
  simp only [run_prim]
  refine ⟨iv (r.lines - 1), by simp [Rg.cells, wrap64 (n := r.lines - 1) (by omega) (by omega)], ?_⟩
  refine mk_call (ev65 (k + 2) (l := [1, 2, 5]) (.inr ⟨0, rfl⟩) (by simp) (by simp)) ?_
  rintro v ⟨x, rfl, hx⟩
  have hx' : 1 ≤ x ∧ x ≤ 5 := by simp at hx; omega
  refine mk_call (ev21 (k + 3) x (by omega) (by omega)) ?_
  rintro v ⟨y, rfl, hy0, hy1⟩
  obtain ⟨b, hb⟩ : ∃ b : Nat, (b : Int) = if (a : Int) + y < r.lines - 1 then (a : Int) + y else r.lines - 1 := ⟨(if (a : Int) + y < r.lines - 1 then (a : Int) + y else r.lines - 1).toNat, by split <;> omega⟩
  have hb1 : a ≤ b ∧ b ≤ a + 5 ∧ (b : Int) ≤ r.lines - 1 := by split at hb <;> omega
  simp only [run_prim]
  refine ⟨iv ((a : Int) + y), by simp [wrap64 (n := (a : Int) + y) (by omega) (by omega)], iv b, by simp [aMin, hb], ?_⟩
  refine mk_ev (Q := fun v => ∃ q : Pc, v = .agg q.cells ∧ Cut r a b q) (ev40 (k + 1) hr hb1.1 hb1.2.1 hb1.2.2) (by simp [Rg.cells]) ?_
  rintro v ⟨c, rfl, hc⟩
  refine mk_ev (Q := fun v => ∃ q : Pc, v = .agg q.cells ∧ q.ok ∧ q.gp = .sl none 1 0 q.g.length (q.g.map iv) ∧ Mea slip c q) (ev39 k h.s0 h.s1 hc.ok) (by simp) ?_
  rintro v ⟨q, rfl, hq, hgp, hm⟩
  have q5 := hq.gl
  simp only [run_prim]
  refine ⟨.agg q.cells, by simp [Pc.cells], .agg (q.g.map iv), by simp [Pc.cells, hgp, contV], ?_⟩
  refine mk_call (ev45 (k + 2) 3 (by omega) (by omega)) ?_
  rintro v ⟨c1, rfl⟩
  refine mk_join (fun vs => ∃ u d, vs = [iv u, iv d] ∧ 0 ≤ u ∧ u ≤ 30 ∧ 0 ≤ d ∧ d ≤ 30) ?_ ?_
  · cases c1 with
    | true =>
      simp only [run_ite, SE.den, List.cons_append, List.nil_append, List.getD_cons_succ, List.getD_cons_zero, pifv_bool, pif_true, run_jump, atL_same]
      exact ⟨0, 0, by simp, by omega, by omega, by omega, by omega⟩
    | false =>
      simp only [run_ite, SE.den, List.cons_append, List.nil_append, List.getD_cons_succ, List.getD_cons_zero, pifv_bool, pif_false, run_jump, atL_same]
      exact ⟨q.up, q.dn, by simp [Pc.cells], hq.u0, hq.u1, hq.d0, hq.d1⟩
  rintro vs ⟨u, d, rfl, hu0, hu1, hd0, hd1⟩
  refine mk_join (fun vs => (vs = [.bool true] ∧ 0 < q.g.length) ∨ vs = [.bool false]) ?_ ?_
  · simp only [run_prim]
    refine ⟨iv q.g.length, by simp, .bool (decide (0 < (q.g.length : Int))), by simp, ?_⟩
    simp only [run_ite, SE.den, List.cons_append, List.nil_append, List.getD_cons_succ, List.getD_cons_zero, pifv_bool]
    refine pif (fun h => ?_) (fun h => ?_) <;> simp only [decide_eq_true_eq, decide_eq_false_iff_not] at h
    · refine mk_call (ev45 (k + 2) 4 (by omega) (by omega)) ?_
      rintro v ⟨c2, rfl⟩
      simp only [run_jump, atL_same]
      cases c2 with
      | true => exact .inl ⟨by simp, by omega⟩
      | false => exact .inr (by simp)
    · simp
  rintro vs hvs
  refine mk_join (fun vs => ∃ L : List Int, vs = [.agg (L.map iv)] ∧ L.length = q.g.length ∧ ∀ x ∈ L, 1 ≤ x ∧ x ≤ 30) ?_ ?_
  · rcases hvs with ⟨rfl, hpos⟩ | rfl
    · simp only [run_ite, SE.den, List.cons_append, List.nil_append, List.getD_cons_succ, List.getD_cons_zero, pifv_bool, pif_true, run_prim]
      refine ⟨iv q.g.length, by simp, iv ((q.g.length : Int) - 1), by simp [wrap64 (n := (q.g.length : Int) - 1) (by omega) (by omega)], ?_⟩
      refine mk_call (ev21 (k + 3) ((q.g.length : Int) - 1) (by omega) (by omega)) ?_
      rintro v ⟨i, rfl, hi0, hi1⟩
      obtain ⟨i, rfl⟩ := Int.eq_ofNat_of_zero_le hi0
      refine mk_call (ev44 (k + 2) 1 12 (by omega) (by omega) (by omega) (by omega)) ?_
      rintro v ⟨z, rfl, hz0, hz1⟩
      simp only [run_prim]
      refine ⟨iv i, chk_int (l := q.g) (by omega) (by omega), iv z, by simp, .agg ((q.g.set i z).map iv), put_int (by omega), ?_⟩
      simp only [run_jump, atL_same]
      refine ⟨q.g.set i z, by simp, by simp, fun y hy => ?_⟩
      rcases List.mem_or_eq_of_mem_set hy with h | h
      · exact hq.gs y h
      · omega
    · simp only [run_ite, SE.den, List.cons_append, List.nil_append, List.getD_cons_succ, List.getD_cons_zero, pifv_bool, pif_false, run_jump, atL_same]
      exact ⟨q.g, by simp, rfl, hq.gs⟩
  rintro vs ⟨L, rfl, hL, hLb⟩
  refine mk_call (ev45 (k + 2) 3 (by omega) (by omega)) ?_
  rintro v ⟨fr, rfl⟩
  rcases hvs with ⟨rfl, hpos⟩ | rfl <;>
  · simp only [run_prim]
    refine ⟨.bool fr, by simp, .sl none 1 0 L.length (L.map iv), by simp, ?_⟩
    simp only [run_ret]
    have hpl := ints_plain L
    refine ⟨_, rfl, ?_, ⟨.sl none 1 0 L.length (L.map iv), L, u, d, q.wd, fr⟩, by simp [Pc.cells], ⟨.inr ⟨0, rfl⟩, by show L.length ≤ 5; omega, hLb, hu0, hu1, hd0, hd1, hq.w0, hq.w1⟩⟩
    simp [Pc.cells, hpl]
theorem ev56 (k : Nat) {x : PV} {l : List Int} (hx : IL x l) (hl : l.length < 4000) : Ev (k + 1) 56 [x] fun v => v = .sl none 1 0 l.length (l.map iv) := by
  refine ev_of (t := t56) rfl (fn := Try.f56) (by kernel_rfl) (by simp [fitArgs, flagsOf, hx.plain]) ?_
  simp only [t56, tv, tp, tn, run_prim]
  refine ⟨iv l.length, by simpa using hx.len, _, mk_int (n := l.length) (by omega), ?_⟩
  refine mk_join (fun vs => vs = [.agg (l.map iv)]) ?_ ?_
  · refine mk_loop (fun j vs => ∃ (i : Nat) (L : List Int), vs = [iv i, .agg (L.map iv)] ∧ i + j = l.length ∧ L.length = l.length ∧ ∀ k, k < i → L.getD k 0 = l.getD k 0) l.length (by omega) ⟨0, List.replicate l.length 0, by simp, by omega, by simp, by simp⟩ ?_
    rintro j vs ⟨i, L, rfl, hi, hL, hk⟩
    simp only [run_prim]
    refine ⟨iv l.length, by simpa using hx.len, .bool (decide ((i : Int) < l.length)), by simp, ?_⟩
    simp only [run_ite, SE.den, List.cons_append, List.nil_append, List.getD_cons_succ, List.getD_cons_zero, pifv_bool]
    refine pif (fun h => ?_) (fun h => ?_) <;> simp only [decide_eq_true_eq, decide_eq_false_iff_not] at h
    · have hlt : i < l.length := by omega
      simp only [run_prim]
      refine ⟨.agg [iv (l.getD i 0)], by simpa using rowI hx hlt, iv i, by simp; omega, .agg ((L.set i (l.getD i 0)).map iv), put_int (by omega), ?_⟩
      simp [wrap64 (n := (i : Int) + 1) (by omega) (by omega)]
      refine ⟨j - 1, by omega, i + 1, L.set i (l.getD i 0), by simp, by omega, by simpa using hL, fun k hk' => ?_⟩
      by_cases e : k = i
      · subst e
        have : k < L.length := by omega
        simp [List.getD_eq_getElem?_getD, this]
      · have := hk k (by omega)
        simp only [List.getD_eq_getElem?_getD] at this ⊢
        rw [List.getElem?_set_ne (by omega)]
        exact this
    · have e : L = l := List.ext_getElem hL fun k h1 h2 => by
        have := hk k (by omega)
        simpa [List.getD_eq_getElem?_getD, h1, h2] using this
      simp [atL, e]
  rintro vs rfl
  have hpl := ints_plain l
  simp [hpl]
theorem spot_eq (a c : Int) (b d : Bool) : eqvS Try.prog 62 [iv a, .bool b] [iv c, .bool d] = some (decide (a = c) && ((b == d) && true)) := by kernel_rfl
theorem spots_len (slip : Int) {r : Rg} (hr : r.ok) (p : Pc) : (spots slip r p).length ≤ 24 := by
  have n2 := hr.n2
  have h1 := spt_len slip r p false r.lines.toNat
  have h2 := spt_len slip r (half p) true r.lines.toNat
  unfold spots
  split <;> simp <;> omega
end Go.Proofs.Ytlminnpaeaganaa
