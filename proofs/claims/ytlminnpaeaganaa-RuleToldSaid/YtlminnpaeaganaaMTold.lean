/- Told: the law is proved. No condition. -/
import Derived.Test.YtlminnpaeaganaaMPlainB
import Derived.Test.YtlminnpaeaganaaRows
import Derived.Test.YtlminnpaeaganaaChecked
import Derived.Test.YtlminnpaeaganaaMRead
namespace Go.Proofs.Ytlminnpaeaganaa
open Go Go.RowKit
set_option linter.unusedVariables false
set_option linter.unusedSimpArgs false
set_option maxRecDepth 100000

theorem spt_nil {slip : Int} {r : Rg} {p : Pc} {t : Bool} : ∀ {n : Nat}, (∀ i, i < n → sitB slip r p i = false) → spt slip r p t n = []
  | 0, _ => rfl
  | n + 1, h => by simp [spt, h n (Nat.lt_succ_self n), spt_nil (n := n) fun i hi => h i (by omega)]
/-- There is a spot. -/
def anyB (slip : Int) (r : Rg) (p : Pc) : Bool := decide (0 < (spots slip r p).length)
theorem any_of {slip : Int} {r : Rg} {p : Pc} {s : Nat × Bool} (h : s ∈ spots slip r p) : anyB slip r p = true := by
  simp only [anyB, decide_eq_true_eq]
  exact List.length_pos_of_mem h
theorem ev82 (k : Nat) {slip : Int} (hs0 : 0 ≤ slip) (hs1 : slip ≤ 3) {r : Rg} (hr : r.ok) {p : Pc} (hp : p.ok) : Ev (k + 4) 82 [.agg (gv slip), .agg r.cells, .agg p.cells, .int .u8 0] fun v => v = .bool (anyB slip r p) := by
  refine ev_of (t := t82) rfl (fn := Try.f82) (by kernel_rfl) (by simp [fitArgs, flagsOf, Pc.cells, hp.il.plain, Rg.cells, hr.il.plain]) ?_
  have n1 := hr.n1
  have n2 := hr.n2
  have g5 := hp.gl
  simp only [t82, tv, tp, tn, run_prim]
  refine ⟨.agg (gv slip), by simp, .agg r.cells, by simp [Rg.cells], .agg p.cells, by simp [Pc.cells], .int .u8 0, by simp, ?_⟩
  refine mk_join (fun vs => vs = [] ∧ spots slip r p = []) ?_ ?_
  · refine mk_join (fun vs => vs = [] ∧ ∀ i, i < r.lines.toNat → sitB slip r p i = false) ?_ ?_
    · refine mk_loop (fun j vs => ∃ i : Nat, vs = [iv i] ∧ i + j = r.lines.toNat ∧ ∀ k, k < i → sitB slip r p k = false) r.lines.toNat (by omega) ⟨0, rfl, by omega, by simp⟩ ?_
      rintro j vs ⟨i, rfl, hi, hb⟩
      simp only [run_prim]
      refine ⟨.bool (decide ((i : Int) < r.lines)), by simp [Rg.cells], ?_⟩
      simp only [run_ite, SE.den, List.cons_append, List.nil_append, List.getD_cons_succ, List.getD_cons_zero, pifv_bool]
      refine pif (fun h => ?_) (fun h => ?_) <;> simp only [decide_eq_true_eq, decide_eq_false_iff_not] at h
      · refine mk_ev (ev118 (k + 1) hs0 hs1 hr hp (line := i) (by omega)) (by simp [Rg.cells, Pc.cells]) ?_
        rintro v rfl
        simp only [run_ite, SE.den, List.cons_append, List.nil_append, List.getD_cons_succ, List.getD_cons_zero, pifv_bool]
        refine pif (fun h2 => ?_) (fun h2 => ?_)
        · have : anyB slip r p = true := any_of (s := (i, false)) (by simp only [spots, List.mem_append]; exact .inl (mem_spt.2 ⟨rfl, by omega, h2⟩))
          simp [this]
        · simp [wrap64 (n := (i : Int) + 1) (by omega) (by omega)]
          refine ⟨j - 1, by omega, i + 1, by simp, by omega, fun k hk => ?_⟩
          by_cases e : k = i
          · subst e; exact h2
          · exact hb k (by omega)
      · simp [atL]
        intro k hk
        exact hb k (by omega)
    · rintro vs ⟨rfl, hn⟩
      have hF := spt_nil (t := false) hn
      simp only [run_prim]
      refine ⟨.bool (!p.fr), by simp [Pc.cells], ?_⟩
      simp only [run_ite, SE.den, List.cons_append, List.nil_append, List.getD_cons_succ, List.getD_cons_zero, pifv_bool]
      refine pif (fun h => ?_) (fun h => ?_) <;> simp only [Bool.not_eq_true', Bool.not_eq_false'] at h
      · simp [spots, h, hF]
      · simp only [run_prim]
        refine ⟨iv p.g.length, by simpa [Pc.cells] using hp.il.len, ?_⟩
        refine mk_join (fun vs => vs = [.int .u8 0]) ?_ ?_
        · refine mk_loop (fun j vs => ∃ i : Nat, vs = [.int .u8 0, iv i] ∧ i + j = p.g.length) p.g.length (by omega) ⟨0, rfl, by omega⟩ ?_
          rintro j vs ⟨i, rfl, hi⟩
          simp only [run_prim]
          refine ⟨.bool (decide ((i : Int) < p.g.length)), by simp, ?_⟩
          simp only [run_ite, SE.den, List.cons_append, List.nil_append, List.getD_cons_succ, List.getD_cons_zero, pifv_bool]
          refine pif (fun h => ?_) (fun h => ?_) <;> simp only [decide_eq_true_eq, decide_eq_false_iff_not] at h
          · refine mk_ev (ev106 (k + 2) i) (by simp) ?_
            rintro v rfl
            refine mk_join (fun vs => vs = [.int .u8 0]) ?_ ?_
            · simp
            · rintro vs rfl
              simp [wrap64 (n := (i : Int) + 1) (by omega) (by omega)]
              exact ⟨j - 1, by omega, i + 1, by simp, by omega⟩
          · simp [atL]
        · rintro vs rfl
          refine mk_ev (ev119 (k + 1) hp) (by simp [Pc.cells]) ?_
          rintro v ⟨q, rfl, hq⟩
          have hp2 : (Pc.mk q p.g.reverse p.dn p.up p.wd p.fr).ok := ⟨hq, by simpa using hp.gl, fun x hx => hp.gs x (by simpa using hx), hp.d0, hp.d1, hp.u0, hp.u1, hp.w0, hp.w1⟩
          have hc := fun i => sit_congr (slip := slip) (r := r) (p := ⟨q, p.g.reverse, p.dn, p.up, p.wd, p.fr⟩) (q := half p) (i := i) rfl rfl rfl rfl
          simp only [run_prim]
          refine ⟨.agg [q, iv p.dn, iv p.up, iv p.wd, .bool p.fr], by simp, ?_⟩
          refine mk_join (fun vs => vs = [] ∧ ∀ i, i < r.lines.toNat → sitB slip r (half p) i = false) ?_ ?_
          · refine mk_loop (fun j vs => ∃ i : Nat, vs = [iv i] ∧ i + j = r.lines.toNat ∧ ∀ k, k < i → sitB slip r (half p) k = false) r.lines.toNat (by omega) ⟨0, rfl, by omega, by simp⟩ ?_
            rintro j vs ⟨i, rfl, hi, hb⟩
            simp only [run_prim]
            refine ⟨.bool (decide ((i : Int) < r.lines)), by simp [Rg.cells], ?_⟩
            simp only [run_ite, SE.den, List.cons_append, List.nil_append, List.getD_cons_succ, List.getD_cons_zero, pifv_bool]
            refine pif (fun h3 => ?_) (fun h3 => ?_) <;> simp only [decide_eq_true_eq, decide_eq_false_iff_not] at h3
            · refine mk_ev (Q := fun v => v = .bool (sitB slip r (half p) i)) ((ev118 (k + 1) hs0 hs1 hr hp2 (line := i) (by omega)).mono fun v e => by rw [e, hc]) (by simp [Rg.cells, Pc.cells]) ?_
              rintro v rfl
              simp only [run_ite, SE.den, List.cons_append, List.nil_append, List.getD_cons_succ, List.getD_cons_zero, pifv_bool]
              refine pif (fun h2 => ?_) (fun h2 => ?_)
              · have : anyB slip r p = true := any_of (s := (i, true)) (by simp only [spots, List.mem_append, h, if_true]; exact .inr (mem_spt.2 ⟨rfl, by omega, h2⟩))
                simp [this]
              · simp [wrap64 (n := (i : Int) + 1) (by omega) (by omega)]
                refine ⟨j - 1, by omega, i + 1, by simp, by omega, fun k hk => ?_⟩
                by_cases e : k = i
                · subst e; exact h2
                · exact hb k (by omega)
            · simp [atL]
              intro k hk
              exact hb k (by omega)
          · rintro vs ⟨rfl, hn2⟩
            have hF2 := spt_nil (t := true) hn2
            simp [spots, h, hF, hF2]
  · rintro vs ⟨rfl, hsp⟩
    simp [anyB, hsp]

/-! ### Tell -/
def stl (r : Rg) (n a : Nat) : List Int := (List.range n).map fun k => stp r (a + k)
def pcOf (r : Rg) (n a : Nat) : Pc := ⟨ilOf (stl r n a), stl r n a, 0, 0, 0, false⟩
theorem stl_len (r : Rg) (n a : Nat) : (stl r n a).length = n := by simp [stl]
theorem stl_succ (r : Rg) (n a : Nat) : stl r (n + 1) a = stl r n a ++ [stp r (a + n)] := by simp [stl, List.range_succ]
theorem pcOf_ok {r : Rg} (hr : r.ok) {n a : Nat} (hn : n ≤ 5) : (pcOf r n a).ok := ⟨il_of _, by show (stl r n a).length ≤ 5; rw [stl_len]; exact hn, fun x hx => by
    simp only [pcOf, stl, List.mem_map] at hx
    obtain ⟨i, _, rfl⟩ := hx
    have := stp_ok hr (a + i)
    omega, by show (0 : Int) ≤ 0; omega, by show (0 : Int) ≤ 30; omega, by show (0 : Int) ≤ 0; omega, by show (0 : Int) ≤ 30; omega, by show (0 : Int) ≤ 0; omega, by show (0 : Int) ≤ 60; omega⟩
theorem own_any {slip : Int} (h0 : 0 ≤ slip) {r : Rg} (hr : r.ok) {n a : Nat} (h : ((a + n : Nat) : Int) ≤ r.lines - 1) : anyB slip r (pcOf r n a) = true := by
  refine any_of (s := (a, false)) ?_
  simp only [spots, List.mem_append]
  refine .inl (mem_spt.2 ⟨rfl, by omega, ?_⟩)
  have e : (pcOf r n a).g.length = n := stl_len r n a
  have f1 : ∀ i, fa slip 0 (stp r i) = true := fun i => by have := stp_ok hr i; simp [fa]; omega
  simp only [sitB, Bool.and_eq_true, decide_eq_true_eq, Bool.not_eq_true', Bool.or_eq_false_iff]
  refine ⟨by rw [e]; exact h, ?_, ⟨?_, ?_⟩, ?_⟩
  · refine List.all_eq_true.2 fun k hk => ?_
    have hk' : k < n := by rw [← e]; simpa using hk
    have : (pcOf r n a).g.getD k 0 = stp r (a + k) := by simp [pcOf, stl, List.getD_eq_getElem?_getD, hk']
    rw [this]
    simp [nr]; omega
  · simp [upB, pcOf, f1]
  · simp [dnB, pcOf, f1]
  · simp [wdB, pcOf]
/-- What Tell answers. -/
def Told (slip : Int) (ra rb : Rg) (e g at_ : Int) : Prop :=
  (e = 0 ∧ ∃ n a : Nat, g = n ∧ at_ = a ∧ n ≤ 5 ∧ ((a + n : Nat) : Int) ≤ ra.lines - 1 ∧ anyB slip rb (pcOf ra n a) = false ∧ ∀ n' a' : Nat, n' < n ∨ (n' = n ∧ a' < a) → ((a' + n' : Nat) : Int) ≤ ra.lines - 1 → anyB slip rb (pcOf ra n' a') = true) ∨
  (e = 11 ∧ g = 0 ∧ at_ = 0 ∧ ∀ n' a' : Nat, n' ≤ 5 → ((a' + n' : Nat) : Int) ≤ ra.lines - 1 → anyB slip rb (pcOf ra n' a') = true)
theorem ev35 (k : Nat) {slip : Int} {lp : PV} {l : List Rg} (h : Hand slip lp l) {a b : Nat} (ha : a < l.length) (hb : b < l.length) : Ev (k + 5) 35 [.agg [iv slip, lp], iv a, iv b] fun v => ∃ e g at_, v = .tup [iv g, iv at_, iv e] ∧ Told slip (l.getD a default) (l.getD b default) e g at_ := by
  refine ev_of (t := t35) rfl (fn := Try.f35) (by kernel_rfl) (by simp [fitArgs, flagsOf, h.plain]) ?_
  have hra := h.get ha
  have hrb := h.get hb
  have rowa := rowR h.rl ha
  have rowb := rowR h.rl hb
  have hs0 := h.s0
  have hs1 := h.s1
  generalize hA : l.getD a default = ra at hra rowa
  generalize hB : l.getD b default = rb at hrb rowb
  have n1 := hra.n1
  have n2 := hra.n2
  simp only [t35, tv, tp, tn, run_prim]
  refine ⟨.agg [iv slip, lp], by simp, iv a, by simp, iv b, by simp, ?_⟩
  refine mk_ev (ev67 k h (x := .sl none 1 0 2 [iv a, iv b]) (ns := [(a : Int), (b : Int)]) (.inr ⟨0, rfl⟩) (by simp; omega) (by simp)) (by simp) ?_
  rintro v rfl
  simp only [run_prim]
  refine ⟨.agg [iv slip, lp], by simp, iv 0, by simp, .agg [iv slip, lp], by simp, .bool false, by simp, ?_⟩
  simp only [run_ite, SE.den, List.cons_append, List.nil_append, List.getD_cons_succ, List.getD_cons_zero, pifv_bool, pif_false]
  refine mk_ev (ev80 (k + 3) slip) (by simp) ?_
  rintro v rfl
  simp only [run_prim]
  refine ⟨.agg ra.cells, by simpa using rowa, .agg (gv slip), by simp, ?_⟩
  refine mk_join (fun vs => vs = [] ∧ ∀ n' a' : Nat, n' ≤ 5 → ((a' + n' : Nat) : Int) ≤ ra.lines - 1 → anyB slip rb (pcOf ra n' a') = true) ?_ ?_
  · refine mk_loop (fun j vs => ∃ n : Nat, vs = [iv n] ∧ n + j = 6 ∧ ∀ n' a' : Nat, n' < n → ((a' + n' : Nat) : Int) ≤ ra.lines - 1 → anyB slip rb (pcOf ra n' a') = true) 6 (by omega) ⟨0, rfl, by omega, by simp⟩ ?_
    rintro j vs ⟨n, rfl, hn, hbn⟩
    simp only [run_prim]
    refine ⟨.bool (decide ((n : Int) < 6)), by simp, ?_⟩
    simp only [run_ite, SE.den, List.cons_append, List.nil_append, List.getD_cons_succ, List.getD_cons_zero, pifv_bool]
    refine pif (fun h => ?_) (fun h => ?_) <;> simp only [decide_eq_true_eq, decide_eq_false_iff_not] at h
    · refine mk_join (fun vs => vs = [] ∧ ∀ a' : Nat, ((a' + n : Nat) : Int) ≤ ra.lines - 1 → anyB slip rb (pcOf ra n a') = true) ?_ ?_
      · refine mk_loop (fun j vs => ∃ c : Nat, vs = [iv c] ∧ c + j = 13 ∧ c ≤ 12 ∧ ∀ a' : Nat, a' < c → ((a' + n : Nat) : Int) ≤ ra.lines - 1 → anyB slip rb (pcOf ra n a') = true) 13 (by omega) ⟨0, rfl, by omega, by omega, by simp⟩ ?_
        rintro j' vs ⟨c, rfl, hc, hc12, hbc⟩
        simp only [run_prim]
        refine ⟨iv ((c + n : Nat) : Int), by simp [wrap64 (n := (c : Int) + n) (by omega) (by omega)], iv (ra.lines - 1), by simp [Rg.cells, wrap64 (n := ra.lines - 1) (by omega) (by omega)], .bool (decide (((c + n : Nat) : Int) ≤ ra.lines - 1)), by simp, ?_⟩
        simp only [run_ite, SE.den, List.cons_append, List.nil_append, List.getD_cons_succ, List.getD_cons_zero, pifv_bool]
        refine pif (fun h2 => ?_) (fun h2 => ?_) <;> simp only [decide_eq_true_eq, decide_eq_false_iff_not] at h2
        · refine mk_join (fun vs => vs = [.agg ((stl ra n c).map iv)]) ?_ ?_
          · refine mk_loop (fun j vs => ∃ i : Nat, vs = [iv i, .agg ((stl ra i c).map iv)] ∧ i + j = n) n (by omega) ⟨0, by simp [stl], by omega⟩ ?_
            rintro j2 vs ⟨i, rfl, hi⟩
            simp only [run_prim]
            refine ⟨.bool (decide ((i : Int) < n)), by simp, ?_⟩
            simp only [run_ite, SE.den, List.cons_append, List.nil_append, List.getD_cons_succ, List.getD_cons_zero, pifv_bool]
            refine pif (fun h3 => ?_) (fun h3 => ?_) <;> simp only [decide_eq_true_eq, decide_eq_false_iff_not] at h3
            · simp only [run_prim]
              refine ⟨iv ((c + i : Nat) : Int), by simp [wrap64 (n := (c : Int) + i) (by omega) (by omega)], ?_⟩
              refine mk_ev (ev81 (k + 3) hra (c + i)) (by simp [Rg.cells]) ?_
              rintro v rfl
              simp only [run_prim]
              refine ⟨iv (stp ra (c + i)), by simp, .agg ((stl ra (i + 1) c).map iv), ?_, iv ((i + 1 : Nat) : Int), by simp [wrap64 (n := (i : Int) + 1) (by omega) (by omega)], ?_⟩
              · rw [stl_succ]
                exact push_int (by decide) (by rw [stl_len]; omega)
              · simp only [run_jump, atL_same]
                exact ⟨j2 - 1, by omega, i + 1, by simp, by omega⟩
            · have : i = n := by omega
              subst this
              simp [atL]
          rintro vs rfl
          simp only [run_prim]
          refine ⟨.agg rb.cells, by simpa using rowb, ilOf (stl ra n c), by simp only [Prim.run, SE.den, List.cons_append, List.nil_append, List.getD_cons_succ, List.getD_cons_zero, frz_nil0], ?_⟩
          refine mk_ev (ev82 k hs0 hs1 hrb (pcOf_ok hra (n := n) (a := c) (by omega))) (by simp [Rg.cells, Pc.cells, pcOf]) ?_
          rintro v rfl
          simp only [run_prim]
          refine ⟨.bool (!anyB slip rb (pcOf ra n c)), by simp, ?_⟩
          simp only [run_ite, SE.den, List.cons_append, List.nil_append, List.getD_cons_succ, List.getD_cons_zero, pifv_bool]
          refine pif (fun h4 => ?_) (fun h4 => ?_) <;> simp only [Bool.not_eq_true', Bool.not_eq_false'] at h4
          · simp only [run_ret, atL_val]
            refine ⟨_, rfl, by simp, 0, n, c, by simp, .inl ⟨rfl, n, c, rfl, rfl, by omega, h2, h4, fun n' a' hh hle => ?_⟩⟩
            rcases hh with hh | ⟨rfl, hh⟩
            · exact hbn n' a' hh hle
            · exact hbc a' hh hle
          · simp [wrap64 (n := (c : Int) + 1) (by omega) (by omega)]
            refine ⟨j' - 1, by omega, c + 1, by simp, by omega, by omega, fun a' ha' hle => ?_⟩
            by_cases e : a' = c
            · subst e; exact h4
            · exact hbc a' (by omega) (by simpa using hle)
        · simp [atL]
          intro a' hle
          exact hbc a' (by omega) (by simpa using hle)
      rintro vs ⟨rfl, hall⟩
      simp [wrap64 (n := (n : Int) + 1) (by omega) (by omega)]
      refine ⟨j - 1, by omega, n + 1, by simp, by omega, fun n' a' hh hle => ?_⟩
      by_cases e : n' = n
      · subst e; exact hall a' (by simpa using hle)
      · exact hbn n' a' (by omega) (by simpa using hle)
    · simp [atL]
      intro n' a' hh hle
      exact hbn n' a' (by omega) (by simpa using hle)
  rintro vs ⟨rfl, hall⟩
  simp only [run_ret]
  exact ⟨_, rfl, by simp, 11, 0, 0, by simp, .inr ⟨rfl, rfl, rfl, hall⟩⟩
end Go.Proofs.Ytlminnpaeaganaa
namespace Go.Proofs.Ytlminnpaeaganaa
open Go Go.RowKit
set_option linter.unusedVariables false
set_option linter.unusedSimpArgs false
set_option maxRecDepth 100000

theorem un4 : Try.prog.underlying 4 = some .bool := by kernel_rfl
/-- What the law asks of a piece. -/
def skipB (e g at_ : Int) (n a : Nat) : Bool := decide (e = 0) && (decide (g < n) || (decide ((n : Int) = g) && decide (at_ < a)))
theorem told_skip {slip : Int} {ra rb : Rg} {e g at_ : Int} (h : Told slip ra rb e g at_) {n a : Nat} (hn : n ≤ 5) (ha : ((a + n : Nat) : Int) ≤ ra.lines - 1) (hs : skipB e g at_ n a = false) : decide ((spots slip rb (pcOf ra n a)).length = 0) = (decide (e = 0) && (decide ((n : Int) = g) && decide ((a : Int) = at_))) := by
  have key : anyB slip rb (pcOf ra n a) = !decide ((spots slip rb (pcOf ra n a)).length = 0) := by
    simp only [anyB]
    by_cases h0 : (spots slip rb (pcOf ra n a)).length = 0
    · simp [h0]
    · have : 0 < (spots slip rb (pcOf ra n a)).length := by omega
      rw [decide_eq_true this, decide_eq_false h0]; rfl
  generalize decide ((spots slip rb (pcOf ra n a)).length = 0) = z at *
  rcases h with ⟨rfl, n0, a0, rfl, rfl, h1, h2, h3, h4⟩ | ⟨rfl, rfl, rfl, h4⟩
  · simp [skipB] at hs
    by_cases e1 : n = n0 ∧ a = a0
    · obtain ⟨rfl, rfl⟩ := e1
      rw [h3] at key
      have hz : z = true := by cases z; cases key; rfl
      rw [hz]; simp
    · have hb := h4 n a (by omega) ha
      rw [hb] at key
      have : ¬ ((n : Int) = n0 ∧ (a : Int) = a0) := by omega
      cases z
      · simp; intro h5 h6; exact this ⟨by omega, by omega⟩
      · simp at key
  · rw [h4 n a hn ha] at key
    have hz : z = false := by cases z; rfl; cases key
    rw [hz]; simp
theorem ev10 {q : PV} (hq1 : intsB q = true) (hq2 : q.plain = true) : Ev 20 10 [q] fun v => v = .bool true := by
  refine ev_of (t := t10) rfl (fn := Try.f10) (by kernel_rfl) (by simp [fitArgs, flagsOf, hq2]) ?_
  simp only [t10, tv, tp, tn, run_prim]
  refine ⟨q, by simp [intsV, hq1], ?_⟩
  refine mk_call (ev38 14 3 (by omega) (by omega)) ?_
  rintro v ⟨slip, lp, l, rfl, s0, s3, hrl, hl1, hl2, hok⟩
  have hH : Hand slip lp l := ⟨s0, s3, hrl, hl1, by omega, hok⟩
  simp only [run_prim]
  refine ⟨.agg [iv slip, lp], by simp, ?_⟩
  refine mk_join (fun vs => vs = []) ?_ ?_
  · refine mk_loop (fun j vs => ∃ a : Nat, vs = [iv a] ∧ a + j = l.length) l.length (by omega) ⟨0, rfl, by omega⟩ ?_
    rintro j vs ⟨a, rfl, haj⟩
    simp only [run_prim]
    refine ⟨iv l.length, by simpa using hrl.len, .bool (decide ((a : Int) < l.length)), by simp, ?_⟩
    simp only [run_ite, SE.den, List.cons_append, List.nil_append, List.getD_cons_succ, List.getD_cons_zero, pifv_bool]
    refine pif (fun h => ?_) (fun h => ?_) <;> simp only [decide_eq_true_eq, decide_eq_false_iff_not] at h
    · have ha : a < l.length := by omega
      have hra := hH.get ha
      have rowa := rowR hrl ha
      refine mk_join (fun vs => vs = []) ?_ ?_
      · refine mk_loop (fun j vs => ∃ b : Nat, vs = [iv b] ∧ b + j = l.length) l.length (by omega) ⟨0, rfl, by omega⟩ ?_
        rintro jb vs ⟨b, rfl, hbj⟩
        simp only [run_prim]
        refine ⟨iv l.length, by simpa using hrl.len, .bool (decide ((b : Int) < l.length)), by simp, ?_⟩
        simp only [run_ite, SE.den, List.cons_append, List.nil_append, List.getD_cons_succ, List.getD_cons_zero, pifv_bool]
        refine pif (fun h2 => ?_) (fun h2 => ?_) <;> simp only [decide_eq_true_eq, decide_eq_false_iff_not] at h2
        · have hb : b < l.length := by omega
          have hrb := hH.get hb
          refine mk_ev (ev35 14 hH ha hb) (by simp) ?_
          rintro v ⟨e, g, at_, rfl, ht⟩
          have h31 := fun (p : Pc) (hp : p.ok) => ev31 14 hH hb hp
          have hab : a = b → l.getD a default = l.getD b default := fun e => by rw [e]
          generalize l.getD a default = ra at hra rowa ht hab
          generalize l.getD b default = rb at hrb ht h31 hab
          have n1 := hra.n1
          have n2 := hra.n2
          have he : e = 0 ∨ e = 11 := by rcases ht with ⟨h, _⟩ | ⟨h, _⟩ <;> omega
          have hown : a = b → e ≠ 0 := by
            intro eab e0
            have := hab eab
            subst this
            rcases ht with ⟨_, n0, a0, _, _, _, h2, h3, _⟩ | ⟨h, _⟩
            · rw [own_any s0 hra h2] at h3; cases h3
            · omega
          have hend : e = 0 → 0 ≤ g ∧ g ≤ 5 ∧ 0 ≤ at_ ∧ at_ + g < ra.lines := by
            intro e0
            rcases ht with ⟨_, n0, a0, rfl, rfl, h1, h2, _, _⟩ | ⟨h, _⟩
            · omega
            · omega
          simp only [run_prim]
          refine ⟨iv g, by simp, iv at_, by simp, iv e, by simp, ?_⟩
          refine mk_join (fun vs => vs = [.bool false]) ?_ ?_
          · simp only [run_prim]
            refine ⟨.bool (decide (e ≠ 0)), by simp, ?_⟩
            simp only [run_ite, SE.den, List.cons_append, List.nil_append, List.getD_cons_succ, List.getD_cons_zero, pifv_bool]
            rcases he with rfl | rfl
            · have hne : ¬ ((a : Int) = b) := fun h => hown (by omega) rfl
              have hne' : ¬ a = b := by omega
              simp [hne]
            · simp
              by_cases h5 : (a : Int) = b <;> simp [h5]
          rintro vs rfl
          simp only [run_ite, SE.den, List.cons_append, List.nil_append, List.getD_cons_succ, List.getD_cons_zero, pifv_bool, pif_false, run_prim]
          refine ⟨.agg ra.cells, by simpa using rowa, ?_⟩
          refine mk_join (fun vs => vs = []) ?_ ?_
          · refine mk_loop (fun j vs => ∃ n : Nat, vs = [iv n] ∧ n + j = 6) 6 (by omega) ⟨0, rfl, by omega⟩ ?_
            rintro jn vs ⟨n, rfl, hnj⟩
            simp only [run_prim]
            refine ⟨.bool (decide ((n : Int) ≤ 5)), by simp, ?_⟩
            simp only [run_ite, SE.den, List.cons_append, List.nil_append, List.getD_cons_succ, List.getD_cons_zero, pifv_bool]
            refine pif (fun h3 => ?_) (fun h3 => ?_) <;> simp only [decide_eq_true_eq, decide_eq_false_iff_not] at h3
            · refine mk_join (fun vs => vs = []) ?_ ?_
              · refine mk_loop (fun j vs => ∃ c : Nat, vs = [iv c] ∧ c + j = 13 ∧ c ≤ 12) 13 (by omega) ⟨0, rfl, by omega, by omega⟩ ?_
                rintro jc vs ⟨c, rfl, hcj, hc12⟩
                simp only [run_prim]
                refine ⟨iv ((c + n : Nat) : Int), by simp [wrap64 (n := (c : Int) + n) (by omega) (by omega)], .bool (decide (((c + n : Nat) : Int) < ra.lines)), by simp [Rg.cells], ?_⟩
                simp only [run_ite, SE.den, List.cons_append, List.nil_append, List.getD_cons_succ, List.getD_cons_zero, pifv_bool]
                refine pif (fun h4 => ?_) (fun h4 => ?_) <;> simp only [decide_eq_true_eq, decide_eq_false_iff_not] at h4
                · refine mk_join (fun vs => vs = [.bool (skipB e g at_ n c)]) ?_ ?_
                  · simp only [run_prim]
                    refine ⟨.bool (decide (e = 0)), by simp, ?_⟩
                    simp only [run_ite, SE.den, List.cons_append, List.nil_append, List.getD_cons_succ, List.getD_cons_zero, pifv_bool]
                    rcases he with rfl | rfl
                    · simp only [decide_true, pif_true, run_prim]
                      refine ⟨.bool (decide (g < n)), by simp, ?_⟩
                      simp only [run_ite, SE.den, List.cons_append, List.nil_append, List.getD_cons_succ, List.getD_cons_zero, pifv_bool]
                      refine pif (fun h5 => ?_) (fun h5 => ?_) <;> simp only [decide_eq_true_eq, decide_eq_false_iff_not] at h5
                      · simp [skipB, h5]
                      · simp only [run_prim]
                        refine ⟨.bool (decide ((n : Int) = g)), by simp, ?_⟩
                        simp only [run_ite, SE.den, List.cons_append, List.nil_append, List.getD_cons_succ, List.getD_cons_zero, pifv_bool]
                        refine pif (fun h6 => ?_) (fun h6 => ?_) <;> simp only [decide_eq_true_eq, decide_eq_false_iff_not] at h6
                        · simp [skipB, h5, h6]
                        · simp [skipB, h5, h6]
                    · simp [skipB]
                  rintro vs rfl
                  simp only [run_ite, SE.den, List.cons_append, List.nil_append, List.getD_cons_succ, List.getD_cons_zero, pifv_bool]
                  refine pif (fun h5 => ?_) (fun h5 => ?_)
                  · simp [wrap64 (n := (c : Int) + 1) (by omega) (by omega)]
                    exact ⟨jc - 1, by omega, c + 1, by simp, by omega, by omega⟩
                  · refine mk_join (fun vs => vs = [.agg ((stl ra n c).map iv)]) ?_ ?_
                    · refine mk_loop (fun j vs => ∃ i : Nat, vs = [iv i, .agg ((stl ra i c).map iv)] ∧ i + j = n) n (by omega) ⟨0, by simp [stl], by omega⟩ ?_
                      rintro j2 vs ⟨i, rfl, hi⟩
                      simp only [run_prim]
                      refine ⟨.bool (decide ((i : Int) < n)), by simp, ?_⟩
                      simp only [run_ite, SE.den, List.cons_append, List.nil_append, List.getD_cons_succ, List.getD_cons_zero, pifv_bool]
                      refine pif (fun h6 => ?_) (fun h6 => ?_) <;> simp only [decide_eq_true_eq, decide_eq_false_iff_not] at h6
                      · simp only [run_prim]
                        refine ⟨iv ((c + i : Nat) : Int), by simp [wrap64 (n := (c : Int) + i) (by omega) (by omega)], ?_⟩
                        refine mk_ev (ev51 17 hra (c + i)) (by simp [Rg.cells]) ?_
                        rintro v rfl
                        simp only [run_prim]
                        refine ⟨iv (stp ra (c + i)), by simp, .agg ((stl ra (i + 1) c).map iv), ?_, iv ((i + 1 : Nat) : Int), by simp [wrap64 (n := (i : Int) + 1) (by omega) (by omega)], ?_⟩
                        · rw [stl_succ]
                          exact push_int (by decide) (by rw [stl_len]; omega)
                        · simp only [run_jump, atL_same]
                          exact ⟨j2 - 1, by omega, i + 1, by simp, by omega⟩
                      · have : i = n := by omega
                        subst this
                        simp [atL]
                    rintro vs rfl
                    simp only [run_prim]
                    refine ⟨ilOf (stl ra n c), by simp only [Prim.run, SE.den, List.cons_append, List.nil_append, List.getD_cons_succ, List.getD_cons_zero, frz_nil0], ?_⟩
                    refine mk_ev (h31 _ (pcOf_ok hra (n := n) (a := c) (by omega))) (by simp [Pc.cells, pcOf]) ?_
                    rintro v ⟨x, rfl, hx⟩
                    have hk := told_skip ht (n := n) (a := c) (by omega) (by omega) h5
                    simp only [run_prim]
                    refine ⟨x, by simp, iv 0, by simp, ?_⟩
                    generalize spots slip rb (pcOf ra n c) = B at hx hk
                    refine mk_join (fun vs => vs = [.bool false]) ?_ ?_
                    · simp only [run_prim]
                      refine ⟨.bool false, by simp, ?_⟩
                      simp only [run_ite, SE.den, List.cons_append, List.nil_append, List.getD_cons_succ, List.getD_cons_zero, pifv_bool, pif_false, run_prim]
                      refine ⟨iv B.length, by simpa using hx.len, .bool (decide (B.length = 0)), by simp, .bool (decide (e = 0)), by simp, ?_⟩
                      rw [hk]
                      simp only [run_ite, SE.den, List.cons_append, List.nil_append, List.getD_cons_succ, List.getD_cons_zero, pifv_bool]
                      rcases he with rfl | rfl
                      · simp only [decide_true, pif_true, run_prim]
                        refine ⟨.bool (decide ((n : Int) = g)), by simp, ?_⟩
                        simp only [run_ite, SE.den, List.cons_append, List.nil_append, List.getD_cons_succ, List.getD_cons_zero, pifv_bool]
                        refine pif (fun h6 => ?_) (fun h6 => ?_) <;> simp only [decide_eq_true_eq, decide_eq_false_iff_not] at h6
                        · simp [h6, aBin, un4]
                        · simp [h6, aBin, un4]
                      · simp [aBin, un4]
                    rintro vs rfl
                    simp [wrap64 (n := (c : Int) + 1) (by omega) (by omega)]
                    exact ⟨jc - 1, by omega, c + 1, by simp, by omega, by omega⟩
                · simp [atL]
              rintro vs rfl
              simp [wrap64 (n := (n : Int) + 1) (by omega) (by omega)]
              exact ⟨jn - 1, by omega, n + 1, by simp, by omega⟩
            · simp [atL]
          rintro vs rfl
          simp only [List.append_nil]
          refine mk_join (fun vs => vs = [.bool false]) ?_ ?_
          · simp only [run_prim]
            refine ⟨.bool (decide (e = 0)), by simp, ?_⟩
            simp only [run_ite, SE.den, List.cons_append, List.nil_append, List.getD_cons_succ, List.getD_cons_zero, pifv_bool]
            rcases he with rfl | rfl
            · obtain ⟨g0, g5, a0, ag⟩ := hend rfl
              have e1 : ¬ g < 0 := by omega
              have e2 : ¬ 5 < g := by omega
              have e3 : ¬ at_ < 0 := by omega
              have e4 : ¬ ra.lines ≤ at_ + g := by omega
              simp [e1, e2, e3, e4, Rg.cells, wrap64 (n := at_ + g) (by omega) (by omega)]
            · simp
          rintro vs rfl
          simp [wrap64 (n := (b : Int) + 1) (by omega) (by omega)]
          exact ⟨jb - 1, by omega, b + 1, by simp, by omega⟩
        · simp [atL]
      rintro vs rfl
      simp [wrap64 (n := (a : Int) + 1) (by omega) (by omega)]
      exact ⟨j - 1, by omega, a + 1, by simp, by omega⟩
    · simp [atL]
  rintro vs rfl
  simp only [List.append_nil]
  refine mk_call (Q := fun v => v = .bool true) (fun ω => ⟨_, lined19 ω, rfl⟩) ?_
  rintro v rfl
  simp
theorem law10 : ∀ qs, ShL Try.prog 6 Try.f10.params.toList qs → ∀ ω, E Try.prog 20 ω 10 qs = some (.bool true) := by
  intro qs h ω
  rw [show Try.f10.params.toList = [25] by kernel_rfl] at h
  match qs, h with
  | [q], h =>
    obtain ⟨h1, h2, _⟩ := nums_shape h.1
    obtain ⟨v, hv, rfl⟩ := ev10 h1 h2 ω
    exact hv
end Go.Proofs.Ytlminnpaeaganaa
namespace Go.Proofs.Ytlminnpaeaganaa
open Go Go.RowKit Go.WideShapes Go.ChangeShapes

set_option maxRecDepth 100000
theorem ruleTold_lifted (hE : ∀ qs, ShL Try.prog 6 Try.f10.params.toList qs → ∀ ω, E Try.prog 20 ω 10 qs = some (.bool true)) (os : Os) (started : os.Started) (H : Type) (enc : TypeId × Value → H) :
    ReturnsInHanded {} Try.checked os 10 .any (Rows.ruleToldSpec.pre6 enc Try.prog Try.f10 Rows.ruleToldRow.domain false) (Rows.ruleToldSpec.post enc Try.prog Try.f10 false true false false) := by
  refine returnsInHanded_of_change (C := Try.checked) own started (by kernel_rfl) Try.func10
    (ChangeSpec.witness6 (enc := enc) (C := Try.checked) false ⟨#[], #[.slice none 0 0], []⟩ 8 (by kernel_rfl) (by kernel_rfl) (by kernel_rfl) (by kernel_rfl)) ?_
  intro W base args ds gs before hval hW _ _
  refine law_contract (P := Try.prog) (k := 6) (bt := 4) laidOut rfl rfl (by kernel_rfl) (by kernel_rfl) (by
    intro t ht
    have : Try.f10.params.toList.all (fun t => Try.prog.readableRec t && decide (t < Try.prog.types.size)) = true := by kernel_rfl
    have := List.all_eq_true.1 this t ht
    simpa using this) (fun ds hl => ?_) (fun qs hq m => ?_) hval hW
  · match ds, hl with
    | [d], _ => rfl
  · refine ((e_sound 20).ans 10 qs (fun ω => by rw [hE qs hq ω]; rfl) qs m (argL_self (shL_plain hq))).mono ?_
    rintro v E m' ⟨⟨ω, h1⟩, _, h2, h3⟩
    rw [hE qs hq ω] at h1
    injection h1 with h1
    exact ⟨h1.symm, h2, h3⟩
theorem ruleTold_holds (hE : ∀ qs, ShL Try.prog 6 Try.f10.params.toList qs → ∀ ω, E Try.prog 20 ω 10 qs = some (.bool true)) : Rows.RuleToldSaid :=
  OpenClaim.holds_of_wide 10 Try.f10 rfl rfl rfl rfl rfl rfl rfl ⟨rfl, rfl, rfl, rfl, rfl⟩ rfl rfl rfl rfl rfl (by kernel_rfl) Try.func10 (by kernel_rfl)
    (of_decide_eq_true (by kernel_rfl)) (by unfold Func.isWrapper; first | (rw [if_pos (by decide +kernel)]; kernel_rfl) | (rw [if_neg (by decide +kernel)]; exact ⟨rfl, rfl⟩))
    (fun os started H enc _ => ruleTold_lifted hE os started H enc)
end Go.Proofs.Ytlminnpaeaganaa
namespace Go.Proofs.Ytlminnpaeaganaa
open Go
theorem ruleToldProved : Rows.RuleToldSaid := ruleTold_holds law10
#print axioms ruleToldProved
end Go.Proofs.Ytlminnpaeaganaa
