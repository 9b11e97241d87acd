/- Plain laws. No condition. -/
import Derived.Test.YtlminnpaeaganaaMPlainB
namespace Go.Proofs.Ytlminnpaeaganaa
open Go Go.RowKit
set_option linter.unusedVariables false
set_option linter.unusedSimpArgs false
set_option maxRecDepth 100000

theorem spt_nil {slip : Int} {r : Rg} {p : Pc} {t : Bool} : ∀ {n : Nat}, (∀ i, i < n → sitB slip r p i = false) → spt slip r p t n = []
  | 0, _ => rfl
  | n + 1, h => by simp [spt, h n (Nat.lt_succ_self n), spt_nil (n := n) fun i hi => h i (by omega)]
/-- There is a spot. -/
def anyB (slip : Int) (r : Rg) (p : Pc) : Bool := decide (0 < (spots slip r p).length)
theorem any_of {slip : Int} {r : Rg} {p : Pc} {s : Nat × Bool} (h : s ∈ spots slip r p) : anyB slip r p = true := by
  simp only [anyB, decide_eq_true_eq]
  exact List.length_pos_of_mem h
theorem ev82 (k : Nat) {slip : Int} (hs0 : 0 ≤ slip) (hs1 : slip ≤ 3) {r : Rg} (hr : r.ok) {p : Pc} (hp : p.ok) : Ev (k + 4) 82 [.agg (gv slip), .agg r.cells, .agg p.cells, .int .u8 0] fun v => v = .bool (anyB slip r p) := by
  refine ev_of (t := t82) rfl (fn := Try.f82) (by kernel_rfl) (by simp [fitArgs, flagsOf, Pc.cells, hp.il.plain, Rg.cells, hr.il.plain]) ?_
  have n1 := hr.n1
  have n2 := hr.n2
  have g5 := hp.gl
  simp only [t82, tv, tp, tn, run_prim]
  refine ⟨.agg (gv slip), by simp, .agg r.cells, by simp [Rg.cells], .agg p.cells, by simp [Pc.cells], .int .u8 0, by simp, ?_⟩
  refine mk_join (fun vs => vs = [] ∧ spots slip r p = []) ?_ ?_
  · refine mk_join (fun vs => vs = [] ∧ ∀ i, i < r.lines.toNat → sitB slip r p i = false) ?_ ?_
    · refine mk_loop (fun j vs => ∃ i : Nat, vs = [iv i] ∧ i + j = r.lines.toNat ∧ ∀ k, k < i → sitB slip r p k = false) r.lines.toNat (by omega) ⟨0, rfl, by omega, by simp⟩ ?_
      rintro j vs ⟨i, rfl, hi, hb⟩
      simp only [run_prim]
      refine ⟨.bool (decide ((i : Int) < r.lines)), by simp [Rg.cells], ?_⟩
      simp only [run_ite, SE.den, List.cons_append, List.nil_append, List.getD_cons_succ, List.getD_cons_zero, pifv_bool]
      refine pif (fun h => ?_) (fun h => ?_) <;> simp only [decide_eq_true_eq, decide_eq_false_iff_not] at h
      · refine mk_ev (ev118 (k + 1) hs0 hs1 hr hp (line := i) (by omega)) (by simp [Rg.cells, Pc.cells]) ?_
        rintro v rfl
        simp only [run_ite, SE.den, List.cons_append, List.nil_append, List.getD_cons_succ, List.getD_cons_zero, pifv_bool]
        refine pif (fun h2 => ?_) (fun h2 => ?_)
        · have : anyB slip r p = true := any_of (s := (i, false)) (by simp only [spots, List.mem_append]; exact .inl (mem_spt.2 ⟨rfl, by omega, h2⟩))
          simp [this]
        · simp [wrap64 (n := (i : Int) + 1) (by omega) (by omega)]
          refine ⟨j - 1, by omega, i + 1, by simp, by omega, fun k hk => ?_⟩
          by_cases e : k = i
          · subst e; exact h2
          · exact hb k (by omega)
      · simp [atL]
        intro k hk
        exact hb k (by omega)
    · rintro vs ⟨rfl, hn⟩
      have hF := spt_nil (t := false) hn
      simp only [run_prim]
      refine ⟨.bool (!p.fr), by simp [Pc.cells], ?_⟩
      simp only [run_ite, SE.den, List.cons_append, List.nil_append, List.getD_cons_succ, List.getD_cons_zero, pifv_bool]
      refine pif (fun h => ?_) (fun h => ?_) <;> simp only [Bool.not_eq_true', Bool.not_eq_false'] at h
      · simp [spots, h, hF]
      · simp only [run_prim]
        refine ⟨iv p.g.length, by simpa [Pc.cells] using hp.il.len, ?_⟩
        refine mk_join (fun vs => vs = [.int .u8 0]) ?_ ?_
        · refine mk_loop (fun j vs => ∃ i : Nat, vs = [.int .u8 0, iv i] ∧ i + j = p.g.length) p.g.length (by omega) ⟨0, rfl, by omega⟩ ?_
          rintro j vs ⟨i, rfl, hi⟩
          simp only [run_prim]
          refine ⟨.bool (decide ((i : Int) < p.g.length)), by simp, ?_⟩
          simp only [run_ite, SE.den, List.cons_append, List.nil_append, List.getD_cons_succ, List.getD_cons_zero, pifv_bool]
          refine pif (fun h => ?_) (fun h => ?_) <;> simp only [decide_eq_true_eq, decide_eq_false_iff_not] at h
          · refine mk_ev (ev106 (k + 2) i) (by simp) ?_
            rintro v rfl
            refine mk_join (fun vs => vs = [.int .u8 0]) ?_ ?_
            · simp
            · rintro vs rfl
              simp [wrap64 (n := (i : Int) + 1) (by omega) (by omega)]
              exact ⟨j - 1, by omega, i + 1, by simp, by omega⟩
          · simp [atL]
        · rintro vs rfl
          refine mk_ev (ev119 (k + 1) hp) (by simp [Pc.cells]) ?_
          rintro v ⟨q, rfl, hq⟩
          have hp2 : (Pc.mk q p.g.reverse p.dn p.up p.wd p.fr).ok := ⟨hq, by simpa using hp.gl, fun x hx => hp.gs x (by simpa using hx), hp.d0, hp.d1, hp.u0, hp.u1, hp.w0, hp.w1⟩
          have hc := fun i => sit_congr (slip := slip) (r := r) (p := ⟨q, p.g.reverse, p.dn, p.up, p.wd, p.fr⟩) (q := half p) (i := i) rfl rfl rfl rfl
          simp only [run_prim]
          refine ⟨.agg [q, iv p.dn, iv p.up, iv p.wd, .bool p.fr], by simp, ?_⟩
          refine mk_join (fun vs => vs = [] ∧ ∀ i, i < r.lines.toNat → sitB slip r (half p) i = false) ?_ ?_
          · refine mk_loop (fun j vs => ∃ i : Nat, vs = [iv i] ∧ i + j = r.lines.toNat ∧ ∀ k, k < i → sitB slip r (half p) k = false) r.lines.toNat (by omega) ⟨0, rfl, by omega, by simp⟩ ?_
            rintro j vs ⟨i, rfl, hi, hb⟩
            simp only [run_prim]
            refine ⟨.bool (decide ((i : Int) < r.lines)), by simp [Rg.cells], ?_⟩
            simp only [run_ite, SE.den, List.cons_append, List.nil_append, List.getD_cons_succ, List.getD_cons_zero, pifv_bool]
            refine pif (fun h3 => ?_) (fun h3 => ?_) <;> simp only [decide_eq_true_eq, decide_eq_false_iff_not] at h3
            · refine mk_ev (Q := fun v => v = .bool (sitB slip r (half p) i)) ((ev118 (k + 1) hs0 hs1 hr hp2 (line := i) (by omega)).mono fun v e => by rw [e, hc]) (by simp [Rg.cells, Pc.cells]) ?_
              rintro v rfl
              simp only [run_ite, SE.den, List.cons_append, List.nil_append, List.getD_cons_succ, List.getD_cons_zero, pifv_bool]
              refine pif (fun h2 => ?_) (fun h2 => ?_)
              · have : anyB slip r p = true := any_of (s := (i, true)) (by simp only [spots, List.mem_append, h, if_true]; exact .inr (mem_spt.2 ⟨rfl, by omega, h2⟩))
                simp [this]
              · simp [wrap64 (n := (i : Int) + 1) (by omega) (by omega)]
                refine ⟨j - 1, by omega, i + 1, by simp, by omega, fun k hk => ?_⟩
                by_cases e : k = i
                · subst e; exact h2
                · exact hb k (by omega)
            · simp [atL]
              intro k hk
              exact hb k (by omega)
          · rintro vs ⟨rfl, hn2⟩
            have hF2 := spt_nil (t := true) hn2
            simp [spots, h, hF, hF2]
  · rintro vs ⟨rfl, hsp⟩
    simp [anyB, hsp]

end Go.Proofs.Ytlminnpaeaganaa
namespace Go.Proofs.Ytlminnpaeaganaa
open Go Go.RowKit
set_option linter.unusedVariables false
set_option linter.unusedSimpArgs false
set_option maxRecDepth 100000

/-! ### Tell -/
def stl (r : Rg) (n a : Nat) : List Int := (List.range n).map fun k => stp r (a + k)
def pcOf (r : Rg) (n a : Nat) : Pc := ⟨ilOf (stl r n a), stl r n a, 0, 0, 0, false⟩
theorem stl_len (r : Rg) (n a : Nat) : (stl r n a).length = n := by simp [stl]
theorem stl_succ (r : Rg) (n a : Nat) : stl r (n + 1) a = stl r n a ++ [stp r (a + n)] := by simp [stl, List.range_succ]
theorem pcOf_ok {r : Rg} (hr : r.ok) {n a : Nat} (hn : n ≤ 5) : (pcOf r n a).ok := ⟨il_of _, by show (stl r n a).length ≤ 5; rw [stl_len]; exact hn, fun x hx => by
    simp only [pcOf, stl, List.mem_map] at hx
    obtain ⟨i, _, rfl⟩ := hx
    have := stp_ok hr (a + i)
    omega, by show (0 : Int) ≤ 0; omega, by show (0 : Int) ≤ 30; omega, by show (0 : Int) ≤ 0; omega, by show (0 : Int) ≤ 30; omega, by show (0 : Int) ≤ 0; omega, by show (0 : Int) ≤ 60; omega⟩
theorem own_any {slip : Int} (h0 : 0 ≤ slip) {r : Rg} (hr : r.ok) {n a : Nat} (h : ((a + n : Nat) : Int) ≤ r.lines - 1) : anyB slip r (pcOf r n a) = true := by
  refine any_of (s := (a, false)) ?_
  simp only [spots, List.mem_append]
  refine .inl (mem_spt.2 ⟨rfl, by omega, ?_⟩)
  have e : (pcOf r n a).g.length = n := stl_len r n a
  have f1 : ∀ i, fa slip 0 (stp r i) = true := fun i => by have := stp_ok hr i; simp [fa]; omega
  simp only [sitB, Bool.and_eq_true, decide_eq_true_eq, Bool.not_eq_true', Bool.or_eq_false_iff]
  refine ⟨by rw [e]; exact h, ?_, ⟨?_, ?_⟩, ?_⟩
  · refine List.all_eq_true.2 fun k hk => ?_
    have hk' : k < n := by rw [← e]; simpa using hk
    have : (pcOf r n a).g.getD k 0 = stp r (a + k) := by simp [pcOf, stl, List.getD_eq_getElem?_getD, hk']
    rw [this]
    simp [nr]; omega
  · simp [upB, pcOf, f1]
  · simp [dnB, pcOf, f1]
  · simp [wdB, pcOf]
/-- What Tell answers. -/
def Told (slip : Int) (ra rb : Rg) (e g at_ : Int) : Prop :=
  (e = 0 ∧ ∃ n a : Nat, g = n ∧ at_ = a ∧ n ≤ 5 ∧ ((a + n : Nat) : Int) ≤ ra.lines - 1 ∧ anyB slip rb (pcOf ra n a) = false ∧ ∀ n' a' : Nat, n' < n ∨ (n' = n ∧ a' < a) → ((a' + n' : Nat) : Int) ≤ ra.lines - 1 → anyB slip rb (pcOf ra n' a') = true) ∨
  (e = 11 ∧ g = 0 ∧ at_ = 0 ∧ ∀ n' a' : Nat, n' ≤ 5 → ((a' + n' : Nat) : Int) ≤ ra.lines - 1 → anyB slip rb (pcOf ra n' a') = true)
theorem ev35 (k : Nat) {slip : Int} {lp : PV} {l : List Rg} (h : Hand slip lp l) {a b : Nat} (ha : a < l.length) (hb : b < l.length) : Ev (k + 5) 35 [.agg [iv slip, lp], iv a, iv b] fun v => ∃ e g at_, v = .tup [iv g, iv at_, iv e] ∧ Told slip (l.getD a default) (l.getD b default) e g at_ := by
  refine ev_of (t := t35) rfl (fn := Try.f35) (by kernel_rfl) (by simp [fitArgs, flagsOf, h.plain]) ?_
  have hra := h.get ha
  have hrb := h.get hb
  have rowa := rowR h.rl ha
  have rowb := rowR h.rl hb
  have hs0 := h.s0
  have hs1 := h.s1
  generalize hA : l.getD a default = ra at hra rowa
  generalize hB : l.getD b default = rb at hrb rowb
  have n1 := hra.n1
  have n2 := hra.n2
  simp only [t35, tv, tp, tn, run_prim]
  refine ⟨.agg [iv slip, lp], by simp, iv a, by simp, iv b, by simp, ?_⟩
  refine mk_ev (ev67 k h (x := .sl none 1 0 2 [iv a, iv b]) (ns := [(a : Int), (b : Int)]) (.inr ⟨0, rfl⟩) (by simp; omega) (by simp)) (by simp) ?_
  rintro v rfl
  simp only [run_prim]
  refine ⟨.agg [iv slip, lp], by simp, iv 0, by simp, .agg [iv slip, lp], by simp, .bool false, by simp, ?_⟩
  simp only [run_ite, SE.den, List.cons_append, List.nil_append, List.getD_cons_succ, List.getD_cons_zero, pifv_bool, pif_false]
  refine mk_ev (ev80 (k + 3) slip) (by simp) ?_
  rintro v rfl
  simp only [run_prim]
  refine ⟨.agg ra.cells, by simpa using rowa, .agg (gv slip), by simp, ?_⟩
  refine mk_join (fun vs => vs = [] ∧ ∀ n' a' : Nat, n' ≤ 5 → ((a' + n' : Nat) : Int) ≤ ra.lines - 1 → anyB slip rb (pcOf ra n' a') = true) ?_ ?_
  · refine mk_loop (fun j vs => ∃ n : Nat, vs = [iv n] ∧ n + j = 6 ∧ ∀ n' a' : Nat, n' < n → ((a' + n' : Nat) : Int) ≤ ra.lines - 1 → anyB slip rb (pcOf ra n' a') = true) 6 (by omega) ⟨0, rfl, by omega, by simp⟩ ?_
    rintro j vs ⟨n, rfl, hn, hbn⟩
    simp only [run_prim]
    refine ⟨.bool (decide ((n : Int) < 6)), by simp, ?_⟩
    simp only [run_ite, SE.den, List.cons_append, List.nil_append, List.getD_cons_succ, List.getD_cons_zero, pifv_bool]
    refine pif (fun h => ?_) (fun h => ?_) <;> simp only [decide_eq_true_eq, decide_eq_false_iff_not] at h
    · refine mk_join (fun vs => vs = [] ∧ ∀ a' : Nat, ((a' + n : Nat) : Int) ≤ ra.lines - 1 → anyB slip rb (pcOf ra n a') = true) ?_ ?_
      · refine mk_loop (fun j vs => ∃ c : Nat, vs = [iv c] ∧ c + j = 13 ∧ c ≤ 12 ∧ ∀ a' : Nat, a' < c → ((a' + n : Nat) : Int) ≤ ra.lines - 1 → anyB slip rb (pcOf ra n a') = true) 13 (by omega) ⟨0, rfl, by omega, by omega, by simp⟩ ?_
        rintro j' vs ⟨c, rfl, hc, hc12, hbc⟩
        simp only [run_prim]
        refine ⟨iv ((c + n : Nat) : Int), by simp [wrap64 (n := (c : Int) + n) (by omega) (by omega)], iv (ra.lines - 1), by simp [Rg.cells, wrap64 (n := ra.lines - 1) (by omega) (by omega)], .bool (decide (((c + n : Nat) : Int) ≤ ra.lines - 1)), by simp, ?_⟩
        simp only [run_ite, SE.den, List.cons_append, List.nil_append, List.getD_cons_succ, List.getD_cons_zero, pifv_bool]
        refine pif (fun h2 => ?_) (fun h2 => ?_) <;> simp only [decide_eq_true_eq, decide_eq_false_iff_not] at h2
        · refine mk_join (fun vs => vs = [.agg ((stl ra n c).map iv)]) ?_ ?_
          · refine mk_loop (fun j vs => ∃ i : Nat, vs = [iv i, .agg ((stl ra i c).map iv)] ∧ i + j = n) n (by omega) ⟨0, by simp [stl], by omega⟩ ?_
            rintro j2 vs ⟨i, rfl, hi⟩
            simp only [run_prim]
            refine ⟨.bool (decide ((i : Int) < n)), by simp, ?_⟩
            simp only [run_ite, SE.den, List.cons_append, List.nil_append, List.getD_cons_succ, List.getD_cons_zero, pifv_bool]
            refine pif (fun h3 => ?_) (fun h3 => ?_) <;> simp only [decide_eq_true_eq, decide_eq_false_iff_not] at h3
            · simp only [run_prim]
              refine ⟨iv ((c + i : Nat) : Int), by simp [wrap64 (n := (c : Int) + i) (by omega) (by omega)], ?_⟩
              refine mk_ev (ev81 (k + 3) hra (c + i)) (by simp [Rg.cells]) ?_
              rintro v rfl
              simp only [run_prim]
              refine ⟨iv (stp ra (c + i)), by simp, .agg ((stl ra (i + 1) c).map iv), ?_, iv ((i + 1 : Nat) : Int), by simp [wrap64 (n := (i : Int) + 1) (by omega) (by omega)], ?_⟩
              · rw [stl_succ]
                exact push_int (by decide) (by rw [stl_len]; omega)
              · simp only [run_jump, atL_same]
                exact ⟨j2 - 1, by omega, i + 1, by simp, by omega⟩
            · have : i = n := by omega
              subst this
              simp [atL]
          rintro vs rfl
          simp only [run_prim]
          refine ⟨.agg rb.cells, by simpa using rowb, ilOf (stl ra n c), by simp only [Prim.run, SE.den, List.cons_append, List.nil_append, List.getD_cons_succ, List.getD_cons_zero, frz_nil0], ?_⟩
          refine mk_ev (ev82 k hs0 hs1 hrb (pcOf_ok hra (n := n) (a := c) (by omega))) (by simp [Rg.cells, Pc.cells, pcOf]) ?_
          rintro v rfl
          simp only [run_prim]
          refine ⟨.bool (!anyB slip rb (pcOf ra n c)), by simp, ?_⟩
          simp only [run_ite, SE.den, List.cons_append, List.nil_append, List.getD_cons_succ, List.getD_cons_zero, pifv_bool]
          refine pif (fun h4 => ?_) (fun h4 => ?_) <;> simp only [Bool.not_eq_true', Bool.not_eq_false'] at h4
          · simp only [run_ret, atL_val]
            refine ⟨_, rfl, by simp, 0, n, c, by simp, .inl ⟨rfl, n, c, rfl, rfl, by omega, h2, h4, fun n' a' hh hle => ?_⟩⟩
            rcases hh with hh | ⟨rfl, hh⟩
            · exact hbn n' a' hh hle
            · exact hbc a' hh hle
          · simp [wrap64 (n := (c : Int) + 1) (by omega) (by omega)]
            refine ⟨j' - 1, by omega, c + 1, by simp, by omega, by omega, fun a' ha' hle => ?_⟩
            by_cases e : a' = c
            · subst e; exact h4
            · exact hbc a' (by omega) (by simpa using hle)
        · simp [atL]
          intro a' hle
          exact hbc a' (by omega) (by simpa using hle)
      rintro vs ⟨rfl, hall⟩
      simp [wrap64 (n := (n : Int) + 1) (by omega) (by omega)]
      refine ⟨j - 1, by omega, n + 1, by simp, by omega, fun n' a' hh hle => ?_⟩
      by_cases e : n' = n
      · subst e; exact hall a' (by simpa using hle)
      · exact hbn n' a' (by omega) (by simpa using hle)
    · simp [atL]
      intro n' a' hh hle
      exact hbn n' a' (by omega) (by simpa using hle)
  rintro vs ⟨rfl, hall⟩
  simp only [run_ret]
  exact ⟨_, rfl, by simp, 11, 0, 0, by simp, .inr ⟨rfl, rfl, rfl, hall⟩⟩
end Go.Proofs.Ytlminnpaeaganaa
namespace Go.Proofs.Ytlminnpaeaganaa
open Go Go.RowKit
set_option linter.unusedVariables false
set_option linter.unusedSimpArgs false
set_option maxRecDepth 100000

theorem un4s : Try.prog.underlying 4 = some .bool := by kernel_rfl
/-! ### Copies of rulings -/
def dupR (r : Rg) : Rg := ⟨.sl none 1 0 r.st.length (r.st.map iv), r.st, r.lines, r.width⟩
theorem dupR_ok {r : Rg} (h : r.ok) : (dupR r).ok := ⟨.inr ⟨0, rfl⟩, h.l1, h.l2, h.st, h.n1, h.n2, h.w1, h.w2⟩
theorem sit_dup {slip : Int} {r : Rg} {p : Pc} {i : Nat} : sitB slip (dupR r) p i = sitB slip r p i := rfl
theorem spt_dup {slip : Int} {r : Rg} {p : Pc} {t : Bool} : ∀ n, spt slip (dupR r) p t n = spt slip r p t n
  | 0 => rfl
  | n + 1 => by
    unfold spt
    rw [spt_dup n]
    rfl
theorem spots_dup {slip : Int} {r : Rg} {p : Pc} : spots slip (dupR r) p = spots slip r p := by
  unfold spots
  rw [spt_dup, spt_dup]
  rfl
theorem ev64 (k : Nat) {r : Rg} (h : r.ok) : Ev (k + 2) 64 [.agg r.cells] fun v => v = .agg (dupR r).cells := by
  refine ev_of (t := t64) rfl (fn := Try.f64) (by kernel_rfl) (by simp [fitArgs, flagsOf, Rg.cells, h.il.plain]) ?_
  have l2 := h.l2
  simp only [t64, tv, tp, tn, run_prim]
  refine ⟨.agg r.cells, by simp [Rg.cells], ?_⟩
  refine mk_ev (ev56 k h.il (by omega)) (by simp [Rg.cells]) ?_
  rintro v rfl
  have hpl := ints_plain r.st
  simp [Rg.cells, dupR, hpl]
theorem mk_rg {n : Nat} (hn : n < 1000000) : mkV [.snil, iv 0, iv 0] 40 (iv n) = some (.agg (rcells (List.replicate n default))) := by
  have e : ∀ n : Nat, repl [.snil, iv 0, iv 0] n = rcells (List.replicate n default) := by
    intro n
    induction n with
    | zero => rfl
    | succ n ih => rw [repl, ih, List.replicate_succ, rcells_cons]; rfl
  simp only [mkV, e, Int.toNat_natCast]
  rw [if_pos (by omega)]
theorem put_rg {l : List Rg} {i : Nat} {r : Rg} (hi : i < l.length) : putV 3 0 (.agg (rcells l)) (iv i) r.cells = some (.agg (rcells (l.set i r))) := by
  have e : splice (rcells l) (i * 3 + 0) r.cells = rcells (l.set i r) := by
    rw [List.set_eq_take_append_cons_drop, if_pos hi]
    have h1 : ∀ (l : List Rg) (i : Nat), (rcells l).take (i * 3) = rcells (l.take i) := by
      intro l
      induction l with
      | nil => intro i; simp
      | cons a l ih =>
        intro i
        cases i with
        | zero => simp
        | succ i =>
          rw [List.take_succ_cons, rcells_cons, rcells_cons, ← ih i, show (i + 1) * 3 = a.cells.length + i * 3 by simp [Rg.cells]; omega, List.take_length_add_append]
    have h2 : ∀ (l : List Rg) (i : Nat), (rcells l).drop (i * 3) = rcells (l.drop i) := by
      intro l
      induction l with
      | nil => intro i; simp
      | cons a l ih =>
        intro i
        cases i with
        | zero => simp
        | succ i =>
          rw [List.drop_succ_cons, rcells_cons, ← ih i, show (i + 1) * 3 = a.cells.length + i * 3 by simp [Rg.cells]; omega, List.drop_length_add_append]
    have h3 : i * 3 + 0 + r.cells.length = (i + 1) * 3 := by simp [Rg.cells]; omega
    simp only [splice]
    rw [h3, Nat.add_zero, h1, h2, rcells_append, rcells_cons, List.append_assoc]
  simp only [putV, Int.toNat_natCast]
  rw [if_pos (by simp [Rg.cells]; omega), e]
theorem ev22 (k : Nat) {slip : Int} {lp : PV} {l : List Rg} (h : Hand slip lp l) : Ev (k + 3) 22 [.agg [iv slip, lp]] fun v => v = .agg [iv slip, .sl none 3 0 l.length (rcells (l.map dupR))] := by
  refine ev_of (t := t22) rfl (fn := Try.f22) (by kernel_rfl) (by simp [fitArgs, flagsOf, h.plain]) ?_
  have l1 := h.l1
  simp only [t22, tv, tp, tn, run_prim]
  refine ⟨.agg [iv slip, lp], by simp, iv l.length, by simpa using h.rl.len, _, mk_rg (n := l.length) (by omega), ?_⟩
  refine mk_join (fun vs => vs = [.agg (rcells (l.map dupR))]) ?_ ?_
  · refine mk_loop (fun j vs => ∃ (i : Nat) (L : List Rg), vs = [iv i, .agg (rcells L)] ∧ i + j = l.length ∧ L.length = l.length ∧ ∀ k, k < i → L.getD k default = dupR (l.getD k default)) l.length (by omega) ⟨0, List.replicate l.length default, by simp, by omega, by simp, by simp⟩ ?_
    rintro j vs ⟨i, L, rfl, hi, hL, hk⟩
    simp only [run_prim]
    refine ⟨iv L.length, by simp, .bool (decide ((i : Int) < L.length)), by simp, ?_⟩
    simp only [run_ite, SE.den, List.cons_append, List.nil_append, List.getD_cons_succ, List.getD_cons_zero, pifv_bool]
    refine pif (fun h => ?_) (fun h => ?_) <;> simp only [decide_eq_true_eq, decide_eq_false_iff_not] at h
    · rename_i hh
      have hlt : i < l.length := by omega
      have hr := hh.get hlt
      have hrow := rowR hh.rl hlt
      generalize hR : l.getD i default = r at hr hrow
      simp only [run_prim]
      refine ⟨.agg r.cells, by simpa using hrow, ?_⟩
      refine mk_ev (ev64 k hr) (by simp [Rg.cells]) ?_
      rintro v rfl
      simp only [run_prim]
      refine ⟨iv i, by simp; omega, .agg (dupR r).cells, by simp [Rg.cells], .agg (rcells (L.set i (dupR r))), put_rg (by omega), ?_⟩
      simp [wrap64 (n := (i : Int) + 1) (by omega) (by omega)]
      refine ⟨j - 1, by omega, i + 1, L.set i (dupR r), by simp, by omega, by simpa using hL, fun k hk' => ?_⟩
      by_cases e : k = i
      · subst e
        have : k < L.length := by omega
        simp only [List.getD_eq_getElem?_getD] at hR ⊢
        rw [hR]
        simp [this]
      · have := hk k (by omega)
        simp only [List.getD_eq_getElem?_getD] at this ⊢
        rw [List.getElem?_set_ne (by omega)]
        exact this
    · have e : L = l.map dupR := List.ext_getElem (by simpa using hL) fun k h1 h2 => by
        have h3 : k < l.length := by simpa using h2
        have := hk k (by omega)
        simpa [List.getD_eq_getElem?_getD, h1, h3] using this
      simp [atL, e]
  rintro vs rfl
  have hpl : plainC (rcells (l.map dupR)) = true := rcells_plain fun r hr => by
    obtain ⟨r', hr', rfl⟩ := List.mem_map.1 hr
    exact dupR_ok (h.ok r' hr')
  simp only [run_prim]
  refine ⟨.sl none 3 0 l.length (rcells (l.map dupR)), by simp [frzV, isNil], ?_⟩
  simp [hpl]
theorem Hand.dup {slip s : Int} {lp : PV} {l : List Rg} (h : Hand slip lp l) (h0 : 0 ≤ s) (h1 : s ≤ 3) : Hand s (.sl none 3 0 l.length (rcells (l.map dupR))) (l.map dupR) :=
  ⟨h0, h1, .inr ⟨0, by simp⟩, by simpa using h.l0, by simpa using h.l1, fun r hr => by
    obtain ⟨r', hr', rfl⟩ := List.mem_map.1 hr
    exact dupR_ok (h.ok r' hr')⟩

/-! ### More slip -/
theorem sit_mono {s t : Int} (h : s ≤ t) {r : Rg} {p : Pc} {i : Nat} (hs : sitB s r p i = true) : sitB t r p i = true := by
  have n1 : ∀ {a b}, nr s a b = true → nr t a b = true := fun {a b} h' => by simp [nr] at h' ⊢; omega
  have f1 : ∀ {a b}, fa s a b = true → fa t a b = true := fun {a b} h' => by simp [fa] at h' ⊢; omega
  simp only [sitB, Bool.and_eq_true, decide_eq_true_eq, Bool.not_eq_true', Bool.or_eq_false_iff] at hs ⊢
  obtain ⟨h1, h2, ⟨h3, h4⟩, h5⟩ := hs
  refine ⟨h1, List.all_eq_true.2 fun k hk => n1 (List.all_eq_true.1 h2 k hk), ⟨?_, ?_⟩, ?_⟩
  · simp only [upB, Bool.and_eq_false_iff, Bool.not_eq_false'] at h3 ⊢
    exact h3.imp id f1
  · simp only [dnB, Bool.and_eq_false_iff, Bool.not_eq_false'] at h4 ⊢
    exact h4.imp id f1
  · simp only [wdB, Bool.or_eq_true] at h5 ⊢
    exact h5.imp id n1
theorem spots_mono {s t : Int} (h : s ≤ t) {r : Rg} {p : Pc} {y : Nat × Bool} (hy : y ∈ spots s r p) : y ∈ spots t r p := by
  rcases y with ⟨i, b⟩
  simp only [spots, List.mem_append] at hy ⊢
  rcases hy with hy | hy
  · rw [mem_spt] at hy
    exact .inl (mem_spt.2 ⟨hy.1, hy.2.1, sit_mono h hy.2.2⟩)
  · split at hy
    · rename_i hf
      rw [mem_spt] at hy
      rw [if_pos hf]
      exact .inr (mem_spt.2 ⟨hy.1, hy.2.1, sit_mono h hy.2.2⟩)
    · simp at hy
theorem any_mono {s t : Int} (h : s ≤ t) {r : Rg} {p : Pc} (ha : anyB s r p = true) : anyB t r p = true := by
  simp only [anyB, decide_eq_true_eq] at ha
  obtain ⟨y, hy⟩ := List.exists_mem_of_length_pos ha
  exact any_of (spots_mono h hy)

/-! ### Need -/
def Needs (r : Rg) (p : Pc) (e m : Int) : Prop :=
  (e = 0 ∧ ∃ n : Nat, m = n ∧ n ≤ 3 ∧ anyB n r p = true ∧ ∀ n' : Nat, n' < n → anyB n' r p = false) ∨
  (e = 11 ∧ m = 0 ∧ ∀ n' : Nat, n' ≤ 3 → anyB n' r p = false)
theorem ev53 (k : Nat) {slip : Int} {lp : PV} {l : List Rg} (h : Hand slip lp l) {n : Nat} (hn : n < l.length) {p : Pc} (hp : p.ok) : Ev (k + 5) 53 [.agg [iv slip, lp], iv n, .agg p.cells] fun v => ∃ e m, v = .tup [iv m, iv e] ∧ Needs (l.getD n default) p e m := by
  refine ev_of (t := t53) rfl (fn := Try.f53) (by kernel_rfl) (by simp [fitArgs, flagsOf, h.plain, Pc.cells, hp.il.plain]) ?_
  have hr := h.get hn
  have hrow := rowR h.rl hn
  generalize hR : l.getD n default = r at hr hrow
  simp only [t53, tv, tp, tn, run_prim]
  refine ⟨.agg [iv slip, lp], by simp, .agg p.cells, by simp [Pc.cells], iv n, by simp, ?_⟩
  refine mk_ev (ev67p k h (x := .sl none 1 0 1 [iv n]) (ns := [(n : Int)]) (.inr ⟨0, rfl⟩) (by simp; omega) (by simp) (ps := [p]) (by simpa using hp) (by simp)) (by simp [pcells, Pc.cells]) ?_
  rintro v rfl
  simp only [run_prim]
  refine ⟨.agg [iv slip, lp], by simp, iv 0, by simp, .agg [iv slip, lp], by simp, .bool false, by simp, ?_⟩
  simp only [run_ite, SE.den, List.cons_append, List.nil_append, List.getD_cons_succ, List.getD_cons_zero, pifv_bool, pif_false]
  refine mk_join (fun vs => vs = [] ∧ ∀ n' : Nat, n' ≤ 3 → anyB n' r p = false) ?_ ?_
  · refine mk_loop (fun j vs => ∃ s : Nat, vs = [iv s] ∧ s + j = 4 ∧ ∀ n' : Nat, n' < s → anyB n' r p = false) 4 (by omega) ⟨0, rfl, by omega, by simp⟩ ?_
    rintro j vs ⟨s, rfl, hs, hb⟩
    simp only [run_prim]
    refine ⟨.bool (decide ((s : Int) < 4)), by simp, ?_⟩
    simp only [run_ite, SE.den, List.cons_append, List.nil_append, List.getD_cons_succ, List.getD_cons_zero, pifv_bool]
    refine pif (fun h => ?_) (fun h => ?_) <;> simp only [decide_eq_true_eq, decide_eq_false_iff_not] at h
    · refine mk_ev (ev80 (k + 3) s) (by simp) ?_
      rintro v rfl
      simp only [run_prim]
      refine ⟨.agg r.cells, by simpa using hrow, ?_⟩
      refine mk_ev (ev82 k (slip := s) (by omega) (by omega) hr hp) (by simp [Rg.cells, Pc.cells]) ?_
      rintro v rfl
      simp only [run_ite, SE.den, List.cons_append, List.nil_append, List.getD_cons_succ, List.getD_cons_zero, pifv_bool]
      refine pif (fun h2 => ?_) (fun h2 => ?_)
      · simp only [run_ret, atL_val]
        exact ⟨_, rfl, by simp, 0, s, by simp, .inl ⟨rfl, s, rfl, by omega, h2, hb⟩⟩
      · simp [wrap64 (n := (s : Int) + 1) (by omega) (by omega)]
        refine ⟨j - 1, by omega, s + 1, by simp, by omega, fun n' hn' => ?_⟩
        by_cases e : n' = s
        · subst e; exact h2
        · exact hb n' (by omega)
    · simp [atL]
      intro n' hn'
      exact hb n' (by omega)
  rintro vs ⟨rfl, hall⟩
  simp only [run_ret]
  exact ⟨_, rfl, by simp, 11, 0, by simp, .inr ⟨rfl, rfl, hall⟩⟩
theorem need_any {r : Rg} {p : Pc} {e m : Int} (h : Needs r p e m) {s : Nat} (hs : s ≤ 3) : anyB s r p = (decide (e = 0) && decide (m ≤ s)) := by
  rcases h with ⟨rfl, n, rfl, hn, ha, hb⟩ | ⟨rfl, rfl, hb⟩
  · by_cases hle : n ≤ s
    · rw [any_mono (by omega) ha]
      simp; exact hle
    · rw [hb s (by omega)]
      simp; omega
  · rw [hb s hs]; simp

end Go.Proofs.Ytlminnpaeaganaa
namespace Go.Proofs.Ytlminnpaeaganaa
open Go Go.RowKit
set_option linter.unusedVariables false
set_option linter.unusedSimpArgs false
set_option maxRecDepth 100000

theorem ev41 (k : Nat) {p : Pc} (hp : p.ok) : Ev (k + 1) 41 [.agg p.cells] fun v => v = .agg [p.gp, iv p.up, iv p.dn, iv p.wd, .bool true] := by
  refine ev_of (t := t41) rfl (fn := Try.f41) (by kernel_rfl) (by simp [fitArgs, flagsOf, Pc.cells, hp.il.plain]) ?_
  simp [t41, tv, tp, tn, Pc.cells, hp.il.plain]
theorem ev42 (k : Nat) {p : Pc} (hp : p.ok) : Ev (k + 1) 42 [.agg p.cells] fun v => v = .agg [ilOf p.g.reverse, iv p.dn, iv p.up, iv p.wd, .bool p.fr] := by
  refine ev_of (t := t42) rfl (fn := Try.f42) (by kernel_rfl) (by simp [fitArgs, flagsOf, Pc.cells, hp.il.plain]) ?_
  have g5 := hp.gl
  have hlen := hp.il.len
  have hrow := fun (i : Nat) (hi : i < p.g.length) => rowI hp.il hi
  simp only [t42, tv, tp, tn, run_prim]
  refine ⟨.agg p.cells, by simp [Pc.cells], iv p.g.length, by simpa [Pc.cells] using hlen, ?_⟩
  refine mk_join (fun vs => vs = [.agg (p.g.reverse.map iv)]) ?_ ?_
  · refine mk_loop (fun j vs => vs = [iv j, .agg ((p.g.drop j).reverse.map iv)] ∧ j ≤ p.g.length) p.g.length (by omega) ⟨by simp, Nat.le_refl _⟩ ?_
    rintro j vs ⟨rfl, hj⟩
    simp only [run_prim]
    refine ⟨.bool (decide (0 < j)), by simp, ?_⟩
    simp only [run_ite, SE.den, List.cons_append, List.nil_append, List.getD_cons_succ, List.getD_cons_zero, pifv_bool]
    refine pif (fun h => ?_) (fun h => ?_) <;> simp only [decide_eq_true_eq, decide_eq_false_iff_not] at h
    · obtain ⟨i, rfl⟩ : ∃ i, j = i + 1 := ⟨j - 1, by omega⟩
      have hlt : i < p.g.length := by omega
      have e : (p.g.drop i).reverse = (p.g.drop (i + 1)).reverse ++ [p.g.getD i 0] := by
        rw [List.drop_eq_getElem_cons hlt]
        simp [List.getD_eq_getElem?_getD, hlt]
      simp only [run_prim]
      refine ⟨iv i, by simp [wrap64 (n := (i : Int)) (by omega) (by omega)], .agg [iv (p.g.getD i 0)], by simpa [Pc.cells] using hrow i hlt, .agg ((p.g.drop i).reverse.map iv), ?_, iv i, by simp [wrap64 (n := (i : Int)) (by omega) (by omega)], ?_⟩
      · rw [e]
        exact push_int (by decide) (by simp; omega)
      · simp only [run_jump, atL_same]
        exact ⟨i, by omega, by simp, by omega⟩
    · have : j = 0 := by omega
      subst this
      simp [atL]
  rintro vs rfl
  have hpl := il_of p.g.reverse
  simp only [run_prim]
  refine ⟨ilOf p.g.reverse, by simp only [Prim.run, SE.den, List.cons_append, List.nil_append, List.getD_cons_succ, List.getD_cons_zero, frz_nil0], ?_⟩
  simp [Pc.cells, hpl.plain]

end Go.Proofs.Ytlminnpaeaganaa
