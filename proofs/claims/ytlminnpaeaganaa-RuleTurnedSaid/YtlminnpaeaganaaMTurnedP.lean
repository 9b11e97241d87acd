/- Turned: the law is proved. No condition. -/
import Derived.Test.YtlminnpaeaganaaMPlainB
namespace Go.Proofs.Ytlminnpaeaganaa
open Go Go.RowKit
set_option linter.unusedVariables false
set_option linter.unusedSimpArgs false
set_option maxRecDepth 100000

theorem ev41 (k : Nat) {p : Pc} (hp : p.ok) : Ev (k + 1) 41 [.agg p.cells] fun v => v = .agg [p.gp, iv p.up, iv p.dn, iv p.wd, .bool true] := by
  refine ev_of (t := t41) rfl (fn := Try.f41) (by kernel_rfl) (by simp [fitArgs, flagsOf, Pc.cells, hp.il.plain]) ?_
  simp [t41, tv, tp, tn, Pc.cells, hp.il.plain]
theorem ev42 (k : Nat) {p : Pc} (hp : p.ok) : Ev (k + 1) 42 [.agg p.cells] fun v => v = .agg [ilOf p.g.reverse, iv p.dn, iv p.up, iv p.wd, .bool p.fr] := by
  refine ev_of (t := t42) rfl (fn := Try.f42) (by kernel_rfl) (by simp [fitArgs, flagsOf, Pc.cells, hp.il.plain]) ?_
  have g5 := hp.gl
  have hlen := hp.il.len
  have hrow := fun (i : Nat) (hi : i < p.g.length) => rowI hp.il hi
  simp only [t42, tv, tp, tn, run_prim]
  refine ⟨.agg p.cells, by simp [Pc.cells], iv p.g.length, by simpa [Pc.cells] using hlen, ?_⟩
  refine mk_join (fun vs => vs = [.agg (p.g.reverse.map iv)]) ?_ ?_
  · refine mk_loop (fun j vs => vs = [iv j, .agg ((p.g.drop j).reverse.map iv)] ∧ j ≤ p.g.length) p.g.length (by omega) ⟨by simp, Nat.le_refl _⟩ ?_
    rintro j vs ⟨rfl, hj⟩
    simp only [run_prim]
    refine ⟨.bool (decide (0 < j)), by simp, ?_⟩
    simp only [run_ite, SE.den, List.cons_append, List.nil_append, List.getD_cons_succ, List.getD_cons_zero, pifv_bool]
    refine pif (fun h => ?_) (fun h => ?_) <;> simp only [decide_eq_true_eq, decide_eq_false_iff_not] at h
    · obtain ⟨i, rfl⟩ : ∃ i, j = i + 1 := ⟨j - 1, by omega⟩
      have hlt : i < p.g.length := by omega
      have e : (p.g.drop i).reverse = (p.g.drop (i + 1)).reverse ++ [p.g.getD i 0] := by
        rw [List.drop_eq_getElem_cons hlt]
        simp [List.getD_eq_getElem?_getD, hlt]
      simp only [run_prim]
      refine ⟨iv i, by simp [wrap64 (n := (i : Int)) (by omega) (by omega)], .agg [iv (p.g.getD i 0)], by simpa [Pc.cells] using hrow i hlt, .agg ((p.g.drop i).reverse.map iv), ?_, iv i, by simp [wrap64 (n := (i : Int)) (by omega) (by omega)], ?_⟩
      · rw [e]
        exact push_int (by decide) (by simp; omega)
      · simp only [run_jump, atL_same]
        exact ⟨i, by omega, by simp, by omega⟩
    · have : j = 0 := by omega
      subst this
      simp [atL]
  rintro vs rfl
  have hpl := il_of p.g.reverse
  simp only [run_prim]
  refine ⟨ilOf p.g.reverse, by simp only [Prim.run, SE.den, List.cons_append, List.nil_append, List.getD_cons_succ, List.getD_cons_zero, frz_nil0], ?_⟩
  simp [Pc.cells, hpl.plain]

theorem sit_cut {slip : Int} (h0 : 0 ≤ slip) {r : Rg} (hr : r.ok) {a b : Nat} (hab : a ≤ b) (hbl : (b : Int) ≤ r.lines - 1) {c q : Pc} (hc : Cut r a b c) (hm : Mea slip c q) : sitB slip r q a = true := by
  have hl : q.g.length = b - a := by rw [hm.len, hc.len]
  have hab' : a + q.g.length = b := by omega
  have hu := hm.up
  have hd := hm.dn
  simp only [sitB, Bool.and_eq_true, decide_eq_true_eq, Bool.not_eq_true', Bool.or_eq_false_iff]
  refine ⟨by omega, ?_, ⟨?_, ?_⟩, ?_⟩
  · refine List.all_eq_true.2 fun k hk => ?_
    have hk' : k < b - a := by rw [← hl]; simpa using hk
    have := hm.gs k (by rw [hc.len]; exact hk')
    rw [hc.gs k hk'] at this
    exact this
  · by_cases h : 0 < a
    · have := hc.up h
      have : fa slip q.up (stp r (a - 1)) = true := by simp [fa]; omega
      simp [upB, this]
    · simp [upB, h]
  · simp only [dnB, hab']
    by_cases h : (b : Int) < r.lines - 1
    · have := hc.dn h
      have : fa slip q.dn (stp r b) = true := by simp [fa]; omega
      simp [this]
    · simp [h]
  · rcases hm.wd with ⟨_, h⟩ | ⟨h1, h2⟩
    · simp [wdB, h]
    · rcases hc.wd with h | h
      · omega
      · rw [h] at h2
        simp [wdB, h2]

theorem ev5 {q : PV} (hq1 : intsB q = true) (hq2 : q.plain = true) : Ev 20 5 [q] fun v => v = .bool true := by
  refine ev_of (t := t5) rfl (fn := Try.f5) (by kernel_rfl) (by simp [fitArgs, flagsOf, hq2]) ?_
  simp only [t5, tv, tp, tn, run_prim]
  refine ⟨q, by simp [intsV, hq1], ?_⟩
  refine mk_call (ev38 14 2 (by omega) (by omega)) ?_
  rintro v ⟨slip, lp, l, rfl, s0, s3, hrl, hl1, hl2, hok⟩
  have hH : Hand slip lp l := ⟨s0, s3, hrl, hl1, by omega, hok⟩
  simp only [run_prim]
  refine ⟨.agg [iv slip, lp], by simp, iv l.length, by simpa using hrl.len, iv ((l.length : Int) - 1), by simp [wrap64 (n := (l.length : Int) - 1) (by omega) (by omega)], ?_⟩
  refine mk_call (ev21 17 ((l.length : Int) - 1) (by omega) (by omega)) ?_
  rintro v ⟨n, rfl, hn0, hn1⟩
  obtain ⟨n, rfl⟩ := Int.eq_ofNat_of_zero_le hn0
  have hn : n < l.length := by omega
  have hr := hH.get hn
  have hrow := rowR hrl hn
  have h31 := fun (p : Pc) (hp : p.ok) => ev31 14 hH hn hp
  generalize hR : l.getD n default = r at hr hrow h31
  have n1 := hr.n1
  have n2 := hr.n2
  simp only [run_prim]
  refine ⟨.agg r.cells, by simpa using hrow, iv (r.lines - 1), by simp [Rg.cells, wrap64 (n := r.lines - 1) (by omega) (by omega)], ?_⟩
  refine mk_call (ev21 17 (r.lines - 1) (by omega) (by omega)) ?_
  rintro v ⟨a, rfl, ha0, ha1⟩
  obtain ⟨a, rfl⟩ := Int.eq_ofNat_of_zero_le ha0
  simp only [run_prim]
  refine ⟨.agg r.cells, by simpa using hrow, .agg r.cells, by simpa using hrow, iv (r.lines - 1), by simp [Rg.cells, wrap64 (n := r.lines - 1) (by omega) (by omega)], ?_⟩
  refine mk_call (ev21 17 5 (by omega) (by omega)) ?_
  rintro v ⟨y, rfl, hy0, hy1⟩
  obtain ⟨b, hb⟩ : ∃ b : Nat, (b : Int) = if (a : Int) + y < r.lines - 1 then (a : Int) + y else r.lines - 1 := ⟨(if (a : Int) + y < r.lines - 1 then (a : Int) + y else r.lines - 1).toNat, by split <;> omega⟩
  have hb1 : a ≤ b ∧ b ≤ a + 5 ∧ (b : Int) ≤ r.lines - 1 := by split at hb <;> omega
  simp only [run_prim]
  refine ⟨iv ((a : Int) + y), by simp [wrap64 (n := (a : Int) + y) (by omega) (by omega)], iv b, by simp [aMin, hb], ?_⟩
  refine mk_ev (ev40 15 hr hb1.1 hb1.2.1 hb1.2.2) (by simp [Rg.cells]) ?_
  rintro v ⟨c, rfl, hc⟩
  refine mk_ev (ev39 14 hH.s0 hH.s1 hc.ok) (by simp) ?_
  rintro v ⟨p, rfl, hp, hgp, hm⟩
  have hsit := sit_cut s0 hr hb1.1 hb1.2.2 hc hm
  have haN : a < r.lines.toNat := by omega
  simp only [run_prim]
  refine ⟨.agg p.cells, by simp [Pc.cells], ?_⟩
  refine mk_ev (h31 p hp) (by simp [Pc.cells]) ?_
  rintro v ⟨xa, rfl, hxa⟩
  simp only [run_prim]
  refine ⟨xa, by simp, iv 0, by simp, ?_⟩
  refine mk_ev (ev42 18 hp) (by simp [Pc.cells]) ?_
  rintro v rfl
  have hp2 : (Pc.mk (ilOf p.g.reverse) p.g.reverse p.dn p.up p.wd p.fr).ok := ⟨il_of _, by simpa using hp.gl, fun x hx => hp.gs x (by simpa using hx), hp.d0, hp.d1, hp.u0, hp.u1, hp.w0, hp.w1⟩
  have hp3 : (Pc.mk (ilOf p.g.reverse) p.g.reverse p.dn p.up p.wd true).ok := ⟨il_of _, by simpa using hp.gl, fun x hx => hp.gs x (by simpa using hx), hp.d0, hp.d1, hp.u0, hp.u1, hp.w0, hp.w1⟩
  refine mk_ev (ev41 18 hp2) (by simp [Pc.cells]) ?_
  rintro v rfl
  refine mk_ev (h31 _ hp3) (by simp [Pc.cells]) ?_
  rintro v ⟨xb, rfl, hxb⟩
  simp only [run_prim]
  refine ⟨xb, by simp, iv 0, by simp, ?_⟩
  have hla := spots_len slip hr p
  have hlb := spots_len slip hr ⟨ilOf p.g.reverse, p.g.reverse, p.dn, p.up, p.wd, true⟩
  have k1 : (a, false) ∈ spots slip r p := by
    simp only [spots, List.mem_append]
    exact .inl (mem_spt.2 ⟨rfl, haN, hsit⟩)
  have k2 : (a, true) ∈ spots slip r ⟨ilOf p.g.reverse, p.g.reverse, p.dn, p.up, p.wd, true⟩ := by
    simp only [spots, List.mem_append, if_true]
    refine .inr (mem_spt.2 ⟨rfl, haN, ?_⟩)
    rw [← hsit]
    exact sit_congr (by simp [half]) rfl rfl rfl
  refine mk_join (fun vs => vs = [.bool true]) ?_ ?_
  · simp only [run_prim]
    refine ⟨.bool true, by simp, ?_⟩
    simp only [run_ite, SE.den, List.cons_append, List.nil_append, List.getD_cons_succ, List.getD_cons_zero, pifv_bool, pif_true, run_prim]
    refine ⟨.bool true, by simp, ?_⟩
    simp only [run_ite, SE.den, List.cons_append, List.nil_append, List.getD_cons_succ, List.getD_cons_zero, pifv_bool, pif_true, run_prim]
    refine ⟨iv a, by simp, ?_⟩
    refine mk_ev (ev43 18 hxa (by omega) a false) (by simp) ?_
    rintro v rfl
    simp only [run_ite, SE.den, List.cons_append, List.nil_append, List.getD_cons_succ, List.getD_cons_zero, pifv_bool, k1, decide_true, pif_true, run_prim]
    refine ⟨iv a, by simp, ?_⟩
    refine mk_ev (ev43 18 hxb (by omega) a true) (by simp) ?_
    rintro v rfl
    simp only [run_ite, SE.den, List.cons_append, List.nil_append, List.getD_cons_succ, List.getD_cons_zero, pifv_bool, k2, decide_true, pif_true]
    refine mk_call (Q := fun v => v = .bool true) (fun ω => ⟨_, lined19 ω, rfl⟩) ?_
    rintro v rfl
    simp
  rintro vs rfl
  simp
theorem law5 : ∀ qs, ShL Try.prog 6 Try.f5.params.toList qs → ∀ ω, E Try.prog 20 ω 5 qs = some (.bool true) := by
  intro qs h ω
  rw [show Try.f5.params.toList = [25] by kernel_rfl] at h
  match qs, h with
  | [q], h =>
    obtain ⟨h1, h2, _⟩ := nums_shape h.1
    obtain ⟨v, hv, rfl⟩ := ev5 h1 h2 ω
    exact hv
end Go.Proofs.Ytlminnpaeaganaa
