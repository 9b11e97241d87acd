/- Lost: the law is proved. No condition. -/
import Derived.Test.YtlminnpaeaganaaMPlainB
namespace Go.Proofs.Ytlminnpaeaganaa
open Go Go.RowKit
set_option linter.unusedVariables false
set_option linter.unusedSimpArgs false
set_option maxRecDepth 100000

theorem ev41 (k : Nat) {p : Pc} (hp : p.ok) : Ev (k + 1) 41 [.agg p.cells] fun v => v = .agg [p.gp, iv p.up, iv p.dn, iv p.wd, .bool true] := by
  refine ev_of (t := t41) rfl (fn := Try.f41) (by kernel_rfl) (by simp [fitArgs, flagsOf, Pc.cells, hp.il.plain]) ?_
  simp [t41, tv, tp, tn, Pc.cells, hp.il.plain]
theorem ev42 (k : Nat) {p : Pc} (hp : p.ok) : Ev (k + 1) 42 [.agg p.cells] fun v => v = .agg [ilOf p.g.reverse, iv p.dn, iv p.up, iv p.wd, .bool p.fr] := by
  refine ev_of (t := t42) rfl (fn := Try.f42) (by kernel_rfl) (by simp [fitArgs, flagsOf, Pc.cells, hp.il.plain]) ?_
  have g5 := hp.gl
  have hlen := hp.il.len
  have hrow := fun (i : Nat) (hi : i < p.g.length) => rowI hp.il hi
  simp only [t42, tv, tp, tn, run_prim]
  refine ⟨.agg p.cells, by simp [Pc.cells], iv p.g.length, by simpa [Pc.cells] using hlen, ?_⟩
  refine mk_join (fun vs => vs = [.agg (p.g.reverse.map iv)]) ?_ ?_
  · refine mk_loop (fun j vs => vs = [iv j, .agg ((p.g.drop j).reverse.map iv)] ∧ j ≤ p.g.length) p.g.length (by omega) ⟨by simp, Nat.le_refl _⟩ ?_
    rintro j vs ⟨rfl, hj⟩
    simp only [run_prim]
    refine ⟨.bool (decide (0 < j)), by simp, ?_⟩
    simp only [run_ite, SE.den, List.cons_append, List.nil_append, List.getD_cons_succ, List.getD_cons_zero, pifv_bool]
    refine pif (fun h => ?_) (fun h => ?_) <;> simp only [decide_eq_true_eq, decide_eq_false_iff_not] at h
    · obtain ⟨i, rfl⟩ : ∃ i, j = i + 1 := ⟨j - 1, by omega⟩
      have hlt : i < p.g.length := by omega
      have e : (p.g.drop i).reverse = (p.g.drop (i + 1)).reverse ++ [p.g.getD i 0] := by
        rw [List.drop_eq_getElem_cons hlt]
        simp [List.getD_eq_getElem?_getD, hlt]
      simp only [run_prim]
      refine ⟨iv i, by simp [wrap64 (n := (i : Int)) (by omega) (by omega)], .agg [iv (p.g.getD i 0)], by simpa [Pc.cells] using hrow i hlt, .agg ((p.g.drop i).reverse.map iv), ?_, iv i, by simp [wrap64 (n := (i : Int)) (by omega) (by omega)], ?_⟩
      · rw [e]
        exact push_int (by decide) (by simp; omega)
      · simp only [run_jump, atL_same]
        exact ⟨i, by omega, by simp, by omega⟩
    · have : j = 0 := by omega
      subst this
      simp [atL]
  rintro vs rfl
  have hpl := il_of p.g.reverse
  simp only [run_prim]
  refine ⟨ilOf p.g.reverse, by simp only [Prim.run, SE.den, List.cons_append, List.nil_append, List.getD_cons_succ, List.getD_cons_zero, frz_nil0], ?_⟩
  simp [Pc.cells, hpl.plain]

theorem sit_cut {slip : Int} (h0 : 0 ≤ slip) {r : Rg} (hr : r.ok) {a b : Nat} (hab : a ≤ b) (hbl : (b : Int) ≤ r.lines - 1) {c q : Pc} (hc : Cut r a b c) (hm : Mea slip c q) : sitB slip r q a = true := by
  have hl : q.g.length = b - a := by rw [hm.len, hc.len]
  have hab' : a + q.g.length = b := by omega
  have hu := hm.up
  have hd := hm.dn
  simp only [sitB, Bool.and_eq_true, decide_eq_true_eq, Bool.not_eq_true', Bool.or_eq_false_iff]
  refine ⟨by omega, ?_, ⟨?_, ?_⟩, ?_⟩
  · refine List.all_eq_true.2 fun k hk => ?_
    have hk' : k < b - a := by rw [← hl]; simpa using hk
    have := hm.gs k (by rw [hc.len]; exact hk')
    rw [hc.gs k hk'] at this
    exact this
  · by_cases h : 0 < a
    · have := hc.up h
      have : fa slip q.up (stp r (a - 1)) = true := by simp [fa]; omega
      simp [upB, this]
    · simp [upB, h]
  · simp only [dnB, hab']
    by_cases h : (b : Int) < r.lines - 1
    · have := hc.dn h
      have : fa slip q.dn (stp r b) = true := by simp [fa]; omega
      simp [this]
    · simp [h]
  · rcases hm.wd with ⟨_, h⟩ | ⟨h1, h2⟩
    · simp [wdB, h]
    · rcases hc.wd with h | h
      · omega
      · rw [h] at h2
        simp [wdB, h2]

theorem ev5 {q : PV} (hq1 : intsB q = true) (hq2 : q.plain = true) : Ev 20 5 [q] fun v => v = .bool true := by
  refine ev_of (t := t5) rfl (fn := Try.f5) (by kernel_rfl) (by simp [fitArgs, flagsOf, hq2]) ?_
  simp only [t5, tv, tp, tn, run_prim]
  refine ⟨q, by simp [intsV, hq1], ?_⟩
  refine mk_call (ev38 14 2 (by omega) (by omega)) ?_
  rintro v ⟨slip, lp, l, rfl, s0, s3, hrl, hl1, hl2, hok⟩
  have hH : Hand slip lp l := ⟨s0, s3, hrl, hl1, by omega, hok⟩
  simp only [run_prim]
  refine ⟨.agg [iv slip, lp], by simp, iv l.length, by simpa using hrl.len, iv ((l.length : Int) - 1), by simp [wrap64 (n := (l.length : Int) - 1) (by omega) (by omega)], ?_⟩
  refine mk_call (ev21 17 ((l.length : Int) - 1) (by omega) (by omega)) ?_
  rintro v ⟨n, rfl, hn0, hn1⟩
  obtain ⟨n, rfl⟩ := Int.eq_ofNat_of_zero_le hn0
  have hn : n < l.length := by omega
  have hr := hH.get hn
  have hrow := rowR hrl hn
  have h31 := fun (p : Pc) (hp : p.ok) => ev31 14 hH hn hp
  generalize hR : l.getD n default = r at hr hrow h31
  have n1 := hr.n1
  have n2 := hr.n2
  simp only [run_prim]
  refine ⟨.agg r.cells, by simpa using hrow, iv (r.lines - 1), by simp [Rg.cells, wrap64 (n := r.lines - 1) (by omega) (by omega)], ?_⟩
  refine mk_call (ev21 17 (r.lines - 1) (by omega) (by omega)) ?_
  rintro v ⟨a, rfl, ha0, ha1⟩
  obtain ⟨a, rfl⟩ := Int.eq_ofNat_of_zero_le ha0
  simp only [run_prim]
  refine ⟨.agg r.cells, by simpa using hrow, .agg r.cells, by simpa using hrow, iv (r.lines - 1), by simp [Rg.cells, wrap64 (n := r.lines - 1) (by omega) (by omega)], ?_⟩
  refine mk_call (ev21 17 5 (by omega) (by omega)) ?_
  rintro v ⟨y, rfl, hy0, hy1⟩
  obtain ⟨b, hb⟩ : ∃ b : Nat, (b : Int) = if (a : Int) + y < r.lines - 1 then (a : Int) + y else r.lines - 1 := ⟨(if (a : Int) + y < r.lines - 1 then (a : Int) + y else r.lines - 1).toNat, by split <;> omega⟩
  have hb1 : a ≤ b ∧ b ≤ a + 5 ∧ (b : Int) ≤ r.lines - 1 := by split at hb <;> omega
  simp only [run_prim]
  refine ⟨iv ((a : Int) + y), by simp [wrap64 (n := (a : Int) + y) (by omega) (by omega)], iv b, by simp [aMin, hb], ?_⟩
  refine mk_ev (ev40 15 hr hb1.1 hb1.2.1 hb1.2.2) (by simp [Rg.cells]) ?_
  rintro v ⟨c, rfl, hc⟩
  refine mk_ev (ev39 14 hH.s0 hH.s1 hc.ok) (by simp) ?_
  rintro v ⟨p, rfl, hp, hgp, hm⟩
  have hsit := sit_cut s0 hr hb1.1 hb1.2.2 hc hm
  have haN : a < r.lines.toNat := by omega
  simp only [run_prim]
  refine ⟨.agg p.cells, by simp [Pc.cells], ?_⟩
  refine mk_ev (h31 p hp) (by simp [Pc.cells]) ?_
  rintro v ⟨xa, rfl, hxa⟩
  simp only [run_prim]
  refine ⟨xa, by simp, iv 0, by simp, ?_⟩
  refine mk_ev (ev42 18 hp) (by simp [Pc.cells]) ?_
  rintro v rfl
  have hp2 : (Pc.mk (ilOf p.g.reverse) p.g.reverse p.dn p.up p.wd p.fr).ok := ⟨il_of _, by simpa using hp.gl, fun x hx => hp.gs x (by simpa using hx), hp.d0, hp.d1, hp.u0, hp.u1, hp.w0, hp.w1⟩
  have hp3 : (Pc.mk (ilOf p.g.reverse) p.g.reverse p.dn p.up p.wd true).ok := ⟨il_of _, by simpa using hp.gl, fun x hx => hp.gs x (by simpa using hx), hp.d0, hp.d1, hp.u0, hp.u1, hp.w0, hp.w1⟩
  refine mk_ev (ev41 18 hp2) (by simp [Pc.cells]) ?_
  rintro v rfl
  refine mk_ev (h31 _ hp3) (by simp [Pc.cells]) ?_
  rintro v ⟨xb, rfl, hxb⟩
  simp only [run_prim]
  refine ⟨xb, by simp, iv 0, by simp, ?_⟩
  have hla := spots_len slip hr p
  have hlb := spots_len slip hr ⟨ilOf p.g.reverse, p.g.reverse, p.dn, p.up, p.wd, true⟩
  have k1 : (a, false) ∈ spots slip r p := by
    simp only [spots, List.mem_append]
    exact .inl (mem_spt.2 ⟨rfl, haN, hsit⟩)
  have k2 : (a, true) ∈ spots slip r ⟨ilOf p.g.reverse, p.g.reverse, p.dn, p.up, p.wd, true⟩ := by
    simp only [spots, List.mem_append, if_true]
    refine .inr (mem_spt.2 ⟨rfl, haN, ?_⟩)
    rw [← hsit]
    exact sit_congr (by simp [half]) rfl rfl rfl
  refine mk_join (fun vs => vs = [.bool true]) ?_ ?_
  · simp only [run_prim]
    refine ⟨.bool true, by simp, ?_⟩
    simp only [run_ite, SE.den, List.cons_append, List.nil_append, List.getD_cons_succ, List.getD_cons_zero, pifv_bool, pif_true, run_prim]
    refine ⟨.bool true, by simp, ?_⟩
    simp only [run_ite, SE.den, List.cons_append, List.nil_append, List.getD_cons_succ, List.getD_cons_zero, pifv_bool, pif_true, run_prim]
    refine ⟨iv a, by simp, ?_⟩
    refine mk_ev (ev43 18 hxa (by omega) a false) (by simp) ?_
    rintro v rfl
    simp only [run_ite, SE.den, List.cons_append, List.nil_append, List.getD_cons_succ, List.getD_cons_zero, pifv_bool, k1, decide_true, pif_true, run_prim]
    refine ⟨iv a, by simp, ?_⟩
    refine mk_ev (ev43 18 hxb (by omega) a true) (by simp) ?_
    rintro v rfl
    simp only [run_ite, SE.den, List.cons_append, List.nil_append, List.getD_cons_succ, List.getD_cons_zero, pifv_bool, k2, decide_true, pif_true]
    refine mk_call (Q := fun v => v = .bool true) (fun ω => ⟨_, lined19 ω, rfl⟩) ?_
    rintro v rfl
    simp
  rintro vs rfl
  simp
theorem law5 : ∀ qs, ShL Try.prog 6 Try.f5.params.toList qs → ∀ ω, E Try.prog 20 ω 5 qs = some (.bool true) := by
  intro qs h ω
  rw [show Try.f5.params.toList = [25] by kernel_rfl] at h
  match qs, h with
  | [q], h =>
    obtain ⟨h1, h2, _⟩ := nums_shape h.1
    obtain ⟨v, hv, rfl⟩ := ev5 h1 h2 ω
    exact hv
end Go.Proofs.Ytlminnpaeaganaa
namespace Go.Proofs.Ytlminnpaeaganaa
open Go Go.RowKit
set_option linter.unusedVariables false
set_option linter.unusedSimpArgs false
set_option maxRecDepth 100000

theorem gmem0 {l : List Int} {i : Nat} (h : i < l.length) : l.getD i 0 ∈ l := by simp [List.getD_eq_getElem?_getD, h]
/-! ### How far a piece reaches as it lies -/
def above (p : Pc) (t : Bool) : Int := if t then p.dn else p.up
def below (p : Pc) (t : Bool) : Int := if t then p.up else p.dn
theorem ev88 (k : Nat) {p : Pc} (hp : p.ok) (i : Int) (t : Bool) : Ev (k + 1) 88 [.agg p.cells, .agg [iv i, .bool t]] fun v => v = .tup [iv (above p t), iv (below p t)] := by
  refine ev_of (t := t88) rfl (fn := Try.f88) (by kernel_rfl) (by simp [fitArgs, flagsOf, Pc.cells, hp.il.plain]) ?_
  cases t <;> simp [t88, tv, tp, tn, Pc.cells, above, below]
theorem ev47 (k : Nat) {p : Pc} (hp : p.ok) (i : Int) (t : Bool) : Ev (k + 1) 47 [.agg p.cells, .agg [iv i, .bool t]] fun v => v = .tup [iv (above p t), iv (below p t)] := by
  refine ev_of (t := t47) rfl (fn := Try.f47) (by kernel_rfl) (by simp [fitArgs, flagsOf, Pc.cells, hp.il.plain]) ?_
  cases t <;> simp [t47, tv, tp, tn, Pc.cells, above, below]

/-! ### Least and greatest -/
theorem ev89 (k : Nat) {x : PV} {l : List Int} (hx : IL x l) (h0 : 0 < l.length) (h1 : l.length < 4000) : Ev (k + 1) 89 [x] fun v => ∃ m, v = iv m ∧ m ∈ l ∧ ∀ y ∈ l, m ≤ y := by
  refine ev_of (t := t89) rfl (fn := Try.f89) (by kernel_rfl) (by simp [fitArgs, flagsOf, hx.plain]) ?_
  simp only [t89, tv, tp, tn, run_prim]
  refine ⟨iv l.length, by simpa using hx.len, .bool false, by simp; omega, ?_⟩
  refine mk_join (fun vs => vs = []) ?_ ?_
  · simp
  rintro vs rfl
  simp only [run_prim]
  refine ⟨.agg [iv (l.getD 0 0)], by simpa using rowI hx h0, ?_⟩
  refine mk_join (fun vs => ∃ m, vs = [iv m] ∧ m ∈ l ∧ ∀ y ∈ l, m ≤ y) ?_ ?_
  · refine mk_loop (fun j vs => ∃ (m : Int) (i : Nat), vs = [iv m, iv i] ∧ i + j = l.length ∧ m ∈ l ∧ ∀ k, k < i → m ≤ l.getD k 0) (l.length - 1) (by omega) ⟨l.getD 0 0, 1, by simp, by omega, gmem0 h0, fun k hk => by rw [show k = 0 by omega]; exact Int.le_refl _⟩ ?_
    rintro j vs ⟨m, i, rfl, hi, hm, hb⟩
    simp only [run_prim]
    refine ⟨iv l.length, by simpa using hx.len, .bool (decide ((i : Int) < l.length)), by simp, ?_⟩
    simp only [run_ite, SE.den, List.cons_append, List.nil_append, List.getD_cons_succ, List.getD_cons_zero, pifv_bool]
    refine pif (fun h => ?_) (fun h => ?_) <;> simp only [decide_eq_true_eq, decide_eq_false_iff_not] at h
    · have hlt : i < l.length := by omega
      simp only [run_prim]
      refine ⟨.agg [iv (l.getD i 0)], by simpa using rowI hx hlt, iv (if l.getD i 0 < m then l.getD i 0 else m), by simp [aMin], iv ((i + 1 : Nat) : Int), by simp [wrap64 (n := (i : Int) + 1) (by omega) (by omega)], ?_⟩
      simp only [run_jump, atL_same]
      refine ⟨j - 1, by omega, if l.getD i 0 < m then l.getD i 0 else m, i + 1, by simp, by omega, ?_, fun k hk => ?_⟩
      · split
        · exact gmem0 hlt
        · exact hm
      · by_cases e : k = i
        · subst e; split <;> omega
        · have := hb k (by omega)
          split <;> omega
    · simp only [run_jump, atL]
      simp
      refine ⟨hm, fun y hy => ?_⟩
      obtain ⟨n, hn, rfl⟩ := List.getElem_of_mem hy
      have := hb n (by omega)
      simpa [List.getD_eq_getElem?_getD, hn] using this
  rintro vs ⟨m, rfl, hm, hb⟩
  simp
  exact ⟨hm, hb⟩
theorem ev90 (k : Nat) {x : PV} {l : List Int} (hx : IL x l) (h0 : 0 < l.length) (h1 : l.length < 4000) : Ev (k + 1) 90 [x] fun v => ∃ m, v = iv m ∧ m ∈ l ∧ ∀ y ∈ l, y ≤ m := by
  refine ev_of (t := t90) rfl (fn := Try.f90) (by kernel_rfl) (by simp [fitArgs, flagsOf, hx.plain]) ?_
  simp only [t90, tv, tp, tn, run_prim]
  refine ⟨iv l.length, by simpa using hx.len, .bool false, by simp; omega, ?_⟩
  refine mk_join (fun vs => vs = []) ?_ ?_
  · simp
  rintro vs rfl
  simp only [run_prim]
  refine ⟨.agg [iv (l.getD 0 0)], by simpa using rowI hx h0, ?_⟩
  refine mk_join (fun vs => ∃ m, vs = [iv m] ∧ m ∈ l ∧ ∀ y ∈ l, y ≤ m) ?_ ?_
  · refine mk_loop (fun j vs => ∃ (m : Int) (i : Nat), vs = [iv m, iv i] ∧ i + j = l.length ∧ m ∈ l ∧ ∀ k, k < i → l.getD k 0 ≤ m) (l.length - 1) (by omega) ⟨l.getD 0 0, 1, by simp, by omega, gmem0 h0, fun k hk => by rw [show k = 0 by omega]; exact Int.le_refl _⟩ ?_
    rintro j vs ⟨m, i, rfl, hi, hm, hb⟩
    simp only [run_prim]
    refine ⟨iv l.length, by simpa using hx.len, .bool (decide ((i : Int) < l.length)), by simp, ?_⟩
    simp only [run_ite, SE.den, List.cons_append, List.nil_append, List.getD_cons_succ, List.getD_cons_zero, pifv_bool]
    refine pif (fun h => ?_) (fun h => ?_) <;> simp only [decide_eq_true_eq, decide_eq_false_iff_not] at h
    · have hlt : i < l.length := by omega
      simp only [run_prim]
      refine ⟨.agg [iv (l.getD i 0)], by simpa using rowI hx hlt, iv (if m < l.getD i 0 then l.getD i 0 else m), by simp [aMax], iv ((i + 1 : Nat) : Int), by simp [wrap64 (n := (i : Int) + 1) (by omega) (by omega)], ?_⟩
      simp only [run_jump, atL_same]
      refine ⟨j - 1, by omega, if m < l.getD i 0 then l.getD i 0 else m, i + 1, by simp, by omega, ?_, fun k hk => ?_⟩
      · split
        · exact gmem0 hlt
        · exact hm
      · by_cases e : k = i
        · subst e; split <;> omega
        · have := hb k (by omega)
          split <;> omega
    · simp only [run_jump, atL]
      simp
      refine ⟨hm, fun y hy => ?_⟩
      obtain ⟨n, hn, rfl⟩ := List.getElem_of_mem hy
      have := hb n (by omega)
      simpa [List.getD_eq_getElem?_getD, hn] using this
  rintro vs ⟨m, rfl, hm, hb⟩
  simp
  exact ⟨hm, hb⟩

/-! ### Lines that are lost -/
def lostOf (slip : Int) (r : Rg) (a b : Pc) (x y : Nat × Bool) : List Int := if y.1 ≤ x.1 + a.g.length then [] else if below a x.2 + above b y.2 - 2 * slip ≤ ht r y.1 - ht r (x.1 + a.g.length) then [(y.1 : Int) - (x.1 + a.g.length : Nat) - 1] else []
def lostY (slip : Int) (r : Rg) (a b : Pc) (x : Nat × Bool) (ys : List (Nat × Bool)) : List Int := ys.flatMap (lostOf slip r a b x)
def lostX (slip : Int) (r : Rg) (a b : Pc) (xs ys : List (Nat × Bool)) : List Int := xs.flatMap fun x => lostY slip r a b x ys
def lostR (slip : Int) (a b : Pc) (l : List Rg) : List Int := l.flatMap fun r => lostX slip r a b (spots slip r a) (spots slip r b)
theorem lostOf_len (slip : Int) (r : Rg) (a b : Pc) (x y : Nat × Bool) : (lostOf slip r a b x y).length ≤ 1 := by
  unfold lostOf
  split
  · simp
  · split <;> simp
theorem flat_len {α : Type} {f : α → List Int} {n : Nat} : ∀ {l : List α}, (∀ a ∈ l, (f a).length ≤ n) → (l.flatMap f).length ≤ l.length * n
  | [], _ => by simp
  | a :: l, h => by
    have h1 := h a (by simp)
    have h2 := flat_len (l := l) fun x hx => h x (by simp [hx])
    rw [List.flatMap_cons, List.length_append, List.length_cons, Nat.add_mul]
    omega
theorem lostY_len {slip : Int} {r : Rg} {a b : Pc} {x : Nat × Bool} {ys : List (Nat × Bool)} (h : ys.length ≤ 24) : (lostY slip r a b x ys).length ≤ 24 := by
  have := flat_len (l := ys) (f := lostOf slip r a b x) (n := 1) fun y _ => lostOf_len slip r a b x y
  unfold lostY; omega
theorem lostX_len {slip : Int} {r : Rg} {a b : Pc} {xs ys : List (Nat × Bool)} (hx : xs.length ≤ 24) (h : ys.length ≤ 24) : (lostX slip r a b xs ys).length ≤ 576 := by
  have := flat_len (l := xs) (f := fun x => lostY slip r a b x ys) (n := 24) fun x _ => lostY_len h
  unfold lostX; omega
theorem lostR_len {slip : Int} {a b : Pc} {l : List Rg} (hl : l.length ≤ 4) (hok : ∀ r ∈ l, r.ok) : (lostR slip a b l).length ≤ 2304 := by
  have := flat_len (l := l) (f := fun r => lostX slip r a b (spots slip r a) (spots slip r b)) (n := 576) fun r hr => lostX_len (spots_len slip (hok r hr) a) (spots_len slip (hok r hr) b)
  unfold lostR; omega
theorem take_one {α : Type} [Inhabited α] {l : List α} {i : Nat} (h : i < l.length) : l.take (i + 1) = l.take i ++ [l.getD i default] := by
  rw [List.take_add_one]
  simp [List.getD_eq_getElem?_getD, h]
theorem spots_in {slip : Int} {r : Rg} {p : Pc} {y : Nat × Bool} (h : y ∈ spots slip r p) : y.1 < r.lines.toNat ∧ ((y.1 + p.g.length : Nat) : Int) ≤ r.lines - 1 := by
  rcases y with ⟨i, t⟩
  have key : ∀ q : Pc, q.g.length = p.g.length → sitB slip r q i = true → ((i + p.g.length : Nat) : Int) ≤ r.lines - 1 := by
    intro q hq hs
    simp only [sitB, Bool.and_eq_true, decide_eq_true_eq] at hs
    rw [← hq]; exact hs.1
  simp only [spots, List.mem_append] at h
  rcases h with h | h
  · rw [mem_spt] at h
    exact ⟨h.2.1, key p rfl h.2.2⟩
  · split at h
    · rw [mem_spt] at h
      exact ⟨h.2.1, key (half p) (by simp [half]) h.2.2⟩
    · simp at h
end Go.Proofs.Ytlminnpaeaganaa
namespace Go.Proofs.Ytlminnpaeaganaa
open Go Go.RowKit
set_option linter.unusedVariables false
set_option linter.unusedSimpArgs false
set_option maxRecDepth 100000

theorem ev46 (k : Nat) {slip : Int} {lp : PV} {l : List Rg} (h : Hand slip lp l) {a b : Pc} (ha : a.ok) (hb : b.ok) : Ev (k + 5) 46 [.agg [iv slip, lp], .agg a.cells, .agg b.cells] fun v => (v = .tup [.agg [iv 0, iv 0], iv 11] ∧ lostR slip a b l = []) ∨ ∃ m M, v = .tup [.agg [iv m, iv M], iv 0] ∧ (m ∈ lostR slip a b l ∧ ∀ y ∈ lostR slip a b l, m ≤ y) ∧ M ∈ lostR slip a b l ∧ ∀ y ∈ lostR slip a b l, y ≤ M := by
  refine ev_of (t := t46) rfl (fn := Try.f46) (by kernel_rfl) (by simp [fitArgs, flagsOf, h.plain, Pc.cells, ha.il.plain, hb.il.plain]) ?_
  have l1 := h.l1
  have s0 := h.s0
  have s1 := h.s1
  have ag := ha.gl
  have a1 := ha.u0; have a2 := ha.u1; have a3 := ha.d0; have a4 := ha.d1
  have b1 := hb.u0; have b2 := hb.u1; have b3 := hb.d0; have b4 := hb.d1
  have hbel : ∀ t, 0 ≤ below a t ∧ below a t ≤ 30 := fun t => by cases t <;> simp [below] <;> omega
  have habv : ∀ t, 0 ≤ above b t ∧ above b t ≤ 30 := fun t => by cases t <;> simp [above] <;> omega
  simp only [t46, tv, tp, tn, run_prim]
  refine ⟨.agg [iv slip, lp], by simp, .agg a.cells, by simp [Pc.cells], .agg b.cells, by simp [Pc.cells], ?_⟩
  refine mk_ev (ev67p k h (x := .snil) (ns := []) (.inl ⟨rfl, rfl⟩) (by simp) (by simp) (ps := [a, b]) (by intro p hp; simp at hp; rcases hp with rfl | rfl; exact ha; exact hb) (by simp)) (by simp [pcells, Pc.cells]) ?_
  rintro v rfl
  simp only [run_prim]
  refine ⟨.agg [iv slip, lp], by simp, iv 0, by simp, .agg [iv slip, lp], by simp, .bool false, by simp, ?_⟩
  simp only [run_ite, SE.den, List.cons_append, List.nil_append, List.getD_cons_succ, List.getD_cons_zero, pifv_bool, pif_false, run_prim]
  refine ⟨iv l.length, by simpa using h.rl.len, ?_⟩
  refine mk_join (fun vs => vs = [.agg ((lostR slip a b l).map iv)]) ?_ ?_
  · refine mk_loop (fun j vs => ∃ i : Nat, vs = [iv i, .agg ((lostR slip a b (l.take i)).map iv)] ∧ i + j = l.length) l.length (by omega) ⟨0, by simp [lostR], by omega⟩ ?_
    rintro j vs ⟨i, rfl, hi⟩
    simp only [run_prim]
    refine ⟨.bool (decide ((i : Int) < l.length)), by simp, ?_⟩
    simp only [run_ite, SE.den, List.cons_append, List.nil_append, List.getD_cons_succ, List.getD_cons_zero, pifv_bool]
    refine pif (fun h2 => ?_) (fun h2 => ?_) <;> simp only [decide_eq_true_eq, decide_eq_false_iff_not] at h2
    · have hlt : i < l.length := by omega
      have hr := h.get hlt
      have hrow := rowR h.rl hlt
      have hP := lostR_len (slip := slip) (a := a) (b := b) (l := l.take i) (by simp; omega) fun r hr => h.ok r (List.mem_of_mem_take hr)
      have hnext : lostR slip a b (l.take (i + 1)) = lostR slip a b (l.take i) ++ lostX slip (l.getD i default) a b (spots slip (l.getD i default) a) (spots slip (l.getD i default) b) := by
        rw [take_one hlt]; simp [lostR]
      have h76 := fun (p : Pc) (hp : p.ok) => ev76 k h hlt hp
      generalize l.getD i default = r at hr hrow hnext h76
      have n2 := hr.n2
      refine mk_ev (h76 b hb) (by simp [Pc.cells]) ?_
      intro xb hxb
      refine mk_ev (h76 a ha) (by simp [Pc.cells]) ?_
      intro xa hxa
      have hla := spots_len slip hr a
      have hlb := spots_len slip hr b
      have hia := fun y hy => spots_in (slip := slip) (r := r) (p := a) (y := y) hy
      have hib := fun y hy => spots_in (slip := slip) (r := r) (p := b) (y := y) hy
      generalize spots slip r a = A at *
      generalize spots slip r b = B at *
      generalize lostR slip a b (l.take i) = P at *
      simp only [run_prim]
      refine ⟨iv A.length, by simpa using hxa.len, ?_⟩
      refine mk_join (fun vs => vs = [.agg ((P ++ lostX slip r a b A B).map iv)]) ?_ ?_
      · refine mk_loop (fun j vs => ∃ n : Nat, vs = [iv n, .agg ((P ++ lostX slip r a b (A.take n) B).map iv)] ∧ n + j = A.length) A.length (by omega) ⟨0, by simp [lostX], by omega⟩ ?_
        rintro jx vs ⟨n, rfl, hn⟩
        simp only [run_prim]
        refine ⟨.bool (decide ((n : Int) < A.length)), by simp, ?_⟩
        simp only [run_ite, SE.den, List.cons_append, List.nil_append, List.getD_cons_succ, List.getD_cons_zero, pifv_bool]
        refine pif (fun h3 => ?_) (fun h3 => ?_) <;> simp only [decide_eq_true_eq, decide_eq_false_iff_not] at h3
        · have hnl : n < A.length := by omega
          have hrx := rowS hxa hnl
          have hxm : A.getD n default ∈ A := by simp [List.getD_eq_getElem?_getD, hnl]
          have hX := lostX_len (slip := slip) (r := r) (a := a) (b := b) (xs := A.take n) (ys := B) (by simp; omega) hlb
          have hnx : lostX slip r a b (A.take (n + 1)) B = lostX slip r a b (A.take n) B ++ lostY slip r a b (A.getD n default) B := by
            rw [take_one hnl]; simp [lostX]
          generalize A.getD n default = x at hrx hxm hnx
          have hx2 := hia x hxm
          generalize lostX slip r a b (A.take n) B = Q at *
          simp only [run_prim]
          refine ⟨.agg [iv x.1, .bool x.2], by simpa using hrx, iv B.length, by simpa using hxb.len, ?_⟩
          refine mk_join (fun vs => vs = [.agg ((P ++ (Q ++ lostY slip r a b x B)).map iv)]) ?_ ?_
          · refine mk_loop (fun j vs => ∃ m : Nat, vs = [iv m, .agg ((P ++ (Q ++ lostY slip r a b x (B.take m))).map iv)] ∧ m + j = B.length) B.length (by omega) ⟨0, by simp [lostY], by omega⟩ ?_
            rintro jy vs ⟨m, rfl, hm⟩
            simp only [run_prim]
            refine ⟨.bool (decide ((m : Int) < B.length)), by simp, ?_⟩
            simp only [run_ite, SE.den, List.cons_append, List.nil_append, List.getD_cons_succ, List.getD_cons_zero, pifv_bool]
            refine pif (fun h4 => ?_) (fun h4 => ?_) <;> simp only [decide_eq_true_eq, decide_eq_false_iff_not] at h4
            · have hml : m < B.length := by omega
              have hry := rowS hxb hml
              have hym : B.getD m default ∈ B := by simp [List.getD_eq_getElem?_getD, hml]
              have hY := lostY_len (slip := slip) (r := r) (a := a) (b := b) (x := x) (ys := B.take m) (by simp; omega)
              have hny : lostY slip r a b x (B.take (m + 1)) = lostY slip r a b x (B.take m) ++ lostOf slip r a b x (B.getD m default) := by
                rw [take_one hml]; simp [lostY]
              generalize B.getD m default = y at hry hym hny
              have hy2 := hib y hym
              generalize lostY slip r a b x (B.take m) = T at *
              simp only [run_prim]
              refine ⟨.agg [iv y.1, .bool y.2], by simpa using hry, iv a.g.length, by simpa [Pc.cells] using ha.il.len, iv ((x.1 + a.g.length : Nat) : Int), by simp [wrap64 (n := (x.1 : Int) + a.g.length) (by omega) (by omega)], .bool (decide (y.1 ≤ x.1 + a.g.length)), ?_, ?_⟩
              · simp
                by_cases e : y.1 ≤ x.1 + a.g.length
                · have : (y.1 : Int) ≤ (x.1 : Int) + a.g.length := by omega
                  simp [e, this]
                · have : ¬ (y.1 : Int) ≤ (x.1 : Int) + a.g.length := by omega
                  simp [e, this]
              simp only [run_ite, SE.den, List.cons_append, List.nil_append, List.getD_cons_succ, List.getD_cons_zero, pifv_bool]
              refine pif (fun h5 => ?_) (fun h5 => ?_) <;> simp only [decide_eq_true_eq, decide_eq_false_iff_not] at h5
              · have hz : lostOf slip r a b x y = [] := by simp [lostOf, h5]
                rw [hz, List.append_nil] at hny
                simp [wrap64 (n := (m : Int) + 1) (by omega) (by omega)]
                exact ⟨jy - 1, by omega, m + 1, by simp [hny], by omega⟩
              · simp only [run_prim]
                refine ⟨.agg r.cells, by simpa using hrow, ?_⟩
                refine mk_ev (ev68 (k + 2) hr) (by simp [Rg.cells]) ?_
                intro hs hhs
                refine mk_ev (ev88 (k + 3) ha x.1 x.2) (by simp [Pc.cells]) ?_
                rintro v rfl
                simp only [run_prim]
                refine ⟨iv (above a x.2), by simp, iv (below a x.2), by simp, ?_⟩
                refine mk_ev (ev88 (k + 3) hb y.1 y.2) (by simp [Pc.cells]) ?_
                rintro v rfl
                have hb1 := hbel x.2
                have hb2 := habv y.2
                have hq1 := ht_ok hr y.1
                have hq2 := ht_ok hr (x.1 + a.g.length)
                have g1 := rowI hhs (n := y.1) (by rw [htl_len]; omega)
                have g2 := rowI hhs (n := x.1 + a.g.length) (by rw [htl_len]; omega)
                rw [htl_get r (by omega)] at g1 g2
                simp only [run_prim]
                refine ⟨iv (above b y.2), by simp, iv (below b y.2), by simp, .agg [iv (ht r y.1)], by simpa using g1, .agg [iv (ht r (x.1 + a.g.length))], by simpa using g2, iv (ht r y.1 - ht r (x.1 + a.g.length)), by simp [wrap64 (n := ht r y.1 - ht r (x.1 + a.g.length)) (by omega) (by omega)], iv (below a x.2 + above b y.2), by simp [wrap64 (n := below a x.2 + above b y.2) (by omega) (by omega)], iv (2 * slip), by simp [wrap64 (n := 2 * slip) (by omega) (by omega)], iv (below a x.2 + above b y.2 - 2 * slip), by simp [wrap64 (n := below a x.2 + above b y.2 - 2 * slip) (by omega) (by omega)], .bool (decide (below a x.2 + above b y.2 - 2 * slip ≤ ht r y.1 - ht r (x.1 + a.g.length))), by simp, ?_⟩
                refine mk_join (fun vs => vs = [.agg ((P ++ (Q ++ (T ++ lostOf slip r a b x y))).map iv)]) ?_ ?_
                · simp only [run_ite, SE.den, List.cons_append, List.nil_append, List.getD_cons_succ, List.getD_cons_zero, pifv_bool]
                  refine pif (fun h6 => ?_) (fun h6 => ?_) <;> simp only [decide_eq_true_eq, decide_eq_false_iff_not] at h6
                  · have hz : lostOf slip r a b x y = [(y.1 : Int) - (x.1 + a.g.length : Nat) - 1] := by simp only [lostOf]; rw [if_neg h5, if_pos h6]
                    rw [hz]
                    simp only [run_prim]
                    refine ⟨iv ((y.1 : Int) - (x.1 + a.g.length : Nat)), by simp; rw [wrap64 (by omega) (by omega)]; , iv ((y.1 : Int) - (x.1 + a.g.length : Nat) - 1), by simp; rw [wrap64 (by omega) (by omega)]; , .agg (((P ++ (Q ++ T)) ++ [(y.1 : Int) - (x.1 + a.g.length : Nat) - 1]).map iv), push_int (by decide) (by simp; omega), ?_⟩
                    simp
                  · have hz : lostOf slip r a b x y = [] := by simp only [lostOf]; rw [if_neg h5, if_neg h6]
                    simp [hz]
                rintro vs rfl
                simp only [run_prim]
                refine ⟨iv ((m + 1 : Nat) : Int), by simp [wrap64 (n := (m : Int) + 1) (by omega) (by omega)], ?_⟩
                simp only [run_jump, atL_same]
                exact ⟨jy - 1, by omega, m + 1, by simp [hny], by omega⟩
            · have e : B.take m = B := List.take_of_length_le (by omega)
              simp [atL, e]
          rintro vs rfl
          simp only [run_prim]
          refine ⟨iv ((n + 1 : Nat) : Int), by simp [wrap64 (n := (n : Int) + 1) (by omega) (by omega)], ?_⟩
          simp only [run_jump, atL_same]
          exact ⟨jx - 1, by omega, n + 1, by simp [hnx], by omega⟩
        · have e : A.take n = A := List.take_of_length_le (by omega)
          simp [atL, e]
      rintro vs rfl
      simp only [run_prim]
      refine ⟨iv ((i + 1 : Nat) : Int), by simp [wrap64 (n := (i : Int) + 1) (by omega) (by omega)], ?_⟩
      simp only [run_jump, atL_same]
      exact ⟨j - 1, by omega, i + 1, by simp [hnext], by omega⟩
    · have e : l.take i = l := List.take_of_length_le (by omega)
      simp [atL, e]
  rintro vs rfl
  have hL := lostR_len (slip := slip) (a := a) (b := b) l1 h.ok
  generalize lostR slip a b l = L at *
  simp only [run_prim]
  refine ⟨iv L.length, by simp, .bool (decide (L.length = 0)), by simp, ?_⟩
  simp only [run_ite, SE.den, List.cons_append, List.nil_append, List.getD_cons_succ, List.getD_cons_zero, pifv_bool]
  refine pif (fun h2 => ?_) (fun h2 => ?_) <;> simp only [decide_eq_true_eq, decide_eq_false_iff_not] at h2
  · have e : L = [] := List.eq_nil_of_length_eq_zero h2
    simp [e]
  · simp only [run_prim]
    refine ⟨ilOf L, by simp only [Prim.run, SE.den, List.cons_append, List.nil_append, List.getD_cons_succ, List.getD_cons_zero, frz_nil0], ?_⟩
    refine mk_ev (ev89 (k + 3) (il_of L) (by omega) (by omega)) (by simp) ?_
    rintro v ⟨m, rfl, hm1, hm2⟩
    refine mk_ev (ev90 (k + 3) (il_of L) (by omega) (by omega)) (by simp) ?_
    rintro v ⟨M, rfl, hM1, hM2⟩
    simp only [run_prim]
    refine ⟨iv m, by simp, iv M, by simp, ?_⟩
    simp only [run_ret]
    exact ⟨_, rfl, by simp, .inr ⟨m, M, by simp, ⟨hm1, hm2⟩, hM1, hM2⟩⟩
end Go.Proofs.Ytlminnpaeaganaa
namespace Go.Proofs.Ytlminnpaeaganaa
open Go Go.RowKit
set_option linter.unusedVariables false
set_option linter.unusedSimpArgs false
set_option maxRecDepth 100000

theorem spots_len2 (slip : Int) {r : Rg} (p : Pc) : (spots slip r p).length ≤ 2 * r.lines.toNat := by
  have h1 := spt_len slip r p false r.lines.toNat
  have h2 := spt_len slip r (half p) true r.lines.toNat
  unfold spots
  split <;> simp <;> omega
theorem range_eq (a b c d : Int) : eqvS Try.prog 67 [iv a, iv b] [iv c, iv d] = some (decide (a = c) && (decide (b = d) && true)) := by kernel_rfl
/-- The least and the greatest so far. -/
structure MM (L : List Int) (a b : Int) : Prop where
  nn : ∀ y ∈ L, 0 ≤ y
  is : (L = [] ∧ a = -1 ∧ b = -1) ∨ ((a ∈ L ∧ ∀ y ∈ L, a ≤ y) ∧ b ∈ L ∧ ∀ y ∈ L, y ≤ b)
theorem MM.lo {L : List Int} {a b : Int} (h : MM L a b) : a < 0 ↔ L = [] := by
  rcases h.is with ⟨h1, h2, _⟩ | ⟨⟨h1, _⟩, _⟩
  · simp [h1, h2]
  · have := h.nn a h1
    constructor
    · omega
    · rintro rfl; simp at h1
theorem MM.step {L : List Int} {a b n : Int} (h : MM L a b) (hn : 0 ≤ n) : MM (L ++ [n]) (if a < 0 ∨ n < a then n else a) (if b < n then n else b) := by
  refine ⟨fun y hy => ?_, .inr ?_⟩
  · rcases List.mem_append.1 hy with h' | h'
    · exact h.nn y h'
    · simp at h'; omega
  · rcases h.is with ⟨rfl, rfl, rfl⟩ | ⟨⟨h1, h2⟩, h3, h4⟩
    · have e : (-1 : Int) < n := by omega
      simp [e]
    · have ha := h.nn a h1
      refine ⟨⟨?_, fun y hy => ?_⟩, ?_, fun y hy => ?_⟩
      · split
        · simp
        · exact List.mem_append_left _ h1
      · rcases List.mem_append.1 hy with h' | h'
        · have := h2 y h'; split <;> omega
        · simp at h'; split <;> omega
      · split
        · simp
        · exact List.mem_append_left _ h3
      · rcases List.mem_append.1 hy with h' | h'
        · have := h4 y h'; split <;> omega
        · simp at h'; split <;> omega
theorem lost_cut {slip : Int} (h0 : 0 ≤ slip) {l : List Rg} {r : Rg} (hm : r ∈ l) (hr : r.ok) {f t nx e : Nat} (hft : f ≤ t) (htn : t < nx) (hne : nx ≤ e) (he : (e : Int) ≤ r.lines - 1) {ca cb a b : Pc} (hca : Cut r f t ca) (hcb : Cut r nx e cb) (ha : Mea slip ca a) {cb' : Pc} (hb : Mea slip cb' b) (hg : cb'.g = cb.g) (hd : cb'.dn = cb.dn) (hw : cb'.wd = cb.wd) (hu : (nx ≠ t + 1 ∧ cb'.up = cb.up) ∨ (nx = t + 1 ∧ cb'.up = 0)) : ((nx : Int) - t - 1) ∈ lostR slip a b l := by
  have sa := sit_cut h0 hr hft (by omega) hca ha
  have hcb2 : 0 < nx → cb'.up < stp r (nx - 1) := fun h => by
    have h1 := hcb.up h
    have h2 := stp_ok hr (nx - 1)
    rcases hu with ⟨_, h3⟩ | ⟨_, h3⟩ <;> omega
  have sb : sitB slip r b nx = true := by
    have hl : b.g.length = e - nx := by rw [hb.len, hg, hcb.len]
    have hab' : nx + b.g.length = e := by omega
    have hbu := hb.up
    have hbd := hb.dn
    simp only [sitB, Bool.and_eq_true, decide_eq_true_eq, Bool.not_eq_true', Bool.or_eq_false_iff]
    refine ⟨by omega, ?_, ⟨?_, ?_⟩, ?_⟩
    · refine List.all_eq_true.2 fun k hk => ?_
      have hk' : k < e - nx := by rw [← hl]; simpa using hk
      have := hb.gs k (by rw [hg, hcb.len]; exact hk')
      rw [hg, hcb.gs k hk'] at this
      exact this
    · have h1 := hcb2 (by omega)
      have : fa slip b.up (stp r (nx - 1)) = true := by simp [fa]; omega
      simp [upB, this]
    · simp only [dnB, hab']
      by_cases h : (e : Int) < r.lines - 1
      · have := hcb.dn h
        have : fa slip b.dn (stp r e) = true := by simp [fa]; omega
        simp [this]
      · simp [h]
    · rcases hb.wd with ⟨_, h⟩ | ⟨h1, h2⟩
      · simp [wdB, h]
      · rcases hcb.wd with h | h
        · omega
        · rw [hw, h] at h2
          simp [wdB, h2]
  have alen : a.g.length = t - f := by rw [ha.len, hca.len]
  have hlast : f + a.g.length = t := by omega
  have hst : ∀ d, ht r (t + 1) + 0 ≤ ht r (t + 1 + d) := fun d => by
    induction d with
    | zero => simp
    | succ d ih => have := stp_ok hr (t + 1 + d); have e : ht r (t + 1 + (d + 1)) = ht r (t + 1 + d) + stp r (t + 1 + d) := rfl; omega
  have hdown := hca.dn (by omega)
  have hau := ha.dn
  have hbu := hb.up
  have hcond : a.dn + b.up - 2 * slip ≤ ht r nx - ht r t := by
    have e1 : ht r (t + 1) = ht r t + stp r t := rfl
    rcases hu with ⟨e, h3⟩ | ⟨h3, h4⟩
    · have h1 := hcb2 (by omega)
      have h5 := hst (nx - 1 - (t + 1))
      rw [show t + 1 + (nx - 1 - (t + 1)) = nx - 1 by omega] at h5
      obtain ⟨m, rfl⟩ : ∃ m, nx = m + 1 := ⟨nx - 1, by omega⟩
      have h6 : ht r (m + 1) = ht r m + stp r m := rfl
      simp only [Nat.add_sub_cancel] at h1 h5
      omega
    · subst h3
      omega
  refine List.mem_flatMap.2 ⟨r, hm, List.mem_flatMap.2 ⟨(f, false), ?_, List.mem_flatMap.2 ⟨(nx, false), ?_, ?_⟩⟩⟩
  · simp only [spots, List.mem_append]
    exact .inl (mem_spt.2 ⟨rfl, by omega, sa⟩)
  · simp only [spots, List.mem_append]
    exact .inl (mem_spt.2 ⟨rfl, by omega, sb⟩)
  · have h1 : ¬ nx ≤ f + a.g.length := by omega
    have h2 : below a false + above b false - 2 * slip ≤ ht r nx - ht r (f + a.g.length) := by
      rw [hlast]; simpa [below, above] using hcond
    simp only [lostOf]
    rw [if_neg h1, if_pos h2, hlast]
    simp
end Go.Proofs.Ytlminnpaeaganaa
namespace Go.Proofs.Ytlminnpaeaganaa
open Go Go.RowKit
set_option linter.unusedVariables false
set_option linter.unusedSimpArgs false
set_option maxRecDepth 100000

theorem lostOf_nn {slip : Int} {r : Rg} {a b : Pc} {x y : Nat × Bool} : ∀ z ∈ lostOf slip r a b x y, 0 ≤ z := by
  intro z hz
  unfold lostOf at hz
  split at hz
  · simp at hz
  · split at hz
    · simp at hz; omega
    · simp at hz
/-- What comes behind some steps of a tree. -/
def peel : Nat → Tree → Tree
  | 0, t => t
  | n + 1, .prim _ t => peel n t
  | n + 1, .call _ _ t => peel n t
  | n + 1, .join _ _ k => peel n k
  | _ + 1, t => t
/-- The end of the law: the verdict. -/
theorem end8 {slip : Int} {lp : PV} {l : List Rg} {a b : Pc} {t nx : Nat} {real : Bool} {g0 g1 e m M : Int} (hb1 : nx < 1000) (hb2 : t < 1000)
    (hreal : real = true → ((nx : Int) - t - 1) ∈ lostR slip a b l) (hw : (g0 = 0 ∧ g1 = 0 ∧ e = 11 ∧ lostR slip a b l = []) ∨ (e = 0 ∧ (g0 ∈ lostR slip a b l ∧ ∀ y ∈ lostR slip a b l, g0 ≤ y) ∧ g1 ∈ lostR slip a b l ∧ ∀ y ∈ lostR slip a b l, y ≤ g1)) (hMM : MM (lostR slip a b l) m M)
    {w0 w1 w2 w3 w4 w5 w6 w7 w8 w9 w10 w11 w12 w13 w14 w15 w16 w18 w19 w32 : PV} :
    Run Try.prog (E Try.prog 19) 4096 (peel 27 t8) ([w0, w1, w2, w3, w4, w5, w6, w7, w8, w9, w10, w11, w12, w13, w14, w15, w16, iv t, w18, w19, iv nx, .bool real] ++ (a.cells ++ b.cells) ++ [w32] ++ [.agg [iv g0, iv g1]] ++ [iv e] ++ [.agg [iv g0, iv g1]] ++ [iv m, iv M]) fun o => ∃ v, o = .val v ∧ v.plain = true ∧ v = .bool true := by
  simp only [t8, peel, tv, tp, tn, run_prim]
  have hlo := hMM.lo
  refine ⟨.bool (decide (m < 0)), by simp [Pc.cells], ?_⟩
  simp only [Pc.cells, run_ite, SE.den, List.cons_append, List.nil_append, List.getD_cons_succ, List.getD_cons_zero, pifv_bool]
  refine pif (fun h => ?_) (fun h => ?_) <;> simp only [decide_eq_true_eq, decide_eq_false_iff_not] at h
  · have hL := hlo.1 h
    have hre : real = false := by
      cases real with
      | false => rfl
      | true => have := hreal rfl; rw [hL] at this; simp at this
    rcases hw with ⟨rfl, rfl, rfl, _⟩ | ⟨_, ⟨h1, _⟩, _⟩
    · subst hre
      refine mk_join (fun vs => vs = [.bool true]) ?_ ?_
      · simp [aBin, range_eq]
        refine mk_call (Q := fun v => v = .bool true) (fun ω => ⟨_, lined19 ω, rfl⟩) ?_
        rintro v rfl
        simp
      · rintro vs rfl
        simp
    · rw [hL] at h1; simp at h1
  · have hL : lostR slip a b l ≠ [] := fun hc => h (hlo.2 hc)
    rcases hw with ⟨_, _, _, hc⟩ | ⟨rfl, ⟨h1, h2⟩, h3, h4⟩
    · exact absurd hc hL
    · rcases hMM.is with ⟨hc, _⟩ | ⟨⟨q1, q2⟩, q3, q4⟩
      · exact absurd hc hL
      · have e1 : g0 = m := Int.le_antisymm (h2 m q1) (q2 g0 h1)
        have e2 : g1 = M := Int.le_antisymm (q4 g1 h3) (h4 M q3)
        subst e1 e2
        refine mk_join (fun vs => vs = [.bool true]) ?_ ?_
        · cases real with
          | false =>
            simp [aBin, range_eq]
            refine mk_call (Q := fun v => v = .bool true) (fun ω => ⟨_, lined19 ω, rfl⟩) ?_
            rintro v rfl
            simp
          | true =>
            have hm := hreal rfl
            have c1 := h2 _ hm
            have c2 := h4 _ hm
            simp [aBin, range_eq, wrap64 (n := (nx : Int) - t) (by omega) (by omega), wrap64 (n := (nx : Int) - t - 1) (by omega) (by omega), c1, c2]
            refine mk_call (Q := fun v => v = .bool true) (fun ω => ⟨_, lined19 ω, rfl⟩) ?_
            rintro v rfl
            simp
        · rintro vs rfl
          simp
end Go.Proofs.Ytlminnpaeaganaa
