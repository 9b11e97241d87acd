/- Longer: the law is proved. No condition. -/
import Derived.Test.YtlminnpaeaganaaMPlainB
import Derived.Test.YtlminnpaeaganaaRows
import Derived.Test.YtlminnpaeaganaaChecked
import Derived.Test.YtlminnpaeaganaaMRead
namespace Go.Proofs.Ytlminnpaeaganaa
open Go Go.RowKit
set_option linter.unusedVariables false
set_option linter.unusedSimpArgs false
set_option maxRecDepth 100000

theorem sit_less {slip : Int} (h0 : 0 ≤ slip) {r : Rg} (hr : r.ok) {p q : Pc} {m : Nat} (hm : p.g.length = m + 1) (hq : q.g = p.g.take m) (hu : q.up = p.up) (hd : q.dn = 0) (hw : q.wd = p.wd) {i : Nat} (h : sitB slip r p i = true) : sitB slip r q i = true := by
  have hs := stp_ok hr (i + m)
  have hql : q.g.length = m := by rw [hq, List.length_take]; omega
  simp only [sitB, Bool.and_eq_true, decide_eq_true_eq, Bool.not_eq_true', Bool.or_eq_false_iff] at h ⊢
  obtain ⟨h1, h2, ⟨h3, h4⟩, h5⟩ := h
  refine ⟨by omega, ?_, ⟨?_, ?_⟩, ?_⟩
  · refine List.all_eq_true.2 fun k hk => ?_
    have hk' : k < m := by rw [← hql]; simpa using hk
    have := List.all_eq_true.1 h2 k (by simp; omega)
    have e : q.g.getD k 0 = p.g.getD k 0 := by rw [hq]; simp [List.getD_eq_getElem?_getD, List.getElem?_take_of_lt hk']
    rw [e]; exact this
  · simpa [upB, hu] using h3
  · have : fa slip 0 (stp r (i + m)) = true := by simp [fa]; omega
    simp [dnB, hql, hd, this]
  · simpa [wdB, hw] using h5

theorem ev7 {q : PV} (hq1 : intsB q = true) (hq2 : q.plain = true) : Ev 20 7 [q] fun v => v = .bool true := by
  refine ev_of (t := t7) rfl (fn := Try.f7) (by kernel_rfl) (by simp [fitArgs, flagsOf, hq2]) ?_
  simp only [t7, tv, tp, tn, run_prim]
  refine ⟨q, by simp [intsV, hq1], ?_⟩
  refine mk_call (ev38 14 2 (by omega) (by omega)) ?_
  rintro v ⟨slip, lp, l, rfl, s0, s3, hrl, hl1, hl2, hok⟩
  have hH : Hand slip lp l := ⟨s0, s3, hrl, hl1, by omega, hok⟩
  simp only [run_prim]
  refine ⟨.agg [iv slip, lp], by simp, ?_⟩
  refine mk_ev (ev20 13 hH) (by simp) ?_
  rintro v ⟨p, rfl, hp⟩
  simp only [run_prim]
  have g5 := hp.gl
  refine ⟨.agg p.cells, by simp [Pc.cells], iv p.g.length, by simpa [Pc.cells] using hp.il.len, .bool (decide (p.g.length = 0)), by simp, ?_⟩
  simp only [run_ite, SE.den, List.cons_append, List.nil_append, List.getD_cons_succ, List.getD_cons_zero, pifv_bool]
  refine pif (fun h => ?_) (fun h => ?_) <;> simp only [decide_eq_true_eq, decide_eq_false_iff_not] at h
  · refine mk_call (Q := fun v => v = .bool true) (fun ω => ⟨_, lined19 ω, rfl⟩) ?_
    rintro v rfl
    simp
  obtain ⟨m, hm⟩ : ∃ m, p.g.length = m + 1 := ⟨p.g.length - 1, by omega⟩
  have hp0 : (Pc.mk p.gp p.g p.up 0 p.wd p.fr).ok := ⟨hp.il, hp.gl, hp.gs, hp.u0, hp.u1, by show (0 : Int) ≤ 0; omega, by show (0 : Int) ≤ 30; omega, hp.w0, hp.w1⟩
  refine mk_ev (ev23 17 hp0) (by simp [Pc.cells]) ?_
  rintro v rfl
  simp only [run_prim]
  refine ⟨.agg [.sl none 1 0 p.g.length (p.g.map iv), iv p.up, iv 0, iv p.wd, .bool p.fr], by simp, iv p.g.length, by simpa [Pc.cells] using hp.il.len, iv m, by simp [hm, wrap64 (n := (m : Int)) (by omega) (by omega)], .sl none 1 0 m ((p.g.take m).map iv), ?_, ?_⟩
  · have h3 : Try.prog.cellsOf 3 = 1 := by kernel_rfl
    have h4 : (Try.prog.info? 3).isSome = true := by kernel_rfl
    by_cases e : m = 0
    · simp [aSlice, un25, hm, h3, h4, aBnd, e]
    · simp [aSlice, un25, hm, h3, h4, aBnd, List.map_take]
      omega
  have hless : (Pc.mk (.sl none 1 0 m ((p.g.take m).map iv)) (p.g.take m) p.up 0 p.wd p.fr).ok := ⟨.inr ⟨0, by simp; omega⟩, by show (p.g.take m).length ≤ 5; simp; omega, fun x hx => hp.gs x (List.mem_of_mem_take hx), hp.u0, hp.u1, by show (0 : Int) ≤ 0; omega, by show (0 : Int) ≤ 30; omega, hp.w0, hp.w1⟩
  refine mk_join (fun vs => vs = []) ?_ ?_
  · refine mk_loop (fun j vs => ∃ i : Nat, vs = [iv i] ∧ i + j = l.length) l.length (by omega) ⟨0, rfl, by omega⟩ ?_
    rintro j vs ⟨i, rfl, hi⟩
    simp only [run_prim]
    refine ⟨iv l.length, by simpa using hrl.len, .bool (decide ((i : Int) < l.length)), by simp, ?_⟩
    simp only [run_ite, SE.den, List.cons_append, List.nil_append, List.getD_cons_succ, List.getD_cons_zero, pifv_bool]
    refine pif (fun h => ?_) (fun h => ?_) <;> simp only [decide_eq_true_eq, decide_eq_false_iff_not] at h
    · have hlt : i < l.length := by omega
      have hr := hH.get hlt
      refine mk_ev (ev31 14 hH hlt hp0) (by simp [Pc.cells]) ?_
      rintro v ⟨xa, rfl, hxa⟩
      simp only [run_prim]
      refine ⟨xa, by simp, iv 0, by simp, ?_⟩
      refine mk_ev (ev31 14 hH hlt hless) (by simp [Pc.cells]) ?_
      rintro v ⟨xb, rfl, hxb⟩
      simp only [run_prim]
      refine ⟨xb, by simp, iv 0, by simp, ?_⟩
      generalize l.getD i default = r at hr hxa hxb
      have hla := spots_len slip hr ⟨p.gp, p.g, p.up, 0, p.wd, p.fr⟩
      have hlb := spots_len slip hr ⟨.sl none 1 0 m ((p.g.take m).map iv), p.g.take m, p.up, 0, p.wd, p.fr⟩
      have key : ∀ n, (n, false) ∈ spots slip r ⟨p.gp, p.g, p.up, 0, p.wd, p.fr⟩ → (n, false) ∈ spots slip r ⟨.sl none 1 0 m ((p.g.take m).map iv), p.g.take m, p.up, 0, p.wd, p.fr⟩ := by
        intro n hn
        simp only [spots, List.mem_append] at hn ⊢
        refine .inl ?_
        rcases hn with hn | hn
        · rw [mem_spt] at hn ⊢
          exact ⟨rfl, hn.2.1, sit_less (p := ⟨p.gp, p.g, p.up, 0, p.wd, p.fr⟩) (q := ⟨.sl none 1 0 m ((p.g.take m).map iv), p.g.take m, p.up, 0, p.wd, p.fr⟩) s0 hr hm rfl rfl rfl rfl hn.2.2⟩
        · split at hn
          · rw [mem_spt] at hn
            cases hn.1
          · simp at hn
      generalize spots slip r ⟨p.gp, p.g, p.up, 0, p.wd, p.fr⟩ = A at *
      generalize spots slip r ⟨.sl none 1 0 m ((p.g.take m).map iv), p.g.take m, p.up, 0, p.wd, p.fr⟩ = B at *
      refine mk_join (fun vs => vs = [.bool false]) ?_ ?_
      · simp
      rintro vs rfl
      simp only [run_ite, SE.den, List.cons_append, List.nil_append, List.getD_cons_succ, List.getD_cons_zero, pifv_bool, pif_false]
      refine mk_join (fun vs => vs = []) ?_ ?_
      · refine mk_loop (fun j vs => ∃ n : Nat, vs = [iv n] ∧ n + j = A.length) A.length (by omega) ⟨0, rfl, by omega⟩ ?_
        rintro j' vs ⟨n, rfl, hn⟩
        simp only [run_prim]
        refine ⟨iv A.length, by simpa using hxa.len, .bool (decide ((n : Int) < A.length)), by simp, ?_⟩
        simp only [run_ite, SE.den, List.cons_append, List.nil_append, List.getD_cons_succ, List.getD_cons_zero, pifv_bool]
        refine pif (fun h => ?_) (fun h => ?_) <;> simp only [decide_eq_true_eq, decide_eq_false_iff_not] at h
        · have hnl : n < A.length := by omega
          have hmem : A.getD n default ∈ A := by simp [List.getD_eq_getElem?_getD, hnl]
          have hrow := rowS hxa hnl
          generalize A.getD n default = s at hmem hrow
          rcases s with ⟨a, t⟩
          refine mk_join (fun vs => vs = [.bool false]) ?_ ?_
          · simp only [run_prim]
            refine ⟨.agg [iv a, .bool t], by simpa using hrow, .bool (!t), by simp, ?_⟩
            cases t with
            | true => simp
            | false =>
              simp only [run_ite, SE.den, List.cons_append, List.nil_append, List.getD_cons_succ, List.getD_cons_zero, pifv_bool, Bool.not_false, pif_true, run_prim]
              refine ⟨.agg [iv a, .bool false], by simpa using hrow, ?_⟩
              refine mk_ev (ev43 18 hxb (by omega) a false) (by simp) ?_
              rintro v rfl
              simp [key a hmem]
          · rintro vs rfl
            simp [wrap64 (n := (n : Int) + 1) (by omega) (by omega)]
            exact ⟨j' - 1, by omega, n + 1, by simp, by omega⟩
        · simp [atL]
      rintro vs rfl
      simp [wrap64 (n := (i : Int) + 1) (by omega) (by omega)]
      exact ⟨j - 1, by omega, i + 1, by simp, by omega⟩
    · simp [atL]
  rintro vs rfl
  simp only [List.append_nil]
  refine mk_call (Q := fun v => v = .bool true) (fun ω => ⟨_, lined19 ω, rfl⟩) ?_
  rintro v rfl
  simp
theorem law7 : ∀ qs, ShL Try.prog 6 Try.f7.params.toList qs → ∀ ω, E Try.prog 20 ω 7 qs = some (.bool true) := by
  intro qs h ω
  rw [show Try.f7.params.toList = [25] by kernel_rfl] at h
  match qs, h with
  | [q], h =>
    obtain ⟨h1, h2, _⟩ := nums_shape h.1
    obtain ⟨v, hv, rfl⟩ := ev7 h1 h2 ω
    exact hv
end Go.Proofs.Ytlminnpaeaganaa
namespace Go.Proofs.Ytlminnpaeaganaa
open Go Go.RowKit Go.WideShapes Go.ChangeShapes

set_option maxRecDepth 100000
theorem ruleLonger_lifted (hE : ∀ qs, ShL Try.prog 6 Try.f7.params.toList qs → ∀ ω, E Try.prog 20 ω 7 qs = some (.bool true)) (os : Os) (started : os.Started) (H : Type) (enc : TypeId × Value → H) :
    ReturnsInHanded {} Try.checked os 7 .any (Rows.ruleLongerSpec.pre6 enc Try.prog Try.f7 Rows.ruleLongerRow.domain false) (Rows.ruleLongerSpec.post enc Try.prog Try.f7 false true false false) := by
  refine returnsInHanded_of_change (C := Try.checked) own started (by kernel_rfl) Try.func7
    (ChangeSpec.witness6 (enc := enc) (C := Try.checked) false ⟨#[], #[.slice none 0 0], []⟩ 8 (by kernel_rfl) (by kernel_rfl) (by kernel_rfl) (by kernel_rfl)) ?_
  intro W base args ds gs before hval hW _ _
  refine law_contract (P := Try.prog) (k := 6) (bt := 4) laidOut rfl rfl (by kernel_rfl) (by kernel_rfl) (by
    intro t ht
    have : Try.f7.params.toList.all (fun t => Try.prog.readableRec t && decide (t < Try.prog.types.size)) = true := by kernel_rfl
    have := List.all_eq_true.1 this t ht
    simpa using this) (fun ds hl => ?_) (fun qs hq m => ?_) hval hW
  · match ds, hl with
    | [d], _ => rfl
  · refine ((e_sound 20).ans 7 qs (fun ω => by rw [hE qs hq ω]; rfl) qs m (argL_self (shL_plain hq))).mono ?_
    rintro v E m' ⟨⟨ω, h1⟩, _, h2, h3⟩
    rw [hE qs hq ω] at h1
    injection h1 with h1
    exact ⟨h1.symm, h2, h3⟩
theorem ruleLonger_holds (hE : ∀ qs, ShL Try.prog 6 Try.f7.params.toList qs → ∀ ω, E Try.prog 20 ω 7 qs = some (.bool true)) : Rows.RuleLongerSaid :=
  OpenClaim.holds_of_wide 7 Try.f7 rfl rfl rfl rfl rfl rfl rfl ⟨rfl, rfl, rfl, rfl, rfl⟩ rfl rfl rfl rfl rfl (by kernel_rfl) Try.func7 (by kernel_rfl)
    (of_decide_eq_true (by kernel_rfl)) (by unfold Func.isWrapper; first | (rw [if_pos (by decide +kernel)]; kernel_rfl) | (rw [if_neg (by decide +kernel)]; exact ⟨rfl, rfl⟩))
    (fun os started H enc _ => ruleLonger_lifted hE os started H enc)
end Go.Proofs.Ytlminnpaeaganaa
namespace Go.Proofs.Ytlminnpaeaganaa
open Go
theorem ruleLongerProved : Rows.RuleLongerSaid := ruleLonger_holds law7
#print axioms ruleLongerProved
end Go.Proofs.Ytlminnpaeaganaa
