/- Lies: the law is proved. No condition. -/
import Derived.Test.YtlminnpaeaganaaGreatMLiesA
import Derived.Test.YtlminnpaeaganaaGreatMLiesC
import Derived.Test.YtlminnpaeaganaaGreatMLiesE
import Derived.Test.YtlminnpaeaganaaGreatRows
import Derived.Test.YtlminnpaeaganaaGreatChecked
import Derived.Test.YtlminnpaeaganaaGreatMRead
import Derived.Conc.Holds
import Derived.Leaving
namespace Go.Proofs.YtlminnpaeaganaaGreat
open Go Go.RowKit
set_option linter.unusedVariables false
set_option linter.unusedSimpArgs false
set_option maxRecDepth 100000
/-! ### Copies have the same answers -/
theorem eop_dup2 {slip : Int} {l : List Rg} {ns : List Int} {a b : Pc} : eop slip (l.map dupR) ns [dupP a, dupP b] = eop slip l ns [a, b] := eop_dup
theorem besR_dup {slip : Int} {l : List Rg} {a b : Pc} : besR slip (dupP a) (dupP b) (l.map dupR) = besR slip a b l := by
  unfold besR
  rw [List.flatMap_map]
  congr 1
  funext r
  rw [spots_dup, spots_dup, spots_dupP, spots_dupP]
  rfl
theorem besV_dup {slip : Int} {l : List Rg} {a b : Pc} : besV slip (l.map dupR) (dupP a) (dupP b) = besV slip l a b := by
  unfold besV
  rw [eop_dup2, besR_dup]
theorem hit_dup {slip : Int} {a b : Pc} {r : Rg} : hit slip (dupP a) (dupP b) (dupR r) = hit slip a b r := by
  unfold hit
  rw [spots_dup, spots_dup, spots_dupP, spots_dupP]
theorem bckV_dup {slip : Int} {l : List Rg} {a b : Pc} : bckV slip (l.map dupR) (dupP a) (dupP b) = bckV slip l a b := by
  unfold bckV bckL
  rw [eop_dup2, List.length_map]
  split
  · congr 1
    refine List.filter_congr fun i hi => ?_
    rw [getD_dup (List.mem_range.1 hi), hit_dup]
  · rfl
theorem bckV_len {slip : Int} {lp : PV} {l : List Rg} {a b : Pc} (h : RawH lp l) (ha : RawP a) (hb : RawP b) : (bckV slip l a b).length ≤ 4 := by
  unfold bckV
  split
  · rename_i he
    obtain ⟨hH, _, _⟩ := eop2_ok h ha hb he
    have := hH.l1
    have := bckL_len slip l a b l.length
    omega
  · simp
theorem lostX_dup {slip : Int} {r : Rg} {a b : Pc} {A B : List (Nat × Bool)} : lostX slip (dupR r) (dupP a) (dupP b) A B = lostX slip r a b A B := by
  unfold lostX lostY lostOf
  simp only [ht_dup]
  rfl
theorem lostR_dup {slip : Int} {l : List Rg} {a b : Pc} : lostR slip (dupP a) (dupP b) (l.map dupR) = lostR slip a b l := by
  unfold lostR
  rw [List.flatMap_map]
  congr 1
  funext r
  rw [spots_dup, spots_dup, spots_dupP, spots_dupP, lostX_dup]
theorem LoV_dup {slip : Int} {l : List Rg} {a b : Pc} {v : PV} (h : LoV slip (l.map dupR) (dupP a) (dupP b) v) : LoV slip l a b v := by
  unfold LoV at h
  rw [eop_dup2, lostR_dup] at h
  exact h
theorem range_eqZ (a b c d : Int) : eqvS Tryz.prog 67 [iv a, iv b] [iv c, iv d] = some (decide (a = c) && (decide (b = d) && true)) := by kernel_rfl
theorem range_neq (a b : Int) : aBin Tryz.prog .neq 67 (.agg [iv a, iv b]) (.agg [iv a, iv b]) = some (.bool false) := by simp [aBin, range_eqZ]
/-! ### Two pieces alike -/
theorem ev69P (k : Nat) {a b : Pc} (ha : RawP a) (hb : RawP b) : Ev (k + 2) 69 [.sl none 5 0 2 (a.cells ++ b.cells), .sl none 5 0 2 ((dupP a).cells ++ (dupP b).cells)] fun v => v = .bool true := by
  have hx : PL (.sl none 5 0 2 (a.cells ++ b.cells)) [a, b] := two5
  have hy : PL (.sl none 5 0 2 ((dupP a).cells ++ (dupP b).cells)) [dupP a, dupP b] := two5
  have hrows : ∀ i : Nat, i < 2 → ∃ p : Pc, RawP p ∧ rowV 5 (.sl none 5 0 2 (a.cells ++ b.cells)) (iv i) = some (.agg [p.gp, iv p.up, iv p.dn, iv p.wd, .bool p.fr]) ∧ rowV 5 (.sl none 5 0 2 ((dupP a).cells ++ (dupP b).cells)) (iv i) = some (.agg [(dupP p).gp, iv p.up, iv p.dn, iv p.wd, .bool p.fr])
    | 0, _ => ⟨a, ha, rfl, rfl⟩
    | 1, _ => ⟨b, hb, rfl, rfl⟩
  refine rn_of (t := t69) rfl (fn := Tryz.f69) (by kernel_rfl) (by simp [fitArgs, flagsOf, hx.plain fun p hp => (two_raw ha hb p hp).il, hy.plain fun p hp => (two_raw ha.dup hb.dup p hp).il]) ?_
  try refine rn_norm (by (try simp only [List.length_cons, List.length_nil, Nat.reduceAdd, Nat.zero_add]); rfl) (by (try simp only [pushL]); rfl) ?_
  refine wp_len29 rfl hx ?_
  refine wp_len29 rfl hy ?_
  refine wp_neq rfl rfl ?_
  refine wp_iteF rfl ?_
  refine wp_join (fun vs => vs = []) ?_ ?_
  · refine wp_loop (fun j vs => ∃ i : Nat, vs = [iv i] ∧ i + j = 2) 2 (by omega) ⟨0, rfl, by omega⟩ ?_
    rintro j vs ⟨i, rfl, hi⟩
    try refine rn_norm (by (try simp only [List.length_cons, List.length_nil, Nat.reduceAdd, Nat.zero_add]); rfl) (by (try simp only [pushL]); rfl) ?_
    refine wp_len29 rfl hx ?_
    refine wp_lss rfl rfl ?_
    refine wp_iteP rfl (fun h => ?_) (fun h => ?_)
    · have e : i < 2 := by simp at h; omega
      obtain ⟨p, hp, ra, rb⟩ := hrows i e
      refine wp _ ra ?_
      refine wp _ rb ?_
      refine wp_join (fun vs => vs = [.bool false]) ?_ ?_
      · refine wp_callE (ev30 k hp.il hp.dup.il (by have := hp.len; omega)) rfl ?_
        refine wp_not rfl ?_
        refine wp_iteF rfl ?_
        refine wp_neq rfl rfl ?_
        refine wp_itePF rfl (by omega) ?_
        refine wp_neq rfl rfl ?_
        refine wp_itePF rfl (by omega) ?_
        refine wp_neq rfl rfl ?_
        refine wp_itePF rfl (by omega) ?_
        refine wp_neqB rfl rfl ?_
        refine wp_jump ?_
        show [PV.bool (p.fr != p.fr)] = [.bool false]
        simp
      rintro vs rfl
      refine wp_iteF rfl ?_
      refine wp_add1 rfl rfl (by omega) ?_
      exact wp_jump ⟨j - 1, by omega, i + 1, rfl, by omega⟩
    · refine wp_jumpO (by decide) ?_
      exact wp_jump rfl
  · rintro vs rfl
    exact wp_ret rfl rfl rfl
theorem ev29P (k : Nat) {slip : Int} {lp : PV} {l : List Rg} {a b : Pc} (h : RawH lp l) (ha : RawP a) (hb : RawP b) : Ev (k + 3) 29 [.agg [iv slip, lp], .agg [iv slip, .sl none 3 0 l.length (rcells (l.map dupR))], .sl none 5 0 2 (a.cells ++ b.cells), .sl none 5 0 2 ((dupP a).cells ++ (dupP b).cells)] fun v => v = .bool true := by
  have hx : PL (.sl none 5 0 2 (a.cells ++ b.cells)) [a, b] := two5
  have hy : PL (.sl none 5 0 2 ((dupP a).cells ++ (dupP b).cells)) [dupP a, dupP b] := two5
  refine rn_of (t := t29) rfl (fn := Tryz.f29) (by kernel_rfl) (by simp [fitArgs, flagsOf, h.plain, h.dup.plain, hx.plain fun p hp => (two_raw ha hb p hp).il, hy.plain fun p hp => (two_raw ha.dup hb.dup p hp).il]) ?_
  refine wp_agg (by simp only [tv, tp, tn, PE.dn, SE.dn, dnL, nth, projV, List.getD_cons_succ, List.getD_cons_zero, Rg.cells, Pc.cells]; rfl) rfl ?_
  refine wp_agg (by simp only [tv, tp, tn, PE.dn, SE.dn, dnL, nth, projV, List.getD_cons_succ, List.getD_cons_zero, Rg.cells, Pc.cells]; rfl) rfl ?_
  refine wp_join (fun vs => vs = [.bool true]) ?_ ?_
  · refine wp_callE (ev37 k h h.dup (dup_like l)) rfl ?_
    refine wp_iteT rfl ?_
    refine wp_callE (ev69P k ha hb) rfl ?_
    exact wp_jump rfl
  · rintro vs rfl
    exact wp_ret rfl rfl rfl
theorem ev8 {slip : Int} {lp q : PV} {l : List Rg} {p p' : Pc} (hr : RL lp l) (hrd : ∀ r ∈ l, IL r.sp r.st) (hp : IL p.gp p.g) (hp' : IL p'.gp p'.g) (hq1 : intsB q = true) (hq2 : q.plain = true) : Ev 20 8 [.agg [iv slip, lp], .agg p.cells, .agg p'.cells, q] fun v => v = .bool true := by
  refine rn_of (t := t8) rfl (fn := Tryz.f8) (by kernel_rfl) (by simp [fitArgs, flagsOf, hq2, Pc.cells, hp.plain, hp'.plain, hr.plainR hrd]) ?_
  refine wp_agg (by simp only [tv, tp, tn, PE.dn, SE.dn, dnL, nth, projV, List.getD_cons_succ, List.getD_cons_zero, Rg.cells, Pc.cells]; rfl) rfl ?_
  refine wp_agg (by simp only [tv, tp, tn, PE.dn, SE.dn, dnL, nth, projV, List.getD_cons_succ, List.getD_cons_zero, Rg.cells, Pc.cells]; rfl) rfl ?_
  refine wp_agg (by simp only [tv, tp, tn, PE.dn, SE.dn, dnL, nth, projV, List.getD_cons_succ, List.getD_cons_zero, Rg.cells, Pc.cells]; rfl) rfl ?_
  have hpl : ∀ x ∈ [p, p'], IL x.gp x.g := by
    intro x hx
    simp at hx
    rcases hx with rfl | rfl
    · exact hp
    · exact hp'
  refine wp_call (ev16 18 (slip := slip) hr hrd (y := .sl none 5 0 2 (p.cells ++ p'.cells)) (ps := [p, p']) two5 hpl) rfl ?_
  rintro v ⟨b, rfl, hb⟩
  refine wp_iteB rfl (fun h => ?_) (fun h => ?_)
  · refine wp_callE (w := .bool true) (fun ω => ⟨_, lined19 ω, rfl⟩) rfl ?_
    exact wp_ret rfl rfl rfl
  obtain ⟨⟨hl20, hs20⟩, _, hp20⟩ := hb h
  have hR : RawH lp l := ⟨hr, hrd, hl20, hs20⟩
  have hP : RawP p := ⟨hp, hp20 p (by simp)⟩
  have hP' : RawP p' := ⟨hp', hp20 p' (by simp)⟩
  refine wp q (by simp [Prim.rn, pushL, tv, PE.dn, SE.dn, nth, intsV, hq1]) ?_
  refine wp_call (ev19 13 hR) rfl ?_
  rintro v ⟨s2, lp2, l2, lp3, l3, rfl, hH, hl3, hR3, hl32⟩
  have hR2 := hH.raw
  refine wp _ (row4 1 (by omega)) ?_
  refine wp_call (ev20 13 hH) rfl ?_
  rintro v ⟨o, rfl, ho⟩
  refine wp _ (row4 1 (by omega)) ?_
  refine wp_call (ev20 13 hH) rfl ?_
  rintro v ⟨o', rfl, ho'⟩
  refine wp_agg (cs := [o.gp, iv o.up, iv o.dn, iv o.wd, .bool o.fr]) rfl rfl ?_
  refine wp_agg (cs := [o'.gp, iv o'.up, iv o'.dn, iv o'.wd, .bool o'.fr]) rfl rfl ?_
  have hrows : ∀ i : Nat, i < 4 → ∃ s lpi li, ∃ pi qi : Pc, rowV 2 (.sl none 2 0 4 [iv slip, lp, iv s2, lp2, iv s2, lp3, iv s2, lp2]) (iv i) = some (.agg [iv s, lpi])
      ∧ rowV 5 (.sl none 5 0 4 [p.gp, iv p.up, iv p.dn, iv p.wd, .bool p.fr, o.gp, iv o.up, iv o.dn, iv o.wd, .bool o.fr, o'.gp, iv o'.up, iv o'.dn, iv o'.wd, .bool o'.fr, o.gp, iv o.up, iv o.dn, iv o.wd, .bool o.fr]) (iv i) = some (.agg pi.cells)
      ∧ rowV 5 (.sl none 5 0 4 [p'.gp, iv p'.up, iv p'.dn, iv p'.wd, .bool p'.fr, o'.gp, iv o'.up, iv o'.dn, iv o'.wd, .bool o'.fr, o.gp, iv o.up, iv o.dn, iv o.wd, .bool o.fr, p'.gp, iv p'.up, iv p'.dn, iv p'.wd, .bool p'.fr]) (iv i) = some (.agg qi.cells)
      ∧ RawH lpi li ∧ RawP pi ∧ RawP qi
    | 0, _ => ⟨slip, lp, l, p, p', rfl, rfl, rfl, hR, hP, hP'⟩
    | 1, _ => ⟨s2, lp2, l2, o, o', rfl, rfl, rfl, hR2, ho.raw, ho'.raw⟩
    | 2, _ => ⟨s2, lp3, l3, o', o, rfl, rfl, rfl, hR3, ho'.raw, ho.raw⟩
    | 3, _ => ⟨s2, lp2, l2, o, p', rfl, rfl, rfl, hR2, ho.raw, hP'⟩
  refine wp_join (fun vs => vs = []) ?_ ?_
  · refine wp_loop (fun j vs => ∃ i : Nat, vs = [iv i] ∧ i + j = 4) 4 (by omega) ⟨0, rfl, by omega⟩ ?_
    rintro j vs ⟨i, rfl, hij⟩
    try refine rn_norm (by (try simp only [List.length_cons, List.length_nil, Nat.reduceAdd, Nat.zero_add]); rfl) (by (try simp only [pushL]); rfl) ?_
    refine wp_len33 rfl ?_
    refine wp_lss rfl rfl ?_
    refine wp_iteP rfl (fun h1 => ?_) (fun h1 => ?_)
    · obtain ⟨s, lpi, li, pi, qi, r1, r2, r3, hRi, hPi, hQi⟩ := hrows i (by omega)
      have hD := hRi.dup
      have hPd := hPi.dup
      have hQd := hQi.dup
      refine wp _ r1 ?_
      refine wp_callE (ev22R _ hRi) rfl ?_
      refine wp _ r2 ?_
      refine wp_callE (ev23R _ hPi) rfl ?_
      refine wp _ r3 ?_
      refine wp_callE (ev23R _ hQi) rfl ?_
      refine wp_agg (by simp only [tv, tp, tn, PE.dn, SE.dn, dnL, nth, projV, List.getD_cons_succ, List.getD_cons_zero, Rg.cells, Pc.cells]; rfl) rfl ?_
      refine wp_agg (by simp only [tv, tp, tn, PE.dn, SE.dn, dnL, nth, projV, List.getD_cons_succ, List.getD_cons_zero, Rg.cells, Pc.cells]; rfl) rfl ?_
      refine wp_agg (by simp only [tv, tp, tn, PE.dn, SE.dn, dnL, nth, projV, List.getD_cons_succ, List.getD_cons_zero, Rg.cells, Pc.cells]; rfl) rfl ?_
      refine wp_call (ev35R2 _ (slip := s) hD hPd hQd) rfl ?_
      intro v hv
      replace hv := LoV_dup hv
      obtain ⟨m, M, e, rfl⟩ := hv.shape
      refine wp_ext (by simp only [tv, tp, tn, PE.dn, SE.dn, dnL, nth, projV, List.getD_cons_succ, List.getD_cons_zero, Rg.cells, Pc.cells, extV]; rfl) ?_
      refine wp_ext (by simp only [tv, tp, tn, PE.dn, SE.dn, dnL, nth, projV, List.getD_cons_succ, List.getD_cons_zero, Rg.cells, Pc.cells, extV]; rfl) ?_
      refine wp_agg (by simp only [tv, tp, tn, PE.dn, SE.dn, dnL, nth, projV, List.getD_cons_succ, List.getD_cons_zero, Rg.cells, Pc.cells]; rfl) rfl ?_
      refine wp _ r1 ?_
      refine wp _ r2 ?_
      refine wp _ r3 ?_
      refine wp_call (ev36R2 _ (slip := s) hRi hPi hQi) rfl ?_
      intro v hw
      obtain rfl := hv.uniq hw
      refine wp_ext (by simp only [tv, tp, tn, PE.dn, SE.dn, dnL, nth, projV, List.getD_cons_succ, List.getD_cons_zero, Rg.cells, Pc.cells, extV]; rfl) ?_
      refine wp_ext (by simp only [tv, tp, tn, PE.dn, SE.dn, dnL, nth, projV, List.getD_cons_succ, List.getD_cons_zero, Rg.cells, Pc.cells, extV]; rfl) ?_
      refine wp_agg (by simp only [tv, tp, tn, PE.dn, SE.dn, dnL, nth, projV, List.getD_cons_succ, List.getD_cons_zero, Rg.cells, Pc.cells]; rfl) rfl ?_
      refine wp_call (ev37R _ (slip := s) hD hPd hQd) rfl ?_
      rintro v ⟨ya, rfl, hya⟩
      rw [besV_dup] at hya
      rw [eop_dup2]
      refine wp_ext (by simp only [tv, tp, tn, PE.dn, SE.dn, dnL, nth, projV, List.getD_cons_succ, List.getD_cons_zero, Rg.cells, Pc.cells, extV]; rfl) ?_
      refine wp_ext (by simp only [tv, tp, tn, PE.dn, SE.dn, dnL, nth, projV, List.getD_cons_succ, List.getD_cons_zero, Rg.cells, Pc.cells, extV]; rfl) ?_
      refine wp _ r1 ?_
      refine wp _ r2 ?_
      refine wp _ r3 ?_
      refine wp_call (ev38R _ (slip := s) hRi hPi hQi) rfl ?_
      rintro v ⟨yb, rfl, hyb⟩
      have hbl := besV_len (slip := s) hRi hPi hQi
      refine wp_ext (by simp only [tv, tp, tn, PE.dn, SE.dn, dnL, nth, projV, List.getD_cons_succ, List.getD_cons_zero, Rg.cells, Pc.cells, extV]; rfl) ?_
      refine wp_ext (by simp only [tv, tp, tn, PE.dn, SE.dn, dnL, nth, projV, List.getD_cons_succ, List.getD_cons_zero, Rg.cells, Pc.cells, extV]; rfl) ?_
      refine wp_join (fun vs => vs = [.bool false]) ?_ ?_
      · refine wp _ (range_neq m M) ?_
        refine wp_iteF rfl ?_
        refine wp_neq rfl rfl ?_
        refine wp_itePF rfl (by omega) ?_
        refine wp_neq rfl rfl ?_
        refine wp_itePF rfl (by omega) ?_
        refine wp_callE (ev30 _ hya hyb (by omega)) rfl ?_
        refine wp_not rfl ?_
        exact wp_jump rfl
      rintro vs rfl
      refine wp_iteF rfl ?_
      refine wp_call (ev14R _ (slip := s) hD hPd hQd) rfl ?_
      rintro v ⟨yc, rfl, hyc⟩
      rw [bckV_dup] at hyc
      rw [eop_dup2]
      refine wp_ext (by simp only [tv, tp, tn, PE.dn, SE.dn, dnL, nth, projV, List.getD_cons_succ, List.getD_cons_zero, Rg.cells, Pc.cells, extV]; rfl) ?_
      refine wp_ext (by simp only [tv, tp, tn, PE.dn, SE.dn, dnL, nth, projV, List.getD_cons_succ, List.getD_cons_zero, Rg.cells, Pc.cells, extV]; rfl) ?_
      refine wp _ r1 ?_
      refine wp _ r2 ?_
      refine wp _ r3 ?_
      refine wp_call (ev39R _ (slip := s) hRi hPi hQi) rfl ?_
      rintro v ⟨yd, rfl, hyd⟩
      have hbk := bckV_len (slip := s) hRi hPi hQi
      refine wp_ext (by simp only [tv, tp, tn, PE.dn, SE.dn, dnL, nth, projV, List.getD_cons_succ, List.getD_cons_zero, Rg.cells, Pc.cells, extV]; rfl) ?_
      refine wp_ext (by simp only [tv, tp, tn, PE.dn, SE.dn, dnL, nth, projV, List.getD_cons_succ, List.getD_cons_zero, Rg.cells, Pc.cells, extV]; rfl) ?_
      refine wp_join (fun vs => vs = [.bool false]) ?_ ?_
      · refine wp_neq rfl rfl ?_
        refine wp_itePF rfl (by omega) ?_
        refine wp_callE (ev30 _ hyc hyd (by omega)) rfl ?_
        refine wp_not rfl ?_
        refine wp_iteF rfl ?_
        refine wp _ r1 ?_
        refine wp _ r2 ?_
        refine wp _ r3 ?_
        refine wp_callE (ev29P _ (slip := s) hRi hPi hQi) rfl ?_
        refine wp_not rfl ?_
        exact wp_jump rfl
      rintro vs rfl
      refine wp_iteF rfl ?_
      refine wp_add1 rfl rfl (by omega) ?_
      exact wp_jump ⟨j - 1, by omega, i + 1, rfl, by omega⟩
    · refine wp_jumpO (by decide) ?_
      exact wp_jump rfl
  rintro vs rfl
  refine wp_callE (w := .bool true) (fun ω => ⟨_, lined19 ω, rfl⟩) rfl ?_
  exact wp_ret rfl rfl rfl
theorem law8 : ∀ qs, ShL Tryz.prog 6 Tryz.f8.params.toList qs → ∀ ω, E Tryz.prog 20 ω 8 qs = some (.bool true) := by
  intro qs h ω
  rw [show Tryz.f8.params.toList = [27, 30, 30, 22] by kernel_rfl] at h
  obtain ⟨a, _, rfl, ha, h⟩ := shL_cons h
  obtain ⟨b, _, rfl, hb, h⟩ := shL_cons h
  obtain ⟨c, _, rfl, hc, h⟩ := shL_cons h
  obtain ⟨d, _, rfl, hd, h⟩ := shL_cons h
  have h0 := shL_nil h
  subst h0
  obtain ⟨slip, lp, l, rfl, hr, hrd⟩ := shV_rulings ha
  obtain ⟨p, rfl, hp⟩ := shV_patch hb
  obtain ⟨p', rfl, hp'⟩ := shV_patch hc
  obtain ⟨h1, h2, _⟩ := nums_shape hd
  obtain ⟨v, hv, rfl⟩ := ev8 hr hrd hp hp' h1 h2 ω
  exact hv
end Go.Proofs.YtlminnpaeaganaaGreat
namespace Go.Proofs.YtlminnpaeaganaaGreat
open Go Go.RowKit Go.WideShapes Go.ChangeShapes
set_option maxRecDepth 100000
/-- A call that starts nothing: who is alone leaves nobody behind. -/
theorem leaving_of_handed {a : Assume} {C : Checked} {os : Os} {f : FuncId} {r : Reach} {Pre : World → Array Value → Prop} {Post : World → Array Value → Value → World → Prop} (h : ReturnsInHanded a C os f r Pre Post) : ReturnsInLeavingWide a C os f r Pre Post := fun enter => by
  obtain ⟨e, own, started, wit, runs⟩ := h enter
  refine ⟨e, own, started, wit, fun w tape i hh => ?_⟩
  obtain ⟨n, v, w', hend, hc, hr, hp, ⟨n', last, h1, h2, h3, h4, h5⟩, h6⟩ := runs w tape i hh
  exact ⟨n, v, w', hend, hc, hr, hp, ⟨n', last, h1, h2, h4, onlyLeaving_of_quiet h3, h5⟩, h6⟩
theorem ruleLies_lifted (hE : ∀ qs, ShL Tryz.prog 6 Tryz.f8.params.toList qs → ∀ ω, E Tryz.prog 20 ω 8 qs = some (.bool true)) (os : Os) (started : os.Started) (H : Type) (enc : TypeId × Value → H) :
    ReturnsInHanded {} Tryz.checked os 8 .any (Rows.ruleLiesSpec.pre6 enc Tryz.prog Tryz.f8 Rows.ruleLiesRow.domain false) (Rows.ruleLiesSpec.post enc Tryz.prog Tryz.f8 false true false false) := by
  refine returnsInHanded_of_change (C := Tryz.checked) own started (by kernel_rfl) Tryz.func8
    (ChangeSpec.witness6 (enc := enc) (C := Tryz.checked) false ⟨#[], #[.agg #[.int .i64 0, .slice none 0 0], .agg #[.slice none 0 0, .int .i64 0, .int .i64 0, .int .i64 0, .bool false], .agg #[.slice none 0 0, .int .i64 0, .int .i64 0, .int .i64 0, .bool false], .slice none 0 0], []⟩ 8 (by kernel_rfl) (by kernel_rfl) (by kernel_rfl) (by kernel_rfl)) ?_
  intro W base args ds gs before hval hW _ _
  refine law_contract (P := Tryz.prog) (k := 6) (bt := 4) laidOut rfl rfl (by kernel_rfl) (by kernel_rfl) (by
    intro t ht
    have : Tryz.f8.params.toList.all (fun t => Tryz.prog.readableRec t && decide (t < Tryz.prog.types.size)) = true := by kernel_rfl
    have := List.all_eq_true.1 this t ht
    simpa using this) (fun ds hl => ?_) (fun qs hq m => ?_) hval hW
  · match ds, hl with
    | [d0, d1, d2, d3], _ => rfl
  · refine ((e_sound 20).ans 8 qs (fun ω => by rw [hE qs hq ω]; rfl) qs m (argL_self (shL_plain hq))).mono ?_
    rintro v E m' ⟨⟨ω, h1⟩, _, h2, h3⟩
    rw [hE qs hq ω] at h1
    injection h1 with h1
    exact ⟨h1.symm, h2, h3⟩
theorem ruleLies_holds (hE : ∀ qs, ShL Tryz.prog 6 Tryz.f8.params.toList qs → ∀ ω, E Tryz.prog 20 ω 8 qs = some (.bool true)) : Rows.RuleLiesSaid :=
  OpenClaim.holds_of_wide_leaving 8 Tryz.f8 rfl rfl rfl rfl rfl rfl rfl ⟨rfl, rfl, rfl, rfl, rfl⟩ rfl rfl rfl rfl rfl (by kernel_rfl) Tryz.func8 (by kernel_rfl)
    (of_decide_eq_true (by kernel_rfl)) (by unfold Func.isWrapper; first | (rw [if_pos (by decide +kernel)]; kernel_rfl) | (rw [if_neg (by decide +kernel)]; exact ⟨rfl, rfl⟩))
    (fun os started H enc _ => leaving_of_handed (ruleLies_lifted hE os started H enc))
end Go.Proofs.YtlminnpaeaganaaGreat
namespace Go.Proofs.YtlminnpaeaganaaGreat
open Go
theorem ruleLiesProved : Rows.RuleLiesSaid := ruleLies_holds law8
#print axioms ruleLiesProved
end Go.Proofs.YtlminnpaeaganaaGreat
