/- Pricks: the law is proved. No condition. -/
import Derived.Test.YtlminnpaeaganaaMRawA
import Derived.Test.YtlminnpaeaganaaRows
import Derived.Test.YtlminnpaeaganaaChecked
import Derived.Test.YtlminnpaeaganaaMRead
namespace Go.Proofs.Ytlminnpaeaganaa
open Go Go.RowKit
set_option linter.unusedVariables false
set_option linter.unusedSimpArgs false
set_option maxRecDepth 100000

theorem bneF {a : Bool} (h : a = true) : PV.bool (!a) = PV.bool false := by rw [h]; rfl
/-! ### Copies have the same answers -/
theorem erg_dup (r : Rg) : erg (dupR r) = erg r := rfl
theorem erl_dup : ∀ l : List Rg, erl (l.map dupR) = erl l
  | [] => rfl
  | r :: l => by simp only [List.map_cons, erl, erg_dup, erl_dup l]
theorem ehd_dup {slip : Int} {l : List Rg} : ehd slip (l.map dupR) = ehd slip l := by simp only [ehd, List.length_map, erl_dup]
theorem eop_dup {slip : Int} {l : List Rg} {ns : List Int} {ps : List Pc} : eop slip l ns ps = eop slip (l.map dupR) ns ps := by simp only [eop, ehd_dup, List.length_map]
theorem eho_dup {slip : Int} {l : List Rg} {n : Int} {ps : List Int} : eho slip l n ps = eho slip (l.map dupR) n ps := by simp only [eho, ← eop_dup]
theorem eun_dup {slip : Int} {l : List Rg} {n f : Int} {ps : List Int} : eun slip l n ps f = eun slip (l.map dupR) n ps f := by simp only [eun, ← eho_dup]
theorem stp_dup (r : Rg) (i : Nat) : stp (dupR r) i = stp r i := rfl
theorem ht_dup (r : Rg) : ∀ i, ht (dupR r) i = ht r i
  | 0 => rfl
  | i + 1 => by simp only [ht, ht_dup r i, stp_dup]
theorem blk_dup {slip a : Int} {ps : List Int} {r : Rg} : ∀ n, blk slip ps a (dupR r) n = blk slip ps a r n
  | 0 => rfl
  | n + 1 => by simp only [blk, blk_dup n, ht_dup]
theorem flw_dup {slip : Int} {ps : List Int} {r : Rg} : ∀ n, flw slip ps (dupR r) n = flw slip ps r n
  | 0 => rfl
  | n + 1 => by
    simp only [flw, flw_dup n, blk_dup]
    rfl
theorem getD_dup {l : List Rg} {i : Nat} (h : i < l.length) : (l.map dupR).getD i default = dupR (l.getD i default) := by simp [List.getD_eq_getElem?_getD, h]
theorem flwR_dup {slip : Int} {l : List Rg} {n : Int} {ps : List Int} : flwR slip l n ps = flwR slip (l.map dupR) n ps := by
  unfold flwR
  rw [← eho_dup]
  split
  · rename_i h
    obtain ⟨h1, _⟩ := eho_op h
    obtain ⟨_, h4, _⟩ := eop_hd h1
    have h5 := h4 n (by simp)
    rw [getD_dup (by omega), flw_dup]
  · rfl
theorem blkR_dup {slip : Int} {l : List Rg} {n f : Int} {ps : List Int} : blkR slip l n ps f = blkR slip (l.map dupR) n ps f := by
  unfold blkR
  rw [← eun_dup]
  split
  · rename_i h
    obtain ⟨h1, _⟩ := eho_op (eun_ok h).1
    obtain ⟨_, h4, _⟩ := eop_hd h1
    have h5 := h4 n (by simp)
    rw [getD_dup (by omega), blk_dup]
    rfl
  · rfl
theorem flwR_len (slip : Int) (l : List Rg) (n : Int) (ps : List Int) : (flwR slip l n ps).length ≤ ps.length := by
  unfold flwR
  split
  · exact flw_len _ _ _ _
  · simp
theorem blkR_len (slip : Int) (l : List Rg) (n : Int) (ps : List Int) (f : Int) : (blkR slip l n ps f).length ≤ 12 := by
  unfold blkR
  split
  · rename_i h
    obtain ⟨h1, _⟩ := eho_op (eun_ok h).1
    obtain ⟨h3, h4, _⟩ := eop_hd h1
    have h5 := h4 n (by simp)
    have hb := blk_len slip ps (ps.getD f.toNat 0) (l.getD n.toNat default) (l.getD n.toNat default).lines.toNat
    have : (l.getD n.toNat default).lines ≤ 12 := by
      have he : erg (l.getD n.toNat default) = 0 := by
        unfold ehd at h3
        split at h3
        · split at h3
          · cases h3
          split at h3
          · cases h3
          exact erl_ok h3 _ (gmR (by omega))
        · cases h3
      unfold erg at he
      split at he
      · cases he
      split at he
      · cases he
      split at he
      · split at he
        · rename_i h9; exact h9.1.2
        · cases he
      · cases he
    omega
  · simp

theorem ev14 {slip n first : Int} {lp x q : PV} {l : List Rg} {ps : List Int} (hr : RL lp l) (hrd : ∀ r ∈ l, IL r.sp r.st) (hx : IL x ps) (hq1 : intsB q = true) (hq2 : q.plain = true) : Ev 20 14 [.agg [iv slip, lp], iv n, x, iv first, q] fun v => v = .bool true := by
  refine rn_of (t := t14) rfl (fn := Try.f14) (by kernel_rfl) (by simp [fitArgs, flagsOf, hq2, hx.plain, hr.plainR hrd]) ?_
  try refine rn_norm (by (try simp only [List.length_cons, List.length_nil, Nat.reduceAdd, Nat.zero_add]); rfl) (by (try simp only [pushL]); rfl) ?_
  refine wp_agg (by simp only [tv, tp, tn, PE.dn, SE.dn, dnL, nth, projV, List.getD_cons_succ, List.getD_cons_zero, Rg.cells, Pc.cells]; rfl) rfl ?_
  refine wp_join (fun vs => ∃ b, vs = [.bool b] ∧ (b = false → RawH lp l ∧ ps.length ≤ 40)) ?_ ?_
  · refine wp_call (ev16 18 (slip := slip) hr hrd (y := .snil) (ps := []) (.inl ⟨rfl, rfl⟩) (by simp)) rfl ?_
    rintro v ⟨b, rfl, hb⟩
    refine wp_iteB rfl (fun h => ?_) (fun h => ?_)
    · exact wp_jump ⟨true, rfl, fun h => by cases h⟩
    · obtain ⟨⟨h1, h2⟩, _⟩ := hb h
      try refine rn_norm (by (try simp only [List.length_cons, List.length_nil, Nat.reduceAdd, Nat.zero_add]); rfl) (by (try simp only [pushL]); rfl) ?_
      refine wp_len25 rfl (by assumption) ?_
      refine wp_gtr rfl rfl ?_
      refine wp_jump ⟨_, rfl, fun h3 => ⟨⟨hr, hrd, h1, h2⟩, ?_⟩⟩
      have := of_decide_eq_false h3
      omega
  rintro vs ⟨b, rfl, hb⟩
  try refine rn_norm (by (try simp only [List.length_cons, List.length_nil, Nat.reduceAdd, Nat.zero_add]); rfl) (by (try simp only [pushL]); rfl) ?_
  refine wp_iteB rfl (fun h => ?_) (fun h => ?_)
  · refine wp_callE (w := .bool true) (fun ω => ⟨_, lined19 ω, rfl⟩) rfl ?_
    exact wp_ret rfl rfl rfl
  obtain ⟨hR, hps⟩ := hb h
  refine wp q (by simp [Prim.rn, tv, PE.dn, SE.dn, nth, intsV, hq1]) ?_
  refine wp_call (ev19 13 hR) rfl ?_
  rintro v ⟨s2, lp2, l2, lp3, l3, rfl, hH, hl3, hR3, hl32⟩
  have hR2 := hH.raw
  have hl0 := hH.l0
  have hrl2 := hH.rl
  refine wp _ (row4 1 (by omega)) ?_
  refine wp_len22 rfl hrl2 ?_
  try refine rn_norm (by (try simp only [List.length_cons, List.length_nil, Nat.reduceAdd, Nat.zero_add]); rfl) (by (try simp only [pushL]); rfl) ?_
  refine wp_sub1 rfl rfl (by omega) ?_
  refine wp_call (ev21 17 ((l2.length - 1 : Nat) : Int) (by omega) (by omega)) rfl ?_
  rintro v ⟨n2, rfl, hn0, hn1⟩
  obtain ⟨n2, rfl⟩ := Int.eq_ofNat_of_zero_le hn0
  refine wp _ (row4 1 (by omega)) ?_
  refine wp_call (ev55 15 hH (n := n2) (by omega)) rfl ?_
  rintro xo ⟨os, hxo, hpi⟩
  have hol := hpi.len
  try refine rn_norm (by (try simp only [List.length_cons, List.length_nil, Nat.reduceAdd, Nat.zero_add]); rfl) (by (try simp only [pushL]); rfl) ?_
  refine wp_len25 rfl (by assumption) ?_
  refine wp_mkI rfl (by omega) ?_
  refine wp_join (fun vs => vs = [.agg (os.map iv)]) ?_ ?_
  · refine wp_loop (fun j vs => ∃ (i : Nat) (L : List Int), vs = [iv i, .agg (L.map iv)] ∧ i + j = os.length ∧ L.length = os.length ∧ ∀ k, k < i → L.getD k 0 = os.getD k 0) os.length (by omega) ⟨0, List.replicate os.length 0, rfl, by omega, by simp, by simp⟩ ?_
    rintro j vs ⟨i, L, rfl, hi, hL, hk⟩
    try refine rn_norm (by (try simp only [List.length_cons, List.length_nil, Nat.reduceAdd, Nat.zero_add]); rfl) (by (try simp only [pushL]); rfl) ?_
    refine wp_len25 rfl hxo ?_
    try refine rn_norm (by (try simp only [List.length_cons, List.length_nil, Nat.reduceAdd, Nat.zero_add]); rfl) (by (try simp only [pushL]); rfl) ?_
    refine wp_lss rfl rfl ?_
    refine wp_iteP rfl (fun h => ?_) (fun h => ?_)
    · have hlt : i < os.length := by omega
      refine wp_row1 rfl hxo rfl hlt ?_
      refine wp_chkI rfl rfl (by omega) ?_
      refine wp_putI rfl rfl rfl (by omega) ?_
      try refine rn_norm (by (try simp only [List.length_cons, List.length_nil, Nat.reduceAdd, Nat.zero_add]); rfl) (by (try simp only [pushL]); rfl) ?_
      refine wp_add1 rfl rfl (by omega) ?_
      refine wp_jump ⟨j - 1, by omega, i + 1, L.set i (os.getD i 0), rfl, by omega, by simpa using hL, fun k hk' => ?_⟩
      by_cases e : k = i
      · subst e
        have : k < L.length := by omega
        simp [List.getD_eq_getElem?_getD, this]
      · have := hk k (by omega)
        simp only [List.getD_eq_getElem?_getD] at this ⊢
        rw [List.getElem?_set_ne (by omega)]
        exact this
    · try refine rn_norm (by (try simp only [List.length_cons, List.length_nil, Nat.reduceAdd, Nat.zero_add]); rfl) (by (try simp only [pushL]); rfl) ?_
      refine wp_jumpO (by decide) ?_
      have e : L = os := List.ext_getElem hL fun k h1 h2 => by
        have := hk k (by omega)
        simpa [List.getD_eq_getElem?_getD, h1, h2] using this
      rw [e]
      exact wp_jump rfl
  rintro vs rfl
  try refine rn_norm (by (try simp only [List.length_cons, List.length_nil, Nat.reduceAdd, Nat.zero_add]); rfl) (by (try simp only [pushL]); rfl) ?_
  refine wp_len25 rfl hx ?_
  try refine rn_norm (by (try simp only [List.length_cons, List.length_nil, Nat.reduceAdd, Nat.zero_add]); rfl) (by (try simp only [pushL]); rfl) ?_
  refine wp_gtr rfl rfl ?_
  have hq := hx.plain
  have hoq := hxo.plain
  have ho1 := hoq.2
  have hx1 := hq.2
  refine wp_iteP rfl (fun h1 => ?_) (fun h1 => ?_)
  · refine wp_row1 (m := 0) rfl hx rfl (by omega) ?_
    try refine rn_norm (by (try simp only [List.length_cons, List.length_nil, Nat.reduceAdd, Nat.zero_add]); rfl) (by (try simp only [pushL]); rfl) ?_
    refine wp_pushI rfl rfl (by decide) (by first | omega | (simp; omega)) ?_
    refine wp_one (by simp only [tv, tp, tn, PE.dn, SE.dn, dnL, nth, projV, List.getD_cons_succ, List.getD_cons_zero, Rg.cells, Pc.cells]; rfl) rfl ?_
    refine wp_one (by simp only [tv, tp, tn, PE.dn, SE.dn, dnL, nth, projV, List.getD_cons_succ, List.getD_cons_zero, Rg.cells, Pc.cells]; rfl) rfl ?_
    refine wp_one (by simp only [tv, tp, tn, PE.dn, SE.dn, dnL, nth, projV, List.getD_cons_succ, List.getD_cons_zero, Rg.cells, Pc.cells]; rfl) rfl ?_
    refine wp_one (by simp only [tv, tp, tn, PE.dn, SE.dn, dnL, nth, projV, List.getD_cons_succ, List.getD_cons_zero, Rg.cells, Pc.cells]; rfl) rfl ?_
    refine wp_frzR rfl ?_
    refine wp_one (by simp only [tv, tp, tn, PE.dn, SE.dn, dnL, nth, projV, List.getD_cons_succ, List.getD_cons_zero, Rg.cells, Pc.cells]; rfl) (by assumption) ?_
    refine wp_one (by simp only [tv, tp, tn, PE.dn, SE.dn, dnL, nth, projV, List.getD_cons_succ, List.getD_cons_zero, Rg.cells, Pc.cells]; rfl) (by assumption) ?_
    refine wp_one (by simp only [tv, tp, tn, PE.dn, SE.dn, dnL, nth, projV, List.getD_cons_succ, List.getD_cons_zero, Rg.cells, Pc.cells]; rfl) (by assumption) ?_
    refine wp_len25 rfl (by assumption) ?_
    refine wp_call (ev21 17 ((os.length : Nat) : Int) (by omega) (by omega)) rfl ?_
    rintro v ⟨f1, rfl, hf0, hf1⟩
    try refine rn_norm (by (try simp only [List.length_cons, List.length_nil, Nat.reduceAdd, Nat.zero_add]); rfl) (by (try simp only [pushL]); rfl) ?_
    refine wp_len25 rfl (by assumption) ?_
    refine wp_sub rfl rfl (by omega) (by omega) ?_
    refine wp_call (ev21 17 ((os.length : Int) - 1) (by omega) (by omega)) rfl ?_
    rintro v ⟨f2, rfl, hg0, hg1⟩
    try refine rn_norm (by (try simp only [List.length_cons, List.length_nil, Nat.reduceAdd, Nat.zero_add]); rfl) (by (try simp only [pushL]); rfl) ?_
    refine wp_one (by simp only [tv, tp, tn, PE.dn, SE.dn, dnL, nth, projV, List.getD_cons_succ, List.getD_cons_zero, Rg.cells, Pc.cells]; rfl) rfl ?_
    refine wp_one (by simp only [tv, tp, tn, PE.dn, SE.dn, dnL, nth, projV, List.getD_cons_succ, List.getD_cons_zero, Rg.cells, Pc.cells]; rfl) rfl ?_
    refine wp_one (by simp only [tv, tp, tn, PE.dn, SE.dn, dnL, nth, projV, List.getD_cons_succ, List.getD_cons_zero, Rg.cells, Pc.cells]; rfl) rfl ?_
    refine wp_one (by simp only [tv, tp, tn, PE.dn, SE.dn, dnL, nth, projV, List.getD_cons_succ, List.getD_cons_zero, Rg.cells, Pc.cells]; rfl) rfl ?_
    have hrows : ∀ i : Nat, i < 4 → ∃ s lpi li ni xi psi fi, rowV 2 (.sl none 2 0 4 [iv slip, lp, iv s2, lp2, iv s2, lp3, iv s2, lp2]) (iv i) = some (.agg [iv s, lpi]) ∧ rowV 1 (.sl none 1 0 4 [iv n, iv n2, iv n2, iv n2]) (iv i) = some (.agg [iv ni]) ∧ rowV 1 (.sl none 1 0 4 [x, xo, xo, .sl none 1 0 (os ++ [ps.getD 0 0]).length ((os ++ [ps.getD 0 0]).map iv)]) (iv i) = some (.agg [xi]) ∧ rowV 1 (.sl none 1 0 4 [iv first, iv f1, iv f2, iv first]) (iv i) = some (.agg [iv fi]) ∧ RawH lpi li ∧ IL xi psi ∧ psi.length ≤ 41
      | 0, _ => ⟨slip, lp, l, n, x, ps, first, rfl, rfl, rfl, rfl, hR, hx, by omega⟩
      | 1, _ => ⟨s2, lp2, l2, n2, xo, os, f1, rfl, rfl, rfl, rfl, hR2, hxo, by omega⟩
      | 2, _ => ⟨s2, lp3, l3, n2, xo, os, f2, rfl, rfl, rfl, rfl, hR3, hxo, by omega⟩
      | 3, _ => ⟨s2, lp2, l2, n2, _, os ++ [ps.getD 0 0], first, rfl, rfl, rfl, rfl, hR2, .inr ⟨0, rfl⟩, by simp; omega⟩
    clear hx hxo hrl2 hx1 ho1
    refine wp_join (fun vs => vs = []) ?_ ?_
    · refine wp_loop (fun j vs => ∃ i : Nat, vs = [iv i] ∧ i + j = 4) 4 (by omega) ⟨0, rfl, by omega⟩ ?_
      rintro j vs ⟨i, rfl, hij⟩
      try refine rn_norm (by (try simp only [List.length_cons, List.length_nil, Nat.reduceAdd, Nat.zero_add]); rfl) (by (try simp only [pushL]); rfl) ?_
      refine wp_len33 rfl ?_
      try refine rn_norm (by (try simp only [List.length_cons, List.length_nil, Nat.reduceAdd, Nat.zero_add]); rfl) (by (try simp only [pushL]); rfl) ?_
      refine wp_lss rfl rfl ?_
      refine wp_iteP rfl (fun h1 => ?_) (fun h1 => ?_)
      · obtain ⟨s, lpi, li, ni, xi, psi, fi, r1, r2, r3, r4, hR, hI, hL⟩ := hrows i (by omega)
        refine wp _ r1 ?_
        refine wp_callE (ev22R _ hR) rfl ?_
        refine wp _ r3 ?_
        refine wp_callE (ev56 _ hI (by omega)) rfl ?_
        try refine rn_norm (by (try simp only [List.length_cons, List.length_nil, Nat.reduceAdd, Nat.zero_add]); rfl) (by (try simp only [pushL]); rfl) ?_
        refine wp_agg (by simp only [tv, tp, tn, PE.dn, SE.dn, dnL, nth, projV, List.getD_cons_succ, List.getD_cons_zero, Rg.cells, Pc.cells]; rfl) rfl ?_
        refine wp _ r2 ?_
        have hD := hR.dup
        have hI2 : IL (.sl none 1 0 psi.length (psi.map iv)) psi := .inr ⟨0, rfl⟩
        refine wp_call (ev57R _ hD hI2 (by omega)) rfl ?_
        rintro v ⟨ya, rfl, hya⟩
        try refine rn_norm (by (try simp only [List.length_cons, List.length_nil, Nat.reduceAdd, Nat.zero_add]); rfl) (by (try simp only [pushL]); rfl) ?_
        refine wp_ext (by simp only [tv, tp, tn, PE.dn, SE.dn, dnL, nth, projV, List.getD_cons_succ, List.getD_cons_zero, Rg.cells, Pc.cells, extV]; rfl) ?_
        refine wp_ext (by simp only [tv, tp, tn, PE.dn, SE.dn, dnL, nth, projV, List.getD_cons_succ, List.getD_cons_zero, Rg.cells, Pc.cells, extV]; rfl) ?_
        refine wp _ r1 ?_
        refine wp _ r2 ?_
        refine wp _ r3 ?_
        refine wp_call (ev58R _ hR hI (by omega)) rfl ?_
        rintro v ⟨yb, rfl, hyb⟩
        try refine rn_norm (by (try simp only [List.length_cons, List.length_nil, Nat.reduceAdd, Nat.zero_add]); rfl) (by (try simp only [pushL]); rfl) ?_
        refine wp_ext (by simp only [tv, tp, tn, PE.dn, SE.dn, dnL, nth, projV, List.getD_cons_succ, List.getD_cons_zero, Rg.cells, Pc.cells, extV]; rfl) ?_
        refine wp_ext (by simp only [tv, tp, tn, PE.dn, SE.dn, dnL, nth, projV, List.getD_cons_succ, List.getD_cons_zero, Rg.cells, Pc.cells, extV]; rfl) ?_
        rw [← flwR_dup] at hya
        have hfl := flwR_len s li ni psi
        rw [← eho_dup (l := li)]
        refine wp_join (fun vs => vs = [.bool false]) ?_ ?_
        · try refine rn_norm (by (try simp only [List.length_cons, List.length_nil, Nat.reduceAdd, Nat.zero_add]); rfl) (by (try simp only [pushL]); rfl) ?_
          refine wp_neq rfl rfl ?_
          refine wp_itePF rfl (by omega) ?_
          refine wp_callE (ev30 _ hya hyb (by omega)) rfl ?_
          try refine rn_norm (by (try simp only [List.length_cons, List.length_nil, Nat.reduceAdd, Nat.zero_add]); rfl) (by (try simp only [pushL]); rfl) ?_
          refine wp_not rfl ?_
          exact wp_jump rfl
        rintro vs rfl
        try refine rn_norm (by (try simp only [List.length_cons, List.length_nil, Nat.reduceAdd, Nat.zero_add]); rfl) (by (try simp only [pushL]); rfl) ?_
        refine wp_iteF rfl ?_
        refine wp _ r2 ?_
        refine wp _ r4 ?_
        refine wp_call (ev59R _ hD hI2 (by omega)) rfl ?_
        rintro v ⟨yc, rfl, hyc⟩
        try refine rn_norm (by (try simp only [List.length_cons, List.length_nil, Nat.reduceAdd, Nat.zero_add]); rfl) (by (try simp only [pushL]); rfl) ?_
        refine wp_ext (by simp only [tv, tp, tn, PE.dn, SE.dn, dnL, nth, projV, List.getD_cons_succ, List.getD_cons_zero, Rg.cells, Pc.cells, extV]; rfl) ?_
        refine wp_ext (by simp only [tv, tp, tn, PE.dn, SE.dn, dnL, nth, projV, List.getD_cons_succ, List.getD_cons_zero, Rg.cells, Pc.cells, extV]; rfl) ?_
        refine wp _ r1 ?_
        refine wp _ r2 ?_
        refine wp _ r3 ?_
        refine wp _ r4 ?_
        refine wp_call (ev60R _ hR hI (by omega)) rfl ?_
        rintro v ⟨yd, rfl, hyd⟩
        try refine rn_norm (by (try simp only [List.length_cons, List.length_nil, Nat.reduceAdd, Nat.zero_add]); rfl) (by (try simp only [pushL]); rfl) ?_
        refine wp_ext (by simp only [tv, tp, tn, PE.dn, SE.dn, dnL, nth, projV, List.getD_cons_succ, List.getD_cons_zero, Rg.cells, Pc.cells, extV]; rfl) ?_
        refine wp_ext (by simp only [tv, tp, tn, PE.dn, SE.dn, dnL, nth, projV, List.getD_cons_succ, List.getD_cons_zero, Rg.cells, Pc.cells, extV]; rfl) ?_
        rw [← blkR_dup] at hyc
        have hbl := blkR_len s li ni psi fi
        rw [← eun_dup (l := li)]
        refine wp_join (fun vs => vs = [.bool false]) ?_ ?_
        · try refine rn_norm (by (try simp only [List.length_cons, List.length_nil, Nat.reduceAdd, Nat.zero_add]); rfl) (by (try simp only [pushL]); rfl) ?_
          refine wp_neq rfl rfl ?_
          refine wp_itePF rfl (by omega) ?_
          refine wp_callE (ev30 _ hyc hyd (by omega)) rfl ?_
          try refine rn_norm (by (try simp only [List.length_cons, List.length_nil, Nat.reduceAdd, Nat.zero_add]); rfl) (by (try simp only [pushL]); rfl) ?_
          refine wp_not rfl ?_
          refine wp_iteF rfl ?_
          refine wp _ r1 ?_
          refine wp_callE (ev37 _ hD hR (dup_like li).symm) rfl ?_
          try refine rn_norm (by (try simp only [List.length_cons, List.length_nil, Nat.reduceAdd, Nat.zero_add]); rfl) (by (try simp only [pushL]); rfl) ?_
          refine wp_not rfl ?_
          refine wp_iteF rfl ?_
          refine wp _ r3 ?_
          refine wp_callE (ev30 _ hI2 hI (by omega)) rfl ?_
          try refine rn_norm (by (try simp only [List.length_cons, List.length_nil, Nat.reduceAdd, Nat.zero_add]); rfl) (by (try simp only [pushL]); rfl) ?_
          refine wp_not rfl ?_
          exact wp_jump rfl
        rintro vs rfl
        try refine rn_norm (by (try simp only [List.length_cons, List.length_nil, Nat.reduceAdd, Nat.zero_add]); rfl) (by (try simp only [pushL]); rfl) ?_
        refine wp_iteF rfl ?_
        refine wp_add1 rfl rfl (by omega) ?_
        exact wp_jump ⟨j - 1, by omega, i + 1, rfl, by omega⟩
      · try refine rn_norm (by (try simp only [List.length_cons, List.length_nil, Nat.reduceAdd, Nat.zero_add]); rfl) (by (try simp only [pushL]); rfl) ?_
        refine wp_jumpO (by decide) ?_
        exact wp_jump rfl
    rintro vs rfl
    refine wp_callE (w := .bool true) (fun ω => ⟨_, lined19 ω, rfl⟩) rfl ?_
    exact wp_ret rfl rfl rfl
  · try refine rn_norm (by (try simp only [List.length_cons, List.length_nil, Nat.reduceAdd, Nat.zero_add]); rfl) (by (try simp only [pushL]); rfl) ?_
    refine wp_one (by simp only [tv, tp, tn, PE.dn, SE.dn, dnL, nth, projV, List.getD_cons_succ, List.getD_cons_zero, Rg.cells, Pc.cells]; rfl) rfl ?_
    refine wp_one (by simp only [tv, tp, tn, PE.dn, SE.dn, dnL, nth, projV, List.getD_cons_succ, List.getD_cons_zero, Rg.cells, Pc.cells]; rfl) rfl ?_
    refine wp_one (by simp only [tv, tp, tn, PE.dn, SE.dn, dnL, nth, projV, List.getD_cons_succ, List.getD_cons_zero, Rg.cells, Pc.cells]; rfl) rfl ?_
    refine wp_one (by simp only [tv, tp, tn, PE.dn, SE.dn, dnL, nth, projV, List.getD_cons_succ, List.getD_cons_zero, Rg.cells, Pc.cells]; rfl) rfl ?_
    refine wp_frzR rfl ?_
    refine wp_one (by simp only [tv, tp, tn, PE.dn, SE.dn, dnL, nth, projV, List.getD_cons_succ, List.getD_cons_zero, Rg.cells, Pc.cells]; rfl) (by assumption) ?_
    refine wp_one (by simp only [tv, tp, tn, PE.dn, SE.dn, dnL, nth, projV, List.getD_cons_succ, List.getD_cons_zero, Rg.cells, Pc.cells]; rfl) (by assumption) ?_
    refine wp_one (by simp only [tv, tp, tn, PE.dn, SE.dn, dnL, nth, projV, List.getD_cons_succ, List.getD_cons_zero, Rg.cells, Pc.cells]; rfl) (by assumption) ?_
    refine wp_len25 rfl (by assumption) ?_
    refine wp_call (ev21 17 ((os.length : Nat) : Int) (by omega) (by omega)) rfl ?_
    rintro v ⟨f1, rfl, hf0, hf1⟩
    try refine rn_norm (by (try simp only [List.length_cons, List.length_nil, Nat.reduceAdd, Nat.zero_add]); rfl) (by (try simp only [pushL]); rfl) ?_
    refine wp_len25 rfl (by assumption) ?_
    refine wp_sub rfl rfl (by omega) (by omega) ?_
    refine wp_call (ev21 17 ((os.length : Int) - 1) (by omega) (by omega)) rfl ?_
    rintro v ⟨f2, rfl, hg0, hg1⟩
    try refine rn_norm (by (try simp only [List.length_cons, List.length_nil, Nat.reduceAdd, Nat.zero_add]); rfl) (by (try simp only [pushL]); rfl) ?_
    refine wp_one (by simp only [tv, tp, tn, PE.dn, SE.dn, dnL, nth, projV, List.getD_cons_succ, List.getD_cons_zero, Rg.cells, Pc.cells]; rfl) rfl ?_
    refine wp_one (by simp only [tv, tp, tn, PE.dn, SE.dn, dnL, nth, projV, List.getD_cons_succ, List.getD_cons_zero, Rg.cells, Pc.cells]; rfl) rfl ?_
    refine wp_one (by simp only [tv, tp, tn, PE.dn, SE.dn, dnL, nth, projV, List.getD_cons_succ, List.getD_cons_zero, Rg.cells, Pc.cells]; rfl) rfl ?_
    refine wp_one (by simp only [tv, tp, tn, PE.dn, SE.dn, dnL, nth, projV, List.getD_cons_succ, List.getD_cons_zero, Rg.cells, Pc.cells]; rfl) rfl ?_
    have hrows : ∀ i : Nat, i < 4 → ∃ s lpi li ni xi psi fi, rowV 2 (.sl none 2 0 4 [iv slip, lp, iv s2, lp2, iv s2, lp3, iv s2, lp2]) (iv i) = some (.agg [iv s, lpi]) ∧ rowV 1 (.sl none 1 0 4 [iv n, iv n2, iv n2, iv n2]) (iv i) = some (.agg [iv ni]) ∧ rowV 1 (.sl none 1 0 4 [x, xo, xo, .sl none 1 0 os.length (os.map iv)]) (iv i) = some (.agg [xi]) ∧ rowV 1 (.sl none 1 0 4 [iv first, iv f1, iv f2, iv first]) (iv i) = some (.agg [iv fi]) ∧ RawH lpi li ∧ IL xi psi ∧ psi.length ≤ 41
      | 0, _ => ⟨slip, lp, l, n, x, ps, first, rfl, rfl, rfl, rfl, hR, hx, by omega⟩
      | 1, _ => ⟨s2, lp2, l2, n2, xo, os, f1, rfl, rfl, rfl, rfl, hR2, hxo, by omega⟩
      | 2, _ => ⟨s2, lp3, l3, n2, xo, os, f2, rfl, rfl, rfl, rfl, hR3, hxo, by omega⟩
      | 3, _ => ⟨s2, lp2, l2, n2, _, os, first, rfl, rfl, rfl, rfl, hR2, .inr ⟨0, rfl⟩, by omega⟩
    clear hx hxo hrl2 hx1 ho1
    refine wp_join (fun vs => vs = []) ?_ ?_
    · refine wp_loop (fun j vs => ∃ i : Nat, vs = [iv i] ∧ i + j = 4) 4 (by omega) ⟨0, rfl, by omega⟩ ?_
      rintro j vs ⟨i, rfl, hij⟩
      try refine rn_norm (by (try simp only [List.length_cons, List.length_nil, Nat.reduceAdd, Nat.zero_add]); rfl) (by (try simp only [pushL]); rfl) ?_
      refine wp_len33 rfl ?_
      try refine rn_norm (by (try simp only [List.length_cons, List.length_nil, Nat.reduceAdd, Nat.zero_add]); rfl) (by (try simp only [pushL]); rfl) ?_
      refine wp_lss rfl rfl ?_
      refine wp_iteP rfl (fun h1 => ?_) (fun h1 => ?_)
      · obtain ⟨s, lpi, li, ni, xi, psi, fi, r1, r2, r3, r4, hR, hI, hL⟩ := hrows i (by omega)
        refine wp _ r1 ?_
        refine wp_callE (ev22R _ hR) rfl ?_
        refine wp _ r3 ?_
        refine wp_callE (ev56 _ hI (by omega)) rfl ?_
        try refine rn_norm (by (try simp only [List.length_cons, List.length_nil, Nat.reduceAdd, Nat.zero_add]); rfl) (by (try simp only [pushL]); rfl) ?_
        refine wp_agg (by simp only [tv, tp, tn, PE.dn, SE.dn, dnL, nth, projV, List.getD_cons_succ, List.getD_cons_zero, Rg.cells, Pc.cells]; rfl) rfl ?_
        refine wp _ r2 ?_
        have hD := hR.dup
        have hI2 : IL (.sl none 1 0 psi.length (psi.map iv)) psi := .inr ⟨0, rfl⟩
        refine wp_call (ev57R _ hD hI2 (by omega)) rfl ?_
        rintro v ⟨ya, rfl, hya⟩
        try refine rn_norm (by (try simp only [List.length_cons, List.length_nil, Nat.reduceAdd, Nat.zero_add]); rfl) (by (try simp only [pushL]); rfl) ?_
        refine wp_ext (by simp only [tv, tp, tn, PE.dn, SE.dn, dnL, nth, projV, List.getD_cons_succ, List.getD_cons_zero, Rg.cells, Pc.cells, extV]; rfl) ?_
        refine wp_ext (by simp only [tv, tp, tn, PE.dn, SE.dn, dnL, nth, projV, List.getD_cons_succ, List.getD_cons_zero, Rg.cells, Pc.cells, extV]; rfl) ?_
        refine wp _ r1 ?_
        refine wp _ r2 ?_
        refine wp _ r3 ?_
        refine wp_call (ev58R _ hR hI (by omega)) rfl ?_
        rintro v ⟨yb, rfl, hyb⟩
        try refine rn_norm (by (try simp only [List.length_cons, List.length_nil, Nat.reduceAdd, Nat.zero_add]); rfl) (by (try simp only [pushL]); rfl) ?_
        refine wp_ext (by simp only [tv, tp, tn, PE.dn, SE.dn, dnL, nth, projV, List.getD_cons_succ, List.getD_cons_zero, Rg.cells, Pc.cells, extV]; rfl) ?_
        refine wp_ext (by simp only [tv, tp, tn, PE.dn, SE.dn, dnL, nth, projV, List.getD_cons_succ, List.getD_cons_zero, Rg.cells, Pc.cells, extV]; rfl) ?_
        rw [← flwR_dup] at hya
        have hfl := flwR_len s li ni psi
        rw [← eho_dup (l := li)]
        refine wp_join (fun vs => vs = [.bool false]) ?_ ?_
        · try refine rn_norm (by (try simp only [List.length_cons, List.length_nil, Nat.reduceAdd, Nat.zero_add]); rfl) (by (try simp only [pushL]); rfl) ?_
          refine wp_neq rfl rfl ?_
          refine wp_itePF rfl (by omega) ?_
          refine wp_callE (ev30 _ hya hyb (by omega)) rfl ?_
          try refine rn_norm (by (try simp only [List.length_cons, List.length_nil, Nat.reduceAdd, Nat.zero_add]); rfl) (by (try simp only [pushL]); rfl) ?_
          refine wp_not rfl ?_
          exact wp_jump rfl
        rintro vs rfl
        try refine rn_norm (by (try simp only [List.length_cons, List.length_nil, Nat.reduceAdd, Nat.zero_add]); rfl) (by (try simp only [pushL]); rfl) ?_
        refine wp_iteF rfl ?_
        refine wp _ r2 ?_
        refine wp _ r4 ?_
        refine wp_call (ev59R _ hD hI2 (by omega)) rfl ?_
        rintro v ⟨yc, rfl, hyc⟩
        try refine rn_norm (by (try simp only [List.length_cons, List.length_nil, Nat.reduceAdd, Nat.zero_add]); rfl) (by (try simp only [pushL]); rfl) ?_
        refine wp_ext (by simp only [tv, tp, tn, PE.dn, SE.dn, dnL, nth, projV, List.getD_cons_succ, List.getD_cons_zero, Rg.cells, Pc.cells, extV]; rfl) ?_
        refine wp_ext (by simp only [tv, tp, tn, PE.dn, SE.dn, dnL, nth, projV, List.getD_cons_succ, List.getD_cons_zero, Rg.cells, Pc.cells, extV]; rfl) ?_
        refine wp _ r1 ?_
        refine wp _ r2 ?_
        refine wp _ r3 ?_
        refine wp _ r4 ?_
        refine wp_call (ev60R _ hR hI (by omega)) rfl ?_
        rintro v ⟨yd, rfl, hyd⟩
        try refine rn_norm (by (try simp only [List.length_cons, List.length_nil, Nat.reduceAdd, Nat.zero_add]); rfl) (by (try simp only [pushL]); rfl) ?_
        refine wp_ext (by simp only [tv, tp, tn, PE.dn, SE.dn, dnL, nth, projV, List.getD_cons_succ, List.getD_cons_zero, Rg.cells, Pc.cells, extV]; rfl) ?_
        refine wp_ext (by simp only [tv, tp, tn, PE.dn, SE.dn, dnL, nth, projV, List.getD_cons_succ, List.getD_cons_zero, Rg.cells, Pc.cells, extV]; rfl) ?_
        rw [← blkR_dup] at hyc
        have hbl := blkR_len s li ni psi fi
        rw [← eun_dup (l := li)]
        refine wp_join (fun vs => vs = [.bool false]) ?_ ?_
        · try refine rn_norm (by (try simp only [List.length_cons, List.length_nil, Nat.reduceAdd, Nat.zero_add]); rfl) (by (try simp only [pushL]); rfl) ?_
          refine wp_neq rfl rfl ?_
          refine wp_itePF rfl (by omega) ?_
          refine wp_callE (ev30 _ hyc hyd (by omega)) rfl ?_
          try refine rn_norm (by (try simp only [List.length_cons, List.length_nil, Nat.reduceAdd, Nat.zero_add]); rfl) (by (try simp only [pushL]); rfl) ?_
          refine wp_not rfl ?_
          refine wp_iteF rfl ?_
          refine wp _ r1 ?_
          refine wp_callE (ev37 _ hD hR (dup_like li).symm) rfl ?_
          try refine rn_norm (by (try simp only [List.length_cons, List.length_nil, Nat.reduceAdd, Nat.zero_add]); rfl) (by (try simp only [pushL]); rfl) ?_
          refine wp_not rfl ?_
          refine wp_iteF rfl ?_
          refine wp _ r3 ?_
          refine wp_callE (ev30 _ hI2 hI (by omega)) rfl ?_
          try refine rn_norm (by (try simp only [List.length_cons, List.length_nil, Nat.reduceAdd, Nat.zero_add]); rfl) (by (try simp only [pushL]); rfl) ?_
          refine wp_not rfl ?_
          exact wp_jump rfl
        rintro vs rfl
        try refine rn_norm (by (try simp only [List.length_cons, List.length_nil, Nat.reduceAdd, Nat.zero_add]); rfl) (by (try simp only [pushL]); rfl) ?_
        refine wp_iteF rfl ?_
        refine wp_add1 rfl rfl (by omega) ?_
        exact wp_jump ⟨j - 1, by omega, i + 1, rfl, by omega⟩
      · try refine rn_norm (by (try simp only [List.length_cons, List.length_nil, Nat.reduceAdd, Nat.zero_add]); rfl) (by (try simp only [pushL]); rfl) ?_
        refine wp_jumpO (by decide) ?_
        exact wp_jump rfl
    rintro vs rfl
    refine wp_callE (w := .bool true) (fun ω => ⟨_, lined19 ω, rfl⟩) rfl ?_
    exact wp_ret rfl rfl rfl
theorem law14 : ∀ qs, ShL Try.prog 6 Try.f14.params.toList qs → ∀ ω, E Try.prog 20 ω 14 qs = some (.bool true) := by
  intro qs h ω
  rw [show Try.f14.params.toList = [24, 3, 25, 3, 25] by kernel_rfl] at h
  obtain ⟨a, _, rfl, ha, h⟩ := shL_cons h
  obtain ⟨b, _, rfl, hb, h⟩ := shL_cons h
  obtain ⟨c, _, rfl, hc, h⟩ := shL_cons h
  obtain ⟨d, _, rfl, hd, h⟩ := shL_cons h
  obtain ⟨e, _, rfl, he, h⟩ := shL_cons h
  have h0 := shL_nil h
  subst h0
  obtain ⟨slip, lp, l, rfl, hr, hrd⟩ := shV_rulings ha
  obtain ⟨n, rfl⟩ := shV_int hb
  obtain ⟨ps, hx⟩ := shV_ints hc
  obtain ⟨f, rfl⟩ := shV_int hd
  obtain ⟨h1, h2, _⟩ := nums_shape he
  obtain ⟨v, hv, rfl⟩ := ev14 hr hrd hx h1 h2 ω
  exact hv
end Go.Proofs.Ytlminnpaeaganaa
namespace Go.Proofs.Ytlminnpaeaganaa
open Go Go.RowKit Go.WideShapes Go.ChangeShapes

set_option maxRecDepth 100000
theorem rulePricks_lifted (hE : ∀ qs, ShL Try.prog 6 Try.f14.params.toList qs → ∀ ω, E Try.prog 20 ω 14 qs = some (.bool true)) (os : Os) (started : os.Started) (H : Type) (enc : TypeId × Value → H) :
    ReturnsInHanded {} Try.checked os 14 .any (Rows.rulePricksSpec.pre6 enc Try.prog Try.f14 Rows.rulePricksRow.domain false) (Rows.rulePricksSpec.post enc Try.prog Try.f14 false true false false) := by
  refine returnsInHanded_of_change (C := Try.checked) own started (by kernel_rfl) Try.func14
    (ChangeSpec.witness6 (enc := enc) (C := Try.checked) false ⟨#[], #[.agg #[.int .i64 0, .slice none 0 0], .int .i64 0, .slice none 0 0, .int .i64 0, .slice none 0 0], []⟩ 8 (by kernel_rfl) (by kernel_rfl) (by kernel_rfl) (by kernel_rfl)) ?_
  intro W base args ds gs before hval hW _ _
  refine law_contract (P := Try.prog) (k := 6) (bt := 4) laidOut rfl rfl (by kernel_rfl) (by kernel_rfl) (by
    intro t ht
    have : Try.f14.params.toList.all (fun t => Try.prog.readableRec t && decide (t < Try.prog.types.size)) = true := by kernel_rfl
    have := List.all_eq_true.1 this t ht
    simpa using this) (fun ds hl => ?_) (fun qs hq m => ?_) hval hW
  · match ds, hl with
    | [d0, d1, d2, d3, d4], _ => rfl
  · refine ((e_sound 20).ans 14 qs (fun ω => by rw [hE qs hq ω]; rfl) qs m (argL_self (shL_plain hq))).mono ?_
    rintro v E m' ⟨⟨ω, h1⟩, _, h2, h3⟩
    rw [hE qs hq ω] at h1
    injection h1 with h1
    exact ⟨h1.symm, h2, h3⟩
theorem rulePricks_holds (hE : ∀ qs, ShL Try.prog 6 Try.f14.params.toList qs → ∀ ω, E Try.prog 20 ω 14 qs = some (.bool true)) : Rows.RulePricksSaid :=
  OpenClaim.holds_of_wide 14 Try.f14 rfl rfl rfl rfl rfl rfl rfl ⟨rfl, rfl, rfl, rfl, rfl⟩ rfl rfl rfl rfl rfl (by kernel_rfl) Try.func14 (by kernel_rfl)
    (of_decide_eq_true (by kernel_rfl)) (by unfold Func.isWrapper; first | (rw [if_pos (by decide +kernel)]; kernel_rfl) | (rw [if_neg (by decide +kernel)]; exact ⟨rfl, rfl⟩))
    (fun os started H enc _ => rulePricks_lifted hE os started H enc)
end Go.Proofs.Ytlminnpaeaganaa
namespace Go.Proofs.Ytlminnpaeaganaa
open Go
theorem rulePricksProved : Rows.RulePricksSaid := rulePricks_holds law14
#print axioms rulePricksProved
end Go.Proofs.Ytlminnpaeaganaa
