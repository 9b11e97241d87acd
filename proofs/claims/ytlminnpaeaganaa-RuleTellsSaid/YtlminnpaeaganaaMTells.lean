/- Tells: the law is proved. No condition. -/
import Derived.Test.YtlminnpaeaganaaMRawF
import Derived.Test.YtlminnpaeaganaaMRawS
import Derived.Test.YtlminnpaeaganaaRows
import Derived.Test.YtlminnpaeaganaaChecked
import Derived.Test.YtlminnpaeaganaaMRead
namespace Go.Proofs.Ytlminnpaeaganaa
open Go Go.RowKit
set_option linter.unusedVariables false
set_option linter.unusedSimpArgs false
set_option maxRecDepth 100000

/-! ### Tell, for whatever is read -/
def TellR (slip : Int) (l : List Rg) (a b e g c : Int) : Prop :=
  (eop slip l [a, b] [] ≠ 0 ∧ e = eop slip l [a, b] [] ∧ g = 0 ∧ c = 0) ∨ (eop slip l [a, b] [] = 0 ∧ Told slip (l.getD a.toNat default) (l.getD b.toNat default) e g c)
theorem told_one {slip e g c e' g' c' : Int} {ra rb : Rg} (h : Told slip ra rb e g c) (h' : Told slip ra rb e' g' c') : e = e' ∧ g = g' ∧ c = c' := by
  rcases h with ⟨rfl, n, a, rfl, rfl, hn, hl, hf, hall⟩ | ⟨rfl, rfl, rfl, hall⟩ <;> rcases h' with ⟨rfl, n', a', rfl, rfl, hn', hl', hf', hall'⟩ | ⟨rfl, rfl, rfl, hall'⟩
  · have h1 : ¬(n < n' ∨ (n = n' ∧ a < a')) := fun h => by rw [hall' n a h hl] at hf; cases hf
    have h2 : ¬(n' < n ∨ (n' = n ∧ a' < a)) := fun h => by rw [hall n' a' h hl'] at hf'; cases hf'
    refine ⟨rfl, ?_, ?_⟩ <;> omega
  · rw [hall' n a hn hl] at hf; cases hf
  · rw [hall n' a' hn' hl'] at hf'; cases hf'
  · exact ⟨rfl, rfl, rfl⟩
theorem any_dupR {slip : Int} {r : Rg} {p : Pc} : anyB slip (dupR r) p = anyB slip r p := by unfold anyB; rw [spots_dup]
theorem told_dup {slip e g c : Int} {ra rb : Rg} (h : Told slip (dupR ra) (dupR rb) e g c) : Told slip ra rb e g c := by
  unfold Told at h
  simp only [any_dupR] at h
  exact h
theorem tellR_one {slip a b e g c e' g' c' : Int} {l : List Rg} (h : TellR slip l a b e g c) (h' : TellR slip l a b e' g' c') : e = e' ∧ g = g' ∧ c = c' := by
  rcases h with ⟨h0, rfl, rfl, rfl⟩ | ⟨h0, h⟩ <;> rcases h' with ⟨h0', rfl, rfl, rfl⟩ | ⟨h0', h'⟩
  · exact ⟨rfl, rfl, rfl⟩
  · exact absurd h0' h0
  · exact absurd h0 h0'
  · exact told_one h h'
theorem tellR_dup {slip a b e g c : Int} {l : List Rg} (h : TellR slip (l.map dupR) a b e g c) : TellR slip l a b e g c := by
  unfold TellR at h ⊢
  rw [eop_dup] at h
  refine h.imp id fun ⟨h0, h1⟩ => ⟨h0, ?_⟩
  obtain ⟨_, h4, _⟩ := eop_hd h0
  have h5 := h4 a (by simp)
  have h6 := h4 b (by simp)
  rw [getD_dup (by omega), getD_dup (by omega)] at h1
  exact told_dup h1
theorem eop2 {slip : Int} {lp : PV} {l : List Rg} {a b : Int} (hr : RawH lp l) (h : eop slip l [a, b] [] = 0) : Hand slip lp l ∧ (∃ m : Nat, a = m ∧ m < l.length) ∧ ∃ m : Nat, b = m ∧ m < l.length := by
  obtain ⟨h3, h4, _⟩ := eop_hd h
  have h5 := h4 a (by simp)
  have h6 := h4 b (by simp)
  exact ⟨hd_ok hr h3, ⟨a.toNat, by omega, by omega⟩, b.toNat, by omega, by omega⟩
theorem ev35R (k : Nat) {slip : Int} {lp : PV} {l : List Rg} {a b : Int} (h : RawH lp l) : Ev (k + 5) 35 [.agg [iv slip, lp], iv a, iv b] fun v => ∃ e g c, v = .tup [iv g, iv c, iv e] ∧ TellR slip l a b e g c := by
  by_cases he : eop slip l [a, b] [] = 0
  · obtain ⟨hH, ⟨m, rfl, hm⟩, m', rfl, hm'⟩ := eop2 h he
    refine (ev35 k hH hm hm').mono fun v ⟨e, g, c, h1, h2⟩ => ⟨e, g, c, h1, .inr ⟨he, by simpa using h2⟩⟩
  · refine rn_of (t := t35) rfl (fn := Try.f35) (by kernel_rfl) (by simp [fitArgs, flagsOf, h.plain]) ?_
    refine wp_agg (by simp only [tv, tp, tn, PE.dn, SE.dn, dnL, nth, projV, List.getD_cons_succ, List.getD_cons_zero, Rg.cells, Pc.cells]; rfl) rfl ?_
    refine wp_one (by simp only [tv, tp, tn, PE.dn, SE.dn, dnL, nth, projV, List.getD_cons_succ, List.getD_cons_zero, Rg.cells, Pc.cells]; rfl) rfl ?_
    refine wp_one (by simp only [tv, tp, tn, PE.dn, SE.dn, dnL, nth, projV, List.getD_cons_succ, List.getD_cons_zero, Rg.cells, Pc.cells]; rfl) rfl ?_
    refine wp_call (ev67R k (slip := slip) (x := .sl none 1 0 2 [iv a, iv b]) (ns := [a, b]) (y := .snil) (ps := []) h (.inr ⟨0, rfl⟩) (by simp) (.inl ⟨rfl, rfl⟩) (by simp) (by simp)) rfl ?_
    rintro v ⟨x, y, rfl, _, hpl⟩
    refine wp_ext (by simp only [tv, tp, tn, PE.dn, SE.dn, dnL, nth, projV, List.getD_cons_succ, List.getD_cons_zero, Rg.cells, Pc.cells, extV]; rfl) ?_
    refine wp_ext (by simp only [tv, tp, tn, PE.dn, SE.dn, dnL, nth, projV, List.getD_cons_succ, List.getD_cons_zero, Rg.cells, Pc.cells, extV]; rfl) ?_
    refine wp_agg (by simp only [tv, tp, tn, PE.dn, SE.dn, dnL, nth, projV, List.getD_cons_succ, List.getD_cons_zero, Rg.cells, Pc.cells]; rfl) rfl ?_
    refine wp_neq rfl rfl ?_
    refine wp_itePT rfl (by omega) ?_
    exact wp_ret (v := .tup [iv 0, iv 0, iv (eop slip l [a, b] [])]) rfl rfl ⟨_, 0, 0, rfl, .inl ⟨he, rfl, rfl, rfl⟩⟩
theorem ev36R (k : Nat) {slip : Int} {lp : PV} {l : List Rg} {a b : Int} (h : RawH lp l) : Ev (k + 5) 36 [.agg [iv slip, lp], iv a, iv b] fun v => ∃ e g c, v = .tup [iv g, iv c, iv e] ∧ TellR slip l a b e g c := by
  refine rn_of (t := t36) rfl (fn := Try.f36) (by kernel_rfl) (by simp [fitArgs, flagsOf, h.plain]) ?_
  refine wp_agg (by simp only [tv, tp, tn, PE.dn, SE.dn, dnL, nth, projV, List.getD_cons_succ, List.getD_cons_zero, Rg.cells, Pc.cells]; rfl) rfl ?_
  refine wp_one (by simp only [tv, tp, tn, PE.dn, SE.dn, dnL, nth, projV, List.getD_cons_succ, List.getD_cons_zero, Rg.cells, Pc.cells]; rfl) rfl ?_
  refine wp_one (by simp only [tv, tp, tn, PE.dn, SE.dn, dnL, nth, projV, List.getD_cons_succ, List.getD_cons_zero, Rg.cells, Pc.cells]; rfl) rfl ?_
  refine wp_callE (ev69R k (slip := slip) (x := .sl none 1 0 2 [iv a, iv b]) (ns := [a, b]) (y := .snil) (ps := []) h (.inr ⟨0, rfl⟩) (by simp) (.inl ⟨rfl, rfl⟩) (by simp) (by simp)) rfl ?_
  refine wp_neq rfl rfl ?_
  refine wp_iteP rfl (fun he => ?_) (fun he => ?_)
  · exact wp_ret (v := .tup [iv 0, iv 0, iv (eop slip l [a, b] [])]) rfl rfl ⟨_, 0, 0, rfl, .inl ⟨he, rfl, rfl, rfl⟩⟩
  replace he := Decidable.not_not.1 he
  obtain ⟨hH, ⟨m, rfl, hm⟩, m', rfl, hm'⟩ := eop2 h he
  have hra := hH.get hm
  have hrb := hH.get hm'
  have rowa := rowR h.rl hm
  have rowb := rowR h.rl hm'
  have hs0 := hH.s0
  have hs1 := hH.s1
  have hT : ∀ e g c, Told slip (l.getD m default) (l.getD m' default) e g c → TellR slip l m m' e g c := fun e g c h => .inr ⟨he, by simpa using h⟩
  generalize l.getD m default = ra at hra rowa hT
  generalize l.getD m' default = rb at hrb rowb hT
  have n1 := hra.n1
  have n2 := hra.n2
  refine wp _ rowa ?_
  refine wp_join (fun vs => vs = [] ∧ ∀ n' a' : Nat, n' ≤ 5 → ((a' + n' : Nat) : Int) ≤ ra.lines - 1 → anyB slip rb (pcOf ra n' a') = true) ?_ ?_
  · refine wp_loop (fun j vs => ∃ n : Nat, vs = [iv n] ∧ n + j = 6 ∧ ∀ n' a' : Nat, n' < n → ((a' + n' : Nat) : Int) ≤ ra.lines - 1 → anyB slip rb (pcOf ra n' a') = true) 6 (by omega) ⟨0, rfl, by omega, fun n' a' h => by omega⟩ ?_
    rintro j vs ⟨n, rfl, hn, hbn⟩
    refine wp_leq rfl rfl ?_
    refine wp_iteP rfl (fun h1 => ?_) (fun h1 => ?_)
    · refine wp_join (fun vs => vs = [] ∧ ∀ a' : Nat, ((a' + n : Nat) : Int) ≤ ra.lines - 1 → anyB slip rb (pcOf ra n a') = true) ?_ ?_
      · refine wp_loop (fun j vs => ∃ c : Nat, vs = [iv c] ∧ c + j = 13 ∧ c ≤ 12 ∧ ∀ a' : Nat, a' < c → ((a' + n : Nat) : Int) ≤ ra.lines - 1 → anyB slip rb (pcOf ra n a') = true) 13 (by omega) ⟨0, rfl, by omega, by omega, fun a' h => by omega⟩ ?_
        rintro j' vs ⟨c, rfl, hc, hc12, hbc⟩
        refine wp_addN rfl rfl (by omega) ?_
        refine wp_lss rfl rfl ?_
        refine wp_iteP rfl (fun h2 => ?_) (fun h2 => ?_)
        · refine wp_join (fun vs => vs = [.agg ((stl ra n c).map iv)]) ?_ ?_
          · refine wp_loop (fun j vs => ∃ i : Nat, vs = [iv i, .agg ((stl ra i c).map iv)] ∧ i + j = n) n (by omega) ⟨0, rfl, by omega⟩ ?_
            rintro j2 vs ⟨i, rfl, hi⟩
            refine wp_lss rfl rfl ?_
            refine wp_iteP rfl (fun h3 => ?_) (fun h3 => ?_)
            · refine wp_addN rfl rfl (by omega) ?_
              refine wp_callE (ev83 (k + 3) hra (c + i)) rfl ?_
              refine wp_one (by simp only [tv, tp, tn, PE.dn, SE.dn, dnL, nth, projV, List.getD_cons_succ, List.getD_cons_zero, Rg.cells, Pc.cells]; rfl) rfl ?_
              refine wp_pushI (l := stl ra i c) (a := stp ra (c + i)) rfl rfl (by decide) (by rw [stl_len]; omega) ?_
              refine wp_add1 rfl rfl (by omega) ?_
              exact wp_jump ⟨j2 - 1, by omega, i + 1, by rw [stl_succ]; rfl, by omega⟩
            · have : i = n := by omega
              subst this
              refine wp_jumpO (by decide) ?_
              exact wp_jump rfl
          rintro vs rfl
          try refine rn_norm (by (try simp only [List.length_cons, List.length_nil, Nat.reduceAdd, Nat.zero_add]); rfl) (by (try simp only [pushL]); rfl) ?_
          refine wp_frzN (l := stl ra n c) rfl ?_
          refine wp _ rowb ?_
          have hpc := pcOf_ok hra (n := n) (a := c) (by omega)
          refine wp_callE (ev78 (k + 3) hpc) rfl ?_
          refine wp_call (ev77s (k + 1) hs0 hs1 hrb hpc) rfl ?_
          intro y hy
          refine wp_len45 rfl (by assumption) ?_
          refine wp_eql rfl rfl ?_
          refine wp_iteP rfl (fun h4 => ?_) (fun h4 => ?_)
          · refine wp_retO ?_
            refine wp_retO ?_
            refine wp_retO ?_
            refine wp_retO ?_
            refine wp_ret (v := .tup [iv n, iv c, iv 0]) rfl rfl ⟨0, n, c, rfl, hT _ _ _ (.inl ⟨rfl, n, c, rfl, rfl, by omega, by omega, ?_, fun n' a' hh hle => ?_⟩)⟩
            · simp only [anyB, decide_eq_false_iff_not]; omega
            · rcases hh with hh | ⟨rfl, hh⟩
              · exact hbn n' a' hh hle
              · exact hbc a' hh hle
          · refine wp_add1 rfl rfl (by omega) ?_
            refine wp_jump ⟨j' - 1, by omega, c + 1, rfl, by omega, by omega, fun a' ha' hle => ?_⟩
            by_cases e : a' = c
            · subst e; simp only [anyB, decide_eq_true_eq]; omega
            · exact hbc a' (by omega) hle
        · refine wp_jumpO (by decide) ?_
          exact wp_jump ⟨rfl, fun a' hle => hbc a' (by omega) hle⟩
      rintro vs ⟨rfl, hall⟩
      refine wp_add1 rfl rfl (by omega) ?_
      refine wp_jump ⟨j - 1, by omega, n + 1, rfl, by omega, fun n' a' hh hle => ?_⟩
      by_cases e : n' = n
      · subst e; exact hall a' hle
      · exact hbn n' a' (by omega) hle
    · refine wp_jumpO (by decide) ?_
      exact wp_jump ⟨rfl, fun n' a' hh hle => hbn n' a' (by omega) hle⟩
  rintro vs ⟨rfl, hall⟩
  exact wp_ret (v := .tup [iv 0, iv 0, iv 11]) rfl rfl ⟨11, 0, 0, rfl, hT _ _ _ (.inr ⟨rfl, rfl, rfl, hall⟩)⟩
theorem ev4 {slip a b : Int} {lp q : PV} {l : List Rg} (hr : RL lp l) (hrd : ∀ r ∈ l, IL r.sp r.st) (hq1 : intsB q = true) (hq2 : q.plain = true) : Ev 20 4 [.agg [iv slip, lp], iv a, iv b, q] fun v => v = .bool true := by
  refine rn_of (t := t4) rfl (fn := Try.f4) (by kernel_rfl) (by simp [fitArgs, flagsOf, hq2, hr.plainR hrd]) ?_
  refine wp_agg (by simp only [tv, tp, tn, PE.dn, SE.dn, dnL, nth, projV, List.getD_cons_succ, List.getD_cons_zero, Rg.cells, Pc.cells]; rfl) rfl ?_
  refine wp_call (ev16 18 (slip := slip) hr hrd (y := .snil) (ps := []) (.inl ⟨rfl, rfl⟩) (by simp)) rfl ?_
  rintro v ⟨b', rfl, hb⟩
  refine wp_iteB rfl (fun h => ?_) (fun h => ?_)
  · refine wp_callE (w := .bool true) (fun ω => ⟨_, lined19 ω, rfl⟩) rfl ?_
    exact wp_ret rfl rfl rfl
  obtain ⟨⟨hl20, hs20⟩, _⟩ := hb h
  have hR : RawH lp l := ⟨hr, hrd, hl20, hs20⟩
  refine wp q (by simp [Prim.rn, pushL, tv, PE.dn, SE.dn, nth, intsV, hq1]) ?_
  refine wp_call (ev19 13 hR) rfl ?_
  rintro v ⟨s2, lp2, l2, lp3, l3, rfl, hH, hl3, hR3, hl32⟩
  have hR2 := hH.raw
  have hrows : ∀ i : Nat, i < 4 → ∃ s lpi li, rowV 2 (.sl none 2 0 4 [iv slip, lp, iv s2, lp2, iv s2, lp3, iv s2, lp2]) (iv i) = some (.agg [iv s, lpi]) ∧ RawH lpi li
    | 0, _ => ⟨slip, lp, l, rfl, hR⟩
    | 1, _ => ⟨s2, lp2, l2, rfl, hR2⟩
    | 2, _ => ⟨s2, lp3, l3, rfl, hR3⟩
    | 3, _ => ⟨s2, lp2, l2, rfl, hR2⟩
  refine wp_join (fun vs => vs = []) ?_ ?_
  · refine wp_loop (fun j vs => ∃ i : Nat, vs = [iv i] ∧ i + j = 4) 4 (by omega) ⟨0, rfl, by omega⟩ ?_
    rintro j vs ⟨i, rfl, hij⟩
    try refine rn_norm (by (try simp only [List.length_cons, List.length_nil, Nat.reduceAdd, Nat.zero_add]); rfl) (by (try simp only [pushL]); rfl) ?_
    refine wp_len33 rfl ?_
    refine wp_lss rfl rfl ?_
    refine wp_iteP rfl (fun h1 => ?_) (fun h1 => ?_)
    · obtain ⟨s, lpi, li, r1, hRi⟩ := hrows i (by omega)
      have hD := hRi.dup
      refine wp _ r1 ?_
      refine wp_callE (ev22R _ hRi) rfl ?_
      refine wp_agg (by simp only [tv, tp, tn, PE.dn, SE.dn, dnL, nth, projV, List.getD_cons_succ, List.getD_cons_zero, Rg.cells, Pc.cells]; rfl) rfl ?_
      refine wp_join (fun vs => vs = []) ?_ ?_
      · refine wp_loop (fun j vs => ∃ m : Int, vs = [iv m] ∧ -1 ≤ m ∧ m + j = 9) 10 (by omega) ⟨-1, rfl, by omega, by omega⟩ ?_
        rintro j2 vs ⟨m, rfl, hm0, hm⟩
        refine wp_lss rfl rfl ?_
        refine wp_iteP rfl (fun h2 => ?_) (fun h2 => ?_)
        · obtain ⟨mq, hmq⟩ : ∃ x, aBin Try.prog .quo 3 (iv m) (iv 3) = some (iv x) := ⟨_, rfl⟩
          obtain ⟨mr, hmr⟩ : ∃ x, aBin Try.prog .rem 3 (iv m) (iv 3) = some (iv x) := ⟨_, rfl⟩
          refine wp _ hmq ?_
          refine wp _ hmr ?_
          refine wp_lss rfl rfl ?_
          refine wp_join (fun vs => ∃ x y : Int, vs = [iv x, iv y]) ?_ ?_
          · refine wp_iteP rfl (fun h3 => ?_) (fun h3 => ?_)
            · exact wp_jump ⟨a, b, rfl⟩
            · exact wp_jump ⟨mq, mr, rfl⟩
          rintro vs ⟨x, y, rfl⟩
          try refine rn_norm (by (try simp only [List.length_cons, List.length_nil, Nat.reduceAdd, Nat.zero_add]); rfl) (by (try simp only [pushL]); rfl) ?_
          refine wp_call (ev35R _ hD) rfl ?_
          rintro v ⟨e, g, c, rfl, ht⟩
          replace ht := tellR_dup ht
          refine wp_ext (by simp only [tv, tp, tn, PE.dn, SE.dn, dnL, nth, projV, List.getD_cons_succ, List.getD_cons_zero, Rg.cells, Pc.cells, extV]; rfl) ?_
          refine wp_ext (by simp only [tv, tp, tn, PE.dn, SE.dn, dnL, nth, projV, List.getD_cons_succ, List.getD_cons_zero, Rg.cells, Pc.cells, extV]; rfl) ?_
          refine wp_ext (by simp only [tv, tp, tn, PE.dn, SE.dn, dnL, nth, projV, List.getD_cons_succ, List.getD_cons_zero, Rg.cells, Pc.cells, extV]; rfl) ?_
          refine wp _ r1 ?_
          refine wp_call (ev36R _ hRi) rfl ?_
          rintro v ⟨e', g', c', rfl, ht'⟩
          obtain ⟨rfl, rfl, rfl⟩ := tellR_one ht ht'
          refine wp_ext (by simp only [tv, tp, tn, PE.dn, SE.dn, dnL, nth, projV, List.getD_cons_succ, List.getD_cons_zero, Rg.cells, Pc.cells, extV]; rfl) ?_
          refine wp_ext (by simp only [tv, tp, tn, PE.dn, SE.dn, dnL, nth, projV, List.getD_cons_succ, List.getD_cons_zero, Rg.cells, Pc.cells, extV]; rfl) ?_
          refine wp_ext (by simp only [tv, tp, tn, PE.dn, SE.dn, dnL, nth, projV, List.getD_cons_succ, List.getD_cons_zero, Rg.cells, Pc.cells, extV]; rfl) ?_
          refine wp_join (fun vs => vs = [.bool false]) ?_ ?_
          · refine wp_neq rfl rfl ?_
            refine wp_itePF rfl (by omega) ?_
            refine wp_neq rfl rfl ?_
            refine wp_itePF rfl (by omega) ?_
            refine wp_neq rfl rfl ?_
            exact wp_jump (jb_f fun h => h rfl)
          rintro vs rfl
          refine wp_iteF rfl ?_
          refine wp_add rfl rfl (by omega) (by omega) ?_
          exact wp_jump ⟨j2 - 1, by omega, m + 1, rfl, by omega, by omega⟩
        · refine wp_jumpO (by decide) ?_
          exact wp_jump rfl
      rintro vs rfl
      try refine rn_norm (by (try simp only [List.length_cons, List.length_nil, Nat.reduceAdd, Nat.zero_add]); rfl) (by (try simp only [pushL]); rfl) ?_
      refine wp _ r1 ?_
      refine wp_callE (ev37 _ hD hRi (LikeR.symm (dup_like li))) rfl ?_
      refine wp_not rfl ?_
      refine wp_iteF rfl ?_
      refine wp_add1 rfl rfl (by omega) ?_
      exact wp_jump ⟨j - 1, by omega, i + 1, rfl, by omega⟩
    · refine wp_jumpO (by decide) ?_
      exact wp_jump rfl
  rintro vs rfl
  refine wp_callE (w := .bool true) (fun ω => ⟨_, lined19 ω, rfl⟩) rfl ?_
  exact wp_ret rfl rfl rfl
theorem law4 : ∀ qs, ShL Try.prog 6 Try.f4.params.toList qs → ∀ ω, E Try.prog 20 ω 4 qs = some (.bool true) := by
  intro qs h ω
  rw [show Try.f4.params.toList = [24, 3, 3, 25] by kernel_rfl] at h
  obtain ⟨a, _, rfl, ha, h⟩ := shL_cons h
  obtain ⟨b, _, rfl, hb, h⟩ := shL_cons h
  obtain ⟨c, _, rfl, hc, h⟩ := shL_cons h
  obtain ⟨d, _, rfl, hd, h⟩ := shL_cons h
  have h0 := shL_nil h
  subst h0
  obtain ⟨slip, lp, l, rfl, hr, hrd⟩ := shV_rulings ha
  obtain ⟨n, rfl⟩ := shV_int hb
  obtain ⟨m, rfl⟩ := shV_int hc
  obtain ⟨h1, h2, _⟩ := nums_shape hd
  obtain ⟨v, hv, rfl⟩ := ev4 (a := n) (b := m) hr hrd h1 h2 ω
  exact hv
end Go.Proofs.Ytlminnpaeaganaa
namespace Go.Proofs.Ytlminnpaeaganaa
open Go Go.RowKit Go.WideShapes Go.ChangeShapes

set_option maxRecDepth 100000
theorem ruleTells_lifted (hE : ∀ qs, ShL Try.prog 6 Try.f4.params.toList qs → ∀ ω, E Try.prog 20 ω 4 qs = some (.bool true)) (os : Os) (started : os.Started) (H : Type) (enc : TypeId × Value → H) :
    ReturnsInHanded {} Try.checked os 4 .any (Rows.ruleTellsSpec.pre6 enc Try.prog Try.f4 Rows.ruleTellsRow.domain false) (Rows.ruleTellsSpec.post enc Try.prog Try.f4 false true false false) := by
  refine returnsInHanded_of_change (C := Try.checked) own started (by kernel_rfl) Try.func4
    (ChangeSpec.witness6 (enc := enc) (C := Try.checked) false ⟨#[], #[.agg #[.int .i64 0, .slice none 0 0], .int .i64 0, .int .i64 0, .slice none 0 0], []⟩ 8 (by kernel_rfl) (by kernel_rfl) (by kernel_rfl) (by kernel_rfl)) ?_
  intro W base args ds gs before hval hW _ _
  refine law_contract (P := Try.prog) (k := 6) (bt := 4) laidOut rfl rfl (by kernel_rfl) (by kernel_rfl) (by
    intro t ht
    have : Try.f4.params.toList.all (fun t => Try.prog.readableRec t && decide (t < Try.prog.types.size)) = true := by kernel_rfl
    have := List.all_eq_true.1 this t ht
    simpa using this) (fun ds hl => ?_) (fun qs hq m => ?_) hval hW
  · match ds, hl with
    | [d0, d1, d2, d3], _ => rfl
  · refine ((e_sound 20).ans 4 qs (fun ω => by rw [hE qs hq ω]; rfl) qs m (argL_self (shL_plain hq))).mono ?_
    rintro v E m' ⟨⟨ω, h1⟩, _, h2, h3⟩
    rw [hE qs hq ω] at h1
    injection h1 with h1
    exact ⟨h1.symm, h2, h3⟩
theorem ruleTells_holds (hE : ∀ qs, ShL Try.prog 6 Try.f4.params.toList qs → ∀ ω, E Try.prog 20 ω 4 qs = some (.bool true)) : Rows.RuleTellsSaid :=
  OpenClaim.holds_of_wide 4 Try.f4 rfl rfl rfl rfl rfl rfl rfl ⟨rfl, rfl, rfl, rfl, rfl⟩ rfl rfl rfl rfl rfl (by kernel_rfl) Try.func4 (by kernel_rfl)
    (of_decide_eq_true (by kernel_rfl)) (by unfold Func.isWrapper; first | (rw [if_pos (by decide +kernel)]; kernel_rfl) | (rw [if_neg (by decide +kernel)]; exact ⟨rfl, rfl⟩))
    (fun os started H enc _ => ruleTells_lifted hE os started H enc)
end Go.Proofs.Ytlminnpaeaganaa
namespace Go.Proofs.Ytlminnpaeaganaa
open Go
theorem ruleTellsProved : Rows.RuleTellsSaid := ruleTells_holds law4
#print axioms ruleTellsProved
end Go.Proofs.Ytlminnpaeaganaa
