/- Wrong: the law is proved. No condition. -/
import Derived.Test.YtlminnpaeaganaaMWrongA
import Derived.Test.YtlminnpaeaganaaMRawS
import Derived.Test.YtlminnpaeaganaaRows
import Derived.Test.YtlminnpaeaganaaChecked
import Derived.Test.YtlminnpaeaganaaMRead
namespace Go.Proofs.Ytlminnpaeaganaa
open Go Go.RowKit
set_option linter.unusedVariables false
set_option linter.unusedSimpArgs false
set_option maxRecDepth 100000

theorem ev49c : ∀ n : Nat, n ≤ 5 → ∀ m : Nat, m ≤ n → Ev 19 49 [iv n, iv m] fun v => v = .sl none 1 0 (chs n m).length ((chs n m).map G)
  | 0, _, 0, _ => fun ω => ⟨.sl none 1 0 (chs 0 0).length ((chs 0 0).map G), by kernel_rfl, rfl⟩
  | 1, _, 0, _ => fun ω => ⟨.sl none 1 0 (chs 1 0).length ((chs 1 0).map G), by kernel_rfl, rfl⟩
  | 1, _, 1, _ => fun ω => ⟨.sl none 1 0 (chs 1 1).length ((chs 1 1).map G), by kernel_rfl, rfl⟩
  | 2, _, 0, _ => fun ω => ⟨.sl none 1 0 (chs 2 0).length ((chs 2 0).map G), by kernel_rfl, rfl⟩
  | 2, _, 1, _ => fun ω => ⟨.sl none 1 0 (chs 2 1).length ((chs 2 1).map G), by kernel_rfl, rfl⟩
  | 2, _, 2, _ => fun ω => ⟨.sl none 1 0 (chs 2 2).length ((chs 2 2).map G), by kernel_rfl, rfl⟩
  | 3, _, 0, _ => fun ω => ⟨.sl none 1 0 (chs 3 0).length ((chs 3 0).map G), by kernel_rfl, rfl⟩
  | 3, _, 1, _ => fun ω => ⟨.sl none 1 0 (chs 3 1).length ((chs 3 1).map G), by kernel_rfl, rfl⟩
  | 3, _, 2, _ => fun ω => ⟨.sl none 1 0 (chs 3 2).length ((chs 3 2).map G), by kernel_rfl, rfl⟩
  | 3, _, 3, _ => fun ω => ⟨.sl none 1 0 (chs 3 3).length ((chs 3 3).map G), by kernel_rfl, rfl⟩
  | 4, _, 0, _ => fun ω => ⟨.sl none 1 0 (chs 4 0).length ((chs 4 0).map G), by kernel_rfl, rfl⟩
  | 4, _, 1, _ => fun ω => ⟨.sl none 1 0 (chs 4 1).length ((chs 4 1).map G), by kernel_rfl, rfl⟩
  | 4, _, 2, _ => fun ω => ⟨.sl none 1 0 (chs 4 2).length ((chs 4 2).map G), by kernel_rfl, rfl⟩
  | 4, _, 3, _ => fun ω => ⟨.sl none 1 0 (chs 4 3).length ((chs 4 3).map G), by kernel_rfl, rfl⟩
  | 4, _, 4, _ => fun ω => ⟨.sl none 1 0 (chs 4 4).length ((chs 4 4).map G), by kernel_rfl, rfl⟩
  | 5, _, 0, _ => fun ω => ⟨.sl none 1 0 (chs 5 0).length ((chs 5 0).map G), by kernel_rfl, rfl⟩
  | 5, _, 1, _ => fun ω => ⟨.sl none 1 0 (chs 5 1).length ((chs 5 1).map G), by kernel_rfl, rfl⟩
  | 5, _, 2, _ => fun ω => ⟨.sl none 1 0 (chs 5 2).length ((chs 5 2).map G), by kernel_rfl, rfl⟩
  | 5, _, 3, _ => fun ω => ⟨.sl none 1 0 (chs 5 3).length ((chs 5 3).map G), by kernel_rfl, rfl⟩
  | 5, _, 4, _ => fun ω => ⟨.sl none 1 0 (chs 5 4).length ((chs 5 4).map G), by kernel_rfl, rfl⟩
  | 5, _, 5, _ => fun ω => ⟨.sl none 1 0 (chs 5 5).length ((chs 5 5).map G), by kernel_rfl, rfl⟩
  | n + 6, h, _, _ => by omega
/-- Where a piece lies, gaps of a list aside. -/
theorem ev50 (k : Nat) {slip : Int} (h0 : 0 ≤ slip) (h1 : slip ≤ 3) {r : Rg} (hr : r.ok) {p : Pc} (hp : p.ok) {line : Nat} (hl : (line : Int) < r.lines) {xh : PV} (hxh : IL xh (htl r r.lines.toNat)) {xb : PV} {but : List Int} (hxb : IL xb but) (hbl : but.length ≤ 5) {fl : List Bool} (hfl : ∀ i, i < p.g.length → fl.getD i false = decide ((i : Int) ∈ but)) : Ev (k + 2) 50 [xh, iv r.width, iv slip, .agg p.cells, iv line, xb] fun v => v = .bool (sitF slip r p line fl) := by
  refine rn_of (t := t50) rfl (fn := Try.f50) (by kernel_rfl) (by simp [fitArgs, flagsOf, Pc.cells, hp.il.plain, hxh.plain, hxb.plain]) ?_
  have g5 := hp.gl
  have n1 := hr.n1
  have n2 := hr.n2
  have w1 := hr.w1
  have w2 := hr.w2
  have p1 := hp.u0; have p2 := hp.u1; have p3 := hp.d0; have p4 := hp.d1; have p5 := hp.w0; have p6 := hp.w1
  have hst := stp_ok hr
  have hil := hp.il
  have hln := htl_len r r.lines.toNat
  have hh : ∀ i : Nat, (i : Int) < r.lines → rowV 1 xh (iv i) = some (.agg [iv (ht r i)]) := fun i hi => by
    have g := rowI hxh (n := i) (by rw [htl_len]; omega)
    rwa [htl_get r (by omega)] at g
  have hs1 : ∀ i, ht r (i + 1) = ht r i + stp r i := fun i => rfl
  have hok := ht_ok hr
  refine wp_agg (cs := p.cells) rfl rfl ?_
  refine wp_len25 rfl hil ?_
  refine wp_addN rfl rfl (by omega) ?_
  refine wp_len25 rfl hxh ?_
  refine wp_geq rfl rfl ?_
  refine wp_iteP rfl (fun h2 => ?_) (fun h2 => ?_)
  · have h3 : ¬ (((line + p.g.length : Nat) : Int) ≤ r.lines - 1) := by omega
    refine wp_ret rfl rfl ?_
    unfold sitF
    rw [decide_eq_false h3]; rfl
  have hle : ((line + p.g.length : Nat) : Int) ≤ r.lines - 1 := by omega
  have hd : decide (((line + p.g.length : Nat) : Int) ≤ r.lines - 1) = true := decide_eq_true hle
  refine wp_join (fun vs => vs = [] ∧ gsF slip r p line fl = true) ?_ ?_
  · refine wp_loop (fun j vs => ∃ i : Nat, vs = [iv i] ∧ i + j = p.g.length ∧ ∀ k, k < i → (fl.getD k false || nr slip (p.g.getD k 0) (stp r (line + k))) = true) p.g.length (by omega) ⟨0, rfl, by omega, fun k hk => by omega⟩ ?_
    rintro j vs ⟨i, rfl, hi, hb⟩
    try refine rn_norm (by (try simp only [List.length_cons, List.length_nil, Nat.reduceAdd, Nat.zero_add]); rfl) (by (try simp only [pushL]); rfl) ?_
    refine wp_len25 rfl hil ?_
    refine wp_lss rfl rfl ?_
    refine wp_iteP rfl (fun h3 => ?_) (fun h3 => ?_)
    · have hlt : i < p.g.length := by omega
      have hg := hp.get hlt
      have hs := hst (line + i)
      have hrg := rowI hil hlt
      have hfi := hfl i hlt
      have hbad : (fl.getD i false || nr slip (p.g.getD i 0) (stp r (line + i))) = false → gsF slip r p line fl = false := fun h => Bool.eq_false_iff.2 fun hc => by
        have := List.all_eq_true.1 hc i (by simpa using hlt)
        rw [h] at this; cases this
      have hst' : (fl.getD i false || nr slip (p.g.getD i 0) (stp r (line + i))) = true → ∀ k, k < i + 1 → (fl.getD k false || nr slip (p.g.getD k 0) (stp r (line + k))) = true := fun h k hk => by
        by_cases e : k = i
        · subst e; exact h
        · exact hb k (by omega)
      generalize p.g.getD i 0 = a at hg hrg hbad hst'
      have q1 := hok (line + i + 1)
      have q2 := hok (line + i)
      have q3 := hs1 (line + i)
      refine wp _ hrg ?_
      refine wp_addN rfl rfl (by omega) ?_
      refine wp_add1 rfl rfl (by omega) ?_
      refine wp _ (hh (line + i + 1) (by omega)) ?_
      refine wp_addN rfl rfl (by omega) ?_
      refine wp _ (hh (line + i) (by omega)) ?_
      refine wp_sub rfl rfl (by omega) (by omega) ?_
      refine wp_sub rfl rfl (by omega) (by omega) ?_
      refine wp_join (fun vs => vs = [.bool (!(fl.getD i false || nr slip a (stp r (line + i))))]) ?_ ?_
      · refine wp_call (ev61 (k + 0 + 1) hxb (by omega) (i : Int)) rfl ?_
        rintro v ⟨x, rfl, hx⟩
        refine wp_lss rfl rfl ?_
        refine wp_iteP rfl (fun h4 => ?_) (fun h4 => ?_)
        · have e : fl.getD i false = false := by rw [hfi]; exact decide_eq_false fun h => by have := hx.2 h; omega
          rw [e, Bool.false_or]
          refine wp_gtr rfl rfl ?_
          refine wp_iteP rfl (fun h5 => ?_) (fun h5 => ?_)
          · have e2 : nr slip a (stp r (line + i)) = false := by rw [nr_eq]; exact decide_eq_false (by omega)
            rw [e2]
            exact wp_jump rfl
          · refine wp (iv (-slip)) (by simp [Prim.rn, tv, PE.dn, SE.dn, nth, aUn, wrap64 (n := -slip) (by omega) (by omega)]) ?_
            refine wp_lss rfl rfl ?_
            refine wp_jump ?_
            show [PV.bool _] = [PV.bool _]
            rw [nr_eq, ← decide_not]
            exact jb_eq (by omega)
        · have e : fl.getD i false = true := by rw [hfi]; exact decide_eq_true (hx.1 (by omega))
          rw [e, Bool.true_or]
          exact wp_jump rfl
      rintro vs rfl
      try refine rn_norm (by (try simp only [List.length_cons, List.length_nil, Nat.reduceAdd, Nat.zero_add]); rfl) (by (try simp only [pushL]); rfl) ?_
      refine wp_iteB rfl (fun h4 => ?_) (fun h4 => ?_)
      · refine wp_retO ?_
        refine wp_retO ?_
        refine wp_ret rfl rfl ?_
        unfold sitF
        rw [hd, hbad (by cases hv : (fl.getD i false || nr slip a (stp r (line + i))) with | false => rfl | true => rw [hv] at h4; cases h4)]; rfl
      · refine wp_add1 rfl rfl (by omega) ?_
        exact wp_jump ⟨j - 1, by omega, i + 1, rfl, by omega, hst' (by cases hv : (fl.getD i false || nr slip a (stp r (line + i))) with | true => rfl | false => rw [hv] at h4; cases h4)⟩
    · refine wp_jumpO (by decide) ?_
      exact wp_jump ⟨rfl, List.all_eq_true.2 fun k hk => hb k (by simp at hk; omega)⟩
  rintro vs ⟨rfl, hgs⟩
  try refine rn_norm (by (try simp only [List.length_cons, List.length_nil, Nat.reduceAdd, Nat.zero_add]); rfl) (by (try simp only [pushL]); rfl) ?_
  have hU : upB slip r p line = decide (0 < line ∧ stp r (line - 1) ≤ p.up - slip) := upB_eq
  have hD : dnB slip r p line = decide (((line + p.g.length : Nat) : Int) < r.lines - 1 ∧ stp r (line + p.g.length) ≤ p.dn - slip) := dnB_eq
  have m1 := hok (line + p.g.length)
  have m2 := hok (line + p.g.length + 1)
  have m3 := hs1 (line + p.g.length)
  have m4 := hst (line + p.g.length)
  have m5 := hok line
  have m6 := hok (line - 1)
  have m7 := hst (line - 1)
  have m8 : 0 < line → ht r line = ht r (line - 1) + stp r (line - 1) := fun h => by
    obtain ⟨q, rfl⟩ : ∃ q, line = q + 1 := ⟨line - 1, by omega⟩
    exact hs1 q
  refine wp_join (fun vs => vs = [.bool (!upB slip r p line), .bool (!dnB slip r p line)]) ?_ ?_
  · refine wp_eql rfl rfl ?_
    refine wp_iteP rfl (fun h3 => ?_) (fun h3 => ?_)
    · have e0 : upB slip r p line = false := by rw [hU]; exact decide_eq_false (by omega)
      refine wp_len25 rfl hxh ?_
      refine wp_sub1 rfl rfl (by omega) ?_
      refine wp_eql rfl rfl ?_
      refine wp_iteP rfl (fun h4 => ?_) (fun h4 => ?_)
      · have e : dnB slip r p line = false := by rw [hD]; exact decide_eq_false (by omega)
        refine wp_jump ?_
        show [PV.bool _, PV.bool _] = [PV.bool _, PV.bool _]
        rw [e, e0]
        try rfl
      · refine wp_add1 rfl rfl (by omega) ?_
        refine wp _ (hh (line + p.g.length + 1) (by omega)) ?_
        refine wp _ (hh (line + p.g.length) (by omega)) ?_
        refine wp_sub rfl rfl (by omega) (by omega) ?_
        refine wp_add rfl rfl (by omega) (by omega) ?_
        refine wp_gtr rfl rfl ?_
        have e : dnB slip r p line = !decide (p.dn < ht r (line + p.g.length + 1) - ht r (line + p.g.length) + slip) := by
          rw [hD, ← decide_not]; exact decide_eq_decide.2 (by omega)
        refine wp_jump ?_
        show [PV.bool _, PV.bool _] = [PV.bool _, PV.bool _]
        rw [e, e0, Bool.not_not]
        try rfl
    · refine wp _ (hh line (by omega)) ?_
      refine wp_sub1 rfl rfl (by omega) ?_
      refine wp _ (hh (line - 1) (by omega)) ?_
      have m9 := m8 (by omega)
      refine wp_sub rfl rfl (by omega) (by omega) ?_
      refine wp_add rfl rfl (by omega) (by omega) ?_
      refine wp_gtr rfl rfl ?_
      have e0 : decide (p.up < ht r line - ht r (line - 1) + slip) = !upB slip r p line := by
        rw [hU, ← decide_not]; exact decide_eq_decide.2 (by omega)
      rw [e0]
      refine wp_len25 rfl hxh ?_
      refine wp_sub1 rfl rfl (by omega) ?_
      refine wp_eql rfl rfl ?_
      refine wp_iteP rfl (fun h4 => ?_) (fun h4 => ?_)
      · have e : dnB slip r p line = false := by rw [hD]; exact decide_eq_false (by omega)
        refine wp_jump ?_
        show [PV.bool _, PV.bool _] = [PV.bool _, PV.bool _]
        rw [e, show (!upB slip r p line) = (!upB slip r p line) from rfl]
        try rfl
      · refine wp_add1 rfl rfl (by omega) ?_
        refine wp _ (hh (line + p.g.length + 1) (by omega)) ?_
        refine wp _ (hh (line + p.g.length) (by omega)) ?_
        refine wp_sub rfl rfl (by omega) (by omega) ?_
        refine wp_add rfl rfl (by omega) (by omega) ?_
        refine wp_gtr rfl rfl ?_
        have e : dnB slip r p line = !decide (p.dn < ht r (line + p.g.length + 1) - ht r (line + p.g.length) + slip) := by
          rw [hD, ← decide_not]; exact decide_eq_decide.2 (by omega)
        refine wp_jump ?_
        show [PV.bool _, PV.bool _] = [PV.bool _, PV.bool _]
        rw [e, show (!upB slip r p line) = (!upB slip r p line) from rfl, Bool.not_not]
        try rfl
  rintro vs rfl
  try refine rn_norm (by (try simp only [List.length_cons, List.length_nil, Nat.reduceAdd, Nat.zero_add]); rfl) (by (try simp only [pushL]); rfl) ?_
  refine wp_join (fun vs => vs = [.bool ((!upB slip r p line) && ((!dnB slip r p line) && wdB slip r p))]) ?_ ?_
  · refine wp_iteB rfl (fun h3 => ?_) (fun h3 => ?_)
    · rw [h3, Bool.true_and]
      refine wp_iteB rfl (fun h4 => ?_) (fun h4 => ?_)
      · rw [h4, Bool.true_and]
        refine wp_eql rfl rfl ?_
        refine wp_iteP rfl (fun h5 => ?_) (fun h5 => ?_)
        · have e : wdB slip r p = true := by unfold wdB; rw [decide_eq_true h5]; rfl
          rw [e]
          exact wp_jump rfl
        · have e : wdB slip r p = decide (p.wd - r.width ≤ slip ∧ r.width - p.wd ≤ slip) := by unfold wdB; rw [decide_eq_false h5, nr_eq]; rfl
          rw [e]
          refine wp_sub rfl rfl (by omega) (by omega) ?_
          refine wp_leq rfl rfl ?_
          refine wp_iteP rfl (fun h6 => ?_) (fun h6 => ?_)
          · refine wp_sub rfl rfl (by omega) (by omega) ?_
            refine wp_leq rfl rfl ?_
            exact wp_jump (jb_eq (by omega))
          · exact wp_jump (jb_fd (by omega))
      · rw [h4, Bool.false_and]
        exact wp_jump rfl
    · rw [h3, Bool.false_and]
      exact wp_jump rfl
  rintro vs rfl
  try refine rn_norm (by (try simp only [List.length_cons, List.length_nil, Nat.reduceAdd, Nat.zero_add]); rfl) (by (try simp only [pushL]); rfl) ?_
  refine wp_ret rfl rfl ?_
  unfold sitF
  rw [hd, hgs]
  cases upB slip r p line <;> cases dnB slip r p line <;> rfl
end Go.Proofs.Ytlminnpaeaganaa
namespace Go.Proofs.Ytlminnpaeaganaa
open Go Go.RowKit
set_option linter.unusedVariables false
set_option linter.unusedSimpArgs false
set_option maxRecDepth 100000

def fitB (slip : Int) (r : Rg) (p : Pc) (fl : List Bool) (i : Nat) : Bool := sitF slip r p i fl || (p.fr && sitF slip r (half p) i fl.reverse)
theorem anyF_any (slip : Int) (r : Rg) (p : Pc) (fl : List Bool) : anyF slip r p fl = (List.range r.lines.toNat).any (fitB slip r p fl) := by
  rw [Bool.eq_iff_iff]
  constructor
  · intro h
    simp only [anyF, decide_eq_true_eq] at h
    obtain ⟨⟨i, t⟩, hy⟩ := List.exists_mem_of_length_pos h
    simp only [spotsF, List.mem_append] at hy
    rcases hy with hy | hy
    · obtain ⟨_, h1, h2⟩ := mem_sptF.1 hy
      exact List.any_eq_true.2 ⟨i, List.mem_range.2 h1, by unfold fitB; rw [h2]; rfl⟩
    · split at hy
      · rename_i hf
        obtain ⟨_, h1, h2⟩ := mem_sptF.1 hy
        exact List.any_eq_true.2 ⟨i, List.mem_range.2 h1, by unfold fitB; rw [h2, hf, Bool.and_true, Bool.or_true]⟩
      · simp at hy
  · intro h
    obtain ⟨i, hi, hB⟩ := List.any_eq_true.1 h
    have hi := List.mem_range.1 hi
    unfold fitB at hB
    rcases Bool.or_eq_true_iff.1 hB with h1 | h1
    · exact anyF_of (s := (i, false)) (by simp only [spotsF, List.mem_append]; exact .inl (mem_sptF.2 ⟨rfl, hi, h1⟩))
    · obtain ⟨h2, h3⟩ := (Bool.and_eq_true_iff).1 h1
      exact anyF_of (s := (i, true)) (by simp only [spotsF, List.mem_append, h2, if_true]; exact .inr (mem_sptF.2 ⟨rfl, hi, h3⟩))
def backL (n s : Nat) : List Int := (gapsL s).map fun g => (n : Int) - 1 - g
theorem back_key : ∀ n : Nat, n < 6 → ∀ s : Nat, s < 2 ^ n → ∀ i : Nat, i < n → (flS n s).getD i false = decide ((i : Int) ∈ gapsL s) ∧ (flS n s).reverse.getD i false = decide ((i : Int) ∈ backL n s) := of_decide_eq_true (by kernel_rfl)
theorem range_any (B : Nat → Bool) (n : Nat) : (List.range (n + 1)).any B = ((List.range n).any B || B n) := by
  rw [List.range_succ, List.any_append]
  simp
/-- What the program answered, told. -/
structure Wr (o : Option Nat) (e : Int) (L : List Int) : Prop where
  is : (∃ s, o = some s ∧ e = 0 ∧ L = gapsL s) ∨ (o = none ∧ e = 11 ∧ L = [])
theorem wr_of (o : Option Nat) : ∃ y e L, wrV o = .tup [y, iv e] ∧ IL y L ∧ Wr o e L := by
  cases o with
  | some s => exact ⟨G s, 0, gapsL s, rfl, G_il s, ⟨.inl ⟨s, rfl, rfl, rfl⟩⟩⟩
  | none => exact ⟨.snil, 11, [], rfl, snil1, ⟨.inr ⟨rfl, rfl, rfl⟩⟩⟩
theorem ev9 {q : PV} (hq1 : intsB q = true) (hq2 : q.plain = true) : Ev 20 9 [q] fun v => v = .bool true := by
  refine rn_of (t := t9) rfl (fn := Try.f9) (by kernel_rfl) (by simp [fitArgs, flagsOf, hq2]) ?_
  refine wp q (by simp [Prim.rn, pushL, tv, PE.dn, SE.dn, nth, intsV, hq1]) ?_
  refine wp_call (ev38 14 2 (by omega) (by omega)) rfl ?_
  rintro v ⟨slip, lp, l, rfl, s0, s3, hrl, hl1, hl2, hok⟩
  have hH : Hand slip lp l := ⟨s0, s3, hrl, hl1, by omega, hok⟩
  refine wp_agg (by simp only [tv, tp, tn, PE.dn, SE.dn, dnL, nth, projV, List.getD_cons_succ, List.getD_cons_zero, Rg.cells, Pc.cells]; rfl) rfl ?_
  refine wp_call (ev20 13 hH) rfl ?_
  rintro v ⟨p, rfl, hp⟩
  refine wp_agg (cs := [p.gp, iv p.up, iv p.dn, iv p.wd, .bool p.fr]) rfl rfl ?_
  have g5 := hp.gl
  have hil := hp.il
  refine wp_join (fun vs => vs = []) ?_ ?_
  · refine wp_loop (fun j vs => ∃ i : Nat, vs = [iv i] ∧ i + j = l.length) l.length (by omega) ⟨0, rfl, by omega⟩ ?_
    rintro j vs ⟨i, rfl, hi⟩
    refine wp_len22 rfl (by assumption) ?_
    refine wp_lss rfl rfl ?_
    refine wp_iteP rfl (fun h => ?_) (fun h => ?_)
    · have hlt : i < l.length := by omega
      have hr := hH.get hlt
      have hrow := rowR hrl hlt
      have e48 := ev48 12 hH hlt hp
      have e24 := ev24 14 hH hlt
      have hfa : ∀ m k, m ≤ p.g.length → _ → _ → _ → _ → _ := fun m k => find_at (n := p.g.length) (m := m) (i := k) (A := anyS slip (l.getD i default) p)
      have hfn : (∀ t ∈ allM p.g.length, anyS slip (l.getD i default) p t = false) → _ := find_none
      have hAd : ∀ s, anyS slip (l.getD i default) p s = (List.range (l.getD i default).lines.toNat).any (fitB slip (l.getD i default) p (flS p.g.length s)) := fun s => anyF_any _ _ _ _
      obtain ⟨y, e, L, hw, hyL, hWr⟩ := wr_of ((allM p.g.length).find? (anyS slip (l.getD i default) p))
      rw [hw] at e48
      generalize (allM p.g.length).find? (anyS slip (l.getD i default) p) = o at hfa hfn hWr
      generalize anyS slip (l.getD i default) p = A at hfa hfn hAd
      generalize l.getD i default = r at hr hrow e24 hAd
      have n1 := hr.n1
      have n2 := hr.n2
      have he : e = 0 ∨ e = 11 := by rcases hWr.is with ⟨_, _, h, _⟩ | ⟨_, h, _⟩ <;> omega
      have hsome : ∀ s, o = some s → e = 0 ∧ L = gapsL s := fun s hs => by
        rcases hWr.is with ⟨s', h1, h2, h3⟩ | ⟨h1, _⟩
        · rw [hs] at h1; injection h1 with h1; subst h1; exact ⟨h2, h3⟩
        · rw [hs] at h1; cases h1
      have hnone : o = none → e = 11 ∧ L = [] := fun hs => by
        rcases hWr.is with ⟨s', h1, _⟩ | ⟨_, h2, h3⟩
        · rw [hs] at h1; cases h1
        · exact ⟨h2, h3⟩
      refine wp_callE e48 rfl ?_
      refine wp_ext (by simp only [tv, tp, tn, PE.dn, SE.dn, dnL, nth, projV, List.getD_cons_succ, List.getD_cons_zero, Rg.cells, Pc.cells, extV]; rfl) ?_
      refine wp_ext (by simp only [tv, tp, tn, PE.dn, SE.dn, dnL, nth, projV, List.getD_cons_succ, List.getD_cons_zero, Rg.cells, Pc.cells, extV]; rfl) ?_
      refine wp_call e24 rfl ?_
      rintro v ⟨xh, rfl, hxh⟩
      refine wp_ext (by simp only [tv, tp, tn, PE.dn, SE.dn, dnL, nth, projV, List.getD_cons_succ, List.getD_cons_zero, Rg.cells, Pc.cells, extV]; rfl) ?_
      refine wp_ext (by simp only [tv, tp, tn, PE.dn, SE.dn, dnL, nth, projV, List.getD_cons_succ, List.getD_cons_zero, Rg.cells, Pc.cells, extV]; rfl) ?_
      have hln := htl_len r r.lines.toNat
      refine wp_join (fun vs => vs = [.bool false]) ?_ ?_
      · refine wp_neq (a := 0) (b := 0) rfl rfl ?_
        refine wp_itePF rfl (by omega) ?_
        refine wp_len25 rfl hxh ?_
        refine wp _ hrow ?_
        refine wp_neq rfl rfl ?_
        exact wp_jump (jb_f (by omega))
      rintro vs rfl
      refine wp_iteF rfl ?_
      refine wp_join (fun vs => vs = [.bool o.isSome]) ?_ ?_
      · refine wp_loop (fun j vs => ∃ (f : Bool) (m : Nat), vs = [.bool f, iv m] ∧ m + j = p.g.length + 1 ∧ (f = false → ∀ t ∈ (List.range m).flatMap (chs p.g.length), A t = false) ∧ (f = true → o.isSome = true)) (p.g.length + 1) (by omega) ⟨false, 0, rfl, by omega, fun _ t ht => by simp at ht, fun h => by cases h⟩ ?_
        rintro j1 vs ⟨f, m, rfl, hm, hf0, hf1⟩
        try refine rn_norm (by (try simp only [List.length_cons, List.length_nil, Nat.reduceAdd, Nat.zero_add]); rfl) (by (try simp only [pushL]); rfl) ?_
        refine wp_join (fun vs => vs = [.bool (decide ((m : Int) ≤ p.g.length) && !f)]) ?_ ?_
        · refine wp_len25 rfl hil ?_
          refine wp_leq rfl rfl ?_
          refine wp_iteP rfl (fun h1 => ?_) (fun h1 => ?_)
          · refine wp_not rfl ?_
            rw [decide_eq_true h1, Bool.true_and]
            exact wp_jump rfl
          · rw [decide_eq_false h1, Bool.false_and]
            exact wp_jump rfl
        rintro vs rfl
        try refine rn_norm (by (try simp only [List.length_cons, List.length_nil, Nat.reduceAdd, Nat.zero_add]); rfl) (by (try simp only [pushL]); rfl) ?_
        refine wp_iteB rfl (fun h1 => ?_) (fun h1 => ?_)
        · simp only [Bool.and_eq_true, decide_eq_true_eq, Bool.not_eq_true'] at h1
          obtain ⟨h1, rfl⟩ := h1
          have hmn : m ≤ p.g.length := by omega
          have hbm := hf0 rfl
          obtain ⟨hc1, hc2⟩ := chs_key p.g.length (by omega) m (by omega)
          have hc3 : ∀ s ∈ chs p.g.length m, s < 2 ^ p.g.length := fun s hs => (all_key p.g.length (by omega)).2.1 s (List.mem_flatMap.2 ⟨m, List.mem_range.2 (by omega), hs⟩)
          refine wp_len25 rfl hil ?_
          refine wp_callE (ev49c p.g.length g5 m hmn) rfl ?_
          have hGL : GL (.sl none 1 0 (chs p.g.length m).length ((chs p.g.length m).map G)) (chs p.g.length m) := .inr ⟨0, rfl⟩
          have hflat : ∀ t ∈ (List.range (m + 1)).flatMap (chs p.g.length), t ∈ (List.range m).flatMap (chs p.g.length) ∨ t ∈ chs p.g.length m := fun t ht => by
            rw [List.range_succ, List.flatMap_append] at ht
            simpa using ht
          have hfa' := fun k => hfa m k hmn hbm
          generalize chs p.g.length m = M at hc1 hc2 hc3 hfa' hGL hflat
          refine wp_join (fun vs => ∃ f : Bool, vs = [.bool f] ∧ (f = false → ∀ t ∈ M, A t = false) ∧ (f = true → o.isSome = true)) ?_ ?_
          · refine wp_loop (fun j vs => ∃ (f : Bool) (k : Nat), vs = [.bool f, iv k] ∧ k + j = M.length ∧ (f = false → ∀ t ∈ M.take k, A t = false) ∧ (f = true → o.isSome = true)) M.length (by omega) ⟨false, 0, rfl, by omega, fun _ t ht => by simp at ht, fun h => by cases h⟩ ?_
            rintro j2 vs ⟨f, k, rfl, hk, hk0, hk1⟩
            try refine rn_norm (by (try simp only [List.length_cons, List.length_nil, Nat.reduceAdd, Nat.zero_add]); rfl) (by (try simp only [pushL]); rfl) ?_
            refine wp_join (fun vs => vs = [.bool (decide ((k : Int) < M.length) && !f)]) ?_ ?_
            · refine wp_len73 rfl hGL ?_
              refine wp_lss rfl rfl ?_
              refine wp_iteP rfl (fun h1 => ?_) (fun h1 => ?_)
              · refine wp_not rfl ?_
                rw [decide_eq_true h1, Bool.true_and]
                exact wp_jump rfl
              · rw [decide_eq_false h1, Bool.false_and]
                exact wp_jump rfl
            rintro vs rfl
            try refine rn_norm (by (try simp only [List.length_cons, List.length_nil, Nat.reduceAdd, Nat.zero_add]); rfl) (by (try simp only [pushL]); rfl) ?_
            refine wp_iteB rfl (fun h2 => ?_) (fun h2 => ?_)
            · simp only [Bool.and_eq_true, decide_eq_true_eq, Bool.not_eq_true'] at h2
              obtain ⟨h2, rfl⟩ := h2
              have hkl : k < M.length := by omega
              have hrG := rowG hGL hkl
              obtain ⟨hs32, hsl, hsg⟩ := hc2 _ (gmN hkl)
              have hs2 := hc3 _ (gmN hkl)
              have hfk := hfa' k hkl (hk0 rfl)
              have hst : A (M.getD k 0) = false → ∀ t ∈ M.take (k + 1), A t = false := fun h0 t ht => by
                rw [takeN hkl] at ht
                rcases List.mem_append.1 ht with h' | h'
                · exact hk0 rfl t h'
                · simp only [List.mem_singleton] at h'; rw [h']; exact h0
              generalize M.getD k 0 = s at hrG hs32 hsl hsg hs2 hfk hst
              have hbk := fun i hi => back_key p.g.length (by omega) s hs2 i hi
              refine wp_join (fun vs => vs = [.agg ((backL p.g.length s).map iv)]) ?_ ?_
              · refine wp_loop (fun j vs => ∃ (c : Nat) (K : List Int), vs = [.agg (K.map iv), iv c] ∧ c + j = m ∧ K.length = c ∧ K = ((gapsL s).take c).map fun g => (p.g.length : Int) - 1 - g) m (by omega) ⟨0, [], rfl, by omega, rfl, by simp⟩ ?_
                rintro j3 vs ⟨c, K, rfl, hc, hKl, hK⟩
                refine wp_lss rfl rfl ?_
                refine wp_iteP rfl (fun h3 => ?_) (fun h3 => ?_)
                · have hcl : c < (gapsL s).length := by omega
                  have hg := hsg _ (gmI hcl)
                  have htk : ((gapsL s).take (c + 1)).map (fun g => (p.g.length : Int) - 1 - g) = K ++ [(p.g.length : Int) - 1 - (gapsL s).getD c 0] := by
                    rw [take_oneI hcl, List.map_append, ← hK]; rfl
                  have hrq := rowI (G_il s) hcl
                  generalize (gapsL s).getD c 0 = g at hg htk hrq
                  refine wp_len25 rfl hil ?_
                  refine wp_sub rfl rfl (by omega) (by omega) ?_
                  refine wp _ hrG ?_
                  refine wp _ hrq ?_
                  refine wp_sub rfl rfl (by omega) (by omega) ?_
                  refine wp_pushI rfl rfl (by decide) (by omega) ?_
                  refine wp_add1 rfl rfl (by omega) ?_
                  exact wp_jump ⟨j3 - 1, by omega, c + 1, _, rfl, by omega, by simp [hKl], htk.symm⟩
                · refine wp_jumpO (by decide) ?_
                  rw [List.take_of_length_le (by omega)] at hK
                  rw [hK]
                  exact wp_jump rfl
              rintro vs rfl
              try refine rn_norm (by (try simp only [List.length_cons, List.length_nil, Nat.reduceAdd, Nat.zero_add]); rfl) (by (try simp only [pushL]); rfl) ?_
              have hbl : (backL p.g.length s).length ≤ 5 := by unfold backL; rw [List.length_map]; exact gapsL_len s
              have hbi := il_of (backL p.g.length s)
              have hq3 : (Pc.mk (ilOf p.g.reverse) p.g.reverse p.dn p.up p.wd p.fr).ok := ⟨il_of _, by simpa using hp.gl, fun x hx => hp.gs x (by simpa using hx), hp.d0, hp.d1, hp.u0, hp.u1, hp.w0, hp.w1⟩
              refine wp_join (fun vs => vs = [.bool (A s)]) ?_ ?_
              · refine wp_frzN rfl ?_
                rw [hAd]
                refine wp_loop (fun j vs => ∃ c : Nat, vs = [.bool ((List.range c).any (fitB slip r p (flS p.g.length s))), ilOf (backL p.g.length s), iv c] ∧ c + j = r.lines.toNat) r.lines.toNat (by omega) ⟨0, rfl, by omega⟩ ?_
                rintro j3 vs ⟨c, rfl, hc⟩
                try refine rn_norm (by (try simp only [List.length_cons, List.length_nil, Nat.reduceAdd, Nat.zero_add]); rfl) (by (try simp only [pushL]); rfl) ?_
                refine wp_len25 rfl hxh ?_
                refine wp_lss rfl rfl ?_
                refine wp_iteP rfl (fun h3 => ?_) (fun h3 => ?_)
                · have e50a := ev50 17 s0 s3 hr hp (line := c) (by omega) hxh (G_il s) (gapsL_len s) (fl := flS p.g.length s) (fun i hi => (hbk i hi).1)
                  have e50b := ev50 17 s0 s3 hr hq3 (line := c) (by omega) hxh hbi hbl (fl := (flS p.g.length s).reverse) (fun i hi => (hbk i (by simpa using hi)).2)
                  have hsnoc := range_any (fitB slip r p (flS p.g.length s)) c
                  have hfit : fitB slip r p (flS p.g.length s) c = (sitF slip r p c (flS p.g.length s) || (p.fr && sitF slip r ⟨ilOf p.g.reverse, p.g.reverse, p.dn, p.up, p.wd, p.fr⟩ c (flS p.g.length s).reverse)) := rfl
                  refine wp_join (fun vs => vs = [.bool ((List.range (c + 1)).any (fitB slip r p (flS p.g.length s))), ilOf (backL p.g.length s)]) ?_ ?_
                  · rw [hsnoc]
                    refine wp_iteB rfl (fun h4 => ?_) (fun h4 => ?_)
                    · rw [h4, Bool.true_or]
                      exact wp_jump rfl
                    · rw [h4, Bool.false_or, hfit]
                      refine wp _ hrow ?_
                      refine wp _ hrG ?_
                      refine wp_callE e50a rfl ?_
                      refine wp_iteB rfl (fun h5 => ?_) (fun h5 => ?_)
                      · rw [h5, Bool.true_or]
                        exact wp_jump rfl
                      · rw [h5, Bool.false_or]
                        refine wp_iteB rfl (fun h6 => ?_) (fun h6 => ?_)
                        · refine wp _ hrow ?_
                          refine wp_callE (ev42 18 hp) rfl ?_
                          refine wp_callE e50b rfl ?_
                          rw [h6, Bool.true_and]
                          exact wp_jump rfl
                        · rw [h6, Bool.false_and]
                          exact wp_jump rfl
                  rintro vs rfl
                  refine wp_add1 rfl rfl (by omega) ?_
                  exact wp_jump ⟨j3 - 1, by omega, c + 1, rfl, by omega⟩
                · refine wp_jumpO (by decide) ?_
                  have ec : c = r.lines.toNat := by omega
                  subst ec
                  exact wp_jump rfl
              rintro vs rfl
              try refine rn_norm (by (try simp only [List.length_cons, List.length_nil, Nat.reduceAdd, Nat.zero_add]); rfl) (by (try simp only [pushL]); rfl) ?_
              refine wp_join (fun vs => vs = [.bool false]) ?_ ?_
              · refine wp_iteB rfl (fun h3 => ?_) (fun h3 => ?_)
                · obtain ⟨rfl, rfl⟩ := hsome s (hfk h3)
                  refine wp_neq rfl rfl ?_
                  refine wp_itePF rfl (by omega) ?_
                  refine wp _ hrG ?_
                  refine wp_callE (ev30 18 hyL (G_il s) (by have := gapsL_len s; omega)) rfl ?_
                  refine wp_not rfl ?_
                  exact wp_jump rfl
                · exact wp_jump rfl
              rintro vs rfl
              refine wp_iteF rfl ?_
              refine wp_add1 rfl rfl (by omega) ?_
              exact wp_jump ⟨j2 - 1, by omega, A s, k + 1, rfl, by omega, hst, fun h3 => by rw [hfk h3]; rfl⟩
            · refine wp_jumpO (by decide) ?_
              refine wp_jump ⟨f, rfl, fun hf => ?_, hk1⟩
              subst hf
              have hkM : ¬ ((k : Int) < M.length) := by simpa using h2
              have := hk0 rfl
              rwa [List.take_of_length_le (by omega)] at this
          rintro vs ⟨f, rfl, hM0, hM1⟩
          refine wp_add1 rfl rfl (by omega) ?_
          refine wp_jump ⟨j1 - 1, by omega, f, m + 1, rfl, by omega, fun hf t ht => ?_, hM1⟩
          rcases hflat t ht with h' | h'
          · exact hbm t h'
          · exact hM0 hf t h'
        · refine wp_jumpO (by decide) ?_
          refine wp_jump ?_
          show [PV.bool f] = [PV.bool o.isSome]
          cases f with
          | true => rw [hf1 rfl]
          | false =>
            have hmn : ¬ ((m : Int) ≤ p.g.length) := by simpa using h1
            have hall := hf0 rfl
            rw [show m = p.g.length + 1 by omega] at hall
            rw [hfn hall]; rfl
      rintro vs rfl
      try refine rn_norm (by (try simp only [List.length_cons, List.length_nil, Nat.reduceAdd, Nat.zero_add]); rfl) (by (try simp only [pushL]); rfl) ?_
      refine wp_join (fun vs => vs = [.bool false]) ?_ ?_
      · refine wp_not rfl ?_
        cases ho : o with
        | some s => 
          refine wp_iteF rfl ?_
          exact wp_jump rfl
        | none =>
          obtain ⟨rfl, rfl⟩ := hnone ho
          refine wp_iteT rfl ?_
          refine wp_neq rfl rfl ?_
          refine wp_itePF rfl (by omega) ?_
          refine wp_len25 rfl (by assumption) ?_
          refine wp_gtr rfl rfl ?_
          exact wp_jump (jb_f (by simp))
      rintro vs rfl
      refine wp_iteF rfl ?_
      refine wp_add1 rfl rfl (by omega) ?_
      exact wp_jump ⟨j - 1, by omega, i + 1, rfl, by omega⟩
    · refine wp_jumpO (by decide) ?_
      exact wp_jump rfl
  rintro vs rfl
  refine wp_callE (w := .bool true) (fun ω => ⟨_, lined19 ω, rfl⟩) rfl ?_
  exact wp_ret rfl rfl rfl
theorem law9 : ∀ qs, ShL Try.prog 6 Try.f9.params.toList qs → ∀ ω, E Try.prog 20 ω 9 qs = some (.bool true) := by
  intro qs h ω
  rw [show Try.f9.params.toList = [25] by kernel_rfl] at h
  match qs, h with
  | [q], h =>
    obtain ⟨h1, h2, _⟩ := nums_shape h.1
    obtain ⟨v, hv, rfl⟩ := ev9 h1 h2 ω
    exact hv
end Go.Proofs.Ytlminnpaeaganaa
namespace Go.Proofs.Ytlminnpaeaganaa
open Go Go.RowKit Go.WideShapes Go.ChangeShapes

set_option maxRecDepth 100000
theorem ruleWrong_lifted (hE : ∀ qs, ShL Try.prog 6 Try.f9.params.toList qs → ∀ ω, E Try.prog 20 ω 9 qs = some (.bool true)) (os : Os) (started : os.Started) (H : Type) (enc : TypeId × Value → H) :
    ReturnsInHanded {} Try.checked os 9 .any (Rows.ruleWrongSpec.pre6 enc Try.prog Try.f9 Rows.ruleWrongRow.domain false) (Rows.ruleWrongSpec.post enc Try.prog Try.f9 false true false false) := by
  refine returnsInHanded_of_change (C := Try.checked) own started (by kernel_rfl) Try.func9
    (ChangeSpec.witness6 (enc := enc) (C := Try.checked) false ⟨#[], #[.slice none 0 0], []⟩ 8 (by kernel_rfl) (by kernel_rfl) (by kernel_rfl) (by kernel_rfl)) ?_
  intro W base args ds gs before hval hW _ _
  refine law_contract (P := Try.prog) (k := 6) (bt := 4) laidOut rfl rfl (by kernel_rfl) (by kernel_rfl) (by
    intro t ht
    have : Try.f9.params.toList.all (fun t => Try.prog.readableRec t && decide (t < Try.prog.types.size)) = true := by kernel_rfl
    have := List.all_eq_true.1 this t ht
    simpa using this) (fun ds hl => ?_) (fun qs hq m => ?_) hval hW
  · match ds, hl with
    | [d0], _ => rfl
  · refine ((e_sound 20).ans 9 qs (fun ω => by rw [hE qs hq ω]; rfl) qs m (argL_self (shL_plain hq))).mono ?_
    rintro v E m' ⟨⟨ω, h1⟩, _, h2, h3⟩
    rw [hE qs hq ω] at h1
    injection h1 with h1
    exact ⟨h1.symm, h2, h3⟩
theorem ruleWrong_holds (hE : ∀ qs, ShL Try.prog 6 Try.f9.params.toList qs → ∀ ω, E Try.prog 20 ω 9 qs = some (.bool true)) : Rows.RuleWrongSaid :=
  OpenClaim.holds_of_wide 9 Try.f9 rfl rfl rfl rfl rfl rfl rfl ⟨rfl, rfl, rfl, rfl, rfl⟩ rfl rfl rfl rfl rfl (by kernel_rfl) Try.func9 (by kernel_rfl)
    (of_decide_eq_true (by kernel_rfl)) (by unfold Func.isWrapper; first | (rw [if_pos (by decide +kernel)]; kernel_rfl) | (rw [if_neg (by decide +kernel)]; exact ⟨rfl, rfl⟩))
    (fun os started H enc _ => ruleWrong_lifted hE os started H enc)
end Go.Proofs.Ytlminnpaeaganaa
namespace Go.Proofs.Ytlminnpaeaganaa
open Go
theorem ruleWrongProved : Rows.RuleWrongSaid := ruleWrong_holds law9
#print axioms ruleWrongProved
end Go.Proofs.Ytlminnpaeaganaa
