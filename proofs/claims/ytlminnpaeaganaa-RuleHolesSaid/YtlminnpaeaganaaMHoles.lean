/- Holes: the law is proved. No condition. -/
import Derived.Test.YtlminnpaeaganaaMPlain
import Derived.Test.YtlminnpaeaganaaMLined
import Derived.Test.YtlminnpaeaganaaMRead
import Derived.Test.YtlminnpaeaganaaRows
import Derived.Test.YtlminnpaeaganaaChecked
import Derived.Test.YtlminnpaeaganaaMTab
namespace Go.Proofs.Ytlminnpaeaganaa
open Go Go.RowKit
set_option linter.unusedVariables false
set_option linter.unusedSimpArgs false
set_option maxRecDepth 100000

/-! ### The argument -/
theorem nums_shape {q : PV} (h : ShV Try.prog 6 25 q) : intsB q = true ∧ q.plain = true ∧ q.one = true := by
  have ha : aggT Try.prog 25 ≠ some true := by
    have : (match aggT Try.prog 25 with | some true => false | _ => true) = true := by kernel_rfl
    intro e; rw [e] at this; cases this
  have h' : ∃ q', q = q' ∧ ShC Try.prog 6 25 [q'] := by
    unfold ShV at h
    split at h
    · exact absurd (by assumption) ha
    · exact h
  obtain ⟨q', rfl, hc⟩ := h'
  have hp := shC_plain _ _ _ hc
  unfold ShC at hc
  rw [unL'] at hc
  simp only at hc
  rcases hc with hc | ⟨off, ls, hc, _, hl⟩
  · injection hc with hc
    subst hc
    exact ⟨rfl, rfl, rfl⟩
  · injection hc with hc
    subst hc
    have h3 : Try.prog.cellsOf 3 = 1 := by kernel_rfl
    have hi : ∀ l ∈ ls, ∃ n, l = [iv n] := by
      intro l hm
      have := (hl l hm).1
      unfold ShC at this
      rw [unInt] at this
      obtain ⟨n, hn, _⟩ := this
      exact ⟨n, hn⟩
    refine ⟨?_, by simpa [plainC] using hp, rfl⟩
    rw [h3]
    simp only [intsB, Bool.and_eq_true, decide_eq_true_eq, List.all_eq_true]
    refine ⟨?_, fun c hc => ?_⟩
    · rw [flatten_len (n := 1) (fun l hm => by obtain ⟨n, rfl⟩ := hi l hm; rfl), Nat.mul_one]
    · obtain ⟨l, hm, hcl⟩ := List.mem_flatten.1 hc
      obtain ⟨n, rfl⟩ := hi l hm
      simp at hcl
      subst hcl
      rfl

/-! ### Blank lines and followers -/
theorem near_self {slip a h : Int} (hs : 0 ≤ slip) : near slip a h (a + h) = true := by simp [near]; omega
theorem blk_nil {slip : Int} {l : List Int} {a : Int} {r : Rg} (n : Nat) (h : ∀ i, i < n → l.any (near slip a (ht r i)) = true) : blk slip l a r n = [] := by
  induction n with
  | zero => rfl
  | succ n ih => simp only [blk, h n (Nat.lt_succ_self n), if_true, ih fun i hi => h i (by omega)]; rfl
theorem blk_sub {slip : Int} {l m : List Int} {a : Int} {r : Rg} (h : ∀ p ∈ l, p ∈ m) (n : Nat) : ∀ x ∈ blk slip m a r n, x ∈ blk slip l a r n := by
  induction n with
  | zero => intro x hx; simp [blk] at hx
  | succ n ih =>
    intro x hx
    simp only [blk, List.mem_append] at hx ⊢
    rcases hx with hx | hx
    · exact .inl (ih x hx)
    · refine .inr ?_
      split at hx
      · simp at hx
      · rename_i hn
        rw [if_neg]
        · exact hx
        · intro h1
          obtain ⟨p, hp, hp'⟩ := List.any_eq_true.1 h1
          exact hn (List.any_eq_true.2 ⟨p, h p hp, hp'⟩)
theorem flw_pre (slip : Int) (ps : List Int) (r : Rg) (i d : Nat) : ∃ t, flw slip ps r (i + d) = flw slip ps r i ++ t := by
  induction d with
  | zero => exact ⟨[], by simp⟩
  | succ d ih =>
    obtain ⟨t, ht⟩ := ih
    rw [← Nat.add_assoc]
    simp only [flw]
    rw [ht, List.append_assoc]
    exact ⟨_, rfl⟩
theorem flw_at {slip : Int} {ps : List Int} {r : Rg} {i n : Nat} (hi : i < n) (h : (blk slip ps (ps.getD i 0) r r.lines.toNat).length = 0) : (flw slip ps r i).length < (flw slip ps r n).length ∧ (flw slip ps r n).getD (flw slip ps r i).length 0 = i := by
  obtain ⟨t, ht⟩ := flw_pre slip ps r (i + 1) (n - (i + 1))
  rw [show i + 1 + (n - (i + 1)) = n by omega] at ht
  simp only [flw, h, if_true] at ht
  rw [ht]
  simp
theorem hts_follow {slip : Int} {r : Rg} (hs : 0 ≤ slip) (hr : r.ok) : 0 < (flw slip (htl r r.lines.toNat) r r.lines.toNat).length ∧ (flw slip (htl r r.lines.toNat) r r.lines.toNat).getD 0 0 = 0 := by
  have n1 := hr.n1
  have := flw_at (slip := slip) (ps := htl r r.lines.toNat) (r := r) (i := 0) (n := r.lines.toNat) (by omega) (by
    rw [blk_nil]
    · rfl
    · intro i hi
      refine List.any_eq_true.2 ⟨ht r i, ?_, ?_⟩
      · simp [htl]; exact ⟨i, by omega, rfl⟩
      · rw [htl_get r (by omega)]
        simp [near, ht]; omega)
  simpa [flw] using this
theorem htl_pr {r : Rg} (hr : r.ok) : Pr (htl r r.lines.toNat) := by
  have n2 := hr.n2
  refine ⟨by simp; omega, fun p hp => ?_, fun i hi => ?_⟩
  · simp [htl] at hp
    obtain ⟨i, hi, rfl⟩ := hp
    have := ht_ok hr i
    omega
  · simp at hi
    rw [htl_get r (by omega), htl_get r (by omega)]
    have := stp_ok hr i
    simp only [ht]; omega
theorem Pr.push {l : List Int} {a : Int} (h : Pr l) (hl : l.length < 16) (h0 : 0 ≤ a) (h1 : a ≤ 300) (hlast : 0 < l.length → l.getD (l.length - 1) 0 < a) : Pr (l ++ [a]) := by
  refine ⟨by simp; omega, fun p hp => ?_, fun i hi => ?_⟩
  · rcases List.mem_append.1 hp with h' | h'
    · exact h.rng p h'
    · simp at h'; omega
  · simp at hi
    have g0 : ∀ i, i < l.length → (l ++ [a]).getD i 0 = l.getD i 0 := fun i hi => by simp [List.getD_eq_getElem?_getD, List.getElem?_append_left hi]
    rw [g0 i (by omega)]
    by_cases hh : i + 1 < l.length
    · rw [g0 _ hh]
      exact h.asc i hh
    · have e : i + 1 = l.length := by omega
      have e2 : (l ++ [a]).getD (i + 1) 0 = a := by simp [e]
      rw [e2, show i = l.length - 1 by omega]
      exact hlast (by omega)

/-! ### Copies -/
theorem mk_int {n : Nat} (hn : n < 1000000) : mkV [iv 0] 8 (iv n) = some (.agg ((List.replicate n (0 : Int)).map iv)) := by
  have e : ∀ n : Nat, repl [iv 0] n = (List.replicate n (0 : Int)).map iv := by
    intro n
    induction n with
    | zero => rfl
    | succ n ih => simp [repl, ih, List.replicate_succ]
  simp only [mkV, e, Int.toNat_natCast]
  rw [if_pos (by omega)]
theorem put_int {l : List Int} {i : Nat} {a : Int} (hi : i < l.length) : putV 1 0 (.agg (l.map iv)) (iv i) [iv a] = some (.agg ((l.set i a).map iv)) := by
  have e : splice (l.map iv) (i * 1 + 0) [iv a] = (l.set i a).map iv := by
    rw [List.set_eq_take_append_cons_drop, if_pos hi]
    simp [splice, List.map_take, List.map_drop]
  simp only [putV, Int.toNat_natCast]
  rw [if_pos (by simp; omega), e]
end Go.Proofs.Ytlminnpaeaganaa
namespace Go.Proofs.Ytlminnpaeaganaa
open Go Go.RowKit
set_option linter.unusedVariables false
set_option linter.unusedSimpArgs false
set_option maxRecDepth 100000

theorem getD_mem {l : List Int} {i : Nat} (h : i < l.length) : l.getD i 0 ∈ l := by simp [List.getD_eq_getElem?_getD, h]
theorem ev15 {q : PV} (hq1 : intsB q = true) (hq2 : q.plain = true) : Ev 20 15 [q] fun v => v = .bool true := by
  refine ev_of (t := t15) rfl (fn := Try.f15) (by kernel_rfl) (by simp [fitArgs, flagsOf, hq2]) ?_
  simp only [t15, tv, tp, tn, run_prim]
  refine ⟨q, by simp [intsV, hq1], ?_⟩
  refine mk_call (ev38 14 2 (by omega) (by omega)) ?_
  rintro v ⟨slip, lp, l, rfl, s0, s3, hrl, hl1, hl2, hok⟩
  have hH : Hand slip lp l := ⟨s0, s3, hrl, hl1, by omega, hok⟩
  simp [hrl.len, wrap64 (n := (l.length : Int) - 1) (by omega) (by omega)]
  refine mk_call (ev21 17 ((l.length : Int) - 1) (by omega) (by omega)) ?_
  rintro v ⟨n, rfl, hn0, hn1⟩
  obtain ⟨n, rfl⟩ := Int.eq_ofNat_of_zero_le hn0
  have hn : n < l.length := by omega
  have hr := hH.get hn
  have hrow := rowR hrl hn
  refine mk_call (ev24 14 hH hn) ?_
  rintro v ⟨y, rfl, hy⟩
  generalize hR : l.getD n default = r at hr hrow hy
  have n1 := hr.n1
  have n2 := hr.n2
  simp
  refine mk_join (fun vs => vs = [.bool false]) ?_ ?_
  · simp [hy.len]
    refine ⟨_, hrow, ?_⟩
    simp [Rg.cells]
    omega
  rintro vs rfl
  simp
  refine mk_call (ev57 13 hH hn hy (htl_pr hr)) ?_
  rintro v ⟨y2, rfl, hy2⟩
  rw [hR, htl_len] at hy2
  obtain ⟨hf1, hf2⟩ := hts_follow hH.s0 hr
  have hne : flw slip (htl r r.lines.toNat) r r.lines.toNat ≠ [] := fun e => by rw [e] at hf1; simp at hf1
  simp
  refine mk_join (fun vs => vs = [.bool false]) ?_ ?_
  · simp only [run_prim]
    refine ⟨.bool false, by simp, ?_⟩
    simp only [run_ite, SE.den, List.cons_append, List.nil_append, List.getD_cons_succ, List.getD_cons_zero, pifv_bool, pif_false, run_prim]
    refine ⟨_, hy2.len, .bool false, by simp [hne], ?_⟩
    simp only [run_ite, SE.den, List.cons_append, List.nil_append, List.getD_cons_succ, List.getD_cons_zero, pifv_bool, pif_false, run_prim]
    refine ⟨_, rowI hy2 (n := 0) hf1, ?_⟩
    rw [hf2]
    simp
  rintro vs rfl
  simp
  refine mk_call (ev55 15 hH hn) ?_
  rintro v ⟨ps, hps, hpi⟩
  have hpr := hpi.pr (by omega)
  have hlen := hpi.len
  refine mk_call (ev57 13 hH hn hps hpr) ?_
  rintro v ⟨y3, rfl, hy3⟩
  rw [hR] at hy3
  simp only [run_prim]
  refine ⟨y3, by simp, iv 0, by simp, .bool false, by simp, ?_⟩
  simp only [run_ite, SE.den, List.cons_append, List.nil_append, List.getD_cons_succ, List.getD_cons_zero, pifv_bool, pif_false, run_prim]
  refine ⟨_, hps.len, _, mk_int (n := ps.length) (by omega), ?_⟩
  refine mk_join (fun vs => vs = [.agg (ps.map iv)]) ?_ ?_
  · refine mk_loop (fun j vs => ∃ (i : Nat) (L : List Int), vs = [iv i, .agg (L.map iv)] ∧ i + j = ps.length ∧ L.length = ps.length ∧ ∀ k, k < i → L.getD k 0 = ps.getD k 0) ps.length (by omega) ⟨0, List.replicate ps.length 0, by simp, by omega, by simp, by simp⟩ ?_
    rintro j vs ⟨i, L, rfl, hi, hL, hk⟩
    simp only [run_prim]
    refine ⟨_, hps.len, .bool (decide ((i : Int) < ps.length)), by simp, ?_⟩
    simp only [run_ite, SE.den, List.cons_append, List.nil_append, List.getD_cons_succ, List.getD_cons_zero, pifv_bool]
    refine pif (fun h => ?_) (fun h => ?_) <;> simp only [decide_eq_true_eq, decide_eq_false_iff_not] at h
    · have hlt : i < ps.length := by omega
      simp only [run_prim]
      refine ⟨_, rowI hps hlt, iv i, by simp; omega, .agg ((L.set i (ps.getD i 0)).map iv), put_int (by omega), ?_⟩
      simp [wrap64 (n := (i : Int) + 1) (by omega) (by omega)]
      refine ⟨j - 1, by omega, i + 1, L.set i (ps.getD i 0), by simp, by omega, by simpa using hL, fun k hk' => ?_⟩
      by_cases e : k = i
      · subst e
        have : k < L.length := by omega
        simp [List.getD_eq_getElem?_getD, this]
      · have := hk k (by omega)
        simp only [List.getD_eq_getElem?_getD] at this ⊢
        rw [List.getElem?_set_ne (by omega)]
        exact this
    · have e : L = ps := List.ext_getElem hL fun k h1 h2 => by
        have := hk k (by omega)
        simpa [List.getD_eq_getElem?_getD, h1, h2] using this
      simp [atL, e]
  rintro vs rfl
  simp
  refine pif (fun h => ?_) (fun h => ?_) <;> simp at h
  · refine mk_join (fun vs => ∃ x : Int, vs = [iv x] ∧ 0 ≤ x ∧ x ≤ 280 ∧ (0 < ps.length → ps.getD (ps.length - 1) 0 < x)) ?_ ?_
    · simp only [run_ite, SE.den, List.cons_append, List.nil_append, List.getD_cons_succ, List.getD_cons_zero, pifv_bool]
      refine pif (fun h => ?_) (fun h => ?_) <;> simp at h
      · have hlt : ps.length - 1 < ps.length := by omega
        have hg := hpi.rng (ps.getD (ps.length - 1) 0) (by simp [List.getD_eq_getElem?_getD, hlt])
        have ec : ((ps.length : Int) - 1) = ((ps.length - 1 : Nat) : Int) := by omega
        simp only [run_prim]
        refine ⟨iv ps.length, by simp, iv ((ps.length - 1 : Nat) : Int), by simp [ec, wrap64 (n := ((ps.length - 1 : Nat) : Int)) (by omega) (by omega)], iv ((ps.length - 1 : Nat) : Int), chk_int (l := ps) (by omega) (by omega), .agg [iv (ps.getD (ps.length - 1) 0)], ?_, iv (ps.getD (ps.length - 1) 0 + 1), ?_, ?_⟩
        · have := get_int (l := ps) (i := ((ps.length - 1 : Nat) : Int)) (by omega) (by omega)
          rw [Int.toNat_natCast] at this
          exact this
        · generalize ps.getD (ps.length - 1) 0 = b at hg ⊢
          simp [wrap64 (n := b + 1) (by omega) (by omega)]
        · simp only [run_jump, atL_same]
          exact ⟨_, rfl, by omega, by omega, fun _ => by omega⟩
      · simp only [run_jump, atL_same]
        exact ⟨0, rfl, by omega, by omega, fun h' => by subst h; simp at h'⟩
    rintro vs ⟨last, rfl, hl0, hl280, hll⟩
    refine mk_call (ev21 17 9 (by omega) (by omega)) ?_
    rintro v ⟨x, rfl, hx0, hx1⟩
    have hMp := hpr.push (a := last + x) (by omega) (by omega) (by omega) (fun h => by have := hll h; omega)
    generalize hM : ps ++ [last + x] = M at *
    have hMl : ps.length ≤ M.length := by rw [← hM]; simp
    have hMs : ∀ p ∈ ps, p ∈ M := fun p hp => by rw [← hM]; exact List.mem_append_left _ hp
    have hMg : ∀ i, i < ps.length → M.getD i 0 = ps.getD i 0 := fun i hi => by rw [← hM]; simp [List.getD_eq_getElem?_getD, List.getElem?_append_left hi]
    simp only [run_prim]
    refine ⟨iv (last + x), by simp [wrap64 (n := last + x) (by omega) (by omega)], .agg (M.map iv), by rw [← hM]; exact push_int (by decide) (by omega), ?_⟩
    refine mk_join (fun vs => vs = [iv ((flw slip ps r ps.length).length : Nat)]) ?_ ?_
    · simp only [run_prim]
      refine ⟨.sl none 1 0 M.length (M.map iv), by simp [frz_real], ?_⟩
      refine mk_loop (fun j vs => ∃ i : Nat, vs = [.sl none 1 0 M.length (M.map iv), iv ((flw slip ps r i).length : Nat), iv i] ∧ i + j = ps.length) ps.length (by omega) ⟨0, rfl, by omega⟩ ?_
      rintro j vs ⟨i, rfl, hi⟩
      simp [hps.len]
      refine pif (fun h => ?_) (fun h => ?_) <;> simp at h
      · have hlt : i < ps.length := by omega
        have hltM : i < M.length := by omega
        refine mk_call (ev59 13 hH hn hps hpr hlt) ?_
        rintro v ⟨ya, rfl, hya⟩
        rw [hR] at hya
        simp
        refine mk_call (ev59 13 hH hn (.inr ⟨0, rfl⟩) hMp hltM) ?_
        rintro v ⟨yb, rfl, hyb⟩
        rw [hR, hMg i hlt] at hyb
        simp
        refine mk_join (fun vs => vs = [.bool false]) ?_ ?_
        · simp
        rintro vs rfl
        simp
        have hba := blk_sub (slip := slip) (a := ps.getD i 0) (r := r) hMs r.lines.toNat
        have hbl := blk_len slip ps (ps.getD i 0) r r.lines.toNat
        have hbl' := blk_len slip M (ps.getD i 0) r r.lines.toNat
        have hat := fun h => flw_at (slip := slip) (r := r) (ps := ps) hlt h
        have hstep : (flw slip ps r (i + 1)).length = (flw slip ps r i).length + if (blk slip ps (ps.getD i 0) r r.lines.toNat).length = 0 then 1 else 0 := by simp only [flw, List.length_append]; split <;> simp
        generalize blk slip M (ps.getD i 0) r r.lines.toNat = BB at *
        generalize blk slip ps (ps.getD i 0) r r.lines.toNat = BA at *
        refine mk_join (fun vs => vs = []) ?_ ?_
        · refine mk_loop (fun j vs => ∃ i' : Nat, vs = [iv i'] ∧ i' + j = BB.length) BB.length (by omega) ⟨0, rfl, by omega⟩ ?_
          rintro j' vs ⟨i', rfl, hi'⟩
          simp only [run_prim]
          refine ⟨_, hyb.len, .bool (decide ((i' : Int) < BB.length)), by simp, ?_⟩
          simp only [run_ite, SE.den, List.cons_append, List.nil_append, List.getD_cons_succ, List.getD_cons_zero, pifv_bool]
          refine pif (fun h => ?_) (fun h => ?_) <;> simp only [decide_eq_true_eq, decide_eq_false_iff_not] at h
          · have hlt' : i' < BB.length := by omega
            simp only [run_prim]
            refine ⟨_, rowI hyb hlt', ?_⟩
            refine mk_call (ev61 18 hya (by omega) _) ?_
            rintro v ⟨x, rfl, hx⟩
            have h0 : 0 ≤ x := hx.2 (hba _ (getD_mem hlt'))
            have h0' : ¬ x < 0 := by omega
            simp [h0', wrap64 (n := (i' : Int) + 1) (by omega) (by omega)]
            exact ⟨j' - 1, by omega, i' + 1, by simp, by omega⟩
          · simp [atL]
        rintro vs rfl
        simp only [run_prim]
        refine ⟨_, hya.len, .bool (decide (BA.length = 0)), by simp, ?_⟩
        refine mk_join (fun vs => vs = [iv ((flw slip ps r (i + 1)).length : Nat)]) ?_ ?_
        · have hfl := flw_len slip ps r i
          by_cases hc : BA.length = 0
          · obtain ⟨hf1, hf2⟩ := hat hc
            have hs : (flw slip ps r (i + 1)).length = (flw slip ps r i).length + 1 := by rw [hstep, if_pos hc]
            simp only [hc, decide_true, run_ite, SE.den, List.cons_append, List.nil_append, List.getD_cons_succ, List.getD_cons_zero, pifv_bool, pif_true]
            refine mk_join (fun vs => vs = [.bool false]) ?_ ?_
            · simp only [run_prim]
              refine ⟨_, hy3.len, .bool false, by simp; omega, ?_⟩
              simp only [run_ite, SE.den, List.cons_append, List.nil_append, List.getD_cons_succ, List.getD_cons_zero, pifv_bool, pif_false, run_prim]
              refine ⟨_, rowI hy3 hf1, ?_⟩
              rw [hf2]
              simp
            · rintro vs rfl
              simp [hs, wrap64 (n := ((flw slip ps r i).length : Int) + 1) (by omega) (by omega)]
          · have hs : (flw slip ps r (i + 1)).length = (flw slip ps r i).length := by rw [hstep, if_neg hc]; rfl
            simp only [hc, decide_false, run_ite, SE.den, List.cons_append, List.nil_append, List.getD_cons_succ, List.getD_cons_zero, pifv_bool, pif_false]
            simp [hs]
        rintro vs rfl
        simp [wrap64 (n := (i : Int) + 1) (by omega) (by omega)]
        exact ⟨j - 1, by omega, i + 1, by simp, by omega⟩
      · have e : i = ps.length := by omega
        subst e
        simp [atL]
    rintro vs rfl
    simp only [List.cons_append, List.nil_append]
    refine mk_join (fun vs => vs = [.bool true]) ?_ ?_
    · simp [hy3.len]
      refine mk_call (Q := fun v => v = .bool true) (fun ω => ⟨_, lined19 ω, rfl⟩) ?_
      rintro v rfl
      simp
    rintro vs rfl
    simp
  · have hMp := hpr
    have hMl : ps.length ≤ ps.length := Nat.le_refl _
    have hMs : ∀ p ∈ ps, p ∈ ps := fun p hp => hp
    have hMg : ∀ i, i < ps.length → ps.getD i 0 = ps.getD i 0 := fun i hi => rfl
    refine mk_join (fun vs => vs = [iv ((flw slip ps r ps.length).length : Nat)]) ?_ ?_
    · simp only [run_prim]
      refine ⟨.sl none 1 0 ps.length (ps.map iv), by simp [frz_real], ?_⟩
      refine mk_loop (fun j vs => ∃ i : Nat, vs = [.sl none 1 0 ps.length (ps.map iv), iv ((flw slip ps r i).length : Nat), iv i] ∧ i + j = ps.length) ps.length (by omega) ⟨0, rfl, by omega⟩ ?_
      rintro j vs ⟨i, rfl, hi⟩
      simp [hps.len]
      refine pif (fun h => ?_) (fun h => ?_) <;> simp at h
      · have hlt : i < ps.length := by omega
        have hltM : i < ps.length := by omega
        refine mk_call (ev59 13 hH hn hps hpr hlt) ?_
        rintro v ⟨ya, rfl, hya⟩
        rw [hR] at hya
        simp
        refine mk_call (ev59 13 hH hn (.inr ⟨0, rfl⟩) hMp hltM) ?_
        rintro v ⟨yb, rfl, hyb⟩
        rw [hR, hMg i hlt] at hyb
        simp
        refine mk_join (fun vs => vs = [.bool false]) ?_ ?_
        · simp
        rintro vs rfl
        simp
        have hba := blk_sub (slip := slip) (a := ps.getD i 0) (r := r) hMs r.lines.toNat
        have hbl := blk_len slip ps (ps.getD i 0) r r.lines.toNat
        have hbl' := blk_len slip ps (ps.getD i 0) r r.lines.toNat
        have hat := fun h => flw_at (slip := slip) (r := r) (ps := ps) hlt h
        have hstep : (flw slip ps r (i + 1)).length = (flw slip ps r i).length + if (blk slip ps (ps.getD i 0) r r.lines.toNat).length = 0 then 1 else 0 := by simp only [flw, List.length_append]; split <;> simp
        have hyb : IL yb (blk slip ps (ps.getD i 0) r r.lines.toNat) := hyb
        generalize blk slip ps (ps.getD i 0) r r.lines.toNat = BA at *
        refine mk_join (fun vs => vs = []) ?_ ?_
        · refine mk_loop (fun j vs => ∃ i' : Nat, vs = [iv i'] ∧ i' + j = BA.length) BA.length (by omega) ⟨0, rfl, by omega⟩ ?_
          rintro j' vs ⟨i', rfl, hi'⟩
          simp only [run_prim]
          refine ⟨_, hyb.len, .bool (decide ((i' : Int) < BA.length)), by simp, ?_⟩
          simp only [run_ite, SE.den, List.cons_append, List.nil_append, List.getD_cons_succ, List.getD_cons_zero, pifv_bool]
          refine pif (fun h => ?_) (fun h => ?_) <;> simp only [decide_eq_true_eq, decide_eq_false_iff_not] at h
          · have hlt' : i' < BA.length := by omega
            simp only [run_prim]
            refine ⟨_, rowI hyb hlt', ?_⟩
            refine mk_call (ev61 18 hya (by omega) _) ?_
            rintro v ⟨x, rfl, hx⟩
            have h0 : 0 ≤ x := hx.2 (hba _ (getD_mem hlt'))
            have h0' : ¬ x < 0 := by omega
            simp [h0', wrap64 (n := (i' : Int) + 1) (by omega) (by omega)]
            exact ⟨j' - 1, by omega, i' + 1, by simp, by omega⟩
          · simp [atL]
        rintro vs rfl
        simp only [run_prim]
        refine ⟨_, hya.len, .bool (decide (BA.length = 0)), by simp, ?_⟩
        refine mk_join (fun vs => vs = [iv ((flw slip ps r (i + 1)).length : Nat)]) ?_ ?_
        · have hfl := flw_len slip ps r i
          by_cases hc : BA.length = 0
          · obtain ⟨hf1, hf2⟩ := hat hc
            have hs : (flw slip ps r (i + 1)).length = (flw slip ps r i).length + 1 := by rw [hstep, if_pos hc]
            simp only [hc, decide_true, run_ite, SE.den, List.cons_append, List.nil_append, List.getD_cons_succ, List.getD_cons_zero, pifv_bool, pif_true]
            refine mk_join (fun vs => vs = [.bool false]) ?_ ?_
            · simp only [run_prim]
              refine ⟨_, hy3.len, .bool false, by simp; omega, ?_⟩
              simp only [run_ite, SE.den, List.cons_append, List.nil_append, List.getD_cons_succ, List.getD_cons_zero, pifv_bool, pif_false, run_prim]
              refine ⟨_, rowI hy3 hf1, ?_⟩
              rw [hf2]
              simp
            · rintro vs rfl
              simp [hs, wrap64 (n := ((flw slip ps r i).length : Int) + 1) (by omega) (by omega)]
          · have hs : (flw slip ps r (i + 1)).length = (flw slip ps r i).length := by rw [hstep, if_neg hc]; rfl
            simp only [hc, decide_false, run_ite, SE.den, List.cons_append, List.nil_append, List.getD_cons_succ, List.getD_cons_zero, pifv_bool, pif_false]
            simp [hs]
        rintro vs rfl
        simp [wrap64 (n := (i : Int) + 1) (by omega) (by omega)]
        exact ⟨j - 1, by omega, i + 1, by simp, by omega⟩
      · have e : i = ps.length := by omega
        subst e
        simp [atL]
    rintro vs rfl
    simp only [List.cons_append, List.nil_append]
    refine mk_join (fun vs => vs = [.bool true]) ?_ ?_
    · simp [hy3.len]
      refine mk_call (Q := fun v => v = .bool true) (fun ω => ⟨_, lined19 ω, rfl⟩) ?_
      rintro v rfl
      simp
    rintro vs rfl
    simp
theorem law15 : ∀ qs, ShL Try.prog 6 Try.f15.params.toList qs → ∀ ω, E Try.prog 20 ω 15 qs = some (.bool true) := by
  intro qs h ω
  rw [show Try.f15.params.toList = [25] by kernel_rfl] at h
  match qs, h with
  | [q], h =>
    obtain ⟨h1, h2, _⟩ := nums_shape h.1
    obtain ⟨v, hv, rfl⟩ := ev15 h1 h2 ω
    exact hv
end Go.Proofs.Ytlminnpaeaganaa
namespace Go.Proofs.Ytlminnpaeaganaa
open Go Go.RowKit Go.WideShapes Go.ChangeShapes

set_option maxRecDepth 100000
theorem argL_self {DI : List PV → Prop} {m : Mem} : ∀ {qs : List PV}, (∀ q ∈ qs, q.plain = true) → ArgL DI m qs qs
  | [], _ => rfl
  | q :: qs, h => ⟨q, qs, rfl, .inl ⟨rfl, h q (by simp)⟩, argL_self fun x hx => h x (by simp [hx])⟩
theorem own : ownKnob Try.prog.godebug = none := by kernel_rfl
theorem laidOut : laidOutB Try.prog = true := by kernel_rfl
theorem ruleHoles_lifted (hE : ∀ qs, ShL Try.prog 6 Try.f15.params.toList qs → ∀ ω, E Try.prog 20 ω 15 qs = some (.bool true)) (os : Os) (started : os.Started) (H : Type) (enc : TypeId × Value → H) :
    ReturnsInHanded {} Try.checked os 15 .any (Rows.ruleHolesSpec.pre6 enc Try.prog Try.f15 Rows.ruleHolesRow.domain false) (Rows.ruleHolesSpec.post enc Try.prog Try.f15 false true false false) := by
  refine returnsInHanded_of_change (C := Try.checked) own started (by kernel_rfl) Try.func15
    (ChangeSpec.witness6 (enc := enc) (C := Try.checked) false ⟨#[], #[.slice none 0 0], []⟩ 8 (by kernel_rfl) (by kernel_rfl) (by kernel_rfl) (by kernel_rfl)) ?_
  intro W base args ds gs before hval hW _ _
  refine law_contract (P := Try.prog) (k := 6) (bt := 4) laidOut rfl rfl (by kernel_rfl) (by kernel_rfl) (by
    intro t ht
    have : Try.f15.params.toList.all (fun t => Try.prog.readableRec t && decide (t < Try.prog.types.size)) = true := by kernel_rfl
    have := List.all_eq_true.1 this t ht
    simpa using this) (fun ds hl => ?_) (fun qs hq m => ?_) hval hW
  · match ds, hl with
    | [d], _ => rfl
  · refine ((e_sound 20).ans 15 qs (fun ω => by rw [hE qs hq ω]; rfl) qs m (argL_self (shL_plain hq))).mono ?_
    rintro v E m' ⟨⟨ω, h1⟩, _, h2, h3⟩
    rw [hE qs hq ω] at h1
    injection h1 with h1
    exact ⟨h1.symm, h2, h3⟩
theorem ruleHoles_holds (hE : ∀ qs, ShL Try.prog 6 Try.f15.params.toList qs → ∀ ω, E Try.prog 20 ω 15 qs = some (.bool true)) : Rows.RuleHolesSaid :=
  OpenClaim.holds_of_wide 15 Try.f15 rfl rfl rfl rfl rfl rfl rfl ⟨rfl, rfl, rfl, rfl, rfl⟩ rfl rfl rfl rfl rfl (by kernel_rfl) Try.func15 (by kernel_rfl)
    (of_decide_eq_true (by kernel_rfl)) (by unfold Func.isWrapper; first | (rw [if_pos (by decide +kernel)]; kernel_rfl) | (rw [if_neg (by decide +kernel)]; exact ⟨rfl, rfl⟩))
    (fun os started H enc _ => ruleHoles_lifted hE os started H enc)
end Go.Proofs.Ytlminnpaeaganaa
namespace Go.Proofs.Ytlminnpaeaganaa
open Go
theorem ruleHolesProved : Rows.RuleHolesSaid := ruleHoles_holds law15
#print axioms ruleHolesProved
end Go.Proofs.Ytlminnpaeaganaa
