/- Plain laws. No condition. -/
import Derived.Test.YtlminnpaeaganaaMRawF
namespace Go.Proofs.Ytlminnpaeaganaa
open Go Go.RowKit
set_option linter.unusedVariables false
set_option linter.unusedSimpArgs false
set_option maxRecDepth 100000
abbrev u8 (n : Int) : PV := .int .u8 n
section
variable {C : Orc → FuncId → List PV → Option PV} {n : Nat} {R : Out → Prop} {d : Nat} {st : List PV} {t : Tree}
theorem wp_shr8 {T : TypeId} {x y : PE} {a : Int} {g : Nat} (hx : x.dn d st = u8 a) (hy : y.dn d st = iv g) (k : Rn C n t (d + 1) (u8 (a.fdiv (2 ^ min g 8)) :: st) R) : Rn C n (.prim (.bin .shr T x y) t) d st R := wp _ (by simp [Prim.rn, hx, hy, aBin, IntKind.bits]) k
theorem wp_shl8 {T : TypeId} {x y : PE} {a : Int} {g : Nat} (hx : x.dn d st = u8 a) (hy : y.dn d st = iv g) (k : Rn C n t (d + 1) (u8 (IntKind.u8.wrap (a * 2 ^ min g 8)) :: st) R) : Rn C n (.prim (.bin .shl T x y) t) d st R := wp _ (by simp [Prim.rn, hx, hy, aBin, IntKind.bits]) k
theorem wp_and8 {T : TypeId} {x y : PE} {a b : Int} (hx : x.dn d st = u8 a) (hy : y.dn d st = u8 b) (k : Rn C n t (d + 1) (u8 (bits .and .u8 a b) :: st) R) : Rn C n (.prim (.bin .and T x y) t) d st R := wp _ (by simp [Prim.rn, hx, hy, aBin]) k
theorem wp_or8 {T : TypeId} {x y : PE} {a b : Int} (hx : x.dn d st = u8 a) (hy : y.dn d st = u8 b) (k : Rn C n t (d + 1) (u8 (bits .or .u8 a b) :: st) R) : Rn C n (.prim (.bin .or T x y) t) d st R := wp _ (by simp [Prim.rn, hx, hy, aBin]) k
theorem wp_add8 {T : TypeId} {x y : PE} {a b : Int} (hx : x.dn d st = u8 a) (hy : y.dn d st = u8 b) (h0 : 0 ≤ a + b) (h1 : a + b < 256) (k : Rn C n t (d + 1) (u8 (a + b) :: st) R) : Rn C n (.prim (.bin .add T x y) t) d st R := wp _ (by
  have e : IntKind.u8.wrap (a + b) = a + b := by simp [IntKind.wrap, IntKind.bits, IntKind.signed]; omega
  simp [Prim.rn, hx, hy, e]) k
end
def flS (n s : Nat) : List Bool := (List.range n).map fun k => s.testBit k
@[simp] theorem flS_len (n s : Nat) : (flS n s).length = n := by simp [flS]
theorem flS_get {n s i : Nat} (h : i < n) : (flS n s).getD i false = s.testBit i := by simp [flS, List.getD_eq_getElem?_getD, h]
theorem has_key : ∀ s : Nat, s < 32 → ∀ g : Nat, g < 5 → decide (bits .and .u8 (Int.fdiv (s : Int) (2 ^ min g 8)) 1 = 1) = s.testBit g := of_decide_eq_true (by kernel_rfl)
theorem ev106S (k : Nat) {s g : Nat} (hs : s < 32) (hg : g < 5) : Ev (k + 1) 106 [u8 s, iv g] fun v => v = .bool (s.testBit g) := by
  refine rn_of (t := t106) rfl (fn := Try.f106) (by kernel_rfl) rfl ?_
  try refine rn_norm (by (try simp only [List.length_cons, List.length_nil, Nat.reduceAdd, Nat.zero_add]); rfl) (by (try simp only [pushL]); rfl) ?_
  refine wp_shr8 rfl rfl ?_
  refine wp_and8 (b := 1) rfl rfl ?_
  refine wp_eql rfl rfl ?_
  rw [has_key s hs g hg]
  exact wp_ret rfl rfl rfl
theorem ev118S (k : Nat) {slip : Int} (h0 : 0 ≤ slip) (h1 : slip ≤ 3) {r : Rg} (hr : r.ok) {p : Pc} (hp : p.ok) {line s : Nat} (hl : line < 100) (hs : s < 32) : Ev (k + 2) 118 [.agg (gv slip), .agg r.cells, .agg p.cells, iv line, u8 s] fun v => v = .bool (sitF slip r p line (flS p.g.length s)) := by
  refine rn_of (t := t118) rfl (fn := Try.f118) (by kernel_rfl) (by simp [fitArgs, flagsOf, Pc.cells, hp.il.plain, Rg.cells, hr.il.plain]) ?_
  have g5 := hp.gl
  have n1 := hr.n1
  have n2 := hr.n2
  have w1 := hr.w1
  have w2 := hr.w2
  have p1 := hp.u0; have p2 := hp.u1; have p3 := hp.d0; have p4 := hp.d1; have p5 := hp.w0; have p6 := hp.w1
  have hst := stp_ok hr
  have hil := hp.il
  have hfg := fun (i : Nat) (hi : i < p.g.length) => flS_get (s := s) hi
  generalize hfl : flS p.g.length s = fl at hfg
  refine wp_agg (cs := gv slip) rfl rfl ?_
  refine wp_agg (by simp only [tv, tp, tn, PE.dn, SE.dn, dnL, nth, projV, List.getD_cons_succ, List.getD_cons_zero, Rg.cells, Pc.cells]; rfl) rfl ?_
  refine wp_agg (by simp only [tv, tp, tn, PE.dn, SE.dn, dnL, nth, projV, List.getD_cons_succ, List.getD_cons_zero, Rg.cells, Pc.cells]; rfl) rfl ?_
  refine wp_len25 rfl (by assumption) ?_
  refine wp_addN rfl rfl (by omega) ?_
  refine wp_join (fun vs => vs = [.bool (decide (r.lines - 1 < ((line + p.g.length : Nat) : Int)))]) ?_ ?_
  · refine wp_lss rfl rfl ?_
    refine wp_itePF rfl (by omega) ?_
    refine wp_sub rfl rfl (by omega) (by omega) ?_
    refine wp_gtr rfl rfl ?_
    exact wp_jump rfl
  rintro vs rfl
  try refine rn_norm (by (try simp only [List.length_cons, List.length_nil, Nat.reduceAdd, Nat.zero_add]); rfl) (by (try simp only [pushL]); rfl) ?_
  refine wp_iteP rfl (fun h2 => ?_) (fun h2 => ?_)
  · have h3 : ¬ (((line + p.g.length : Nat) : Int) ≤ r.lines - 1) := by omega
    refine wp_ret rfl rfl ?_
    unfold sitF
    rw [decide_eq_false h3]; rfl
  have hd : decide (((line + p.g.length : Nat) : Int) ≤ r.lines - 1) = true := decide_eq_true (by omega)
  refine wp_len25 rfl (by assumption) ?_
  refine wp_join (fun vs => vs = [] ∧ gsF slip r p line fl = true) ?_ ?_
  · refine wp_loop (fun j vs => ∃ i : Nat, vs = [iv i] ∧ i + j = p.g.length ∧ ∀ k, k < i → (fl.getD k false || nr slip (p.g.getD k 0) (stp r (line + k))) = true) p.g.length (by omega) ⟨0, rfl, by omega, fun k hk => by omega⟩ ?_
    rintro j vs ⟨i, rfl, hi, hb⟩
    refine wp_lss rfl rfl ?_
    refine wp_iteP rfl (fun h3 => ?_) (fun h3 => ?_)
    · have hlt : i < p.g.length := by omega
      have hg := hp.get hlt
      have hs' := hst (line + i)
      have hrg := rowI hil hlt
      have hfi := hfg i hlt
      have hbad : (fl.getD i false || nr slip (p.g.getD i 0) (stp r (line + i))) = false → gsF slip r p line fl = false := fun h => Bool.eq_false_iff.2 fun hc => by
        have := List.all_eq_true.1 hc i (by simpa using hlt)
        rw [h] at this; cases this
      have hst : (fl.getD i false || nr slip (p.g.getD i 0) (stp r (line + i))) = true → ∀ k, k < i + 1 → (fl.getD k false || nr slip (p.g.getD k 0) (stp r (line + k))) = true := fun h k hk => by
        by_cases e : k = i
        · subst e; exact h
        · exact hb k (by omega)
      generalize p.g.getD i 0 = a at hg hrg hbad hst
      clear hil
      refine wp _ hrg ?_
      refine wp_join (fun vs => vs = [.bool (!(fl.getD i false || nr slip a (stp r (line + i))))]) ?_ ?_
      · refine wp_callE (ev106S (k + 0) hs (g := i) (by omega)) rfl ?_
        rw [← hfi]
        refine wp_not rfl ?_
        refine wp_iteB rfl (fun h4 => ?_) (fun h4 => ?_)
        · have e : fl.getD i false = false := by simpa using h4
          refine wp_addN rfl rfl (by omega) ?_
          refine wp_callE (ev81 (k + 0) hr (line + i)) rfl ?_
          refine wp_callvE (g := 104) (caps := [rf [iv slip]]) rfl (ev104 k (slip := slip) (m := a) (r := stp r (line + i)) (by omega)) rfl ?_
          refine wp_not rfl ?_
          rw [e, Bool.false_or]
          exact wp_jump rfl
        · have e : fl.getD i false = true := by simpa using h4
          rw [e, Bool.true_or]
          exact wp_jump rfl
      rintro vs rfl
      try refine rn_norm (by (try simp only [List.length_cons, List.length_nil, Nat.reduceAdd, Nat.zero_add]); rfl) (by (try simp only [pushL]); rfl) ?_
      refine wp_iteB rfl (fun h4 => ?_) (fun h4 => ?_)
      · refine wp_retO ?_
        refine wp_retO ?_
        refine wp_ret rfl rfl ?_
        unfold sitF
        rw [hd, hbad (by cases hv : (fl.getD i false || nr slip a (stp r (line + i))) with | false => rfl | true => rw [hv] at h4; cases h4)]; rfl
      · refine wp_add1 rfl rfl (by omega) ?_
        exact wp_jump ⟨j - 1, by omega, i + 1, rfl, by omega, hst (by cases hv : (fl.getD i false || nr slip a (stp r (line + i))) with | true => rfl | false => rw [hv] at h4; cases h4)⟩
    · refine wp_jumpO (by decide) ?_
      exact wp_jump ⟨rfl, List.all_eq_true.2 fun k hk => hb k (by simp at hk; omega)⟩
  rintro vs ⟨rfl, hgs⟩
  try refine rn_norm (by (try simp only [List.length_cons, List.length_nil, Nat.reduceAdd, Nat.zero_add]); rfl) (by (try simp only [pushL]); rfl) ?_
  refine wp_join (fun vs => vs = [.bool (upB slip r p line || dnB slip r p line)]) ?_ ?_
  · refine wp_gtr rfl rfl ?_
    have hfin : ∀ b : Bool, upB slip r p line = false → dnB slip r p line = b → (upB slip r p line || dnB slip r p line) = b := fun b h1 h2 => by rw [h1, h2]; rfl
    refine wp_iteP rfl (fun h3 => ?_) (fun h3 => ?_)
    · refine wp_sub1 rfl rfl (by omega) ?_
      refine wp_callE (ev81 (k + 0) hr (line - 1)) rfl ?_
      refine wp_callvE (g := 105) (caps := [rf [iv slip]]) rfl (ev105 k (slip := slip) (m := p.up) (r := stp r (line - 1)) (by omega)) rfl ?_
      refine wp_not rfl ?_
      have h3' : 0 < line := by omega
      refine wp_iteB rfl (fun h5 => ?_) (fun h5 => ?_)
      · have e : upB slip r p line = true := by unfold upB; rw [decide_eq_true h3']; exact h5
        rw [e, Bool.true_or]
        exact wp_jump rfl
      · have hu : upB slip r p line = false := by unfold upB; rw [decide_eq_true h3']; exact h5
        refine wp_sub rfl rfl (by omega) (by omega) ?_
        refine wp_lss rfl rfl ?_
        refine wp_iteP rfl (fun h4 => ?_) (fun h4 => ?_)
        · refine wp_callE (ev81 (k + 0) hr (line + p.g.length)) rfl ?_
          refine wp_callvE (g := 105) (caps := [rf [iv slip]]) rfl (ev105 k (slip := slip) (m := p.dn) (r := stp r (line + p.g.length)) (by omega)) rfl ?_
          refine wp_not rfl ?_
          rw [hfin (!fa slip p.dn (stp r (line + p.g.length))) hu (by unfold dnB; rw [decide_eq_true h4]; rfl)]
          exact wp_jump rfl
        · rw [hfin false hu (by unfold dnB; rw [decide_eq_false h4]; rfl)]
          exact wp_jump rfl
    · have h3' : ¬ 0 < line := by omega
      have hu : upB slip r p line = false := by unfold upB; rw [decide_eq_false h3']; rfl
      refine wp_sub rfl rfl (by omega) (by omega) ?_
      refine wp_lss rfl rfl ?_
      refine wp_iteP rfl (fun h4 => ?_) (fun h4 => ?_)
      · refine wp_callE (ev81 (k + 0) hr (line + p.g.length)) rfl ?_
        refine wp_callvE (g := 105) (caps := [rf [iv slip]]) rfl (ev105 k (slip := slip) (m := p.dn) (r := stp r (line + p.g.length)) (by omega)) rfl ?_
        refine wp_not rfl ?_
        rw [hfin (!fa slip p.dn (stp r (line + p.g.length))) hu (by unfold dnB; rw [decide_eq_true h4]; rfl)]
        exact wp_jump rfl
      · rw [hfin false hu (by unfold dnB; rw [decide_eq_false h4]; rfl)]
        exact wp_jump rfl
  rintro vs rfl
  try refine rn_norm (by (try simp only [List.length_cons, List.length_nil, Nat.reduceAdd, Nat.zero_add]); rfl) (by (try simp only [pushL]); rfl) ?_
  refine wp_iteB rfl (fun h3 => ?_) (fun h3 => ?_)
  · refine wp_ret rfl rfl ?_
    unfold sitF
    rw [hd, hgs, h3]; rfl
  refine wp_join (fun vs => vs = [.bool (wdB slip r p)]) ?_ ?_
  · refine wp_eql rfl rfl ?_
    refine wp_iteP rfl (fun h5 => ?_) (fun h5 => ?_)
    · have e : wdB slip r p = true := by unfold wdB; rw [decide_eq_true h5]; rfl
      rw [e]
      exact wp_jump rfl
    · refine wp_callvE (g := 104) (caps := [rf [iv slip]]) rfl (ev104 (k + 0) (slip := slip) (m := p.wd) (r := r.width) (by omega)) rfl ?_
      have e : wdB slip r p = nr slip p.wd r.width := by unfold wdB; rw [decide_eq_false h5]; rfl
      rw [e]
      exact wp_jump rfl
  rintro vs rfl
  try refine rn_norm (by (try simp only [List.length_cons, List.length_nil, Nat.reduceAdd, Nat.zero_add]); rfl) (by (try simp only [pushL]); rfl) ?_
  refine wp_ret rfl rfl ?_
  unfold sitF
  rw [hd, hgs, h3]; rfl
theorem mem_sptF {slip : Int} {r : Rg} {p : Pc} {fl : List Bool} {t t' : Bool} {i n : Nat} : (i, t') ∈ sptF slip r p fl t n ↔ t' = t ∧ i < n ∧ sitF slip r p i fl = true := by
  induction n with
  | zero => simp [sptF]
  | succ n ih =>
    simp only [sptF, List.mem_append, ih]
    by_cases h : sitF slip r p n fl = true
    · rw [if_pos h]
      simp
      constructor
      · rintro (⟨a, b, c⟩ | ⟨rfl, a⟩)
        · exact ⟨a, by omega, c⟩
        · exact ⟨a, by omega, h⟩
      · rintro ⟨a, b, c⟩
        by_cases e : i = n
        · exact .inr ⟨e, a⟩
        · exact .inl ⟨a, by omega, c⟩
    · rw [if_neg h]
      simp
      intro a c
      have : i ≠ n := by rintro rfl; exact h c
      omega
theorem sptF_nil {slip : Int} {r : Rg} {p : Pc} {fl : List Bool} {t : Bool} : ∀ {n : Nat}, (∀ i, i < n → sitF slip r p i fl = false) → sptF slip r p fl t n = []
  | 0, _ => rfl
  | n + 1, h => by simp [sptF, h n (Nat.lt_succ_self n), sptF_nil (n := n) fun i hi => h i (by omega)]
def anyF (slip : Int) (r : Rg) (p : Pc) (fl : List Bool) : Bool := decide (0 < (spotsF slip r p fl).length)
theorem anyF_of {slip : Int} {r : Rg} {p : Pc} {fl : List Bool} {s : Nat × Bool} (h : s ∈ spotsF slip r p fl) : anyF slip r p fl = true := by
  simp only [anyF, decide_eq_true_eq]
  exact List.length_pos_of_mem h
def revM (n s : Nat) : Nat → Nat
  | 0 => 0
  | k + 1 => if s.testBit k then revM n s k ||| 2 ^ (n - 1 - k) else revM n s k
theorem rev_key : ∀ n : Nat, n < 6 → ∀ s : Nat, s < 32 → (revM n s n < 32 ∧ flS n (revM n s n) = (flS n s).reverse) ∧ ∀ k, k < n → revM n s k < 32 := of_decide_eq_true (by kernel_rfl)
theorem or_key : ∀ a : Nat, a < 32 → ∀ g : Nat, g < 5 → bits .or .u8 (a : Int) (IntKind.u8.wrap (1 * 2 ^ min g 8)) = ((a ||| 2 ^ g : Nat) : Int) := of_decide_eq_true (by kernel_rfl)
theorem ev82S (k : Nat) {slip : Int} (hs0 : 0 ≤ slip) (hs1 : slip ≤ 3) {r : Rg} (hr : r.ok) {p : Pc} (hp : p.ok) {s : Nat} (hs : s < 32) : Ev (k + 4) 82 [.agg (gv slip), .agg r.cells, .agg p.cells, u8 s] fun v => v = .bool (anyF slip r p (flS p.g.length s)) := by
  refine rn_of (t := t82) rfl (fn := Try.f82) (by kernel_rfl) (by simp [fitArgs, flagsOf, Pc.cells, hp.il.plain, Rg.cells, hr.il.plain]) ?_
  have n1 := hr.n1
  have n2 := hr.n2
  have g5 := hp.gl
  have hil := hp.il
  obtain ⟨⟨hb1, hb2⟩, hb3⟩ := rev_key p.g.length (by omega) s hs
  have h118 := fun (i : Nat) (hi : i < 100) => ev118S (k + 1) hs0 hs1 hr hp (line := i) hi hs
  refine wp_agg (cs := gv slip) rfl rfl ?_
  refine wp_agg (by simp only [tv, tp, tn, PE.dn, SE.dn, dnL, nth, projV, List.getD_cons_succ, List.getD_cons_zero, Rg.cells, Pc.cells]; rfl) rfl ?_
  refine wp_agg (by simp only [tv, tp, tn, PE.dn, SE.dn, dnL, nth, projV, List.getD_cons_succ, List.getD_cons_zero, Rg.cells, Pc.cells]; rfl) rfl ?_
  refine wp_one (by simp only [tv, tp, tn, PE.dn, SE.dn, dnL, nth, projV, List.getD_cons_succ, List.getD_cons_zero, Rg.cells, Pc.cells]; rfl) rfl ?_
  refine wp_join (fun vs => vs = [] ∧ spotsF slip r p (flS p.g.length s) = []) ?_ ?_
  · refine wp_join (fun vs => vs = [] ∧ ∀ i, i < r.lines.toNat → sitF slip r p i (flS p.g.length s) = false) ?_ ?_
    · refine wp_loop (fun j vs => ∃ i : Nat, vs = [iv i] ∧ i + j = r.lines.toNat ∧ ∀ k, k < i → sitF slip r p k (flS p.g.length s) = false) r.lines.toNat (by omega) ⟨0, rfl, by omega, fun k hk => by omega⟩ ?_
      rintro j vs ⟨i, rfl, hi, hb⟩
      refine wp_lss rfl rfl ?_
      refine wp_iteP rfl (fun h => ?_) (fun h => ?_)
      · refine wp_callE (h118 i (by omega)) rfl ?_
        refine wp_iteB rfl (fun h2 => ?_) (fun h2 => ?_)
        · refine wp_one (by simp only [tv, tp, tn, PE.dn, SE.dn, dnL, nth, projV, List.getD_cons_succ, List.getD_cons_zero, Rg.cells, Pc.cells]; rfl) rfl ?_
          refine wp_retO ?_
          refine wp_retO ?_
          refine wp_retO ?_
          have e : anyF slip r p (flS p.g.length s) = true := anyF_of (s := (i, false)) (by simp only [spotsF, List.mem_append]; exact .inl (mem_sptF.2 ⟨rfl, by omega, h2⟩))
          rw [e]
          exact wp_ret rfl rfl rfl
        · refine wp_add1 rfl rfl (by omega) ?_
          refine wp_jump ⟨j - 1, by omega, i + 1, rfl, by omega, fun k hk => ?_⟩
          by_cases e : k = i
          · subst e; exact h2
          · exact hb k (by omega)
      · refine wp_jumpO (by decide) ?_
        exact wp_jump ⟨rfl, fun k hk => hb k (by omega)⟩
    · rintro vs ⟨rfl, hn⟩
      have hF := sptF_nil (t := false) hn
      try refine rn_norm (by (try simp only [List.length_cons, List.length_nil, Nat.reduceAdd, Nat.zero_add]); rfl) (by (try simp only [pushL]); rfl) ?_
      refine wp_not rfl ?_
      refine wp_iteB rfl (fun h => ?_) (fun h => ?_)
      · have hfr : p.fr = false := by simpa using h
        exact wp_jump ⟨rfl, by simp [spotsF, hfr, hF]⟩
      · have hfr : p.fr = true := by simpa using h
        refine wp_len25 rfl (by assumption) ?_
        refine wp_join (fun vs => vs = [u8 (revM p.g.length s p.g.length)]) ?_ ?_
        · refine wp_loop (fun j vs => ∃ i : Nat, vs = [u8 (revM p.g.length s i), iv i] ∧ i + j = p.g.length) p.g.length (by omega) ⟨0, rfl, by omega⟩ ?_
          rintro j vs ⟨i, rfl, hi⟩
          refine wp_lss rfl rfl ?_
          refine wp_iteP rfl (fun h3 => ?_) (fun h3 => ?_)
          · refine wp_callE (ev106S (k + 2) hs (g := i) (by omega)) rfl ?_
            have hbi := hb3 i (by omega)
            refine wp_join (fun vs => vs = [u8 (revM p.g.length s (i + 1))]) ?_ ?_
            · simp only [revM]
              refine wp_iteB rfl (fun h4 => ?_) (fun h4 => ?_)
              · rw [if_pos h4]
                refine wp_len25 rfl (by assumption) ?_
                refine wp_sub1 rfl rfl (by omega) ?_
                refine wp_subN rfl rfl (by omega) ?_
                refine wp_shl8 (a := 1) rfl rfl ?_
                refine wp_or8 rfl rfl ?_
                rw [or_key _ hbi (p.g.length - 1 - i) (by omega)]
                exact wp_jump rfl
              · rw [if_neg (by simp [h4])]
                exact wp_jump rfl
            · rintro vs rfl
              refine wp_add1 rfl rfl (by omega) ?_
              exact wp_jump ⟨j - 1, by omega, i + 1, rfl, by omega⟩
          · refine wp_jumpO (by decide) ?_
            have e : i = p.g.length := by omega
            subst e
            exact wp_jump rfl
        · rintro vs rfl
          try refine rn_norm (by (try simp only [List.length_cons, List.length_nil, Nat.reduceAdd, Nat.zero_add]); rfl) (by (try simp only [pushL]); rfl) ?_
          refine wp_call (ev119 (k + 1) hp) rfl ?_
          rintro v ⟨q, rfl, hq⟩
          have hp2 : (Pc.mk q p.g.reverse p.dn p.up p.wd p.fr).ok := ⟨hq, by simpa using hp.gl, fun x hx => hp.gs x (by simpa using hx), hp.d0, hp.d1, hp.u0, hp.u1, hp.w0, hp.w1⟩
          have h118b := fun (i : Nat) (hi : i < 100) => ev118S (k + 1) hs0 hs1 hr hp2 (line := i) hi hb1
          have hc : ∀ i, sitF slip r ⟨q, p.g.reverse, p.dn, p.up, p.wd, p.fr⟩ i (flS (Pc.mk q p.g.reverse p.dn p.up p.wd p.fr).g.length (revM p.g.length s p.g.length)) = sitF slip r (half p) i (flS p.g.length s).reverse := fun i => by
            show sitF slip r ⟨q, p.g.reverse, p.dn, p.up, p.wd, p.fr⟩ i (flS p.g.reverse.length _) = _
            rw [List.length_reverse, hb2]; rfl
          simp only [hc] at h118b
          refine wp_agg (cs := [q, iv p.dn, iv p.up, iv p.wd, .bool p.fr]) rfl rfl ?_
          refine wp_join (fun vs => vs = [] ∧ ∀ i, i < r.lines.toNat → sitF slip r (half p) i (flS p.g.length s).reverse = false) ?_ ?_
          · refine wp_loop (fun j vs => ∃ i : Nat, vs = [iv i] ∧ i + j = r.lines.toNat ∧ ∀ k, k < i → sitF slip r (half p) k (flS p.g.length s).reverse = false) r.lines.toNat (by omega) ⟨0, rfl, by omega, fun k hk => by omega⟩ ?_
            rintro j vs ⟨i, rfl, hi, hb⟩
            refine wp_lss rfl rfl ?_
            refine wp_iteP rfl (fun h3 => ?_) (fun h3 => ?_)
            · refine wp_callE (h118b i (by omega)) rfl ?_
              refine wp_iteB rfl (fun h2 => ?_) (fun h2 => ?_)
              · refine wp_one (by simp only [tv, tp, tn, PE.dn, SE.dn, dnL, nth, projV, List.getD_cons_succ, List.getD_cons_zero, Rg.cells, Pc.cells]; rfl) rfl ?_
                refine wp_retO ?_
                refine wp_retO ?_
                refine wp_retO ?_
                have e : anyF slip r p (flS p.g.length s) = true := anyF_of (s := (i, true)) (by simp only [spotsF, List.mem_append, hfr, if_true]; exact .inr (mem_sptF.2 ⟨rfl, by omega, h2⟩))
                rw [e]
                exact wp_ret rfl rfl rfl
              · refine wp_add1 rfl rfl (by omega) ?_
                refine wp_jump ⟨j - 1, by omega, i + 1, rfl, by omega, fun k hk => ?_⟩
                by_cases e : k = i
                · subst e; exact h2
                · exact hb k (by omega)
            · refine wp_jumpO (by decide) ?_
              exact wp_jump ⟨rfl, fun k hk => hb k (by omega)⟩
          · rintro vs ⟨rfl, hn2⟩
            have hF2 := sptF_nil (t := true) hn2
            try refine rn_norm (by (try simp only [List.length_cons, List.length_nil, Nat.reduceAdd, Nat.zero_add]); rfl) (by (try simp only [pushL]); rfl) ?_
            exact wp_jump ⟨rfl, by simp [spotsF, hfr, hF, hF2]⟩
  · rintro vs ⟨rfl, hsp⟩
    have e : anyF slip r p (flS p.g.length s) = false := by unfold anyF; rw [hsp]; rfl
    rw [e]
    exact wp_ret rfl rfl rfl
end Go.Proofs.Ytlminnpaeaganaa
namespace Go.Proofs.Ytlminnpaeaganaa
open Go Go.RowKit
set_option linter.unusedVariables false
set_option linter.unusedSimpArgs false
set_option maxRecDepth 100000
def gl (s : Nat) : Nat → List Int
  | 0 => []
  | i + 1 => gl s i ++ if s.testBit i then [(i : Int)] else []
def gapsL (s : Nat) : List Int := gl s 5
def G (s : Nat) : PV := ilOf (gapsL s)
theorem G_il (s : Nat) : IL (G s) (gapsL s) := il_of _
theorem gl_len (s : Nat) : ∀ i, (gl s i).length ≤ i
  | 0 => by simp [gl]
  | i + 1 => by
    have := gl_len s i
    simp only [gl]
    split <;> simp <;> omega
theorem gapsL_len (s : Nat) : (gapsL s).length ≤ 5 := gl_len s 5
theorem ev91 (k : Nat) {s : Nat} (hs : s < 32) : Ev (k + 2) 91 [u8 s] fun v => v = G s := by
  refine rn_of (t := t91) rfl (fn := Try.f91) (by kernel_rfl) rfl ?_
  try refine rn_norm (by (try simp only [List.length_cons, List.length_nil, Nat.reduceAdd, Nat.zero_add]); rfl) (by (try simp only [pushL]); rfl) ?_
  refine wp_join (fun vs => vs = [.agg ((gl s 5).map iv)]) ?_ ?_
  · refine wp_loop (fun j vs => ∃ i : Nat, vs = [.agg ((gl s i).map iv), iv i] ∧ i + j = 5) 5 (by omega) ⟨0, rfl, by omega⟩ ?_
    rintro j vs ⟨i, rfl, hi⟩
    refine wp_lss rfl rfl ?_
    refine wp_iteP rfl (fun h => ?_) (fun h => ?_)
    · have hl := gl_len s i
      refine wp_callE (ev106S k hs (g := i) (by omega)) rfl ?_
      refine wp_join (fun vs => vs = [.agg ((gl s (i + 1)).map iv)]) ?_ ?_
      · simp only [gl]
        refine wp_iteB rfl (fun h3 => ?_) (fun h3 => ?_)
        · rw [if_pos h3]
          refine wp_one (by simp only [tv, tp, tn, PE.dn, SE.dn, dnL, nth, projV, List.getD_cons_succ, List.getD_cons_zero, Rg.cells, Pc.cells]; rfl) rfl ?_
          refine wp_pushI rfl rfl (by decide) (by first | omega | (simp; omega)) ?_
          exact wp_jump rfl
        · rw [if_neg (by simp [h3]), List.append_nil]
          exact wp_jump rfl
      rintro vs rfl
      refine wp_add1 rfl rfl (by omega) ?_
      exact wp_jump ⟨j - 1, by omega, i + 1, rfl, by omega⟩
    · refine wp_jumpO (by decide) ?_
      have e : i = 5 := by omega
      subst e
      exact wp_jump rfl
  rintro vs rfl
  try refine rn_norm (by (try simp only [List.length_cons, List.length_nil, Nat.reduceAdd, Nat.zero_add]); rfl) (by (try simp only [pushL]); rfl) ?_
  refine wp_frzN rfl ?_
  exact wp_ret rfl (G_il s).plain.1 rfl
def GL (x : PV) (ms : List Nat) : Prop := (x = .snil ∧ ms = []) ∨ ∃ off, x = .sl none 1 off ms.length (ms.map G)
theorem G_plain : ∀ ms : List Nat, plainC (ms.map G) = true
  | [] => rfl
  | s :: ms => by simp [(G_il s).plain, G_plain ms]
theorem GL.plain {x : PV} {l : List Nat} (h : GL x l) : x.plain = true ∧ x.one = true := by
  rcases h with ⟨rfl, _⟩ | ⟨off, rfl⟩
  · exact ⟨rfl, rfl⟩
  · exact ⟨by simp only [PV.plain]; exact G_plain l, rfl⟩
theorem un73 : ∃ e, Try.prog.underlying 73 = some (.slice e) := by
  have h : (match Try.prog.underlying 73 with | some (.slice _) => true | _ => false) = true := by kernel_rfl
  split at h
  · exact ⟨_, by assumption⟩
  · cases h
theorem GL.len {x : PV} {l : List Nat} (h : GL x l) : aLen Try.prog 73 x = some (iv l.length) := by
  obtain ⟨e, he⟩ := un73
  rcases h with ⟨rfl, rfl⟩ | ⟨off, rfl⟩ <;> simp [aLen, he]
theorem rowG {x : PV} {l : List Nat} (h : GL x l) {n : Nat} (hn : n < l.length) : rowV 1 x (iv n) = some (.agg [G (l.getD n 0)]) := by
  rcases h with ⟨rfl, rfl⟩ | ⟨off, rfl⟩
  · simp at hn
  · have e : ((l.map G).drop (n * 1)).take 1 = [G (l.getD n 0)] := by
      rw [Nat.mul_one, List.drop_eq_getElem_cons (by simpa using hn)]
      simp [List.getD_eq_getElem?_getD, hn]
    simp only [rowV, Int.toNat_natCast]
    rw [if_pos ⟨by omega, by omega, trivial, by rw [e]; rfl⟩, e]
def glOf (l : List Nat) : PV := match l with
  | [] => .snil
  | a :: l => .sl none 1 0 (l.length + 1) ((a :: l).map G)
theorem gl_of (l : List Nat) : GL (glOf l) l := by
  cases l with
  | nil => exact .inl ⟨rfl, rfl⟩
  | cons a l => exact .inr ⟨0, rfl⟩
section
variable {C : Orc → FuncId → List PV → Option PV} {n : Nat} {R : Out → Prop} {d : Nat} {st : List PV} {t : Tree}
theorem wp_len73 {x : PE} {v : PV} {l : List Nat} (hx : x.dn d st = v) (h : GL v l) (k : Rn C n t (d + 1) (iv l.length :: st) R) : Rn C n (.prim (.len 73 x) t) d st R := wp _ (by rw [← h.len, ← hx]; rfl) k
theorem wp_pushG {c : SE} {y : PE} {l : List Nat} {s : Nat} (hc : c.dn d st = .agg (l.map G)) (hy : y.dn d st = .sl none 1 0 1 [G s]) (hl : l.length < 1000000) (k : Rn C n t (d + 1) (.agg ((l ++ [s]).map G) :: st) R) : Rn C n (.prim (.push 1 24 c y) t) d st R := wp _ (by
  simp [Prim.rn, hc, hy]
  omega) k
theorem wp_frzG {c : SE} {l : List Nat} (hc : c.dn d st = .agg (l.map G)) (k : Rn C n t (d + 1) (glOf l :: st) R) : Rn C n (.prim (.frz 1 .nil0 c) t) d st R := wp _ (by
  cases l with
  | nil => simp [Prim.rn, hc, frzV, isNil, glOf]
  | cons a l => simp [Prim.rn, hc, frzV, isNil, glOf]) k
end
def cmpW (a b : Int) : Int := if a < b then -1 else if b < a then 1 else 0
def cmpL : List Int → List Int → Int
  | [], [] => 0
  | [], _ :: _ => -1
  | _ :: _, [] => 1
  | a :: l, b :: m => if cmpW a b ≠ 0 then cmpW a b else cmpL l m
def cmpF (a b : List Int) : Int := if cmpW a.length b.length ≠ 0 then cmpW a.length b.length else cmpL a b
theorem ev120 (k : Nat) (a : Int) : Ev (k + 1) 120 [iv a] fun v => v = .bool false := by
  refine rn_of (t := t120) rfl (fn := Try.f120) (by kernel_rfl) rfl ?_
  refine wp_neq rfl rfl ?_
  refine wp_ret rfl rfl ?_
  show PV.bool (decide (a ≠ a)) = _
  simp
theorem ev109 (k : Nat) (a b : Int) : Ev (k + 2) 109 [iv a, iv b] fun v => v = iv (cmpW a b) := by
  refine rn_of (t := t109) rfl (fn := Try.f109) (by kernel_rfl) rfl ?_
  try refine rn_norm (by (try simp only [List.length_cons, List.length_nil, Nat.reduceAdd, Nat.zero_add]); rfl) (by (try simp only [pushL]); rfl) ?_
  refine wp_callE (ev120 k a) rfl ?_
  refine wp_callE (ev120 k b) rfl ?_
  refine wp_iteF rfl ?_
  refine wp_iteF rfl ?_
  refine wp_lss rfl rfl ?_
  refine wp_iteP rfl (fun h => ?_) (fun h => ?_)
  · refine wp_ret (v := iv _) rfl rfl ?_
    unfold cmpW; rw [if_pos h]
  · refine wp_gtr rfl rfl ?_
    refine wp_iteP rfl (fun h2 => ?_) (fun h2 => ?_)
    · refine wp_ret (v := iv _) rfl rfl ?_
      unfold cmpW; rw [if_neg h, if_pos h2]
    · refine wp_ret (v := iv _) rfl rfl ?_
      unfold cmpW; rw [if_neg h, if_neg h2]
theorem drop_cons {l : List Int} {i : Nat} (h : i < l.length) : l.drop i = l.getD i 0 :: l.drop (i + 1) := by
  rw [List.drop_eq_getElem_cons h]
  simp [List.getD_eq_getElem?_getD, h]
theorem ev110 (k : Nat) {x y : PV} {a b : List Int} (hx : IL x a) (hy : IL y b) (hl : a.length < 4000) (hl2 : b.length < 4000) : Ev (k + 3) 110 [x, y] fun v => v = iv (cmpL a b) := by
  refine rn_of (t := t110) rfl (fn := Try.f110) (by kernel_rfl) (by simp [fitArgs, flagsOf, hx.plain, hy.plain]) ?_
  try refine rn_norm (by (try simp only [List.length_cons, List.length_nil, Nat.reduceAdd, Nat.zero_add]); rfl) (by (try simp only [pushL]); rfl) ?_
  refine wp_len25 rfl hx ?_
  refine wp_join (fun vs => vs = [] ∧ a.length ≤ b.length ∧ cmpL a b = cmpL [] (b.drop a.length)) ?_ ?_
  · refine wp_loop (fun j vs => ∃ i : Nat, vs = [iv i] ∧ i + j = a.length ∧ i ≤ b.length ∧ cmpL a b = cmpL (a.drop i) (b.drop i)) a.length (by omega) ⟨0, rfl, by omega, by omega, rfl⟩ ?_
    rintro j vs ⟨i, rfl, hi, hib, he⟩
    refine wp_lss rfl rfl ?_
    refine wp_iteP rfl (fun h => ?_) (fun h => ?_)
    · have hlt : i < a.length := by omega
      refine wp_row1 rfl hx rfl hlt ?_
      refine wp_len25 rfl hy ?_
      refine wp_geq rfl rfl ?_
      refine wp_iteP rfl (fun h2 => ?_) (fun h2 => ?_)
      · refine wp_retO ?_
        refine wp_retO ?_
        refine wp_ret (v := iv _) rfl rfl ?_
        rw [he, drop_cons hlt, show b.drop i = [] from List.drop_eq_nil_of_le (by omega)]
        rfl
      · have hlb : i < b.length := by omega
        refine wp_row1 rfl hy rfl hlb ?_
        refine wp_callE (ev109 k _ _) rfl ?_
        rw [drop_cons hlt, drop_cons hlb] at he
        simp only [cmpL] at he
        refine wp_neq rfl rfl ?_
        refine wp_iteP rfl (fun h3 => ?_) (fun h3 => ?_)
        · rw [if_pos h3] at he
          refine wp_retO ?_
          refine wp_retO ?_
          refine wp_ret (v := iv _) rfl rfl ?_
          rw [he]
        · rw [if_neg h3] at he
          refine wp_add1 rfl rfl (by omega) ?_
          exact wp_jump ⟨j - 1, by omega, i + 1, rfl, by omega, by omega, he⟩
    · refine wp_jumpO (by decide) ?_
      have e : i = a.length := by omega
      subst e
      rw [List.drop_length] at he
      exact wp_jump ⟨rfl, hib, he⟩
  rintro vs ⟨rfl, hle, he⟩
  try refine rn_norm (by (try simp only [List.length_cons, List.length_nil, Nat.reduceAdd, Nat.zero_add]); rfl) (by (try simp only [pushL]); rfl) ?_
  refine wp_len25 rfl hx ?_
  refine wp_len25 rfl hy ?_
  refine wp_lss rfl rfl ?_
  refine wp_iteP rfl (fun h => ?_) (fun h => ?_)
  · refine wp_ret (v := iv _) rfl rfl ?_
    rw [he, drop_cons (show a.length < b.length by omega)]
    rfl
  · refine wp_ret (v := iv _) rfl rfl ?_
    rw [he, List.drop_eq_nil_of_le (by omega)]
    rfl
theorem ev108 (k : Nat) {x y : PV} {a b : List Int} (hx : IL x a) (hy : IL y b) (hl : a.length < 4000) (hl2 : b.length < 4000) : Ev (k + 4) 108 [x, y] fun v => v = iv (cmpF a b) := by
  refine rn_of (t := t108) rfl (fn := Try.f108) (by kernel_rfl) (by simp [fitArgs, flagsOf, hx.plain, hy.plain]) ?_
  try refine rn_norm (by (try simp only [List.length_cons, List.length_nil, Nat.reduceAdd, Nat.zero_add]); rfl) (by (try simp only [pushL]); rfl) ?_
  refine wp_len25 rfl hx ?_
  refine wp_len25 rfl hy ?_
  refine wp_callE (ev109 (k + 1) _ _) rfl ?_
  refine wp_neq rfl rfl ?_
  refine wp_iteP rfl (fun h => ?_) (fun h => ?_)
  · refine wp_ret (v := iv _) rfl rfl ?_
    unfold cmpF; rw [if_pos h]
  · refine wp_callE (ev110 k hx hy hl hl2) rfl ?_
    refine wp_ret (v := iv _) rfl rfl ?_
    unfold cmpF; rw [if_neg h]
def ordL : List Nat := [0, 1, 2, 4, 8, 16, 3, 5, 9, 17, 6, 10, 18, 12, 20, 24, 7, 11, 19, 13, 21, 25, 14, 22, 26, 28, 15, 23, 27, 29, 30, 31]
def rank (s : Nat) : Nat := ordL.idxOf s
theorem cmp_key : ∀ a : Nat, a < 32 → ∀ b : Nat, b < 32 → decide (cmpF (gapsL a) (gapsL b) < 0) = decide (rank a < rank b) := of_decide_eq_true (by kernel_rfl)
def chs (n m : Nat) : List Nat := ordL.filter fun s => decide (s < 2 ^ n) && decide ((gapsL s).length = m)
def allM (n : Nat) : List Nat := (List.range (n + 1)).flatMap (chs n)
theorem all_key : ∀ n : Nat, n < 6 → (∀ s : Nat, s < 2 ^ n → s ∈ allM n) ∧ (∀ s ∈ allM n, s < 2 ^ n) ∧ (allM n).Pairwise (fun a b => rank a < rank b) := of_decide_eq_true (by kernel_rfl)
def minM : List Nat → Nat
  | [] => 0
  | m :: l => l.foldl (fun m x => if rank x < rank m then x else m) m
theorem minM_snoc {l : List Nat} (h : l ≠ []) (x : Nat) : minM (l ++ [x]) = if rank x < rank (minM l) then x else minM l := by
  cases l with
  | nil => exact absurd rfl h
  | cons a l =>
    show (l ++ [x]).foldl _ a = _
    rw [List.foldl_append]
    rfl
theorem minM_ok : ∀ (l : List Nat) (m : Nat), (l.foldl (fun m x => if rank x < rank m then x else m) m ∈ m :: l) ∧ ∀ x ∈ m :: l, ¬ rank x < rank (l.foldl (fun m x => if rank x < rank m then x else m) m)
  | [], m => ⟨by simp, by simp⟩
  | a :: l, m => by
    simp only [List.foldl_cons]
    split
    · rename_i h
      obtain ⟨h1, h2⟩ := minM_ok l a
      refine ⟨List.mem_cons_of_mem _ h1, fun x hx => ?_⟩
      rcases List.mem_cons.1 hx with rfl | hx
      · have := h2 a (by simp); omega
      · exact h2 x hx
    · rename_i h
      obtain ⟨h1, h2⟩ := minM_ok l m
      refine ⟨?_, fun x hx => ?_⟩
      · rcases List.mem_cons.1 h1 with h1 | h1
        · rw [h1]; simp
        · exact List.mem_cons_of_mem _ (List.mem_cons_of_mem _ h1)
      · rcases List.mem_cons.1 hx with rfl | hx
        · exact h2 x (by simp)
        · rcases List.mem_cons.1 hx with rfl | hx
          · have := h2 m (by simp); omega
          · exact h2 x (List.mem_cons_of_mem _ hx)
theorem find_min {n : Nat} (hn : n < 6) (A : Nat → Bool) : (allM n).find? A = if (List.range (2 ^ n)).filter A = [] then none else some (minM ((List.range (2 ^ n)).filter A)) := by
  obtain ⟨k1, k2, k3⟩ := all_key n hn
  split
  · rename_i h
    refine List.find?_eq_none.2 fun s hs hA => ?_
    have : s ∈ (List.range (2 ^ n)).filter A := List.mem_filter.2 ⟨List.mem_range.2 (k2 s hs), hA⟩
    rw [h] at this; simp at this
  · rename_i h
    have hm : minM ((List.range (2 ^ n)).filter A) ∈ (List.range (2 ^ n)).filter A ∧ ∀ x ∈ (List.range (2 ^ n)).filter A, ¬ rank x < rank (minM ((List.range (2 ^ n)).filter A)) := by
      generalize (List.range (2 ^ n)).filter A = L at h
      cases L with
      | nil => exact absurd rfl h
      | cons a l => exact minM_ok l a
    generalize minM ((List.range (2 ^ n)).filter A) = m at hm
    obtain ⟨h1, h2⟩ := hm
    obtain ⟨h3, h4⟩ := List.mem_filter.1 h1
    have h5 := k1 m (List.mem_range.1 h3)
    cases hf : (allM n).find? A with
    | none => exact absurd h4 (List.find?_eq_none.1 hf m h5)
    | some s =>
      obtain ⟨hs, xs, bs, hab, hno⟩ := List.find?_eq_some_iff_append.1 hf
      congr 1
      have hsm : s ∈ allM n := by rw [hab]; simp
      have hsf : s ∈ (List.range (2 ^ n)).filter A := List.mem_filter.2 ⟨List.mem_range.2 (k2 s hsm), hs⟩
      rw [hab] at h5
      rcases List.mem_append.1 h5 with h6 | h6
      · have := hno m h6; rw [h4] at this; cases this
      · rcases List.mem_cons.1 h6 with h6 | h6
        · exact h6.symm
        · rw [hab] at k3
          have := (List.pairwise_cons.1 (List.pairwise_append.1 k3).2.1).1 m h6
          exact absurd this (h2 s hsf)
end Go.Proofs.Ytlminnpaeaganaa
namespace Go.Proofs.Ytlminnpaeaganaa
open Go Go.RowKit
set_option linter.unusedVariables false
set_option linter.unusedSimpArgs false
set_option maxRecDepth 100000
theorem takeN {l : List Nat} {i : Nat} (h : i < l.length) : l.take (i + 1) = l.take i ++ [l.getD i 0] := by
  rw [List.take_add_one]
  simp [List.getD_eq_getElem?_getD, h]
theorem gmN {l : List Nat} {i : Nat} (h : i < l.length) : l.getD i 0 ∈ l := by simp [List.getD_eq_getElem?_getD, h]
theorem ev107 (k : Nat) {x : PV} {ms : List Nat} (hx : GL x ms) (h0 : 0 < ms.length) (hl : ms.length ≤ 32) (hs : ∀ s ∈ ms, s < 32) : Ev (k + 5) 107 [x, .fn 108 []] fun v => v = G (minM ms) := by
  refine rn_of (t := t107) rfl (fn := Try.f107) (by kernel_rfl) (by simp [fitArgs, flagsOf, hx.plain]) ?_
  have hone : ∀ i, i ≤ ms.length → ∀ s ∈ ms.take i, s < 32 := fun i _ s hm => hs s (List.mem_of_mem_take hm)
  try refine rn_norm (by (try simp only [List.length_cons, List.length_nil, Nat.reduceAdd, Nat.zero_add]); rfl) (by (try simp only [pushL]); rfl) ?_
  refine wp_len73 rfl hx ?_
  refine wp_lss rfl rfl ?_
  refine wp_join (fun vs => vs = []) ?_ ?_
  · refine wp_itePF rfl (by omega) ?_
    exact wp_jump rfl
  rintro vs rfl
  try refine rn_norm (by (try simp only [List.length_cons, List.length_nil, Nat.reduceAdd, Nat.zero_add]); rfl) (by (try simp only [pushL]); rfl) ?_
  refine wp _ (rowG hx (n := 0) h0) ?_
  refine wp_join (fun vs => vs = [G (minM ms)]) ?_ ?_
  · refine wp_loop (fun j vs => ∃ i : Nat, vs = [G (minM (ms.take (i + 1))), iv ((i + 1 : Nat) : Int)] ∧ i + 1 + j = ms.length) (ms.length - 1) (by omega) ⟨0, by rw [takeN h0]; rfl, by omega⟩ ?_
    rintro j vs ⟨i, rfl, hi⟩
    try refine rn_norm (by (try simp only [List.length_cons, List.length_nil, Nat.reduceAdd, Nat.zero_add]); rfl) (by (try simp only [pushL]); rfl) ?_
    refine wp_len73 rfl hx ?_
    refine wp_lss rfl rfl ?_
    refine wp_iteP rfl (fun h => ?_) (fun h => ?_)
    · have hlt : i + 1 < ms.length := by omega
      have hrow := rowG hx hlt
      have ha := hs _ (gmN hlt)
      have hsnoc : minM (ms.take (i + 1 + 1)) = if rank (ms.getD (i + 1) 0) < rank (minM (ms.take (i + 1))) then ms.getD (i + 1) 0 else minM (ms.take (i + 1)) := by
        rw [takeN hlt, minM_snoc (by intro h; have := congrArg List.length h; rw [List.length_take, List.length_nil] at this; omega)]
      have hm : minM (ms.take (i + 1)) < 32 := by
        have hne : ms.take (i + 1) ≠ [] := by intro h; have := congrArg List.length h; rw [List.length_take, List.length_nil] at this; omega
        have hall := hone (i + 1) (by omega)
        generalize ms.take (i + 1) = L at hne hall
        cases L with
        | nil => exact absurd rfl hne
        | cons a l => exact hall _ (minM_ok l a).1
      generalize minM (ms.take (i + 1)) = m at hsnoc hm
      generalize ms.getD (i + 1) 0 = a at hrow ha hsnoc
      refine wp _ hrow ?_
      refine wp_callvE (g := 108) (caps := []) rfl (ev108 k (G_il a) (G_il m) (by have := gapsL_len a; omega) (by have := gapsL_len m; omega)) rfl ?_
      refine wp_lss rfl rfl ?_
      rw [cmp_key a ha m hm]
      refine wp_join (fun vs => vs = [G (minM (ms.take (i + 1 + 1)))]) ?_ ?_
      · rw [hsnoc]
        refine wp_iteP rfl (fun h3 => ?_) (fun h3 => ?_)
        · rw [if_pos h3]
          refine wp _ hrow ?_
          exact wp_jump rfl
        · rw [if_neg h3]
          exact wp_jump rfl
      rintro vs rfl
      refine wp_add1 rfl rfl (by omega) ?_
      exact wp_jump ⟨j - 1, by omega, i + 1, rfl, by omega⟩
    · refine wp_jumpO (by decide) ?_
      have e : ms.take (i + 1) = ms := List.take_of_length_le (by omega)
      rw [e]
      exact wp_jump rfl
  rintro vs rfl
  exact wp_ret rfl (G_il _).plain.1 rfl
def leastV (ms : List Nat) : PV := if ms = [] then .tup [.snil, .bool false] else .tup [G (minM ms), .bool true]
theorem ev92 (k : Nat) {x : PV} {ms : List Nat} (hx : GL x ms) (hl : ms.length ≤ 32) (hs : ∀ s ∈ ms, s < 32) : Ev (k + 6) 92 [x] fun v => v = leastV ms := by
  refine rn_of (t := t92) rfl (fn := Try.f92) (by kernel_rfl) (by simp [fitArgs, flagsOf, hx.plain]) ?_
  try refine rn_norm (by (try simp only [List.length_cons, List.length_nil, Nat.reduceAdd, Nat.zero_add]); rfl) (by (try simp only [pushL]); rfl) ?_
  refine wp_len73 rfl hx ?_
  refine wp_eql rfl rfl ?_
  refine wp_iteP rfl (fun h => ?_) (fun h => ?_)
  · refine wp_ret (v := .tup [.snil, .bool false]) rfl rfl ?_
    rw [leastV, if_pos (List.length_eq_zero_iff.1 (by omega))]
  · refine wp_callE (ev107 k hx (by omega) hl hs) rfl ?_
    refine wp_ret (v := .tup [G (minM ms), .bool true]) rfl (by simp [(G_il _).plain]) ?_
    rw [leastV, if_neg (fun e => h (by rw [e]; rfl))]
def wrV : Option Nat → PV
  | some s => .tup [G s, iv 0]
  | none => .tup [.snil, iv 11]
def anyS (slip : Int) (r : Rg) (p : Pc) (s : Nat) : Bool := anyF slip r p (flS p.g.length s)
theorem pow_key : ∀ n : Nat, n < 6 → IntKind.u8.wrap (1 * 2 ^ min n 8) = ((2 ^ n : Nat) : Int) ∧ 2 ^ n ≤ 32 := of_decide_eq_true (by kernel_rfl)
theorem range_snoc (A : Nat → Bool) (s : Nat) : (List.range (s + 1)).filter A = (List.range s).filter A ++ if A s then [s] else [] := by
  rw [List.range_succ, List.filter_append]
  congr 1
  by_cases h : A s = true
  · simp [h]
  · simp [h]
theorem ev48 (k : Nat) {slip : Int} {lp : PV} {l : List Rg} (h : Hand slip lp l) {n : Nat} (hn : n < l.length) {p : Pc} (hp : p.ok) : Ev (k + 7) 48 [.agg [iv slip, lp], iv n, .agg p.cells] fun v => v = wrV ((allM p.g.length).find? (anyS slip (l.getD n default) p)) := by
  refine rn_of (t := t48) rfl (fn := Try.f48) (by kernel_rfl) (by simp [fitArgs, flagsOf, h.plain, Pc.cells, hp.il.plain]) ?_
  have g5 := hp.gl
  have hr := h.get hn
  have hrow := rowR h.rl hn
  rw [find_min (by omega)]
  obtain ⟨hpw, h32⟩ := pow_key p.g.length (by omega)
  have h82 := fun (s : Nat) (hs : s < 32) => ev82S (k + 2) h.s0 h.s1 hr hp hs
  generalize l.getD n default = r at hr hrow h82
  refine wp_agg (by simp only [tv, tp, tn, PE.dn, SE.dn, dnL, nth, projV, List.getD_cons_succ, List.getD_cons_zero, Rg.cells, Pc.cells]; rfl) rfl ?_
  refine wp_agg (by simp only [tv, tp, tn, PE.dn, SE.dn, dnL, nth, projV, List.getD_cons_succ, List.getD_cons_zero, Rg.cells, Pc.cells]; rfl) rfl ?_
  refine wp_one (by simp only [tv, tp, tn, PE.dn, SE.dn, dnL, nth, projV, List.getD_cons_succ, List.getD_cons_zero, Rg.cells, Pc.cells]; rfl) rfl ?_
  refine wp_callE (ev67p (k + 2) h (x := .sl none 1 0 1 [iv n]) (ns := [(n : Int)]) (.inr ⟨0, rfl⟩) (by simp; omega) (by simp) (ps := [p]) (by simpa using hp) (by simp)) (by simp [pcells]; rfl) ?_
  refine wp_ext (by simp only [tv, tp, tn, PE.dn, SE.dn, dnL, nth, projV, List.getD_cons_succ, List.getD_cons_zero, Rg.cells, Pc.cells, extV]; rfl) ?_
  refine wp_ext (by simp only [tv, tp, tn, PE.dn, SE.dn, dnL, nth, projV, List.getD_cons_succ, List.getD_cons_zero, Rg.cells, Pc.cells, extV]; rfl) ?_
  refine wp_agg (by simp only [tv, tp, tn, PE.dn, SE.dn, dnL, nth, projV, List.getD_cons_succ, List.getD_cons_zero, Rg.cells, Pc.cells]; rfl) rfl ?_
  refine wp_neq rfl rfl ?_
  refine wp_itePF rfl (by omega) ?_
  refine wp_callE (ev80 (k + 5) slip) rfl ?_
  have hil := hp.il
  refine wp_agg (cs := gv slip) rfl rfl ?_
  refine wp_len25 rfl (by assumption) ?_
  refine wp_shl8 (a := 1) rfl rfl ?_
  rw [hpw]
  change ∀ s, s < 32 → Ev (k + 2 + 4) 82 _ (fun v => v = PV.bool (anyS slip r p s)) at h82
  generalize anyS slip r p = A at h82
  generalize hN : 2 ^ p.g.length = N at h32
  refine wp_join (fun vs => vs = [.agg (((List.range N).filter A).map G)]) ?_ ?_
  · refine wp_loop (fun j vs => ∃ s : Nat, vs = [.agg (((List.range s).filter A).map G), u8 s] ∧ s + j = N) N (by omega) ⟨0, rfl, by omega⟩ ?_
    rintro j vs ⟨s, rfl, hs⟩
    refine wp_lss rfl rfl ?_
    refine wp_iteP rfl (fun h1 => ?_) (fun h1 => ?_)
    · have hl : ((List.range s).filter A).length ≤ s := by have := List.length_filter_le A (List.range s); simpa using this
      have hG := (G_il s).plain.2
      refine wp _ hrow ?_
      refine wp_callE (h82 s (by omega)) rfl ?_
      refine wp_join (fun vs => vs = [.agg (((List.range (s + 1)).filter A).map G)]) ?_ ?_
      · rw [range_snoc]
        refine wp_iteB rfl (fun h3 => ?_) (fun h3 => ?_)
        · rw [if_pos h3]
          refine wp_callE (ev91 (k + 4) (s := s) (by omega)) rfl ?_
          refine wp_one (v := G s) rfl hG ?_
          refine wp_pushG rfl rfl (by omega) ?_
          exact wp_jump rfl
        · rw [if_neg (by simp [h3]), List.append_nil]
          exact wp_jump rfl
      rintro vs rfl
      try refine rn_norm (by (try simp only [List.length_cons, List.length_nil, Nat.reduceAdd, Nat.zero_add]); rfl) (by (try simp only [pushL]); rfl) ?_
      refine wp_add8 (b := 1) rfl rfl (by omega) (by omega) ?_
      exact wp_jump ⟨j - 1, by omega, s + 1, rfl, by omega⟩
    · refine wp_jumpO (by decide) ?_
      have e : s = N := by omega
      subst e
      exact wp_jump rfl
  rintro vs rfl
  try refine rn_norm (by (try simp only [List.length_cons, List.length_nil, Nat.reduceAdd, Nat.zero_add]); rfl) (by (try simp only [pushL]); rfl) ?_
  refine wp_frzG rfl ?_
  have hms : ∀ s ∈ (List.range N).filter A, s < 32 := fun s hs => by have := List.mem_range.1 (List.mem_filter.1 hs).1; omega
  have hml : ((List.range N).filter A).length ≤ 32 := by have := List.length_filter_le A (List.range N); simp at this; omega
  generalize (List.range N).filter A = ms at hms hml
  refine wp_callE (ev92 k (gl_of ms) hml hms) rfl ?_
  unfold leastV
  by_cases hne : ms = []
  · rw [if_pos hne, if_pos hne]
    refine wp_ext (by simp only [tv, tp, tn, PE.dn, SE.dn, dnL, nth, projV, List.getD_cons_succ, List.getD_cons_zero, Rg.cells, Pc.cells, extV]; rfl) ?_
    refine wp_ext (by simp only [tv, tp, tn, PE.dn, SE.dn, dnL, nth, projV, List.getD_cons_succ, List.getD_cons_zero, Rg.cells, Pc.cells, extV]; rfl) ?_
    refine wp_not rfl ?_
    refine wp_iteT rfl ?_
    exact wp_ret rfl rfl rfl
  · rw [if_neg hne, if_neg hne]
    refine wp_ext (by simp only [tv, tp, tn, PE.dn, SE.dn, dnL, nth, projV, List.getD_cons_succ, List.getD_cons_zero, Rg.cells, Pc.cells, extV]; rfl) ?_
    refine wp_ext (by simp only [tv, tp, tn, PE.dn, SE.dn, dnL, nth, projV, List.getD_cons_succ, List.getD_cons_zero, Rg.cells, Pc.cells, extV]; rfl) ?_
    refine wp_not rfl ?_
    refine wp_iteF rfl ?_
    exact wp_ret (v := .tup [G (minM ms), iv 0]) rfl (by simp [(G_il _).plain]) rfl
end Go.Proofs.Ytlminnpaeaganaa
