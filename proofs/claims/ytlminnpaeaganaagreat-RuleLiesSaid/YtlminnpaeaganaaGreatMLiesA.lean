/- Lies: the law is proved. No condition. -/
import Derived.Test.YtlminnpaeaganaaGreatMRawF
import Derived.Test.YtlminnpaeaganaaGreatMRawT
namespace Go.Proofs.YtlminnpaeaganaaGreat
open Go Go.RowKit
set_option linter.unusedVariables false
set_option linter.unusedSimpArgs false
set_option maxRecDepth 100000
theorem two5 {a b : Pc} : PL (.sl none 5 0 2 (a.cells ++ b.cells)) [a, b] := .inr ⟨0, by simp [pcells]⟩
theorem two_raw {a b : Pc} (ha : RawP a) (hb : RawP b) : ∀ p ∈ [a, b], RawP p := by
  intro p hp
  simp at hp
  rcases hp with rfl | rfl
  · exact ha
  · exact hb
theorem eop2_ok {slip : Int} {lp : PV} {l : List Rg} {a b : Pc} (hr : RawH lp l) (ha : RawP a) (hb : RawP b) (h : eop slip l [] [a, b] = 0) : Hand slip lp l ∧ a.ok ∧ b.ok := by
  obtain ⟨h3, _, h6⟩ := eop_hd h
  exact ⟨hd_ok hr h3, pc_ok ha.il (erp_ok h6 a (by simp)), pc_ok hb.il (erp_ok h6 b (by simp))⟩
theorem flat_take {α : Type} [Inhabited α] {f : α → List Int} {l : List α} {i : Nat} (h : i < l.length) : (l.take (i + 1)).flatMap f = (l.take i).flatMap f ++ f (l.getD i default) := by
  rw [take_one h]; simp
theorem flat_mem {α : Type} {f : α → List Int} {l : List α} {Q : Int → Prop} (h : ∀ a ∈ l, ∀ x ∈ f a, Q x) : ∀ x ∈ l.flatMap f, Q x := fun x hx => by
  obtain ⟨a, ha, hx⟩ := List.mem_flatMap.1 hx
  exact h a ha x hx
theorem gmemA {α : Type} [Inhabited α] {l : List α} {i : Nat} (h : i < l.length) : l.getD i default ∈ l := by simp [List.getD_eq_getElem?_getD, h]
/-! ### Sorting -/
section
variable {C : Orc → FuncId → List PV → Option PV} {n : Nat} {R : Out → Prop} {d : Nat} {st : List PV} {t : Tree}
def srtI (l : List Int) : List Int := l.mergeSort fun x y => decide (x ≤ y)
theorem all_ints (l : List Int) : (l.map iv).all intB = true := by
  rw [List.all_eq_true]; intro p hp; obtain ⟨z, _, rfl⟩ := List.mem_map.1 hp; rfl
theorem toI_map (l : List Int) : (l.map iv).map toI = l := by
  rw [List.map_map]
  conv => rhs; rw [← List.map_id l]
  rfl
theorem wp_srt {c : SE} {l : List Int} (hc : c.dn d st = .agg (l.map iv)) (hl : l.length < 1000000) (k : Rn C n t (d + 1) (.agg ((srtI l).map iv) :: st) R) : Rn C n (.prim (.srt c) t) d st R := wp _ (by
  simp only [Prim.rn, hc, srtV]
  rw [if_pos ⟨all_ints l, by rw [List.length_map]; omega⟩]
  simp only [sortP, toI_map]; rfl) k
theorem wp_cpt {c : SE} {l : List Int} (hc : c.dn d st = .agg (l.map iv)) (hl : l.length < 1000000) (k : Rn C n t (d + 1) (ilOf (cmpI l) :: st) R) : Rn C n (.prim (.cpt .nil0 c) t) d st R := wp _ (by
  simp only [Prim.rn, hc, cptV]
  rw [if_pos ⟨all_ints l, by rw [List.length_map]; omega⟩]
  cases l with
  | nil => rfl
  | cons a l =>
    simp only [List.map_cons, isNil, compP]
    rw [show ∀ l : List Int, toI (iv a) :: (l.map iv).map toI = a :: l from fun l => by rw [toI_map]; rfl]
    simp only [cmpI, ilOf, List.map_cons, List.length_cons, List.length_map]) k
end
theorem strict_ext : ∀ {l m : List Int}, l.Pairwise (· < ·) → m.Pairwise (· < ·) → (∀ x, x ∈ l ↔ x ∈ m) → l = m
  | [], [], _, _, _ => rfl
  | [], y :: m, _, _, h => by have := (h y).2 (by simp); simp at this
  | x :: l, [], _, _, h => by have := (h x).1 (by simp); simp at this
  | x :: l, y :: m, hl, hm, h => by
    obtain ⟨h1, h2⟩ := List.pairwise_cons.1 hl
    obtain ⟨h3, h4⟩ := List.pairwise_cons.1 hm
    have e : x = y := by
      have a := (h x).1 (by simp)
      have b := (h y).2 (by simp)
      rcases List.mem_cons.1 a with a | a
      · exact a
      rcases List.mem_cons.1 b with b | b
      · exact b.symm
      have := h1 y b
      have := h3 x a
      omega
    subst e
    congr 1
    refine strict_ext h2 h4 fun z => ⟨fun hz => ?_, fun hz => ?_⟩
    · have := h1 z hz
      rcases List.mem_cons.1 ((h z).1 (by simp [hz])) with e | e
      · omega
      · exact e
    · have := h3 z hz
      rcases List.mem_cons.1 ((h z).2 (by simp [hz])) with e | e
      · omega
      · exact e
theorem cmpGo_mem {x : Int} : ∀ {ys : List Int} {p : Int}, x ∈ p :: cmpGo p ys ↔ x ∈ p :: ys
  | [], p => by simp [cmpGo]
  | y :: ys, p => by
    simp only [cmpGo]
    split
    · rename_i e
      subst e
      rw [cmpGo_mem]
      simp
    · have := cmpGo_mem (x := x) (ys := ys) (p := y)
      rw [List.mem_cons, this]; simp
theorem cmpGo_lt : ∀ {ys : List Int} {p : Int}, (p :: ys).Pairwise (· ≤ ·) → (p :: cmpGo p ys).Pairwise (· < ·)
  | [], p, _ => by simp [cmpGo]
  | y :: ys, p, h => by
    obtain ⟨h1, h2⟩ := List.pairwise_cons.1 h
    obtain ⟨h3, h4⟩ := List.pairwise_cons.1 h2
    simp only [cmpGo]
    split
    · exact cmpGo_lt (List.pairwise_cons.2 ⟨fun z hz => h1 z (by simp [hz]), h4⟩)
    · rename_i hne
      refine List.pairwise_cons.2 ⟨fun z hz => ?_, cmpGo_lt h2⟩
      have hz' := cmpGo_mem.1 hz
      have hpy := h1 y (by simp)
      rcases List.mem_cons.1 hz' with e | e
      · omega
      · have := h3 z e; omega
theorem cmp_mem {x : Int} {l : List Int} : x ∈ cmpI (srtI l) ↔ x ∈ l := by
  have h : ∀ m : List Int, x ∈ cmpI m ↔ x ∈ m := fun m => by
    cases m with
    | nil => rfl
    | cons a m => exact cmpGo_mem
  rw [h, srtI, List.mem_mergeSort]
theorem cmp_lt (l : List Int) : (cmpI (srtI l)).Pairwise (· < ·) := by
  have hs : (srtI l).Pairwise (· ≤ ·) := by
    have := List.pairwise_mergeSort (le := fun x y : Int => decide (x ≤ y)) (fun a b c h1 h2 => by simp only [decide_eq_true_eq] at *; omega) (fun a b => by simp only [Bool.or_eq_true, decide_eq_true_eq]; omega) l
    exact this.imp fun h => by simpa using h
  cases h : srtI l with
  | nil => simp [cmpI]
  | cons a m => rw [h] at hs; exact cmpGo_lt hs
/-! ### Differences of lines -/
def besOf (a b : Pc) (x y : Nat × Bool) : List Int := if y.1 ≤ x.1 + a.g.length ∧ x.1 ≤ y.1 + b.g.length then [(y.1 : Int) - x.1] else []
def besY (a b : Pc) (x : Nat × Bool) (ys : List (Nat × Bool)) : List Int := ys.flatMap (besOf a b x)
def besX (a b : Pc) (xs ys : List (Nat × Bool)) : List Int := xs.flatMap fun x => besY a b x ys
def besR (slip : Int) (a b : Pc) (l : List Rg) : List Int := l.flatMap fun r => besX a b (spots slip r a) (spots slip r b)
theorem besOf_len (a b : Pc) (x y : Nat × Bool) : (besOf a b x y).length ≤ 1 := by unfold besOf; split <;> simp
theorem besY_len {a b : Pc} {x : Nat × Bool} {ys : List (Nat × Bool)} (h : ys.length ≤ 24) : (besY a b x ys).length ≤ 24 := by
  have := flat_len (l := ys) (f := besOf a b x) (n := 1) fun y _ => besOf_len a b x y
  unfold besY; omega
theorem besX_len {a b : Pc} {xs ys : List (Nat × Bool)} (hx : xs.length ≤ 24) (h : ys.length ≤ 24) : (besX a b xs ys).length ≤ 576 := by
  have := flat_len (l := xs) (f := fun x => besY a b x ys) (n := 24) fun x _ => besY_len h
  unfold besX; omega
theorem besR_len {slip : Int} {a b : Pc} {l : List Rg} (hl : l.length ≤ 4) (hok : ∀ r ∈ l, r.ok) : (besR slip a b l).length ≤ 2304 := by
  have := flat_len (l := l) (f := fun r => besX a b (spots slip r a) (spots slip r b)) (n := 576) fun r hr => besX_len (spots_len slip (hok r hr) a) (spots_len slip (hok r hr) b)
  unfold besR; omega
theorem besR_in {slip : Int} {a b : Pc} {l : List Rg} (hok : ∀ r ∈ l, r.ok) : ∀ x ∈ besR slip a b l, -12 ≤ x ∧ x ≤ 12 := by
  refine flat_mem fun r hr => flat_mem fun x hx => flat_mem fun y hy z hz => ?_
  have h1 := (spots_in hx).1
  have h2 := (spots_in hy).1
  have n2 := (hok r hr).n2
  unfold besOf at hz
  split at hz
  · simp at hz; omega
  · simp at hz
def besV (slip : Int) (l : List Rg) (a b : Pc) : List Int := if eop slip l [] [a, b] = 0 then cmpI (srtI (besR slip a b l)) else []
theorem besV_len {slip : Int} {lp : PV} {l : List Rg} {a b : Pc} (h : RawH lp l) (ha : RawP a) (hb : RawP b) : (besV slip l a b).length ≤ 25 := by
  unfold besV
  split
  · rename_i he
    obtain ⟨hH, _, _⟩ := eop2_ok h ha hb he
    have h1 := cmp_lt (besR slip a b l)
    have h2 := besR_in (slip := slip) (a := a) (b := b) hH.ok
    have key : ∀ (m : List Int) (lo : Int), m.Pairwise (· < ·) → (∀ x ∈ m, lo ≤ x ∧ x ≤ 12) → (m.length : Int) ≤ max (13 - lo) 0 := by
      intro m
      induction m with
      | nil => intro lo _ _; simp; omega
      | cons a m ih =>
        intro lo hp hm
        obtain ⟨h3, h4⟩ := List.pairwise_cons.1 hp
        have h5 := hm a (by simp)
        have := ih (a + 1) h4 fun x hx => ⟨by have := h3 x hx; omega, (hm x (by simp [hx])).2⟩
        simp only [List.length_cons]
        omega
    have := key _ (-12) h1 fun x hx => h2 x (cmp_mem.1 hx)
    omega
  · simp
theorem ev37R (k : Nat) {slip : Int} {lp : PV} {l : List Rg} (h : RawH lp l) {a b : Pc} (ha : RawP a) (hb : RawP b) : Ev (k + 5) 37 [.agg [iv slip, lp], .agg a.cells, .agg b.cells] fun v => ∃ y, v = .tup [y, iv (eop slip l [] [a, b])] ∧ IL y (besV slip l a b) := by
  refine rn_of (t := t37) rfl (fn := Tryz.f37) (by kernel_rfl) (by simp [fitArgs, flagsOf, h.plain, Pc.cells, ha.il.plain, hb.il.plain]) ?_
  refine wp_agg (by simp only [tv, tp, tn, PE.dn, SE.dn, dnL, nth, projV, List.getD_cons_succ, List.getD_cons_zero, Rg.cells, Pc.cells]; rfl) rfl ?_
  refine wp_agg (by simp only [tv, tp, tn, PE.dn, SE.dn, dnL, nth, projV, List.getD_cons_succ, List.getD_cons_zero, Rg.cells, Pc.cells]; rfl) rfl ?_
  refine wp_agg (by simp only [tv, tp, tn, PE.dn, SE.dn, dnL, nth, projV, List.getD_cons_succ, List.getD_cons_zero, Rg.cells, Pc.cells]; rfl) rfl ?_
  refine wp_call (ev67R k (slip := slip) (x := .snil) (ns := []) (y := .sl none 5 0 2 (a.cells ++ b.cells)) (ps := [a, b]) h snil1 (by simp) two5 (two_raw ha hb) (by simp)) rfl ?_
  rintro v ⟨p, q, rfl, hpq, hpl⟩
  refine wp_ext (by simp only [tv, tp, tn, PE.dn, SE.dn, dnL, nth, projV, List.getD_cons_succ, List.getD_cons_zero, Rg.cells, Pc.cells, extV]; rfl) ?_
  refine wp_ext (by simp only [tv, tp, tn, PE.dn, SE.dn, dnL, nth, projV, List.getD_cons_succ, List.getD_cons_zero, Rg.cells, Pc.cells, extV]; rfl) ?_
  refine wp_agg (by simp only [tv, tp, tn, PE.dn, SE.dn, dnL, nth, projV, List.getD_cons_succ, List.getD_cons_zero, Rg.cells, Pc.cells]; rfl) rfl ?_
  refine wp_neq rfl rfl ?_
  refine wp_iteP rfl (fun he => ?_) (fun he => ?_)
  · exact wp_ret (v := .tup [.snil, iv (eop slip l [] [a, b])]) rfl rfl ⟨.snil, rfl, by unfold besV; rw [if_neg he]; exact snil1⟩
  replace he := Decidable.not_not.1 he
  obtain ⟨rfl, rfl⟩ := hpq he
  obtain ⟨hH, hao, hbo⟩ := eop2_ok h ha hb he
  have l1 := hH.l1
  have hrl := hH.rl
  have hal := ha.il
  have hbl := hb.il
  have ag := hao.gl
  have bg := hbo.gl
  refine wp_len22 rfl (by assumption) ?_
  refine wp_join (fun vs => vs = [.agg ((besR slip a b l).map iv)]) ?_ ?_
  · refine wp_loop (fun j vs => ∃ i : Nat, vs = [iv i, .agg ((besR slip a b (l.take i)).map iv)] ∧ i + j = l.length) l.length (by omega) ⟨0, rfl, by omega⟩ ?_
    rintro j vs ⟨i, rfl, hi⟩
    refine wp_lss rfl rfl ?_
    refine wp_iteP rfl (fun h2 => ?_) (fun h2 => ?_)
    · have hlt : i < l.length := by omega
      have hr := hH.get hlt
      have hP := besR_len (slip := slip) (a := a) (b := b) (l := l.take i) (by simp; omega) fun r hr => hH.ok r (List.mem_of_mem_take hr)
      have hnext : besR slip a b (l.take (i + 1)) = besR slip a b (l.take i) ++ besX a b (spots slip (l.getD i default) a) (spots slip (l.getD i default) b) := flat_take hlt
      have h76 := fun (p : Pc) (hp : p.ok) => ev76 k hH hlt hp
      generalize l.getD i default = r at hr hnext h76
      have n2 := hr.n2
      refine wp_call (h76 b hbo) rfl ?_
      intro xb hxb
      refine wp_call (h76 a hao) rfl ?_
      intro xa hxa
      have hla := spots_len slip hr a
      have hlb := spots_len slip hr b
      have hia := fun y hy => spots_in (slip := slip) (r := r) (p := a) (y := y) hy
      have hib := fun y hy => spots_in (slip := slip) (r := r) (p := b) (y := y) hy
      generalize spots slip r a = A at *
      generalize spots slip r b = B at *
      generalize besR slip a b (l.take i) = P at *
      clear h76 hr
      refine wp_len45 rfl hxa ?_
      refine wp_join (fun vs => vs = [.agg ((P ++ besX a b A B).map iv)]) ?_ ?_
      · refine wp_loop (fun j vs => ∃ n : Nat, vs = [iv n, .agg ((P ++ besX a b (A.take n) B).map iv)] ∧ n + j = A.length) A.length (by omega) ⟨0, by rw [show besX a b (A.take 0) B = [] from rfl, List.append_nil]; rfl, by omega⟩ ?_
        rintro jx vs ⟨n, rfl, hn⟩
        refine wp_lss rfl rfl ?_
        refine wp_iteP rfl (fun h3 => ?_) (fun h3 => ?_)
        · have hnl : n < A.length := by omega
          have hrx := rowS hxa hnl
          have hxm := gmemA hnl
          have hX := besX_len (a := a) (b := b) (xs := A.take n) (ys := B) (by simp; omega) hlb
          have hnx : besX a b (A.take (n + 1)) B = besX a b (A.take n) B ++ besY a b (A.getD n default) B := flat_take hnl
          generalize A.getD n default = x at hrx hxm hnx
          have hx2 := hia x hxm
          generalize besX a b (A.take n) B = Q at *
          refine wp _ hrx ?_
          refine wp_len45 rfl hxb ?_
          refine wp_join (fun vs => vs = [.agg ((P ++ (Q ++ besY a b x B)).map iv)]) ?_ ?_
          · refine wp_loop (fun j vs => ∃ m : Nat, vs = [iv m, .agg ((P ++ (Q ++ besY a b x (B.take m))).map iv)] ∧ m + j = B.length) B.length (by omega) ⟨0, by rw [show besY a b x (B.take 0) = [] from rfl, List.append_nil]; rfl, by omega⟩ ?_
            rintro jy vs ⟨m, rfl, hm⟩
            refine wp_lss rfl rfl ?_
            refine wp_iteP rfl (fun h4 => ?_) (fun h4 => ?_)
            · have hml : m < B.length := by omega
              have hry := rowS hxb hml
              have hym := gmemA hml
              have hY := besY_len (a := a) (b := b) (x := x) (ys := B.take m) (by simp; omega)
              have hny : besY a b x (B.take (m + 1)) = besY a b x (B.take m) ++ besOf a b x (B.getD m default) := flat_take hml
              generalize B.getD m default = y at hry hym hny
              have hy2 := hib y hym
              generalize besY a b x (B.take m) = T at *
              refine wp _ hry ?_
              refine wp_join (fun vs => vs = [.bool (decide (y.1 ≤ x.1 + a.g.length ∧ x.1 ≤ y.1 + b.g.length))]) ?_ ?_
              · refine wp_len25 rfl (by assumption) ?_
                refine wp_addN rfl rfl (by omega) ?_
                refine wp_leq rfl rfl ?_
                refine wp_iteP rfl (fun h5 => ?_) (fun h5 => ?_)
                · refine wp_len25 rfl (by assumption) ?_
                  refine wp_addN rfl rfl (by omega) ?_
                  refine wp_leq rfl rfl ?_
                  exact wp_jump (jb_eq (by omega))
                · exact wp_jump (jb_fd (by omega))
              rintro vs rfl
              try refine rn_norm (by (try simp only [List.length_cons, List.length_nil, Nat.reduceAdd, Nat.zero_add]); rfl) (by (try simp only [pushL]); rfl) ?_
              refine wp_join (fun vs => vs = [.agg ((P ++ (Q ++ (T ++ besOf a b x y))).map iv)]) ?_ ?_
              · refine wp_iteP rfl (fun h5 => ?_) (fun h5 => ?_)
                · have e : besOf a b x y = [(y.1 : Int) - x.1] := by unfold besOf; rw [if_pos h5]
                  refine wp_sub rfl rfl (by omega) (by omega) ?_
                  refine wp_pushI rfl rfl (by decide) (by first | omega | (simp; omega)) ?_
                  refine wp_jump ?_
                  rw [e]
                  simp [dnL, PE.dn, SE.dn, nth, tv]
                · have e : besOf a b x y = [] := by unfold besOf; rw [if_neg h5]
                  refine wp_jump ?_
                  rw [e, List.append_nil]; rfl
              rintro vs rfl
              refine wp_add1 rfl rfl (by omega) ?_
              exact wp_jump ⟨jy - 1, by omega, m + 1, by rw [hny]; rfl, by omega⟩
            · refine wp_jumpO (by decide) ?_
              have e : B.take m = B := List.take_of_length_le (by omega)
              rw [e]
              exact wp_jump rfl
          rintro vs rfl
          refine wp_add1 rfl rfl (by omega) ?_
          exact wp_jump ⟨jx - 1, by omega, n + 1, by rw [hnx]; rfl, by omega⟩
        · refine wp_jumpO (by decide) ?_
          have e : A.take n = A := List.take_of_length_le (by omega)
          rw [e]
          exact wp_jump rfl
      rintro vs rfl
      refine wp_add1 rfl rfl (by omega) ?_
      exact wp_jump ⟨j - 1, by omega, i + 1, by rw [hnext]; rfl, by omega⟩
    · refine wp_jumpO (by decide) ?_
      have e : l.take i = l := List.take_of_length_le (by omega)
      rw [e]
      exact wp_jump rfl
  rintro vs rfl
  have hL := besR_len (slip := slip) (a := a) (b := b) l1 hH.ok
  refine wp_srt rfl (by omega) ?_
  refine wp_cpt rfl (by simp [srtI]; omega) ?_
  have hq := (il_of (cmpI (srtI (besR slip a b l)))).plain
  refine wp_ret (v := .tup [ilOf (cmpI (srtI (besR slip a b l))), iv 0]) rfl (by simp [hq]) ⟨_, by rw [he], ?_⟩
  unfold besV
  rw [if_pos he]
  exact il_of _
end Go.Proofs.YtlminnpaeaganaaGreat
namespace Go.Proofs.YtlminnpaeaganaaGreat
open Go Go.RowKit
set_option linter.unusedVariables false
set_option linter.unusedSimpArgs false
set_option maxRecDepth 100000
theorem ev67H (k : Nat) {x : PV} {L : List Int} (hx : IL x L) (hl : L.length < 4000) (n : Int) : Ev (k + 1) 67 [x, iv n] fun v => v = .bool (decide (n ∈ L)) := by
  refine rn_of (t := t67) rfl (fn := Tryz.f67) (by kernel_rfl) (by simp [fitArgs, flagsOf, hx.plain]) ?_
  try refine rn_norm (by (try simp only [List.length_cons, List.length_nil, Nat.reduceAdd, Nat.zero_add]); rfl) (by (try simp only [pushL]); rfl) ?_
  refine wp_join (fun vs => vs = [] ∧ n ∉ L) ?_ ?_
  · refine wp_loop (fun j vs => ∃ i : Nat, vs = [iv i] ∧ i + j = L.length ∧ ∀ k, k < i → L.getD k 0 ≠ n) L.length (by omega) ⟨0, rfl, by omega, fun k hk => by omega⟩ ?_
    rintro j vs ⟨i, rfl, hi, hb⟩
    refine wp_len25 rfl (by assumption) ?_
    refine wp_lss rfl rfl ?_
    refine wp_iteP rfl (fun h1 => ?_) (fun h1 => ?_)
    · have hlt : i < L.length := by omega
      have hrow := rowI hx hlt
      have hm : L.getD i 0 ∈ L := gmem0 hlt
      have hb' : L.getD i 0 ≠ n → ∀ k, k < i + 1 → L.getD k 0 ≠ n := fun h k hk => by
        by_cases e : k = i
        · subst e; exact h
        · exact hb k (by omega)
      generalize L.getD i 0 = a at hrow hm hb'
      refine wp _ hrow ?_
      refine wp_eql rfl rfl ?_
      refine wp_iteP rfl (fun h2 => ?_) (fun h2 => ?_)
      · subst h2
        refine wp_retO ?_
        refine wp_retO ?_
        refine wp_ret (v := .bool true) rfl rfl ?_
        rw [decide_eq_true hm]
      · refine wp_add1 rfl rfl (by omega) ?_
        exact wp_jump ⟨j - 1, by omega, i + 1, rfl, by omega, hb' h2⟩
    · refine wp_jumpO (by decide) ?_
      refine wp_jump ⟨rfl, fun hm => ?_⟩
      obtain ⟨k, hk, e⟩ := List.getElem_of_mem hm
      exact hb k (by omega) (by simpa [List.getD_eq_getElem?_getD, hk] using e)
  rintro vs ⟨rfl, hn⟩
  refine wp_ret (v := .bool false) rfl rfl ?_
  rw [decide_eq_false hn]
def besD (L : List Int) (n : Nat) : List Int := ((List.range n).map fun (i : Nat) => (i : Int) - 12).filter fun x => decide (x ∈ L)
theorem besD_lt (L : List Int) (n : Nat) : (besD L n).Pairwise (· < ·) := by
  refine List.Pairwise.filter _ ?_
  rw [List.pairwise_map]
  exact List.pairwise_lt_range.imp fun h => by omega
theorem bes_eq {L : List Int} (h : ∀ x ∈ L, -12 ≤ x ∧ x ≤ 12) : cmpI (srtI L) = besD L 25 := by
  refine strict_ext (cmp_lt L) (besD_lt L 25) fun x => ?_
  rw [cmp_mem]
  simp only [besD, List.mem_filter, List.mem_map, List.mem_range, decide_eq_true_eq]
  refine ⟨fun hx => ⟨?_, hx⟩, fun hx => hx.2⟩
  have := h x hx
  exact ⟨(x + 12).toNat, by omega, by omega⟩
theorem besD_succ (L : List Int) (n : Nat) : besD L (n + 1) = besD L n ++ (if (n : Int) - 12 ∈ L then [(n : Int) - 12] else []) := by
  simp only [besD, List.range_succ, List.map_append, List.map_cons, List.map_nil, List.filter_append]
  congr 1
  by_cases h : (n : Int) - 12 ∈ L <;> simp [h]
theorem ev38R (k : Nat) {slip : Int} {lp : PV} {l : List Rg} (h : RawH lp l) {a b : Pc} (ha : RawP a) (hb : RawP b) : Ev (k + 5) 38 [.agg [iv slip, lp], .agg a.cells, .agg b.cells] fun v => ∃ y, v = .tup [y, iv (eop slip l [] [a, b])] ∧ IL y (besV slip l a b) := by
  refine rn_of (t := t38) rfl (fn := Tryz.f38) (by kernel_rfl) (by simp [fitArgs, flagsOf, h.plain, Pc.cells, ha.il.plain, hb.il.plain]) ?_
  refine wp_agg (by simp only [tv, tp, tn, PE.dn, SE.dn, dnL, nth, projV, List.getD_cons_succ, List.getD_cons_zero, Rg.cells, Pc.cells]; rfl) rfl ?_
  refine wp_agg (by simp only [tv, tp, tn, PE.dn, SE.dn, dnL, nth, projV, List.getD_cons_succ, List.getD_cons_zero, Rg.cells, Pc.cells]; rfl) rfl ?_
  refine wp_agg (by simp only [tv, tp, tn, PE.dn, SE.dn, dnL, nth, projV, List.getD_cons_succ, List.getD_cons_zero, Rg.cells, Pc.cells]; rfl) rfl ?_
  refine wp_callE (ev69R k (slip := slip) (x := .snil) (ns := []) (y := .sl none 5 0 2 (a.cells ++ b.cells)) (ps := [a, b]) h snil1 (by simp) two5 (two_raw ha hb) (by simp)) rfl ?_
  refine wp_neq rfl rfl ?_
  refine wp_iteP rfl (fun he => ?_) (fun he => ?_)
  · exact wp_ret (v := .tup [.snil, iv (eop slip l [] [a, b])]) rfl rfl ⟨.snil, rfl, by unfold besV; rw [if_neg he]; exact snil1⟩
  replace he := Decidable.not_not.1 he
  obtain ⟨hH, hao, hbo⟩ := eop2_ok h ha hb he
  have s0 := hH.s0
  have s1 := hH.s1
  have l1 := hH.l1
  have hrl := hH.rl
  have hal := ha.il
  have hbl := hb.il
  have ag := hao.gl
  have bg := hbo.gl
  refine wp_join (fun vs => vs = [.agg ((besR slip a b l).map iv)]) ?_ ?_
  · refine wp_loop (fun j vs => ∃ i : Nat, vs = [.agg ((besR slip a b (l.take i)).map iv), iv i] ∧ i + j = l.length) l.length (by omega) ⟨0, rfl, by omega⟩ ?_
    rintro j vs ⟨i, rfl, hi⟩
    refine wp_len22 rfl (by assumption) ?_
    refine wp_lss rfl rfl ?_
    refine wp_iteP rfl (fun h2 => ?_) (fun h2 => ?_)
    · have hlt : i < l.length := by omega
      have hr := hH.get hlt
      have hrow := rowR h.rl hlt
      have hP := besR_len (slip := slip) (a := a) (b := b) (l := l.take i) (by simp; omega) fun r hr => hH.ok r (List.mem_of_mem_take hr)
      have hnext : besR slip a b (l.take (i + 1)) = besR slip a b (l.take i) ++ besX a b (spots slip (l.getD i default) a) (spots slip (l.getD i default) b) := flat_take hlt
      generalize l.getD i default = r at hr hrow hnext
      have n2 := hr.n2
      refine wp _ hrow ?_
      refine wp_callE (ev78 (k + 3) hao) rfl ?_
      refine wp_call (ev77s (k + 1) s0 s1 hr hao) rfl ?_
      intro xa hxa
      refine wp _ hrow ?_
      refine wp_callE (ev78 (k + 3) hbo) rfl ?_
      refine wp_call (ev77s (k + 1) s0 s1 hr hbo) rfl ?_
      intro xb hxb
      have hla := spots_len slip hr a
      have hlb := spots_len slip hr b
      have hia := fun y hy => spots_in (slip := slip) (r := r) (p := a) (y := y) hy
      have hib := fun y hy => spots_in (slip := slip) (r := r) (p := b) (y := y) hy
      generalize spots slip r a = A at *
      generalize spots slip r b = B at *
      generalize besR slip a b (l.take i) = P at *
      clear hr hrow
      refine wp_join (fun vs => vs = [.agg ((P ++ besX a b A B).map iv)]) ?_ ?_
      · refine wp_loop (fun j vs => ∃ n : Nat, vs = [.agg ((P ++ besX a b (A.take n) B).map iv), iv n] ∧ n + j = A.length) A.length (by omega) ⟨0, by rw [show besX a b (A.take 0) B = [] from rfl, List.append_nil]; rfl, by omega⟩ ?_
        rintro jx vs ⟨n, rfl, hn⟩
        try refine rn_norm (by (try simp only [List.length_cons, List.length_nil, Nat.reduceAdd, Nat.zero_add]); rfl) (by (try simp only [pushL]); rfl) ?_
        refine wp_len45 rfl hxa ?_
        refine wp_lss rfl rfl ?_
        refine wp_iteP rfl (fun h3 => ?_) (fun h3 => ?_)
        · have hnl : n < A.length := by omega
          have hrx := rowS hxa hnl
          have hxm := gmemA hnl
          have hX := besX_len (a := a) (b := b) (xs := A.take n) (ys := B) (by simp; omega) hlb
          have hnx : besX a b (A.take (n + 1)) B = besX a b (A.take n) B ++ besY a b (A.getD n default) B := flat_take hnl
          generalize A.getD n default = x at hrx hxm hnx
          have hx2 := hia x hxm
          generalize besX a b (A.take n) B = Q at *
          refine wp_join (fun vs => vs = [.agg ((P ++ (Q ++ besY a b x B)).map iv)]) ?_ ?_
          · refine wp_loop (fun j vs => ∃ m : Nat, vs = [.agg ((P ++ (Q ++ besY a b x (B.take m))).map iv), iv m] ∧ m + j = B.length) B.length (by omega) ⟨0, by rw [show besY a b x (B.take 0) = [] from rfl, List.append_nil]; rfl, by omega⟩ ?_
            rintro jy vs ⟨m, rfl, hm⟩
            try refine rn_norm (by (try simp only [List.length_cons, List.length_nil, Nat.reduceAdd, Nat.zero_add]); rfl) (by (try simp only [pushL]); rfl) ?_
            refine wp_len45 rfl hxb ?_
            refine wp_lss rfl rfl ?_
            refine wp_iteP rfl (fun h4 => ?_) (fun h4 => ?_)
            · have hml : m < B.length := by omega
              have hry := rowS hxb hml
              have hym := gmemA hml
              have hY := besY_len (a := a) (b := b) (x := x) (ys := B.take m) (by simp; omega)
              have hny : besY a b x (B.take (m + 1)) = besY a b x (B.take m) ++ besOf a b x (B.getD m default) := flat_take hml
              generalize B.getD m default = y at hry hym hny
              have hy2 := hib y hym
              generalize besY a b x (B.take m) = T at *
              refine wp_join (fun vs => vs = [.bool (decide (y.1 ≤ x.1 + a.g.length ∧ x.1 ≤ y.1 + b.g.length))]) ?_ ?_
              · refine wp _ hry ?_
                refine wp _ hrx ?_
                refine wp_len25 rfl (by assumption) ?_
                refine wp_addN rfl rfl (by omega) ?_
                refine wp_leq rfl rfl ?_
                refine wp_iteP rfl (fun h5 => ?_) (fun h5 => ?_)
                · refine wp _ hrx ?_
                  refine wp _ hry ?_
                  refine wp_len25 rfl (by assumption) ?_
                  refine wp_addN rfl rfl (by omega) ?_
                  refine wp_leq rfl rfl ?_
                  exact wp_jump (jb_eq (by omega))
                · exact wp_jump (jb_fd (by omega))
              rintro vs rfl
              try refine rn_norm (by (try simp only [List.length_cons, List.length_nil, Nat.reduceAdd, Nat.zero_add]); rfl) (by (try simp only [pushL]); rfl) ?_
              refine wp_join (fun vs => vs = [.agg ((P ++ (Q ++ (T ++ besOf a b x y))).map iv)]) ?_ ?_
              · refine wp_iteP rfl (fun h5 => ?_) (fun h5 => ?_)
                · have e : besOf a b x y = [(y.1 : Int) - x.1] := by unfold besOf; rw [if_pos h5]
                  refine wp _ hry ?_
                  refine wp _ hrx ?_
                  refine wp_sub rfl rfl (by omega) (by omega) ?_
                  refine wp_pushI rfl rfl (by decide) (by first | omega | (simp; omega)) ?_
                  refine wp_jump ?_
                  rw [e]
                  simp [dnL, PE.dn, SE.dn, nth, tv]
                · have e : besOf a b x y = [] := by unfold besOf; rw [if_neg h5]
                  refine wp_jump ?_
                  rw [e, List.append_nil]; rfl
              rintro vs rfl
              refine wp_add1 rfl rfl (by omega) ?_
              exact wp_jump ⟨jy - 1, by omega, m + 1, by rw [hny]; rfl, by omega⟩
            · refine wp_jumpO (by decide) ?_
              have e : B.take m = B := List.take_of_length_le (by omega)
              rw [e]
              exact wp_jump rfl
          rintro vs rfl
          refine wp_add1 rfl rfl (by omega) ?_
          exact wp_jump ⟨jx - 1, by omega, n + 1, by rw [hnx]; rfl, by omega⟩
        · refine wp_jumpO (by decide) ?_
          have e : A.take n = A := List.take_of_length_le (by omega)
          rw [e]
          exact wp_jump rfl
      rintro vs rfl
      refine wp_add1 rfl rfl (by omega) ?_
      exact wp_jump ⟨j - 1, by omega, i + 1, by rw [hnext]; rfl, by omega⟩
    · refine wp_jumpO (by decide) ?_
      have e : l.take i = l := List.take_of_length_le (by omega)
      rw [e]
      exact wp_jump rfl
  rintro vs rfl
  have hL := besR_len (slip := slip) (a := a) (b := b) l1 hH.ok
  have hin := besR_in (slip := slip) (a := a) (b := b) hH.ok
  have hV : besV slip l a b = besD (besR slip a b l) 25 := by unfold besV; rw [if_pos he, bes_eq hin]
  rw [hV]
  generalize besR slip a b l = L at *
  try refine rn_norm (by (try simp only [List.length_cons, List.length_nil, Nat.reduceAdd, Nat.zero_add]); rfl) (by (try simp only [pushL]); rfl) ?_
  refine wp_join (fun vs => vs = [.agg ((besD L 25).map iv)]) ?_ ?_
  · refine wp_frzN rfl ?_
    have hil := il_of L
    generalize ilOf L = x at hil
    refine wp_loop (fun j vs => ∃ i : Nat, vs = [x, .agg ((besD L i).map iv), iv ((i : Int) - 12)] ∧ i + j = 25) 25 (by omega) ⟨0, rfl, by omega⟩ ?_
    rintro j vs ⟨i, rfl, hi⟩
    have hlen : (besD L i).length ≤ i := by
      unfold besD
      refine Nat.le_trans (List.length_filter_le _ _) ?_
      simp
    have hs := besD_succ L i
    refine wp_leq rfl rfl ?_
    refine wp_iteP rfl (fun h2 => ?_) (fun h2 => ?_)
    · refine wp_callE (ev67H (k + 3) hil (by omega) ((i : Int) - 12)) rfl ?_
      generalize besD L i = P at *
      refine wp_join (fun vs => vs = [.agg ((besD L (i + 1)).map iv)]) ?_ ?_
      · refine wp_iteP rfl (fun h3 => ?_) (fun h3 => ?_)
        · rw [if_pos h3] at hs
          refine wp_one (by simp only [tv, tp, tn, PE.dn, SE.dn, dnL, nth, projV, List.getD_cons_succ, List.getD_cons_zero, Rg.cells, Pc.cells]; rfl) rfl ?_
          refine wp_pushI rfl rfl (by decide) (by first | omega | (simp; omega)) ?_
          refine wp_jump ?_
          rw [hs]
          simp [dnL, PE.dn, SE.dn, nth, tv]
        · rw [if_neg h3, List.append_nil] at hs
          refine wp_jump ?_
          rw [hs]; rfl
      rintro vs rfl
      refine wp_add rfl rfl (by omega) (by omega) ?_
      exact wp_jump ⟨j - 1, by omega, i + 1, by rw [show ((i + 1 : Nat) : Int) - 12 = (i : Int) - 12 + 1 by omega]; rfl, by omega⟩
    · refine wp_jumpO (by decide) ?_
      have e : i = 25 := by omega
      rw [e]
      exact wp_jump rfl
  rintro vs rfl
  refine wp_frzN rfl ?_
  have hq := (il_of (besD L 25)).plain
  exact wp_ret (v := .tup [ilOf (besD L 25), iv 0]) rfl (by simp [hq]) ⟨_, by rw [he], il_of _⟩
end Go.Proofs.YtlminnpaeaganaaGreat
