/- Plain laws. No condition. -/
import Derived.Test.YtlminnpaeaganaaGreatMPlainB
namespace Go.Proofs.YtlminnpaeaganaaGreat
open Go Go.RowKit
set_option linter.unusedVariables false
set_option linter.unusedSimpArgs false
set_option maxRecDepth 100000
/-- There is a spot. -/
def anyB (slip : Int) (r : Rg) (p : Pc) : Bool := decide (0 < (spots slip r p).length)
end Go.Proofs.YtlminnpaeaganaaGreat
namespace Go.Proofs.YtlminnpaeaganaaGreat
open Go Go.RowKit
set_option linter.unusedVariables false
set_option linter.unusedSimpArgs false
set_option maxRecDepth 100000
/-! ### Copies of rulings -/
def dupR (r : Rg) : Rg := ⟨.sl none 1 0 r.st.length (r.st.map iv), r.st, r.lines, r.width⟩
theorem dupR_ok {r : Rg} (h : r.ok) : (dupR r).ok := ⟨.inr ⟨0, rfl⟩, h.l1, h.l2, h.st, h.n1, h.n2, h.w1, h.w2⟩
theorem spt_dup {slip : Int} {r : Rg} {p : Pc} {t : Bool} : ∀ n, spt slip (dupR r) p t n = spt slip r p t n
  | 0 => rfl
  | n + 1 => by
    unfold spt
    rw [spt_dup n]
    rfl
theorem spots_dup {slip : Int} {r : Rg} {p : Pc} : spots slip (dupR r) p = spots slip r p := by
  unfold spots
  rw [spt_dup, spt_dup]
  rfl
theorem mk_rg {n : Nat} (hn : n < 1000000) : mkV [.snil, iv 0, iv 0] 40 (iv n) = some (.agg (rcells (List.replicate n default))) := by
  have e : ∀ n : Nat, repl [.snil, iv 0, iv 0] n = rcells (List.replicate n default) := by
    intro n
    induction n with
    | zero => rfl
    | succ n ih => rw [repl, ih, List.replicate_succ, rcells_cons]; rfl
  simp only [mkV, e, Int.toNat_natCast]
  rw [if_pos (by omega)]
theorem put_rg {l : List Rg} {i : Nat} {r : Rg} (hi : i < l.length) : putV 3 0 (.agg (rcells l)) (iv i) r.cells = some (.agg (rcells (l.set i r))) := by
  have e : splice (rcells l) (i * 3 + 0) r.cells = rcells (l.set i r) := by
    rw [List.set_eq_take_append_cons_drop, if_pos hi]
    have h1 : ∀ (l : List Rg) (i : Nat), (rcells l).take (i * 3) = rcells (l.take i) := by
      intro l
      induction l with
      | nil => intro i; simp
      | cons a l ih =>
        intro i
        cases i with
        | zero => simp
        | succ i =>
          rw [List.take_succ_cons, rcells_cons, rcells_cons, ← ih i, show (i + 1) * 3 = a.cells.length + i * 3 by simp [Rg.cells]; omega, List.take_length_add_append]
    have h2 : ∀ (l : List Rg) (i : Nat), (rcells l).drop (i * 3) = rcells (l.drop i) := by
      intro l
      induction l with
      | nil => intro i; simp
      | cons a l ih =>
        intro i
        cases i with
        | zero => simp
        | succ i =>
          rw [List.drop_succ_cons, rcells_cons, ← ih i, show (i + 1) * 3 = a.cells.length + i * 3 by simp [Rg.cells]; omega, List.drop_length_add_append]
    have h3 : i * 3 + 0 + r.cells.length = (i + 1) * 3 := by simp [Rg.cells]; omega
    simp only [splice]
    rw [h3, Nat.add_zero, h1, h2, rcells_append, rcells_cons, List.append_assoc]
  simp only [putV, Int.toNat_natCast]
  rw [if_pos (by simp [Rg.cells]; omega), e]
theorem Hand.dup {slip s : Int} {lp : PV} {l : List Rg} (h : Hand slip lp l) (h0 : 0 ≤ s) (h1 : s ≤ 3) : Hand s (.sl none 3 0 l.length (rcells (l.map dupR))) (l.map dupR) :=
  ⟨h0, h1, .inr ⟨0, by simp⟩, by simpa using h.l0, by simpa using h.l1, fun r hr => by
    obtain ⟨r', hr', rfl⟩ := List.mem_map.1 hr
    exact dupR_ok (h.ok r' hr')⟩
/-! ### More slip -/
/-! ### Need -/
def Needs (r : Rg) (p : Pc) (e m : Int) : Prop :=
  (e = 0 ∧ ∃ n : Nat, m = n ∧ n ≤ 3 ∧ anyB n r p = true ∧ ∀ n' : Nat, n' < n → anyB n' r p = false) ∨
  (e = 11 ∧ m = 0 ∧ ∀ n' : Nat, n' ≤ 3 → anyB n' r p = false)
end Go.Proofs.YtlminnpaeaganaaGreat
namespace Go.Proofs.YtlminnpaeaganaaGreat
open Go Go.RowKit
set_option linter.unusedVariables false
set_option linter.unusedSimpArgs false
set_option maxRecDepth 100000
theorem gmem0 {l : List Int} {i : Nat} (h : i < l.length) : l.getD i 0 ∈ l := by simp [List.getD_eq_getElem?_getD, h]
/-! ### How far a piece reaches as it lies -/
def above (p : Pc) (t : Bool) : Int := if t then p.dn else p.up
def below (p : Pc) (t : Bool) : Int := if t then p.up else p.dn
theorem ev88 (k : Nat) {p : Pc} (hp : p.ok) (i : Int) (t : Bool) : Ev (k + 1) 78 [.agg p.cells, .agg [iv i, .bool t]] fun v => v = .tup [iv (above p t), iv (below p t)] := by
  refine ev_of (t := t78) rfl (fn := Tryz.f78) (by kernel_rfl) (by simp [fitArgs, flagsOf, Pc.cells, hp.il.plain]) ?_
  cases t <;> simp [t78, tv, tp, tn, Pc.cells, above, below]
/-! ### Least and greatest -/
theorem ev89 (k : Nat) {x : PV} {l : List Int} (hx : IL x l) (h0 : 0 < l.length) (h1 : l.length < 4000) : Ev (k + 1) 79 [x] fun v => ∃ m, v = iv m ∧ m ∈ l ∧ ∀ y ∈ l, m ≤ y := by
  refine ev_of (t := t79) rfl (fn := Tryz.f79) (by kernel_rfl) (by simp [fitArgs, flagsOf, hx.plain]) ?_
  simp only [t79, tv, tp, tn, run_prim]
  refine ⟨iv l.length, by simpa using hx.len, .bool false, by simp; omega, ?_⟩
  refine mk_join (fun vs => vs = []) ?_ ?_
  · simp
  rintro vs rfl
  simp only [run_prim]
  refine ⟨.agg [iv (l.getD 0 0)], by simpa using rowI hx h0, ?_⟩
  refine mk_join (fun vs => ∃ m, vs = [iv m] ∧ m ∈ l ∧ ∀ y ∈ l, m ≤ y) ?_ ?_
  · refine mk_loop (fun j vs => ∃ (m : Int) (i : Nat), vs = [iv m, iv i] ∧ i + j = l.length ∧ m ∈ l ∧ ∀ k, k < i → m ≤ l.getD k 0) (l.length - 1) (by omega) ⟨l.getD 0 0, 1, by simp, by omega, gmem0 h0, fun k hk => by rw [show k = 0 by omega]; exact Int.le_refl _⟩ ?_
    rintro j vs ⟨m, i, rfl, hi, hm, hb⟩
    simp only [run_prim]
    refine ⟨iv l.length, by simpa using hx.len, .bool (decide ((i : Int) < l.length)), by simp, ?_⟩
    simp only [run_ite, SE.den, List.cons_append, List.nil_append, List.getD_cons_succ, List.getD_cons_zero, pifv_bool]
    refine pif (fun h => ?_) (fun h => ?_) <;> simp only [decide_eq_true_eq, decide_eq_false_iff_not] at h
    · have hlt : i < l.length := by omega
      simp only [run_prim]
      refine ⟨.agg [iv (l.getD i 0)], by simpa using rowI hx hlt, iv (if l.getD i 0 < m then l.getD i 0 else m), by simp [aMin], iv ((i + 1 : Nat) : Int), by simp [wrap64 (n := (i : Int) + 1) (by omega) (by omega)], ?_⟩
      simp only [run_jump, atL_same]
      refine ⟨j - 1, by omega, if l.getD i 0 < m then l.getD i 0 else m, i + 1, by simp, by omega, ?_, fun k hk => ?_⟩
      · split
        · exact gmem0 hlt
        · exact hm
      · by_cases e : k = i
        · subst e; split <;> omega
        · have := hb k (by omega)
          split <;> omega
    · simp only [run_jump, atL]
      simp
      refine ⟨hm, fun y hy => ?_⟩
      obtain ⟨n, hn, rfl⟩ := List.getElem_of_mem hy
      have := hb n (by omega)
      simpa [List.getD_eq_getElem?_getD, hn] using this
  rintro vs ⟨m, rfl, hm, hb⟩
  simp
  exact ⟨hm, hb⟩
theorem ev90 (k : Nat) {x : PV} {l : List Int} (hx : IL x l) (h0 : 0 < l.length) (h1 : l.length < 4000) : Ev (k + 1) 80 [x] fun v => ∃ m, v = iv m ∧ m ∈ l ∧ ∀ y ∈ l, y ≤ m := by
  refine ev_of (t := t80) rfl (fn := Tryz.f80) (by kernel_rfl) (by simp [fitArgs, flagsOf, hx.plain]) ?_
  simp only [t80, tv, tp, tn, run_prim]
  refine ⟨iv l.length, by simpa using hx.len, .bool false, by simp; omega, ?_⟩
  refine mk_join (fun vs => vs = []) ?_ ?_
  · simp
  rintro vs rfl
  simp only [run_prim]
  refine ⟨.agg [iv (l.getD 0 0)], by simpa using rowI hx h0, ?_⟩
  refine mk_join (fun vs => ∃ m, vs = [iv m] ∧ m ∈ l ∧ ∀ y ∈ l, y ≤ m) ?_ ?_
  · refine mk_loop (fun j vs => ∃ (m : Int) (i : Nat), vs = [iv m, iv i] ∧ i + j = l.length ∧ m ∈ l ∧ ∀ k, k < i → l.getD k 0 ≤ m) (l.length - 1) (by omega) ⟨l.getD 0 0, 1, by simp, by omega, gmem0 h0, fun k hk => by rw [show k = 0 by omega]; exact Int.le_refl _⟩ ?_
    rintro j vs ⟨m, i, rfl, hi, hm, hb⟩
    simp only [run_prim]
    refine ⟨iv l.length, by simpa using hx.len, .bool (decide ((i : Int) < l.length)), by simp, ?_⟩
    simp only [run_ite, SE.den, List.cons_append, List.nil_append, List.getD_cons_succ, List.getD_cons_zero, pifv_bool]
    refine pif (fun h => ?_) (fun h => ?_) <;> simp only [decide_eq_true_eq, decide_eq_false_iff_not] at h
    · have hlt : i < l.length := by omega
      simp only [run_prim]
      refine ⟨.agg [iv (l.getD i 0)], by simpa using rowI hx hlt, iv (if m < l.getD i 0 then l.getD i 0 else m), by simp [aMax], iv ((i + 1 : Nat) : Int), by simp [wrap64 (n := (i : Int) + 1) (by omega) (by omega)], ?_⟩
      simp only [run_jump, atL_same]
      refine ⟨j - 1, by omega, if m < l.getD i 0 then l.getD i 0 else m, i + 1, by simp, by omega, ?_, fun k hk => ?_⟩
      · split
        · exact gmem0 hlt
        · exact hm
      · by_cases e : k = i
        · subst e; split <;> omega
        · have := hb k (by omega)
          split <;> omega
    · simp only [run_jump, atL]
      simp
      refine ⟨hm, fun y hy => ?_⟩
      obtain ⟨n, hn, rfl⟩ := List.getElem_of_mem hy
      have := hb n (by omega)
      simpa [List.getD_eq_getElem?_getD, hn] using this
  rintro vs ⟨m, rfl, hm, hb⟩
  simp
  exact ⟨hm, hb⟩
/-! ### Lines that are lost -/
def lostOf (slip : Int) (r : Rg) (a b : Pc) (x y : Nat × Bool) : List Int := if y.1 ≤ x.1 + a.g.length then [] else if below a x.2 + above b y.2 - 2 * slip ≤ ht r y.1 - ht r (x.1 + a.g.length) then [(y.1 : Int) - (x.1 + a.g.length : Nat) - 1] else []
def lostY (slip : Int) (r : Rg) (a b : Pc) (x : Nat × Bool) (ys : List (Nat × Bool)) : List Int := ys.flatMap (lostOf slip r a b x)
def lostX (slip : Int) (r : Rg) (a b : Pc) (xs ys : List (Nat × Bool)) : List Int := xs.flatMap fun x => lostY slip r a b x ys
def lostR (slip : Int) (a b : Pc) (l : List Rg) : List Int := l.flatMap fun r => lostX slip r a b (spots slip r a) (spots slip r b)
theorem lostOf_len (slip : Int) (r : Rg) (a b : Pc) (x y : Nat × Bool) : (lostOf slip r a b x y).length ≤ 1 := by
  unfold lostOf
  split
  · simp
  · split <;> simp
theorem flat_len {α : Type} {f : α → List Int} {n : Nat} : ∀ {l : List α}, (∀ a ∈ l, (f a).length ≤ n) → (l.flatMap f).length ≤ l.length * n
  | [], _ => by simp
  | a :: l, h => by
    have h1 := h a (by simp)
    have h2 := flat_len (l := l) fun x hx => h x (by simp [hx])
    rw [List.flatMap_cons, List.length_append, List.length_cons, Nat.add_mul]
    omega
theorem lostY_len {slip : Int} {r : Rg} {a b : Pc} {x : Nat × Bool} {ys : List (Nat × Bool)} (h : ys.length ≤ 24) : (lostY slip r a b x ys).length ≤ 24 := by
  have := flat_len (l := ys) (f := lostOf slip r a b x) (n := 1) fun y _ => lostOf_len slip r a b x y
  unfold lostY; omega
theorem lostX_len {slip : Int} {r : Rg} {a b : Pc} {xs ys : List (Nat × Bool)} (hx : xs.length ≤ 24) (h : ys.length ≤ 24) : (lostX slip r a b xs ys).length ≤ 576 := by
  have := flat_len (l := xs) (f := fun x => lostY slip r a b x ys) (n := 24) fun x _ => lostY_len h
  unfold lostX; omega
theorem lostR_len {slip : Int} {a b : Pc} {l : List Rg} (hl : l.length ≤ 4) (hok : ∀ r ∈ l, r.ok) : (lostR slip a b l).length ≤ 2304 := by
  have := flat_len (l := l) (f := fun r => lostX slip r a b (spots slip r a) (spots slip r b)) (n := 576) fun r hr => lostX_len (spots_len slip (hok r hr) a) (spots_len slip (hok r hr) b)
  unfold lostR; omega
theorem take_one {α : Type} [Inhabited α] {l : List α} {i : Nat} (h : i < l.length) : l.take (i + 1) = l.take i ++ [l.getD i default] := by
  rw [List.take_add_one]
  simp [List.getD_eq_getElem?_getD, h]
theorem spots_in {slip : Int} {r : Rg} {p : Pc} {y : Nat × Bool} (h : y ∈ spots slip r p) : y.1 < r.lines.toNat ∧ ((y.1 + p.g.length : Nat) : Int) ≤ r.lines - 1 := by
  rcases y with ⟨i, t⟩
  have key : ∀ q : Pc, q.g.length = p.g.length → sitB slip r q i = true → ((i + p.g.length : Nat) : Int) ≤ r.lines - 1 := by
    intro q hq hs
    simp only [sitB, Bool.and_eq_true, decide_eq_true_eq] at hs
    rw [← hq]; exact hs.1
  simp only [spots, List.mem_append] at h
  rcases h with h | h
  · rw [mem_spt] at h
    exact ⟨h.2.1, key p rfl h.2.2⟩
  · split at h
    · rw [mem_spt] at h
      exact ⟨h.2.1, key (half p) (by simp [half]) h.2.2⟩
    · simp at h
end Go.Proofs.YtlminnpaeaganaaGreat
namespace Go.Proofs.YtlminnpaeaganaaGreat
open Go Go.RowKit
set_option linter.unusedVariables false
set_option linter.unusedSimpArgs false
set_option maxRecDepth 100000
theorem ev46 (k : Nat) {slip : Int} {lp : PV} {l : List Rg} (h : Hand slip lp l) {a b : Pc} (ha : a.ok) (hb : b.ok) : Ev (k + 5) 35 [.agg [iv slip, lp], .agg a.cells, .agg b.cells] fun v => (v = .tup [.agg [iv 0, iv 0], iv 11] ∧ lostR slip a b l = []) ∨ ∃ m M, v = .tup [.agg [iv m, iv M], iv 0] ∧ (m ∈ lostR slip a b l ∧ ∀ y ∈ lostR slip a b l, m ≤ y) ∧ M ∈ lostR slip a b l ∧ ∀ y ∈ lostR slip a b l, y ≤ M := by
  refine ev_of (t := t35) rfl (fn := Tryz.f35) (by kernel_rfl) (by simp [fitArgs, flagsOf, h.plain, Pc.cells, ha.il.plain, hb.il.plain]) ?_
  have l1 := h.l1
  have s0 := h.s0
  have s1 := h.s1
  have ag := ha.gl
  have a1 := ha.u0; have a2 := ha.u1; have a3 := ha.d0; have a4 := ha.d1
  have b1 := hb.u0; have b2 := hb.u1; have b3 := hb.d0; have b4 := hb.d1
  have hbel : ∀ t, 0 ≤ below a t ∧ below a t ≤ 30 := fun t => by cases t <;> simp [below] <;> omega
  have habv : ∀ t, 0 ≤ above b t ∧ above b t ≤ 30 := fun t => by cases t <;> simp [above] <;> omega
  simp only [t35, tv, tp, tn, run_prim]
  refine ⟨.agg [iv slip, lp], by simp, .agg a.cells, by simp [Pc.cells], .agg b.cells, by simp [Pc.cells], ?_⟩
  refine mk_ev (ev67p k h (x := .snil) (ns := []) (.inl ⟨rfl, rfl⟩) (by simp) (by simp) (ps := [a, b]) (by intro p hp; simp at hp; rcases hp with rfl | rfl; exact ha; exact hb) (by simp)) (by simp [pcells, Pc.cells]) ?_
  rintro v rfl
  simp only [run_prim]
  refine ⟨.agg [iv slip, lp], by simp, iv 0, by simp, .agg [iv slip, lp], by simp, .bool false, by simp, ?_⟩
  simp only [run_ite, SE.den, List.cons_append, List.nil_append, List.getD_cons_succ, List.getD_cons_zero, pifv_bool, pif_false, run_prim]
  refine ⟨iv l.length, by simpa using h.rl.len, ?_⟩
  refine mk_join (fun vs => vs = [.agg ((lostR slip a b l).map iv)]) ?_ ?_
  · refine mk_loop (fun j vs => ∃ i : Nat, vs = [iv i, .agg ((lostR slip a b (l.take i)).map iv)] ∧ i + j = l.length) l.length (by omega) ⟨0, by simp [lostR], by omega⟩ ?_
    rintro j vs ⟨i, rfl, hi⟩
    simp only [run_prim]
    refine ⟨.bool (decide ((i : Int) < l.length)), by simp, ?_⟩
    simp only [run_ite, SE.den, List.cons_append, List.nil_append, List.getD_cons_succ, List.getD_cons_zero, pifv_bool]
    refine pif (fun h2 => ?_) (fun h2 => ?_) <;> simp only [decide_eq_true_eq, decide_eq_false_iff_not] at h2
    · have hlt : i < l.length := by omega
      have hr := h.get hlt
      have hrow := rowR h.rl hlt
      have hP := lostR_len (slip := slip) (a := a) (b := b) (l := l.take i) (by simp; omega) fun r hr => h.ok r (List.mem_of_mem_take hr)
      have hnext : lostR slip a b (l.take (i + 1)) = lostR slip a b (l.take i) ++ lostX slip (l.getD i default) a b (spots slip (l.getD i default) a) (spots slip (l.getD i default) b) := by
        rw [take_one hlt]; simp [lostR]
      have h76 := fun (p : Pc) (hp : p.ok) => ev76 k h hlt hp
      generalize l.getD i default = r at hr hrow hnext h76
      have n2 := hr.n2
      refine mk_ev (h76 b hb) (by simp [Pc.cells]) ?_
      intro xb hxb
      refine mk_ev (h76 a ha) (by simp [Pc.cells]) ?_
      intro xa hxa
      have hla := spots_len slip hr a
      have hlb := spots_len slip hr b
      have hia := fun y hy => spots_in (slip := slip) (r := r) (p := a) (y := y) hy
      have hib := fun y hy => spots_in (slip := slip) (r := r) (p := b) (y := y) hy
      generalize spots slip r a = A at *
      generalize spots slip r b = B at *
      generalize lostR slip a b (l.take i) = P at *
      simp only [run_prim]
      refine ⟨iv A.length, by simpa using hxa.len, ?_⟩
      refine mk_join (fun vs => vs = [.agg ((P ++ lostX slip r a b A B).map iv)]) ?_ ?_
      · refine mk_loop (fun j vs => ∃ n : Nat, vs = [iv n, .agg ((P ++ lostX slip r a b (A.take n) B).map iv)] ∧ n + j = A.length) A.length (by omega) ⟨0, by simp [lostX], by omega⟩ ?_
        rintro jx vs ⟨n, rfl, hn⟩
        simp only [run_prim]
        refine ⟨.bool (decide ((n : Int) < A.length)), by simp, ?_⟩
        simp only [run_ite, SE.den, List.cons_append, List.nil_append, List.getD_cons_succ, List.getD_cons_zero, pifv_bool]
        refine pif (fun h3 => ?_) (fun h3 => ?_) <;> simp only [decide_eq_true_eq, decide_eq_false_iff_not] at h3
        · have hnl : n < A.length := by omega
          have hrx := rowS hxa hnl
          have hxm : A.getD n default ∈ A := by simp [List.getD_eq_getElem?_getD, hnl]
          have hX := lostX_len (slip := slip) (r := r) (a := a) (b := b) (xs := A.take n) (ys := B) (by simp; omega) hlb
          have hnx : lostX slip r a b (A.take (n + 1)) B = lostX slip r a b (A.take n) B ++ lostY slip r a b (A.getD n default) B := by
            rw [take_one hnl]; simp [lostX]
          generalize A.getD n default = x at hrx hxm hnx
          have hx2 := hia x hxm
          generalize lostX slip r a b (A.take n) B = Q at *
          simp only [run_prim]
          refine ⟨.agg [iv x.1, .bool x.2], by simpa using hrx, iv B.length, by simpa using hxb.len, ?_⟩
          refine mk_join (fun vs => vs = [.agg ((P ++ (Q ++ lostY slip r a b x B)).map iv)]) ?_ ?_
          · refine mk_loop (fun j vs => ∃ m : Nat, vs = [iv m, .agg ((P ++ (Q ++ lostY slip r a b x (B.take m))).map iv)] ∧ m + j = B.length) B.length (by omega) ⟨0, by simp [lostY], by omega⟩ ?_
            rintro jy vs ⟨m, rfl, hm⟩
            simp only [run_prim]
            refine ⟨.bool (decide ((m : Int) < B.length)), by simp, ?_⟩
            simp only [run_ite, SE.den, List.cons_append, List.nil_append, List.getD_cons_succ, List.getD_cons_zero, pifv_bool]
            refine pif (fun h4 => ?_) (fun h4 => ?_) <;> simp only [decide_eq_true_eq, decide_eq_false_iff_not] at h4
            · have hml : m < B.length := by omega
              have hry := rowS hxb hml
              have hym : B.getD m default ∈ B := by simp [List.getD_eq_getElem?_getD, hml]
              have hY := lostY_len (slip := slip) (r := r) (a := a) (b := b) (x := x) (ys := B.take m) (by simp; omega)
              have hny : lostY slip r a b x (B.take (m + 1)) = lostY slip r a b x (B.take m) ++ lostOf slip r a b x (B.getD m default) := by
                rw [take_one hml]; simp [lostY]
              generalize B.getD m default = y at hry hym hny
              have hy2 := hib y hym
              generalize lostY slip r a b x (B.take m) = T at *
              simp only [run_prim]
              refine ⟨.agg [iv y.1, .bool y.2], by simpa using hry, iv a.g.length, by simpa [Pc.cells] using ha.il.len, iv ((x.1 + a.g.length : Nat) : Int), by simp [wrap64 (n := (x.1 : Int) + a.g.length) (by omega) (by omega)], .bool (decide (y.1 ≤ x.1 + a.g.length)), ?_, ?_⟩
              · simp
                by_cases e : y.1 ≤ x.1 + a.g.length
                · have : (y.1 : Int) ≤ (x.1 : Int) + a.g.length := by omega
                  simp [e, this]
                · have : ¬ (y.1 : Int) ≤ (x.1 : Int) + a.g.length := by omega
                  simp [e, this]
              simp only [run_ite, SE.den, List.cons_append, List.nil_append, List.getD_cons_succ, List.getD_cons_zero, pifv_bool]
              refine pif (fun h5 => ?_) (fun h5 => ?_) <;> simp only [decide_eq_true_eq, decide_eq_false_iff_not] at h5
              · have hz : lostOf slip r a b x y = [] := by simp [lostOf, h5]
                rw [hz, List.append_nil] at hny
                simp [wrap64 (n := (m : Int) + 1) (by omega) (by omega)]
                exact ⟨jy - 1, by omega, m + 1, by simp [hny], by omega⟩
              · simp only [run_prim]
                refine ⟨.agg r.cells, by simpa using hrow, ?_⟩
                refine mk_ev (ev68 (k + 2) hr) (by simp [Rg.cells]) ?_
                intro hs hhs
                refine mk_ev (ev88 (k + 3) ha x.1 x.2) (by simp [Pc.cells]) ?_
                rintro v rfl
                simp only [run_prim]
                refine ⟨iv (above a x.2), by simp, iv (below a x.2), by simp, ?_⟩
                refine mk_ev (ev88 (k + 3) hb y.1 y.2) (by simp [Pc.cells]) ?_
                rintro v rfl
                have hb1 := hbel x.2
                have hb2 := habv y.2
                have hq1 := ht_ok hr y.1
                have hq2 := ht_ok hr (x.1 + a.g.length)
                have g1 := rowI hhs (n := y.1) (by rw [htl_len]; omega)
                have g2 := rowI hhs (n := x.1 + a.g.length) (by rw [htl_len]; omega)
                rw [htl_get r (by omega)] at g1 g2
                simp only [run_prim]
                refine ⟨iv (above b y.2), by simp, iv (below b y.2), by simp, .agg [iv (ht r y.1)], by simpa using g1, .agg [iv (ht r (x.1 + a.g.length))], by simpa using g2, iv (ht r y.1 - ht r (x.1 + a.g.length)), by simp [wrap64 (n := ht r y.1 - ht r (x.1 + a.g.length)) (by omega) (by omega)], iv (below a x.2 + above b y.2), by simp [wrap64 (n := below a x.2 + above b y.2) (by omega) (by omega)], iv (2 * slip), by simp [wrap64 (n := 2 * slip) (by omega) (by omega)], iv (below a x.2 + above b y.2 - 2 * slip), by simp [wrap64 (n := below a x.2 + above b y.2 - 2 * slip) (by omega) (by omega)], .bool (decide (below a x.2 + above b y.2 - 2 * slip ≤ ht r y.1 - ht r (x.1 + a.g.length))), by simp, ?_⟩
                refine mk_join (fun vs => vs = [.agg ((P ++ (Q ++ (T ++ lostOf slip r a b x y))).map iv)]) ?_ ?_
                · simp only [run_ite, SE.den, List.cons_append, List.nil_append, List.getD_cons_succ, List.getD_cons_zero, pifv_bool]
                  refine pif (fun h6 => ?_) (fun h6 => ?_) <;> simp only [decide_eq_true_eq, decide_eq_false_iff_not] at h6
                  · have hz : lostOf slip r a b x y = [(y.1 : Int) - (x.1 + a.g.length : Nat) - 1] := by simp only [lostOf]; rw [if_neg h5, if_pos h6]
                    rw [hz]
                    simp only [run_prim]
                    refine ⟨iv ((y.1 : Int) - (x.1 + a.g.length : Nat)), by simp; rw [wrap64 (by omega) (by omega)]; , iv ((y.1 : Int) - (x.1 + a.g.length : Nat) - 1), by simp; rw [wrap64 (by omega) (by omega)]; , .agg (((P ++ (Q ++ T)) ++ [(y.1 : Int) - (x.1 + a.g.length : Nat) - 1]).map iv), push_int (by decide) (by simp; omega), ?_⟩
                    simp
                  · have hz : lostOf slip r a b x y = [] := by simp only [lostOf]; rw [if_neg h5, if_neg h6]
                    simp [hz]
                rintro vs rfl
                simp only [run_prim]
                refine ⟨iv ((m + 1 : Nat) : Int), by simp [wrap64 (n := (m : Int) + 1) (by omega) (by omega)], ?_⟩
                simp only [run_jump, atL_same]
                exact ⟨jy - 1, by omega, m + 1, by simp [hny], by omega⟩
            · have e : B.take m = B := List.take_of_length_le (by omega)
              simp [atL, e]
          rintro vs rfl
          simp only [run_prim]
          refine ⟨iv ((n + 1 : Nat) : Int), by simp [wrap64 (n := (n : Int) + 1) (by omega) (by omega)], ?_⟩
          simp only [run_jump, atL_same]
          exact ⟨jx - 1, by omega, n + 1, by simp [hnx], by omega⟩
        · have e : A.take n = A := List.take_of_length_le (by omega)
          simp [atL, e]
      rintro vs rfl
      simp only [run_prim]
      refine ⟨iv ((i + 1 : Nat) : Int), by simp [wrap64 (n := (i : Int) + 1) (by omega) (by omega)], ?_⟩
      simp only [run_jump, atL_same]
      exact ⟨j - 1, by omega, i + 1, by simp [hnext], by omega⟩
    · have e : l.take i = l := List.take_of_length_le (by omega)
      simp [atL, e]
  rintro vs rfl
  have hL := lostR_len (slip := slip) (a := a) (b := b) l1 h.ok
  generalize lostR slip a b l = L at *
  simp only [run_prim]
  refine ⟨iv L.length, by simp, .bool (decide (L.length = 0)), by simp, ?_⟩
  simp only [run_ite, SE.den, List.cons_append, List.nil_append, List.getD_cons_succ, List.getD_cons_zero, pifv_bool]
  refine pif (fun h2 => ?_) (fun h2 => ?_) <;> simp only [decide_eq_true_eq, decide_eq_false_iff_not] at h2
  · have e : L = [] := List.eq_nil_of_length_eq_zero h2
    simp [e]
  · simp only [run_prim]
    refine ⟨ilOf L, by simp only [Prim.run, SE.den, List.cons_append, List.nil_append, List.getD_cons_succ, List.getD_cons_zero, frz_nil0], ?_⟩
    refine mk_ev (ev89 (k + 3) (il_of L) (by omega) (by omega)) (by simp) ?_
    rintro v ⟨m, rfl, hm1, hm2⟩
    refine mk_ev (ev90 (k + 3) (il_of L) (by omega) (by omega)) (by simp) ?_
    rintro v ⟨M, rfl, hM1, hM2⟩
    simp only [run_prim]
    refine ⟨iv m, by simp, iv M, by simp, ?_⟩
    simp only [run_ret]
    exact ⟨_, rfl, by simp, .inr ⟨m, M, by simp, ⟨hm1, hm2⟩, hM1, hM2⟩⟩
end Go.Proofs.YtlminnpaeaganaaGreat
