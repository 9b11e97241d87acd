/- Plain laws. No condition. -/
import Derived.Test.YtlminnpaeaganaaMRepA
import Derived.Test.YtlminnpaeaganaaMTurned
import Derived.Test.YtlminnpaeaganaaMLined
namespace Go.Proofs.Ytlminnpaeaganaa
open Go Go.RowKit
set_option linter.unusedVariables false
set_option linter.unusedSimpArgs false
section
variable {P : Program} {ops : Array Oper}
theorem any_inv {K : St → Prop} (Inv : (Nat → Prop) → St → Prop) (hback : (List.range ops.size).all (fun i => match ops[i]? with | some o => o.after.toList.all fun e => decide (e.on < i) | none => false) = true)
    (step : ∀ (D : Nat → Prop) (s : St), Inv D s → ∀ (i : Nat) (o : Oper), ops[i]? = some o → ¬ D i → (∀ e ∈ o.after, bindsAny e = true → D e.on) → opsW P ops [o] s fun s' => Inv (fun j => D j ∨ j = i) s')
    (fin : ∀ (D : Nat → Prop) (s : St), Inv D s → (∀ i, i < ops.size → D i) → K s) :
    ∀ (n : Nat) (l : Array Bool) (s : St), l.size = ops.size → left l ≤ n → Inv (Lst l) s → anyW P ops n l s K := by
  have hend : ∀ (l : Array Bool) (s : St), l.size = ops.size → Inv (Lst l) s → Region.ready .any ops l = [] → K s := by
    intro l s hl hI hr
    refine fin _ s hI fun i hi => ?_
    induction i using Nat.strongRecOn with
    | ind i ih =>
      refine Classical.byContradiction fun hn => ?_
      obtain ⟨o, ho⟩ : ∃ o, ops[i]? = some o := ⟨ops[i], by simp [hi]⟩
      have hm : i ∈ Region.ready .any ops l := by
        refine mem_ready.2 ⟨(lst_false (by omega)).2 hn, o, ho, fun e he _ => ?_⟩
        have hb := List.all_eq_true.1 hback i (by simpa using hi)
        rw [ho] at hb
        have := List.all_eq_true.1 hb e (by simpa using he)
        simp only [decide_eq_true_eq] at this
        exact ih e.on this (by omega)
      rw [hr] at hm
      cases hm
  intro n
  induction n with
  | zero =>
    intro l s hl hlf hI
    have hr : Region.ready .any ops l = [] := by
      cases hr : Region.ready .any ops l with
      | nil => rfl
      | cons i is =>
        have hm : i ∈ Region.ready .any ops l := by rw [hr]; simp
        obtain ⟨h1, o, ho, _⟩ := mem_ready.1 hm
        have hi : i < l.size := by rw [hl]; exact (Array.getElem?_eq_some_iff.1 ho).1
        have := left_pos hi ((lst_false hi).1 h1)
        omega
    exact ⟨hr, hend l s hl hI hr⟩
  | succ n ih =>
    intro l s hl hlf hI
    refine ⟨fun hr => hend l s hl hI hr, fun i hm o ho => ?_⟩
    obtain ⟨h1, o', ho', h2⟩ := mem_ready.1 hm
    rw [ho] at ho'
    injection ho' with ho'
    subst ho'
    have hi : i < l.size := by rw [hl]; exact (Array.getElem?_eq_some_iff.1 ho).1
    have hn := (lst_false hi).1 h1
    refine opsW_mono (fun s' h => ?_) [o] s (step _ s hI i o ho hn fun e he hb => h2 e (by simpa using he) hb)
    refine ih _ s' (by simpa using hl) (by have := left_set hi hn; omega) ?_
    have e : (fun j => Lst l j ∨ j = i) = Lst (l.setIfInBounds i true) := by
      funext j; exact propext (lst_set hi).symm
    rw [← e]
    exact h
theorem sem_inv {id : Nat} {s : St} {Q : Ex → St → Prop} (hm : P.follows .mixedOrders = true) (Inv : (Nat → Prop) → St → Prop) (hback : (List.range ops.size).all (fun i => match ops[i]? with | some o => o.after.toList.all fun e => decide (e.on < i) | none => false) = true)
    (h0 : Inv (fun _ => False) s)
    (step : ∀ (D : Nat → Prop) (s : St), Inv D s → ∀ (i : Nat) (o : Oper), ops[i]? = some o → ¬ D i → (∀ e ∈ o.after, bindsAny e = true → D e.on) → opsW P ops [o] s fun s' => Inv (fun j => D j ∨ j = i) s')
    (fin : ∀ (D : Nat → Prop) (s : St), Inv D s → (∀ i, i < ops.size → D i) → Q .normal s) : CodeSem P (.region id ops true) s Q := by
  refine sem_any hm (any_inv Inv hback step fin _ _ s (by simp) (by simp [left]) ?_)
  have e : (fun _ => False) = Lst (Array.replicate ops.size false) := by
    funext j
    refine propext ⟨fun h => h.elim, fun h => ?_⟩
    simp only [Lst, Array.getD_eq_getD_getElem?, Array.getElem?_replicate] at h
    split at h <;> simp at h
  rw [← e]
  exact h0
end
section
variable (m : Mem) (slip : Int) (lp : PV) (id1 id2 n k : Nat) (reps rest : List PV) (a b : Int) (c : Nat) (s0 : Int) (an : Nat) (i0 : Int)
def lst8 : PV := .sl (some id1) 3 0 n (.sl (some id2) 1 0 k reps :: iv a :: iv b :: rest)
def kil8 : PV := .sl (some id1) 3 0 n (.dead k :: iv a :: iv b :: rest)
def new8 : PV := .sl (some id1) 3 0 n (.sl (some id2) 1 0 (k + 1) (reps ++ [iv s0]) :: iv a :: iv b :: rest)
def val8 (lcells : List PV) (moved : Prop) : Nat → PV → Prop
  | 0, v | 2, v => v = .ptr (m.n + 2) 1
  | 1, v => (¬ moved → v = lst8 id1 id2 n k reps rest a b) ∧ (moved → v = kil8 id1 n k rest a b)
  | 3, v => ¬ moved → v = lst8 id1 id2 n k reps rest a b
  | 4, v | 5, v => ¬ moved → v = .eref (some id1) 0 (.sl (some id2) 1 0 k reps :: iv a :: iv b :: rest)
  | 6, v => ¬ moved → v = .sl (some id2) 1 0 k reps
  | 7, v => v = .ptr (m.n + 1) 1
  | 8, v => v = lp
  | 9, v | 10, v => v = .eref none 0 lcells
  | 11, v => v = .sl none 1 c 1 [iv s0]
  | 12, v => v = .eref none c [iv s0]
  | 13, v => v = iv s0
  | 14, v => v = .sl none 1 0 1 [iv s0]
  | 15, v => v = .sl (some id2) 1 0 (k + 1) (reps ++ [iv s0])
  | _, v => v = .eref (some id1) 0 (.dead k :: iv a :: iv b :: rest)
structure Inv8 (lcells : List PV) (D : Nat → Prop) (s : St) : Prop where
  g3 : s.g 3 = .ptr m.n 0
  g4 : s.g 4 = .ptr (m.n + 1) 0
  g5 : s.g 5 = .ptr (m.n + 2) 0
  g6 : s.g 6 = iv i0
  e : s.eff = []
  a0 : s.a0 = ⟨m.an, m.n, []⟩
  late : ∀ j, 15 < j → D j → D 15
  all : D 18 → ∀ j, j < 18 → D j
  ch : ∀ j, (3 ≤ j ∧ j ≤ 6 ∨ 8 ≤ j ∧ j ≤ 14) → D j → D (j - 1)
  d15 : D 15 → D 6 ∧ D 14
  d17 : D 17 → D 16
  sl : ¬ D 18 → ∀ j, j < 18 → D j → val8 m lp id1 id2 n k reps rest a b c s0 lcells (D 15) j (s.g (42 + j))
  m0 : ¬ D 15 → M11 m [.inv DiceI, .cells [iv slip, lp], .cells [iv slip, lst8 id1 id2 n k reps rest a b]] an s.m
  m1 : D 15 → ¬ D 18 → M11 m [.inv DiceI, .cells [iv slip, lp], .cells [iv slip, kil8 id1 n k rest a b]] an s.m
  m2 : D 18 → M11 m [.inv DiceI, .cells [iv slip, lp], .cells [iv slip, new8 id1 id2 n k reps rest a b s0]] an s.m
end
section
variable {m : Mem} {slip : Int} {lp : PV} {id1 id2 n k : Nat} {reps rest : List PV} {a b : Int} {c : Nat} {s0 : Int} {an : Nat} {i0 : Int} {lcells : List PV} {D : Nat → Prop} {s : St} {i : Nat} {v : PV}
theorem Inv8.pure (h : Inv8 m slip lp id1 id2 n k reps rest a b c s0 an i0 lcells D s) (hi : i < 18) (h15 : i ≠ 15) (hl : 15 < i → D 15) (hc : (3 ≤ i ∧ i ≤ 6 ∨ 8 ≤ i ∧ i ≤ 14) → D (i - 1)) (h17 : i = 17 → D 16) (hn : ¬ D i) (hv : ¬ D 18 → val8 m lp id1 id2 n k reps rest a b c s0 lcells (D 15) i v) : Inv8 m slip lp id1 id2 n k reps rest a b c s0 an i0 lcells (fun j => D j ∨ j = i) (s.put (some (42 + i)) v) := by
  have e15 : (D 15 ∨ 15 = i) = D 15 := propext ⟨fun h => h.resolve_right (Ne.symm h15), .inl⟩
  have e18 : (D 18 ∨ 18 = i) = D 18 := propext ⟨fun h => h.resolve_right (by omega), .inl⟩
  have hn18 : ¬ D 18 := fun h18 => hn (h.all h18 i hi)
  refine ⟨by rw [St.put_g, if_neg (by omega)]; exact h.g3, by rw [St.put_g, if_neg (by omega)]; exact h.g4, by rw [St.put_g, if_neg (by omega)]; exact h.g5, by rw [St.put_g, if_neg (by omega)]; exact h.g6, h.e, h.a0, fun j hj hd => ?_, fun h18 => ?_, fun j hj hd => ?_, fun h => ?_, fun h17' => ?_, fun _ j hj hd => ?_, fun h' => ?_, fun h' _ => ?_, fun h' => ?_⟩
  · rcases hd with hd | rfl
    · exact .inl (h.late j hj hd)
    · exact .inl (hl hj)
  · rw [e18] at h18; exact absurd h18 hn18
  · rcases hd with hd | rfl
    · exact .inl (h.ch j hj hd)
    · exact .inl (hc hj)
  · rw [e15] at h
    exact ⟨.inl (‹Inv8 _ _ _ _ _ _ _ _ _ _ _ _ _ _ _ _ _ _›.d15 h).1, .inl (‹Inv8 _ _ _ _ _ _ _ _ _ _ _ _ _ _ _ _ _ _›.d15 h).2⟩
  · rcases h17' with h17' | h17'
    · exact .inl (h.d17 h17')
    · exact .inl (h17 h17'.symm)
  · show val8 m lp id1 id2 n k reps rest a b c s0 lcells (D 15 ∨ 15 = i) j _
    rw [e15]
    rcases hd with hd | rfl
    · have : j ≠ i := fun e => hn (e ▸ hd)
      rw [St.put_g, if_neg (by omega)]
      exact h.sl hn18 j hj hd
    · rw [St.put_g, if_pos rfl]
      exact hv hn18
  · rw [St.put_m]; exact h.m0 fun h15' => h' (.inl h15')
  · rw [St.put_m]; rw [e15] at h'; exact h.m1 h' hn18
  · rw [e18] at h'; exact absurd h' hn18
theorem Inv8.n18 (h : Inv8 m slip lp id1 id2 n k reps rest a b c s0 an i0 lcells D s) (hi : i < 18) (hn : ¬ D i) : ¬ D 18 := fun h18 => hn (h.all h18 i hi)
theorem Inv8.n15 (h : Inv8 m slip lp id1 id2 n k reps rest a b c s0 an i0 lcells D s) (h2 : 2 ≤ i) (hi : i < 15) (hn : ¬ D i) : ¬ D 15 := fun h15 => by
  obtain ⟨h6, h14⟩ := h.d15 h15
  have b5 := h.ch 6 (by omega) h6
  have b4 := h.ch 5 (by omega) b5
  have b3 := h.ch 4 (by omega) b4
  have b2 := h.ch 3 (by omega) b3
  have c13 := h.ch 14 (by omega) h14
  have c12 := h.ch 13 (by omega) c13
  have c11 := h.ch 12 (by omega) c12
  have c10 := h.ch 11 (by omega) c11
  have c9 := h.ch 10 (by omega) c10
  have c8 := h.ch 9 (by omega) c9
  have c7 := h.ch 8 (by omega) c8
  have : i = 2 ∨ i = 3 ∨ i = 4 ∨ i = 5 ∨ i = 6 ∨ i = 7 ∨ i = 8 ∨ i = 9 ∨ i = 10 ∨ i = 11 ∨ i = 12 ∨ i = 13 ∨ i = 14 := by omega
  rcases this with rfl | rfl | rfl | rfl | rfl | rfl | rfl | rfl | rfl | rfl | rfl | rfl | rfl <;> exact hn (by assumption)
theorem Inv8.get (h : Inv8 m slip lp id1 id2 n k reps rest a b c s0 an i0 lcells D s) (h18 : ¬ D 18) (hi : i < 18) (hd : D i) : val8 m lp id1 id2 n k reps rest a b c s0 lcells (D 15) i (s.g (42 + i)) := h.sl h18 i hi hd
theorem plain_subL {p : PV} (h : p.plain = true) : ∀ E : List Eff, PV.sub E p = p
  | [] => rfl
  | e :: E => by rw [PV.sub, plain_sub1 e p h]; exact plain_subL h E
theorem eref_subL {o : Nat} {l : List PV} (h : plainC l = true) : ∀ E : List Eff, PV.sub E (.eref none o l) = .eref none o l
  | [] => rfl
  | e :: E => by rw [PV.sub]; simp only [PV.sub1, plainC_sub1 e l h]; exact eref_subL h E
theorem ptr_subL (i o : Nat) : ∀ E : List Eff, PV.sub E (.ptr i o) = .ptr i o
  | [] => rfl
  | e :: E => by rw [PV.sub]; simp only [PV.sub1]; exact ptr_subL i o E
theorem box_cellsL (l : List PV) : ∀ E : List Eff, (BoxC.cells l).sub E = .cells (l.map (PV.sub E))
  | [] => by show _ = BoxC.cells (l.map fun p => PV.sub [] p); simp
  | e :: E => by
    show BoxC.sub E ((BoxC.cells l).sub1 e) = _
    simp only [BoxC.sub1]
    rw [box_cellsL _ E, List.map_map]
    rfl
theorem kill8 (hne : id1 ≠ id2) (hp : plainC rest = true) : PV.sub [.kill id2] (lst8 id1 id2 n k reps rest a b) = kil8 id1 n k rest a b := by
  simp only [lst8, kil8, PV.sub, PV.sub1, hne, if_false, subL1, if_true, plainC_sub1 _ _ hp]
theorem wr8 (hp : plainC rest = true) : PV.sub (wrs id1 0 [.sl (some id2) 1 0 (k + 1) (reps ++ [iv s0])]) (kil8 id1 n k rest a b) = new8 id1 id2 n k reps rest a b s0 := by
  simp only [wrs, new8, kil8, PV.sub, PV.sub1, if_true, subL1, plainC_sub1 _ _ hp, setAt, Nat.le_refl, Nat.sub_self, List.set_cons_zero]
theorem Inv8.app (h : Inv8 m slip lp id1 id2 n k reps rest a b c s0 an i0 lcells D s) (hbd : ∀ i l, i < m.n → m.β i = .cells l → bdL m.n m.an l) (hne : id1 ≠ id2) (hid : m.an ≤ id2) (hps : plainC rest = true) (hpl : lp.plain = true) (hlc : plainC lcells = true) (hn : ¬ D 15) (h6 : D 6) (h14 : D 14) :
    Inv8 m slip lp id1 id2 n k reps rest a b c s0 an i0 lcells (fun j => D j ∨ j = 15) ((s.hit [.kill id2]).put (some 57) (.sl (some id2) 1 0 (k + 1) (reps ++ [iv s0]))) := by
  have hn18 : ¬ D 18 := fun h18 => hn (h.late 18 (by omega) h18)
  have hg : ∀ t, t ≠ 57 → ((s.hit [.kill id2]).put (some 57) (.sl (some id2) 1 0 (k + 1) (reps ++ [iv s0]))).g t = PV.sub [.kill id2] (s.g t) := fun t ht => by rw [St.put_g, if_neg ht, St.hit_g]
  refine ⟨by rw [hg _ (by omega), h.g3]; exact ptr_subL _ _ _, by rw [hg _ (by omega), h.g4]; exact ptr_subL _ _ _, by rw [hg _ (by omega), h.g5]; exact ptr_subL _ _ _, by rw [hg _ (by omega), h.g6]; exact plain_subL rfl _, ?_, h.a0, fun _ _ _ => .inr rfl, fun h18 => absurd (h18.resolve_right (by omega)) hn18, fun j hj hd => .inl (h.ch j hj (hd.resolve_right (by omega))), fun _ => ⟨.inl h6, .inl h14⟩, fun h17 => absurd (h.late 17 (by omega) (h17.resolve_right (by omega))) hn, fun _ j hj hd => ?_, fun h' => absurd (.inr rfl) h', fun _ _ => ?_, fun h18 => absurd (h18.resolve_right (by omega)) hn18⟩
  · rw [St.put_eff, St.hit_eff, h.e, h.a0, addEff_nil, dropNew_new _ _ _ (by simpa [Eff.id] using hid)]
    rfl
  · by_cases e15 : j = 15
    · subst e15
      rw [St.put_g, if_pos rfl]
      exact rfl
    · have hd := hd.resolve_right e15
      have hle : j < 15 := by
        refine Nat.lt_of_not_le fun hge => ?_
        exact hn (h.late j (by omega) hd)
      have hv := h.sl hn18 j hj hd
      rw [hg _ (by omega)]
      have mv : (D 15 ∨ 15 = 15) := .inr rfl
      have : j = 0 ∨ j = 1 ∨ j = 2 ∨ j = 3 ∨ j = 4 ∨ j = 5 ∨ j = 6 ∨ j = 7 ∨ j = 8 ∨ j = 9 ∨ j = 10 ∨ j = 11 ∨ j = 12 ∨ j = 13 ∨ j = 14 := by omega
      rcases this with rfl | rfl | rfl | rfl | rfl | rfl | rfl | rfl | rfl | rfl | rfl | rfl | rfl | rfl | rfl
      · simp only [val8] at hv ⊢; rw [hv]; exact ptr_subL _ _ _
      · exact ⟨fun h' => absurd mv h', fun _ => by rw [hv.1 hn]; exact kill8 hne hps⟩
      · simp only [val8] at hv ⊢; rw [hv]; exact ptr_subL _ _ _
      · exact fun h' => absurd mv h'
      · exact fun h' => absurd mv h'
      · exact fun h' => absurd mv h'
      · exact fun h' => absurd mv h'
      · simp only [val8] at hv ⊢; rw [hv]; exact ptr_subL _ _ _
      · simp only [val8] at hv ⊢; rw [hv]; exact plain_subL hpl _
      · simp only [val8] at hv ⊢; rw [hv]; exact eref_subL hlc _
      · simp only [val8] at hv ⊢; rw [hv]; exact eref_subL hlc _
      · simp only [val8] at hv ⊢; rw [hv]; exact plain_subL rfl _
      · simp only [val8] at hv ⊢; rw [hv]; exact eref_subL rfl _
      · simp only [val8] at hv ⊢; rw [hv]; exact plain_subL rfl _
      · simp only [val8] at hv ⊢; rw [hv]; exact plain_subL rfl _
  · have := (h.m0 hn).hit hbd (EE := [.kill id2]) (fun e he => by simp only [List.mem_singleton] at he; subst he; exact hid)
    simp only [List.map_cons, List.map_nil, box_inv, box_cellsL, kill8 hne hps, plain_subL hpl, plain_subL (p := iv slip) rfl] at this
    exact this
theorem Inv8.sto (h : Inv8 m slip lp id1 id2 n k reps rest a b c s0 an i0 lcells D s) (hbd : ∀ i l, i < m.n → m.β i = .cells l → bdL m.n m.an l) (hid : m.an ≤ id1) (hps : plainC rest = true) (hpl : lp.plain = true) (hn : ¬ D 18) (hall : ∀ j, j < 18 → D j) :
    Inv8 m slip lp id1 id2 n k reps rest a b c s0 an i0 lcells (fun j => D j ∨ j = 18) (s.hit (wrs id1 0 [.sl (some id2) 1 0 (k + 1) (reps ++ [iv s0])])) := by
  have h15 := hall 15 (by omega)
  refine ⟨by rw [St.hit_g, h.g3]; exact ptr_subL _ _ _, by rw [St.hit_g, h.g4]; exact ptr_subL _ _ _, by rw [St.hit_g, h.g5]; exact ptr_subL _ _ _, by rw [St.hit_g, h.g6]; exact plain_subL rfl _, ?_, h.a0, fun _ _ _ => .inl h15, fun _ j hj => .inl (hall j hj), fun j hj hd => .inl (hall _ (by omega)), fun _ => ⟨.inl (hall 6 (by omega)), .inl (hall 14 (by omega))⟩, fun _ => .inl (hall 16 (by omega)), fun h' => absurd (.inr rfl) h', fun h' => absurd (.inl h15) h', fun _ h' => absurd (.inr rfl) h', fun _ => ?_⟩
  · rw [St.hit_eff, h.e, h.a0, addEff_nil]
    exact dropNew_all fun e he => by rw [(mem_wrs he).1]; exact hid
  · have := (h.m1 h15 hn).hit hbd (EE := wrs id1 0 [.sl (some id2) 1 0 (k + 1) (reps ++ [iv s0])]) (fun e he => by rw [(mem_wrs he).1]; exact hid)
    simp only [List.map_cons, List.map_nil, box_inv, box_cellsL, wr8 hps, plain_subL hpl, plain_subL (p := iv slip) rfl] at this
    exact this
end
end Go.Proofs.Ytlminnpaeaganaa
namespace Go.Proofs.Ytlminnpaeaganaa
open Go Go.RowKit
set_option linter.unusedVariables false
set_option linter.unusedSimpArgs false
set_option maxRecDepth 100000
structure Alike (r r' : Rg) : Prop where
  s : ∀ i, stp r i = stp r' i
  n : r.lines = r'.lines
  w : r.width = r'.width
section
variable {r r' : Rg} (h : Alike r r') (slip : Int) (p : Pc)
include h
theorem Alike.ht (i : Nat) : ht r i = ht r' i := by
  induction i with
  | zero => rfl
  | succ i ih => simp only [Proofs.Ytlminnpaeaganaa.ht, ih, h.s]
theorem Alike.htl : htl r r.lines.toNat = htl r' r'.lines.toNat := by
  simp only [Proofs.Ytlminnpaeaganaa.htl, h.n]
  exact List.map_congr_left fun i _ => h.ht i
theorem Alike.sit (i : Nat) : sitB slip r p i = sitB slip r' p i := by
  simp only [sitB, gsB, upB, dnB, wdB, h.s, h.n, h.w]
theorem Alike.spt (t : Bool) (n : Nat) : spt slip r p t n = spt slip r' p t n := by
  induction n with
  | zero => rfl
  | succ n ih => simp only [Proofs.Ytlminnpaeaganaa.spt, ih, h.sit slip p]
theorem Alike.spots : spots slip r p = spots slip r' p := by
  simp only [Proofs.Ytlminnpaeaganaa.spots, h.n, h.spt slip]
theorem Alike.sitF (i : Nat) (fl : List Bool) : sitF slip r p i fl = sitF slip r' p i fl := by
  simp only [Proofs.Ytlminnpaeaganaa.sitF, gsF, upB, dnB, wdB, h.s, h.n, h.w]
theorem Alike.sptF (fl : List Bool) (t : Bool) (n : Nat) : sptF slip r p fl t n = sptF slip r' p fl t n := by
  induction n with
  | zero => rfl
  | succ n ih => simp only [Proofs.Ytlminnpaeaganaa.sptF, ih, h.sitF slip p]
theorem Alike.anyS : anyS slip r p = anyS slip r' p := by
  funext s
  have e : spotsF slip r p (flS p.g.length s) = spotsF slip r' p (flS p.g.length s) := by
    simp only [spotsF, h.n, h.sptF slip]
  unfold Proofs.Ytlminnpaeaganaa.anyS anyF
  rw [e]
end
theorem alike_cut {r : Rg} {c k : Nat} {s0 : Int} {sp sp' : PV} : Alike ⟨sp, [s0], r.lines, r.width⟩ ⟨sp', List.replicate (k + 1) s0, r.lines, r.width⟩ := by
  refine ⟨fun i => ?_, rfl, rfl⟩
  have h : i % (k + 1) < k + 1 := Nat.mod_lt _ (by omega)
  simp only [stp, List.length_cons, List.length_nil, Nat.zero_add, Nat.mod_one, List.length_replicate, List.getD_eq_getElem?_getD, List.getElem?_replicate, if_pos h]
  rfl
section
variable {P : Program} {ops : Array Oper} {o : Oper} {rest : List Oper} {s : St} {K : St → Prop}
theorem ops_yes {j d : Nat} {b : Bool} (hg : o.guard = some (j, b)) (hd : (ops[j]?).bind (·.dst) = some d) (hs : s.g d = .bool b) (h : opW P s { o with guard := none } fun s' => opsW P ops rest s' K) : opsW P ops (o :: rest) s K := by
  simp only [opsW, guardW, hg, hd, hs, if_true]
  refine ⟨s, Silent.refl s, ?_⟩
  obtain ⟨dst, op, type, pos, after, guard⟩ := o
  exact h
theorem ops_yesC {j d : Nat} {b : Bool} (v : PV) (hg : o.guard = some (j, b)) (hd : (ops[j]?).bind (·.dst) = some d) (hs : s.g d = .bool b) (hb : notBuild { o with guard := none } = true) (hv : pureV P s.m s.ev { o with guard := none } = some v) (h : opsW P ops rest (s.put o.dst v) K) : opsW P ops (o :: rest) s K := by
  have k := ops_cons (P := P) (ops := ops) (o := { o with guard := none }) (rest := rest) (s := s) (K := K) v rfl hb hv h
  simp only [opsW, guardW, hg, hd, hs, if_true] at k ⊢
  obtain ⟨dst, op, type, pos, after, guard⟩ := o
  exact k
theorem ops_no {j d : Nat} {b w : Bool} (hg : o.guard = some (j, w)) (hd : (ops[j]?).bind (·.dst) = some d) (hs : s.g d = .bool b) (hne : b ≠ w) (h : opsW P ops rest (s.put o.dst .undef) K) : opsW P ops (o :: rest) s K := by
  simp only [opsW, guardW, hg, hd, hs]
  rw [if_neg hne]
  exact h
theorem ops_callsY {j d0 : Nat} {b : Bool} {g : FuncId} {xs : Array Operand} {d : Tmp} {ats : Array TypeId} {dt : TypeId} {ps : String} {af : Array Edge} {vs : List PV} {Q : PV → List Eff → Mem → Prop} (hd : (ops[j]?).bind (·.dst) = some d0) (hs : s.g d0 = .bool b) (hf : ∃ fn, P.funcs[g]? = some fn ∧ fn.name ≠ "runtime.NumGoroutine" ∧ fn.body.isSome) (hx : xs.toList.map s.ev = vs) (hc : ECalls P g vs s.m Q)
    (h : ∀ v E m', Q v E m' → opsW P ops rest ((s.after E m').put (some d) v) K) : opsW P ops (⟨some d, .call ⟨.value (.func g), xs, ats⟩, dt, ps, af, some (j, b)⟩ :: rest) s K := by
  refine ops_yes rfl hd hs ⟨hf, ?_⟩
  show ECallsY P s.nowY g (xs.toList.map s.ev ++ []) s.m _
  rw [List.append_nil, hx]
  exact hc.y.mono h
end
def tl : Nat → Code → Code
  | n + 1, .seq _ y => tl n y
  | _, c => c
structure T11 (M0 : Mem) (bs : List BoxC) (gs : List (Nat × PV)) (s : St) : Prop where
  mm : ∃ an, M11 M0 (.inv DiceI :: bs) an s.m
  e : s.eff = []
  a : s.a0 = ⟨M0.an, M0.n, []⟩
  g : ∀ d v, (d, v) ∈ gs → s.g d = v
section
variable {M0 : Mem} {bs : List BoxC} {gs : List (Nat × PV)} {s : St}
theorem T11.put (h : T11 M0 bs gs s) {d : Nat} (hd : gs.all (fun p => p.1 != d) = true) (v : PV) : T11 M0 bs ((d, v) :: gs) (s.put (some d) v) :=
  ⟨by simpa using h.mm, by simpa using h.e, by simpa using h.a, fun d' v' hm => by
    rcases List.mem_cons.1 hm with hm | hm
    · cases hm; simp
    · have := List.all_eq_true.1 hd _ hm
      have hne : d' ≠ d := by simpa using this
      rw [St.put_g, if_neg hne]
      exact h.g d' v' hm⟩
theorem T11.put0 (h : T11 M0 bs gs s) {d : Nat} (hd : gs.all (fun p => p.1 != d) = true) (v : PV) : T11 M0 bs gs (s.put (some d) v) := by
  have := h.put hd v
  exact ⟨this.mm, this.e, this.a, fun d' v' hm => this.g d' v' (by simp [hm])⟩
theorem T11.after (h : T11 M0 bs gs s) : T11 M0 bs gs (s.after [] s.m) :=
  ⟨by simpa using h.mm, by simp [h.e, addEff], by simpa using h.a, fun d v hm => by simpa using h.g d v hm⟩
theorem T11.drop (h : T11 M0 bs gs s) : T11 M0 bs [] s := ⟨h.mm, h.e, h.a, fun d v hm => by cases hm⟩
theorem T11.putn (h : T11 M0 bs [] s) {d : Nat} {v : PV} : T11 M0 bs [] (s.put (some d) v) := h.put0 rfl v
theorem T11.box (h : T11 M0 bs gs s) {j : Nat} {c : List PV} (hj : bs[j]? = some (.cells c)) : s.m.β (M0.n + (j + 1)) = .cells c := by
  obtain ⟨an, hm⟩ := h.mm
  exact hm.bx (j + 1) _ (by simpa using hj)
theorem T11.dice (h : T11 M0 bs gs s) : s.m.β M0.n = .inv DiceI := by
  obtain ⟨an, hm⟩ := h.mm
  simpa using hm.bx 0 _ rfl
theorem lookup_mem {d : Nat} {v : PV} : ∀ {gs : List (Nat × PV)}, gs.lookup d = some v → (d, v) ∈ gs
  | [], h => by cases h
  | (a, b) :: gs, h => by
    rw [List.lookup_cons] at h
    split at h
    · rename_i e
      have : d = a := by simpa using e
      cases h; subst this; simp
    · exact List.mem_cons_of_mem _ (lookup_mem h)
theorem T11.look (h : T11 M0 bs gs s) (d : Nat) {v : PV} (hl : gs.lookup d = some v) : s.g d = v := h.g d v (lookup_mem hl)
theorem T11.n (h : T11 M0 bs gs s) : s.m.n = M0.n + (bs.length + 1) := by
  obtain ⟨an, hm⟩ := h.mm
  simpa using hm.n
end
end Go.Proofs.Ytlminnpaeaganaa
namespace Go.Proofs.Ytlminnpaeaganaa
open Go Go.RowKit
set_option linter.unusedVariables false
set_option linter.unusedSimpArgs false
set_option maxRecDepth 100000
theorem wr_tup {w : Option Nat} : ∃ y l e, wrV w = .tup [y, iv e] ∧ IL y l ∧ l.length < 4000 ∧ (e = 0 ∨ e = 11) ∧ y.plain = true := by
  cases w with
  | some s => exact ⟨G s, gapsL s, 0, rfl, G_il s, by have := gapsL_len s; omega, .inl rfl, (G_il s).plain.1⟩
  | none => exact ⟨.snil, [], 11, rfl, .inl ⟨rfl, rfl⟩, by simp, .inr rfl, rfl⟩
theorem tail11 {M0 : Mem} {slip : Int} {lpA lpB : PV} {rA rB : Rg} {lA lB : List Rg} (hA : Hand slip lpA (rA :: lA)) (hB : Hand slip lpB (rB :: lB)) (hs : Alike rA rB) {s : St} (h : T11 M0 [.cells [iv slip, lpA], .cells [iv slip, lpB]] [(3, .ptr M0.n 0), (4, .ptr (M0.n + 1) 0), (5, .ptr (M0.n + 2) 0)] s) :
    CodeSem Try.prog (tl 6 (Try.f11.body.getD .skip)) s fun e s' => (e = .normal ∨ e = .ret) ∧ ∃ pv, aRes Try.prog s' Try.f11.results.toList = some pv ∧ ∃ pv' m', leaves s' pv pv' M0 m' ∧ pv' = .bool true ∧ s'.eff = [] ∧ m' = M0 := by
  have pA : (PV.agg [iv slip, lpA]).plain = true := by simp [hA.plain]
  have pB : (PV.agg [iv slip, lpB]).plain = true := by simp [hB.plain]
  refine sem_seq (sem_region ?_)
  have h3 := h.look 3 rfl
  have h4 := h.look 4 rfl
  have hb1 := h.box (j := 0) rfl
  have hb0 := h.dice
  have hn := h.n
  simp only [List.length_cons, List.length_nil] at hn
  refine ops_cons (.ptr M0.n 0) rfl rfl (by simp [pureV, St.ev, h3]) ?_
  refine ops_cons (.agg [iv slip, lpA]) rfl rfl (by simp [pureV, St.ev, aLoad, aSrc, h4, hn, hb1, ag24, ce24, in24]) ?_
  refine ops_calls (vs := [.ptr M0.n 0, .agg [iv slip, lpA]]) ⟨Try.f20, by kernel_rfl, by decide, rfl⟩ (by simp [St.ev]) (ans_ev (args := [dv, .agg [iv slip, lpA]]) (ev20 14 hA) ⟨_, _, rfl, .inr ⟨rfl, M0.n, rfl, by simp [hn], by simpa using hb0⟩, _, _, rfl, .inl ⟨rfl, pA⟩, rfl⟩) ?_
  rintro v E M ⟨⟨p, rfl, hp⟩, hpp, rfl, rfl⟩
  obtain ⟨z, hz, hz5⟩ := ze27
  refine ops_op rfl ⟨z, hz, ?_⟩
  have h1 := (((h.put0 (d := 60) rfl (.ptr M0.n 0)).put0 (d := 61) rfl (.agg [iv slip, lpA])).after).put (d := 62) rfl (.agg p.cells)
  generalize (((s.put (some 60) (.ptr M0.n 0)).put (some 61) (.agg [iv slip, lpA])).after [] ((s.put (some 60) (.ptr M0.n 0)).put (some 61) (.agg [iv slip, lpA])).m).put (some 62) (.agg p.cells) = s1 at h1
  clear hb1 hb0 hn h3 h4 h
  obtain ⟨an, hm⟩ := h1.mm
  have hpush := hm.push z
  have hn := h1.n
  simp only [List.length_cons, List.length_nil] at hn
  refine ops_gen (T11 M0 [.cells [iv slip, lpA], .cells [iv slip, lpB], .cells z] ((7, .ptr (M0.n + 3) 0) :: (62, .agg p.cells) :: [(3, .ptr M0.n 0), (4, .ptr (M0.n + 1) 0), (5, .ptr (M0.n + 2) 0)])) ⟨⟨_, by simpa using hpush⟩, by simpa using h1.e, by simpa using h1.a, fun d v hdv => ?_⟩ ?_
  · rcases List.mem_cons.1 hdv with e | e
    · cases e; simp [hn]
    · have hne : d ≠ 7 := by
        rintro rfl
        simp at e
      have := h1.g d v e
      simpa [hne] using this
  clear hpush hm hn h1 s1 s
  intro s h
  have h7 := h.look 7 rfl
  have h62 := h.look 62 rfl
  have hb3 := h.box (j := 2) rfl
  have hn := h.n
  simp only [List.length_cons, List.length_nil] at hn
  obtain ⟨an, hm⟩ := h.mm
  have hset := hm.set (j := 3) (by simp) p.cells
  refine ops_op rfl ⟨rfl, ?_⟩
  simp only [St.ev, h7, h62, aStore]
  refine ⟨by rw [hn]; omega, in27, by rw [ce27]; simp [PV.cells, Pc.cells], by rcases hp.il with ⟨e, _⟩ | ⟨c, e⟩ <;> simp [PV.cells, Pc.cells, e, PV.one], z, hb3, by simp [hz5, PV.cells, Pc.cells], ?_⟩
  have hsp : splice z 0 p.cells = p.cells := by
    have : p.cells.length = 5 := by simp [Pc.cells]
    simp [splice, this, hz5]
  refine gen (T11 M0 [.cells [iv slip, lpA], .cells [iv slip, lpB], .cells p.cells] [(3, .ptr M0.n 0), (4, .ptr (M0.n + 1) 0), (5, .ptr (M0.n + 2) 0), (7, .ptr (M0.n + 3) 0)]) ⟨⟨_, by simpa [St.setBox, PV.cells, hsp] using hset⟩, by simp [h.e], by simp [h.a], fun d v hdv => ?_⟩ ?_
  · have := h.g d v (by simp at hdv ⊢; rcases hdv with e | e | e | e <;> simp [e])
    simpa using this
  clear hset hm hn hb3 h7 h62 h s
  intro s h
  have pP : (PV.agg p.cells).plain = true := by simpa using hpp
  refine sem_seq (sem_region ?_)
  have hL := h.look 4 rfl
  have h7 := h.look 7 rfl
  have hb1 := h.box (j := 0) rfl
  have hb3 := h.box (j := 2) rfl
  have hn := h.n
  simp only [List.length_cons, List.length_nil] at hn
  refine ops_cons (.agg [iv slip, lpA]) rfl rfl (by simp [pureV, St.ev, aLoad, aSrc, hL, hn, hb1, ag24, ce24, in24]) ?_
  refine ops_calls (vs := [.agg [iv slip, lpA], iv 0]) ⟨Try.f24, by kernel_rfl, by decide, rfl⟩ (by simp [St.ev, pvOf]) (ans_ev (args := [.agg [iv slip, lpA], iv 0]) (ev24 15 hA (n := 0) (by simp)) ⟨_, _, rfl, .inl ⟨rfl, pA⟩, _, _, rfl, .inl ⟨rfl, rfl⟩, rfl⟩) ?_
  rintro v E M ⟨⟨x8, rfl, hx8⟩, hpl, rfl, rfl⟩
  refine ops_cons (.tup [x8, iv 0]) rfl rfl (by simp [pureV, St.ev]) ?_
  refine ops_cons x8 rfl rfl (by simp [pureV, St.ev]) ?_
  refine ops_cons (iv 0) rfl rfl (by simp [pureV, St.ev]) ?_
  refine ops_cons x8 rfl rfl (by simp [pureV, St.ev]) ?_
  refine ops_cons (iv 0) rfl rfl (by simp [pureV, St.ev]) ?_
  refine gen (T11 M0 [.cells [iv slip, lpA], .cells [iv slip, lpB], .cells p.cells] ((9, iv 0) :: (8, x8) :: [(3, .ptr M0.n 0), (4, .ptr (M0.n + 1) 0), (5, .ptr (M0.n + 2) 0), (7, .ptr (M0.n + 3) 0)])) ((((((((h.put0 (d := 64) rfl _).after).put0 (d := 65) rfl _).put0 (d := 63) rfl _).put0 (d := 66) rfl _).put0 (d := 67) rfl _).put (d := 8) rfl _).put (d := 9) rfl _) ?_
  clear hL h7 hb1 hb3 hn h s
  intro s h
  refine sem_seq (sem_region ?_)
  have hL := h.look 5 rfl
  have h7 := h.look 7 rfl
  have hb1 := h.box (j := 1) rfl
  have hb3 := h.box (j := 2) rfl
  have hn := h.n
  simp only [List.length_cons, List.length_nil] at hn
  refine ops_cons (.agg [iv slip, lpB]) rfl rfl (by simp [pureV, St.ev, aLoad, aSrc, hL, hn, hb1, ag24, ce24, in24]) ?_
  refine ops_calls (vs := [.agg [iv slip, lpB], iv 0]) ⟨Try.f24, by kernel_rfl, by decide, rfl⟩ (by simp [St.ev, pvOf]) (ans_ev (args := [.agg [iv slip, lpB], iv 0]) (ev24 15 hB (n := 0) (by simp)) ⟨_, _, rfl, .inl ⟨rfl, pB⟩, _, _, rfl, .inl ⟨rfl, rfl⟩, rfl⟩) ?_
  rintro v E M ⟨⟨x10, rfl, hx10⟩, hpl, rfl, rfl⟩
  refine ops_cons (.tup [x10, iv 0]) rfl rfl (by simp [pureV, St.ev]) ?_
  refine ops_cons x10 rfl rfl (by simp [pureV, St.ev]) ?_
  refine ops_cons (iv 0) rfl rfl (by simp [pureV, St.ev]) ?_
  refine ops_cons x10 rfl rfl (by simp [pureV, St.ev]) ?_
  refine ops_cons (iv 0) rfl rfl (by simp [pureV, St.ev]) ?_
  refine gen (T11 M0 [.cells [iv slip, lpA], .cells [iv slip, lpB], .cells p.cells] ((11, iv 0) :: (10, x10) :: ((9, iv 0) :: (8, x8) :: [(3, .ptr M0.n 0), (4, .ptr (M0.n + 1) 0), (5, .ptr (M0.n + 2) 0), (7, .ptr (M0.n + 3) 0)]))) ((((((((h.put0 (d := 69) rfl _).after).put0 (d := 70) rfl _).put0 (d := 68) rfl _).put0 (d := 71) rfl _).put0 (d := 72) rfl _).put (d := 10) rfl _).put (d := 11) rfl _) ?_
  clear hL h7 hb1 hb3 hn h s
  intro s h
  refine sem_seq (sem_region ?_)
  have hL := h.look 4 rfl
  have h7 := h.look 7 rfl
  have hb1 := h.box (j := 0) rfl
  have hb3 := h.box (j := 2) rfl
  have hn := h.n
  simp only [List.length_cons, List.length_nil] at hn
  refine ops_cons (.agg [iv slip, lpA]) rfl rfl (by simp [pureV, St.ev, aLoad, aSrc, hL, hn, hb1, ag24, ce24, in24]) ?_
  refine ops_cons (.agg p.cells) rfl rfl (by simp [pureV, St.ev, aLoad, aSrc, h7, hn, hb3, ag27, ce27, in27, Pc.cells]) ?_
  refine ops_calls (vs := [.agg [iv slip, lpA], iv 0, .agg p.cells]) ⟨Try.f31, by kernel_rfl, by decide, rfl⟩ (by simp [St.ev, pvOf]) (ans_ev (args := [.agg [iv slip, lpA], iv 0, .agg p.cells]) (ev31 15 hA (n := 0) (by simp) hp) ⟨_, _, rfl, .inl ⟨rfl, pA⟩, _, _, rfl, .inl ⟨rfl, rfl⟩, _, _, rfl, .inl ⟨rfl, pP⟩, rfl⟩) ?_
  rintro v E M ⟨⟨x12, rfl, hx12⟩, hpl, rfl, rfl⟩
  refine ops_cons (.tup [x12, iv 0]) rfl rfl (by simp [pureV, St.ev]) ?_
  refine ops_cons x12 rfl rfl (by simp [pureV, St.ev]) ?_
  refine ops_cons (iv 0) rfl rfl (by simp [pureV, St.ev]) ?_
  refine ops_cons x12 rfl rfl (by simp [pureV, St.ev]) ?_
  refine ops_cons (iv 0) rfl rfl (by simp [pureV, St.ev]) ?_
  refine gen (T11 M0 [.cells [iv slip, lpA], .cells [iv slip, lpB], .cells p.cells] ((13, iv 0) :: (12, x12) :: ((11, iv 0) :: (10, x10) :: ((9, iv 0) :: (8, x8) :: [(3, .ptr M0.n 0), (4, .ptr (M0.n + 1) 0), (5, .ptr (M0.n + 2) 0), (7, .ptr (M0.n + 3) 0)])))) (((((((((h.put0 (d := 74) rfl _).put0 (d := 75) rfl _).after).put0 (d := 76) rfl _).put0 (d := 73) rfl _).put0 (d := 77) rfl _).put0 (d := 78) rfl _).put (d := 12) rfl _).put (d := 13) rfl _) ?_
  clear hL h7 hb1 hb3 hn h s
  intro s h
  refine sem_seq (sem_region ?_)
  have hL := h.look 5 rfl
  have h7 := h.look 7 rfl
  have hb1 := h.box (j := 1) rfl
  have hb3 := h.box (j := 2) rfl
  have hn := h.n
  simp only [List.length_cons, List.length_nil] at hn
  refine ops_cons (.agg [iv slip, lpB]) rfl rfl (by simp [pureV, St.ev, aLoad, aSrc, hL, hn, hb1, ag24, ce24, in24]) ?_
  refine ops_cons (.agg p.cells) rfl rfl (by simp [pureV, St.ev, aLoad, aSrc, h7, hn, hb3, ag27, ce27, in27, Pc.cells]) ?_
  refine ops_calls (vs := [.agg [iv slip, lpB], iv 0, .agg p.cells]) ⟨Try.f31, by kernel_rfl, by decide, rfl⟩ (by simp [St.ev, pvOf]) (ans_ev (args := [.agg [iv slip, lpB], iv 0, .agg p.cells]) (ev31 15 hB (n := 0) (by simp) hp) ⟨_, _, rfl, .inl ⟨rfl, pB⟩, _, _, rfl, .inl ⟨rfl, rfl⟩, _, _, rfl, .inl ⟨rfl, pP⟩, rfl⟩) ?_
  rintro v E M ⟨⟨x14, rfl, hx14⟩, hpl, rfl, rfl⟩
  refine ops_cons (.tup [x14, iv 0]) rfl rfl (by simp [pureV, St.ev]) ?_
  refine ops_cons x14 rfl rfl (by simp [pureV, St.ev]) ?_
  refine ops_cons (iv 0) rfl rfl (by simp [pureV, St.ev]) ?_
  refine ops_cons x14 rfl rfl (by simp [pureV, St.ev]) ?_
  refine ops_cons (iv 0) rfl rfl (by simp [pureV, St.ev]) ?_
  refine gen (T11 M0 [.cells [iv slip, lpA], .cells [iv slip, lpB], .cells p.cells] ((15, iv 0) :: (14, x14) :: ((13, iv 0) :: (12, x12) :: ((11, iv 0) :: (10, x10) :: ((9, iv 0) :: (8, x8) :: [(3, .ptr M0.n 0), (4, .ptr (M0.n + 1) 0), (5, .ptr (M0.n + 2) 0), (7, .ptr (M0.n + 3) 0)]))))) (((((((((h.put0 (d := 80) rfl _).put0 (d := 81) rfl _).after).put0 (d := 82) rfl _).put0 (d := 79) rfl _).put0 (d := 83) rfl _).put0 (d := 84) rfl _).put (d := 14) rfl _).put (d := 15) rfl _) ?_
  clear hL h7 hb1 hb3 hn h s
  intro s h
  obtain ⟨y, l, e, hw, hy, hyl, he, hyp⟩ := wr_tup (w := (allM p.g.length).find? (anyS slip rA p))
  have hw' : wrV ((allM p.g.length).find? (anyS slip rB p)) = .tup [y, iv e] := by rw [← hs.anyS slip p]; exact hw
  refine sem_seq (sem_region ?_)
  have hL := h.look 4 rfl
  have h7 := h.look 7 rfl
  have hb1 := h.box (j := 0) rfl
  have hb3 := h.box (j := 2) rfl
  have hn := h.n
  simp only [List.length_cons, List.length_nil] at hn
  refine ops_cons (.agg [iv slip, lpA]) rfl rfl (by simp [pureV, St.ev, aLoad, aSrc, hL, hn, hb1, ag24, ce24, in24]) ?_
  refine ops_cons (.agg p.cells) rfl rfl (by simp [pureV, St.ev, aLoad, aSrc, h7, hn, hb3, ag27, ce27, in27, Pc.cells]) ?_
  refine ops_calls (vs := [.agg [iv slip, lpA], iv 0, .agg p.cells]) ⟨Try.f48, by kernel_rfl, by decide, rfl⟩ (by simp [St.ev, pvOf]) (ans_ev (args := [.agg [iv slip, lpA], iv 0, .agg p.cells]) (ev48 13 hA (n := 0) (by simp) hp) ⟨_, _, rfl, .inl ⟨rfl, pA⟩, _, _, rfl, .inl ⟨rfl, rfl⟩, _, _, rfl, .inl ⟨rfl, pP⟩, rfl⟩) ?_
  rintro v E M ⟨hv, hpl, rfl, rfl⟩
  simp only [List.getD_cons_zero] at hv
  rw [hw] at hv
  subst hv
  refine ops_cons (.tup [y, iv e]) rfl rfl (by simp [pureV, St.ev]) ?_
  refine ops_cons y rfl rfl (by simp [pureV, St.ev]) ?_
  refine ops_cons (iv e) rfl rfl (by simp [pureV, St.ev]) ?_
  refine ops_cons y rfl rfl (by simp [pureV, St.ev]) ?_
  refine ops_cons (iv e) rfl rfl (by simp [pureV, St.ev]) ?_
  refine gen (T11 M0 [.cells [iv slip, lpA], .cells [iv slip, lpB], .cells p.cells] ((17, iv e) :: (16, y) :: ((15, iv 0) :: (14, x14) :: ((13, iv 0) :: (12, x12) :: ((11, iv 0) :: (10, x10) :: ((9, iv 0) :: (8, x8) :: [(3, .ptr M0.n 0), (4, .ptr (M0.n + 1) 0), (5, .ptr (M0.n + 2) 0), (7, .ptr (M0.n + 3) 0)])))))) (((((((((h.put0 (d := 86) rfl _).put0 (d := 87) rfl _).after).put0 (d := 88) rfl _).put0 (d := 85) rfl _).put0 (d := 89) rfl _).put0 (d := 90) rfl _).put (d := 16) rfl _).put (d := 17) rfl _) ?_
  clear hL h7 hb1 hb3 hn h s
  intro s h
  refine sem_seq (sem_region ?_)
  have hL := h.look 5 rfl
  have h7 := h.look 7 rfl
  have hb1 := h.box (j := 1) rfl
  have hb3 := h.box (j := 2) rfl
  have hn := h.n
  simp only [List.length_cons, List.length_nil] at hn
  refine ops_cons (.agg [iv slip, lpB]) rfl rfl (by simp [pureV, St.ev, aLoad, aSrc, hL, hn, hb1, ag24, ce24, in24]) ?_
  refine ops_cons (.agg p.cells) rfl rfl (by simp [pureV, St.ev, aLoad, aSrc, h7, hn, hb3, ag27, ce27, in27, Pc.cells]) ?_
  refine ops_calls (vs := [.agg [iv slip, lpB], iv 0, .agg p.cells]) ⟨Try.f48, by kernel_rfl, by decide, rfl⟩ (by simp [St.ev, pvOf]) (ans_ev (args := [.agg [iv slip, lpB], iv 0, .agg p.cells]) (ev48 13 hB (n := 0) (by simp) hp) ⟨_, _, rfl, .inl ⟨rfl, pB⟩, _, _, rfl, .inl ⟨rfl, rfl⟩, _, _, rfl, .inl ⟨rfl, pP⟩, rfl⟩) ?_
  rintro v E M ⟨hv, hpl, rfl, rfl⟩
  simp only [List.getD_cons_zero] at hv
  rw [hw'] at hv
  subst hv
  refine ops_cons (.tup [y, iv e]) rfl rfl (by simp [pureV, St.ev]) ?_
  refine ops_cons y rfl rfl (by simp [pureV, St.ev]) ?_
  refine ops_cons (iv e) rfl rfl (by simp [pureV, St.ev]) ?_
  refine ops_cons y rfl rfl (by simp [pureV, St.ev]) ?_
  refine ops_cons (iv e) rfl rfl (by simp [pureV, St.ev]) ?_
  refine gen (T11 M0 [.cells [iv slip, lpA], .cells [iv slip, lpB], .cells p.cells] ((19, iv e) :: (18, y) :: ((17, iv e) :: (16, y) :: ((15, iv 0) :: (14, x14) :: ((13, iv 0) :: (12, x12) :: ((11, iv 0) :: (10, x10) :: ((9, iv 0) :: (8, x8) :: [(3, .ptr M0.n 0), (4, .ptr (M0.n + 1) 0), (5, .ptr (M0.n + 2) 0), (7, .ptr (M0.n + 3) 0)]))))))) (((((((((h.put0 (d := 92) rfl _).put0 (d := 93) rfl _).after).put0 (d := 94) rfl _).put0 (d := 91) rfl _).put0 (d := 95) rfl _).put0 (d := 96) rfl _).put (d := 18) rfl _).put (d := 19) rfl _) ?_
  clear hL h7 hb1 hb3 hn h s
  intro s h
  simp only [List.getD_cons_zero] at hx8 hx10 hx12 hx14
  have g8 := h.look 8 rfl
  have g9 := h.look 9 rfl
  have g10 := h.look 10 rfl
  have g11 := h.look 11 rfl
  have g12 := h.look 12 rfl
  have g13 := h.look 13 rfl
  have g14 := h.look 14 rfl
  have g15 := h.look 15 rfl
  have g16 := h.look 16 rfl
  have g17 := h.look 17 rfl
  have g18 := h.look 18 rfl
  have g19 := h.look 19 rfl
  have rA0 := hA.ok rA (by simp)
  have rB0 := hB.ok rB (by simp)
  rw [← hs.htl] at hx10
  rw [← hs.spots slip p] at hx14
  have hl1 : (htl rA rA.lines.toNat).length < 4000 := by
    have := rA0.n2
    simp [htl]; omega
  have hl2 : (spots slip rA p).length < 4000 := by
    have := spots_len slip rA0 p
    omega
  refine sem_seq (sem_region ?_)
  rcases he with rfl | rfl
  · skip
    refine ops_cons (iv 0) rfl rfl (by simp [pureV, St.ev, pvOf, aBin, g9]) ?_
    refine ops_cons (.bool true) rfl rfl (by simp [pureV, St.ev, pvOf, aBin]) ?_
    refine ops_cons (.bool true) rfl rfl (by simp [pureV, St.ev, pvOf, aBin]) ?_
    refine ops_yesC (b := true) (iv 0) rfl rfl (by simp) rfl (by simp [pureV, St.ev, pvOf, aBin, g11]) ?_
    refine ops_yesC (b := true) (.bool true) rfl rfl (by simp) rfl (by simp [pureV, St.ev, pvOf, aBin]) ?_
    refine ops_cons (.bool true) rfl rfl (by simp [pureV, St.ev, pvOf, aBin]) ?_
    refine ops_cons (.bool true) rfl rfl (by simp [pureV, St.ev, pvOf, aBin]) ?_
    refine ops_yesC (b := true) (iv 0) rfl rfl (by simp) rfl (by simp [pureV, St.ev, pvOf, aBin, g13]) ?_
    refine ops_yesC (b := true) (.bool true) rfl rfl (by simp) rfl (by simp [pureV, St.ev, pvOf, aBin]) ?_
    refine ops_cons (.bool true) rfl rfl (by simp [pureV, St.ev, pvOf, aBin]) ?_
    refine ops_cons (.bool true) rfl rfl (by simp [pureV, St.ev, pvOf, aBin]) ?_
    refine ops_yesC (b := true) (iv 0) rfl rfl (by simp) rfl (by simp [pureV, St.ev, pvOf, aBin, g15]) ?_
    refine ops_yesC (b := true) (.bool true) rfl rfl (by simp) rfl (by simp [pureV, St.ev, pvOf, aBin]) ?_
    refine ops_cons (.bool true) rfl rfl (by simp [pureV, St.ev, pvOf, aBin]) ?_
    refine ops_cons (.bool true) rfl rfl (by simp [pureV, St.ev, pvOf, aBin]) ?_
    refine ops_yesC (b := true) (iv 0) rfl rfl (by simp) rfl (by simp [pureV, St.ev, pvOf, aBin, g17]) ?_
    refine ops_yesC (b := true) (iv 0) rfl rfl (by simp) rfl (by simp [pureV, St.ev, pvOf, aBin, g19]) ?_
    refine ops_yesC (b := true) (.bool true) rfl rfl (by simp) rfl (by simp [pureV, St.ev, pvOf, aBin]) ?_
    refine ops_cons (.bool true) rfl rfl (by simp [pureV, St.ev, pvOf, aBin]) ?_
    refine ops_cons (.bool true) rfl rfl (by simp [pureV, St.ev, pvOf, aBin]) ?_
    refine ops_yesC (b := true) (iv 0) rfl rfl (by simp) rfl (by simp [pureV, St.ev, pvOf, aBin, g17]) ?_
    refine ops_yesC (b := true) (.bool true) rfl rfl (by simp) rfl (by simp [pureV, St.ev, pvOf, aBin]) ?_
    refine ops_yesC (b := true) (.bool true) rfl rfl (by simp) rfl (by simp [pureV, St.ev, pvOf, aBin]) ?_
    refine ops_no (b := true) (w := false) rfl rfl (by simp) (by decide) ?_
    refine ops_no (b := true) (w := false) rfl rfl (by simp) (by decide) ?_
    refine ops_yesC (b := true) (.bool true) rfl rfl (by simp) rfl (by simp [pureV, St.ev, pvOf, aBin]) ?_
    refine ops_cons (.bool true) rfl rfl (by simp [pureV, St.ev, pvOf, aBin]) ?_
    refine ops_cons (.bool true) rfl rfl (by simp [pureV, St.ev, pvOf, aBin]) ?_
    refine ops_yesC (b := true) (x8) rfl rfl (by simp) rfl (by simp [pureV, St.ev, pvOf, aBin, g8]) ?_
    refine ops_yesC (b := true) (x10) rfl rfl (by simp) rfl (by simp [pureV, St.ev, pvOf, aBin, g10]) ?_
    refine ops_callsY (vs := [x8, x10]) rfl (by simp) ⟨Try.f30, by kernel_rfl, by decide, rfl⟩ (by simp [St.ev]) (ans_ev (args := [x8, x10]) (ev30 15 hx8 hx10 hl1) ⟨_, _, rfl, .inl ⟨rfl, hx8.plain.1⟩, _, _, rfl, .inl ⟨rfl, hx10.plain.1⟩, rfl⟩) ?_
    rintro v E M ⟨rfl, hpl, rfl, rfl⟩
    refine ops_cons (.bool true) rfl rfl (by simp [pureV, St.ev, pvOf, aBin]) ?_
    refine ops_cons (.bool true) rfl rfl (by simp [pureV, St.ev, pvOf, aBin]) ?_
    refine ops_yesC (b := true) (x12) rfl rfl (by simp) rfl (by simp [pureV, St.ev, pvOf, aBin, g12]) ?_
    refine ops_yesC (b := true) (x14) rfl rfl (by simp) rfl (by simp [pureV, St.ev, pvOf, aBin, g14]) ?_
    refine ops_callsY (vs := [x12, x14]) rfl (by simp) ⟨Try.f33, by kernel_rfl, by decide, rfl⟩ (by simp [St.ev]) (ans_ev (args := [x12, x14]) ((ev33 15 hx12 hx14 hl2)) ⟨_, _, rfl, .inl ⟨rfl, hx12.plain.1⟩, _, _, rfl, .inl ⟨rfl, hx14.plain.1⟩, rfl⟩) ?_
    rintro v E M ⟨rfl, hpl, rfl, rfl⟩
    refine ops_cons (.bool true) rfl rfl (by simp [pureV, St.ev, pvOf, aBin]) ?_
    refine ops_cons (.bool true) rfl rfl (by simp [pureV, St.ev, pvOf, aBin]) ?_
    refine ops_yesC (b := true) (y) rfl rfl (by simp) rfl (by simp [pureV, St.ev, pvOf, aBin, g16]) ?_
    refine ops_yesC (b := true) (y) rfl rfl (by simp) rfl (by simp [pureV, St.ev, pvOf, aBin, g18]) ?_
    refine ops_callsY (vs := [y, y]) rfl (by simp) ⟨Try.f30, by kernel_rfl, by decide, rfl⟩ (by simp [St.ev]) (ans_ev (args := [y, y]) (ev30 15 hy hy hyl) ⟨_, _, rfl, .inl ⟨rfl, hyp⟩, _, _, rfl, .inl ⟨rfl, hyp⟩, rfl⟩) ?_
    rintro v E M ⟨rfl, hpl, rfl, rfl⟩
    refine ops_cons (.bool true) rfl rfl (by simp [pureV, St.ev, pvOf, aBin]) ?_
    refine ops_cons (.bool true) rfl rfl (by simp [pureV, St.ev, pvOf, aBin]) ?_
    refine ops_callsY (vs := []) rfl (by simp) ⟨Try.f17, by kernel_rfl, by decide, rfl⟩ (by simp) (ans_ev (args := []) (Post := fun v => v = .bool true) (fun ω => ⟨_, lined19 ω, rfl⟩) rfl) ?_
    rintro v E M ⟨rfl, hpl, rfl, rfl⟩
    refine ops_cons (.bool true) rfl rfl (by simp [pureV, St.ev, pvOf, aBin]) ?_
    refine ops_cons (.bool true) rfl rfl (by simp [pureV, St.ev, pvOf, aBin]) ?_
    refine gen (fun s1 => s1.g 2 = .bool true ∧ T11 M0 [.cells [iv slip, lpA], .cells [iv slip, lpB], .cells p.cells] [] s1) ⟨by simp, ?_⟩ ?_
    · repeat (first | exact h.drop | refine T11.putn ?_ | refine T11.after ?_)
    rintro s1 ⟨k2, k⟩
    obtain ⟨an, km⟩ := k.mm
    refine sem_ret ⟨.inr rfl, .bool true, by simp [aRes, aResL, aRes1, Try.f11, k2], .bool true, M0, .inr ⟨k.e, Nat.le_refl _, Nat.le_refl _, by rw [k.n]; omega, km.rc.symm, by simp [PV.anon], fun i hi => .inl ⟨hi, rfl, km.old i hi⟩⟩, rfl, k.e, rfl⟩
  · skip
    refine ops_cons (iv 0) rfl rfl (by simp [pureV, St.ev, pvOf, aBin, g9]) ?_
    refine ops_cons (.bool true) rfl rfl (by simp [pureV, St.ev, pvOf, aBin]) ?_
    refine ops_cons (.bool true) rfl rfl (by simp [pureV, St.ev, pvOf, aBin]) ?_
    refine ops_yesC (b := true) (iv 0) rfl rfl (by simp) rfl (by simp [pureV, St.ev, pvOf, aBin, g11]) ?_
    refine ops_yesC (b := true) (.bool true) rfl rfl (by simp) rfl (by simp [pureV, St.ev, pvOf, aBin]) ?_
    refine ops_cons (.bool true) rfl rfl (by simp [pureV, St.ev, pvOf, aBin]) ?_
    refine ops_cons (.bool true) rfl rfl (by simp [pureV, St.ev, pvOf, aBin]) ?_
    refine ops_yesC (b := true) (iv 0) rfl rfl (by simp) rfl (by simp [pureV, St.ev, pvOf, aBin, g13]) ?_
    refine ops_yesC (b := true) (.bool true) rfl rfl (by simp) rfl (by simp [pureV, St.ev, pvOf, aBin]) ?_
    refine ops_cons (.bool true) rfl rfl (by simp [pureV, St.ev, pvOf, aBin]) ?_
    refine ops_cons (.bool true) rfl rfl (by simp [pureV, St.ev, pvOf, aBin]) ?_
    refine ops_yesC (b := true) (iv 0) rfl rfl (by simp) rfl (by simp [pureV, St.ev, pvOf, aBin, g15]) ?_
    refine ops_yesC (b := true) (.bool true) rfl rfl (by simp) rfl (by simp [pureV, St.ev, pvOf, aBin]) ?_
    refine ops_cons (.bool true) rfl rfl (by simp [pureV, St.ev, pvOf, aBin]) ?_
    refine ops_cons (.bool true) rfl rfl (by simp [pureV, St.ev, pvOf, aBin]) ?_
    refine ops_yesC (b := true) (iv 11) rfl rfl (by simp) rfl (by simp [pureV, St.ev, pvOf, aBin, g17]) ?_
    refine ops_yesC (b := true) (iv 11) rfl rfl (by simp) rfl (by simp [pureV, St.ev, pvOf, aBin, g19]) ?_
    refine ops_yesC (b := true) (.bool true) rfl rfl (by simp) rfl (by simp [pureV, St.ev, pvOf, aBin]) ?_
    refine ops_cons (.bool true) rfl rfl (by simp [pureV, St.ev, pvOf, aBin]) ?_
    refine ops_cons (.bool true) rfl rfl (by simp [pureV, St.ev, pvOf, aBin]) ?_
    refine ops_yesC (b := true) (iv 11) rfl rfl (by simp) rfl (by simp [pureV, St.ev, pvOf, aBin, g17]) ?_
    refine ops_yesC (b := true) (.bool false) rfl rfl (by simp) rfl (by simp [pureV, St.ev, pvOf, aBin]) ?_
    refine ops_yesC (b := true) (.bool false) rfl rfl (by simp) rfl (by simp [pureV, St.ev, pvOf, aBin]) ?_
    refine ops_yesC (b := false) (iv 11) rfl rfl (by simp) rfl (by simp [pureV, St.ev, pvOf, g17]) ?_
    refine ops_yesC (b := false) (.bool true) rfl rfl (by simp) rfl (by simp [pureV, St.ev, pvOf, aBin]) ?_
    refine ops_yesC (b := true) (.bool true) rfl rfl (by simp) rfl (by simp [pureV, St.ev, pvOf, aBin]) ?_
    refine ops_cons (.bool true) rfl rfl (by simp [pureV, St.ev, pvOf, aBin]) ?_
    refine ops_cons (.bool true) rfl rfl (by simp [pureV, St.ev, pvOf, aBin]) ?_
    refine ops_yesC (b := true) (x8) rfl rfl (by simp) rfl (by simp [pureV, St.ev, pvOf, aBin, g8]) ?_
    refine ops_yesC (b := true) (x10) rfl rfl (by simp) rfl (by simp [pureV, St.ev, pvOf, aBin, g10]) ?_
    refine ops_callsY (vs := [x8, x10]) rfl (by simp) ⟨Try.f30, by kernel_rfl, by decide, rfl⟩ (by simp [St.ev]) (ans_ev (args := [x8, x10]) (ev30 15 hx8 hx10 hl1) ⟨_, _, rfl, .inl ⟨rfl, hx8.plain.1⟩, _, _, rfl, .inl ⟨rfl, hx10.plain.1⟩, rfl⟩) ?_
    rintro v E M ⟨rfl, hpl, rfl, rfl⟩
    refine ops_cons (.bool true) rfl rfl (by simp [pureV, St.ev, pvOf, aBin]) ?_
    refine ops_cons (.bool true) rfl rfl (by simp [pureV, St.ev, pvOf, aBin]) ?_
    refine ops_yesC (b := true) (x12) rfl rfl (by simp) rfl (by simp [pureV, St.ev, pvOf, aBin, g12]) ?_
    refine ops_yesC (b := true) (x14) rfl rfl (by simp) rfl (by simp [pureV, St.ev, pvOf, aBin, g14]) ?_
    refine ops_callsY (vs := [x12, x14]) rfl (by simp) ⟨Try.f33, by kernel_rfl, by decide, rfl⟩ (by simp [St.ev]) (ans_ev (args := [x12, x14]) ((ev33 15 hx12 hx14 hl2)) ⟨_, _, rfl, .inl ⟨rfl, hx12.plain.1⟩, _, _, rfl, .inl ⟨rfl, hx14.plain.1⟩, rfl⟩) ?_
    rintro v E M ⟨rfl, hpl, rfl, rfl⟩
    refine ops_cons (.bool true) rfl rfl (by simp [pureV, St.ev, pvOf, aBin]) ?_
    refine ops_cons (.bool true) rfl rfl (by simp [pureV, St.ev, pvOf, aBin]) ?_
    refine ops_yesC (b := true) (y) rfl rfl (by simp) rfl (by simp [pureV, St.ev, pvOf, aBin, g16]) ?_
    refine ops_yesC (b := true) (y) rfl rfl (by simp) rfl (by simp [pureV, St.ev, pvOf, aBin, g18]) ?_
    refine ops_callsY (vs := [y, y]) rfl (by simp) ⟨Try.f30, by kernel_rfl, by decide, rfl⟩ (by simp [St.ev]) (ans_ev (args := [y, y]) (ev30 15 hy hy hyl) ⟨_, _, rfl, .inl ⟨rfl, hyp⟩, _, _, rfl, .inl ⟨rfl, hyp⟩, rfl⟩) ?_
    rintro v E M ⟨rfl, hpl, rfl, rfl⟩
    refine ops_cons (.bool true) rfl rfl (by simp [pureV, St.ev, pvOf, aBin]) ?_
    refine ops_cons (.bool true) rfl rfl (by simp [pureV, St.ev, pvOf, aBin]) ?_
    refine ops_callsY (vs := []) rfl (by simp) ⟨Try.f17, by kernel_rfl, by decide, rfl⟩ (by simp) (ans_ev (args := []) (Post := fun v => v = .bool true) (fun ω => ⟨_, lined19 ω, rfl⟩) rfl) ?_
    rintro v E M ⟨rfl, hpl, rfl, rfl⟩
    refine ops_cons (.bool true) rfl rfl (by simp [pureV, St.ev, pvOf, aBin]) ?_
    refine ops_cons (.bool true) rfl rfl (by simp [pureV, St.ev, pvOf, aBin]) ?_
    refine gen (fun s1 => s1.g 2 = .bool true ∧ T11 M0 [.cells [iv slip, lpA], .cells [iv slip, lpB], .cells p.cells] [] s1) ⟨by simp, ?_⟩ ?_
    · repeat (first | exact h.drop | refine T11.putn ?_ | refine T11.after ?_)
    rintro s1 ⟨k2, k⟩
    obtain ⟨an, km⟩ := k.mm
    refine sem_ret ⟨.inr rfl, .bool true, by simp [aRes, aResL, aRes1, Try.f11, k2], .bool true, M0, .inr ⟨k.e, Nat.le_refl _, Nat.le_refl _, by rw [k.n]; omega, km.rc.symm, by simp [PV.anon], fun i hi => .inl ⟨hi, rfl, km.old i hi⟩⟩, rfl, k.e, rfl⟩
end Go.Proofs.Ytlminnpaeaganaa
