/- What is read as data has a shape; a law out of its residual program. No condition. -/
import Derived.Test.YtlminnpaeaganaaMSymB
import Derived.Test.YtlminnpaeaganaaMAbsD
import Derived.ProofKit
import Derived.Below
import Derived.ChangeSame
import Derived.Carry
import Derived.WideKeyArgs
import Derived.Test.YtlminnpaeaganaaMTab
namespace Go.Proofs.Ytlminnpaeaganaa
open Go Go.RowKit Go.WideShapes Go.ChangeShapes
set_option linter.unusedVariables false
set_option linter.unusedSimpArgs false
def phi0 : Phi := ⟨fun _ => none, fun _ => none⟩
theorem own0 (b : Nat) : ¬ phi0.own b := by rintro (⟨i, h⟩ | ⟨i, h⟩) <;> cases h
def rowB (P : Program) : List Field → Nat → Nat → Bool
  | [], o, e => decide (o = e)
  | f :: fs, o, e => decide (f.offset = o) && rowB P fs (o + P.cellsOf f.type) e
def typeOk (P : Program) : Nat → TypeId → Bool
  | 0, _ => false
  | k + 1, t => match P.underlying t with
    | some .bool => true
    | some (.int _) => true
    | some .string => true
    | some (.slice e) => typeOk P k e && decide (0 < P.cellsOf e)
    | some (.struct fs) => fs.toList.all (fun f => typeOk P k f.type) && rowB P fs.toList 0 (P.cellsOf t)
    | _ => false
def ShC (P : Program) : Nat → TypeId → List PV → Prop
  | 0, _, _ => False
  | k + 1, t, cs => match P.underlying t with
    | some .bool => ∃ b, cs = [.bool b]
    | some (.int i) => ∃ n, cs = [.int i n] ∧ (Lit.int i n).wf = true
    | some .string => ∃ s, cs = [.str s]
    | some (.slice e) => cs = [.snil] ∨ ∃ (off : Nat) (ls : List (List PV)), cs = [.sl none (P.cellsOf e) off ls.length ls.flatten] ∧ ls.length ≤ maxLen ∧ ∀ l ∈ ls, ShC P k e l ∧ l.length = P.cellsOf e
    | some (.struct fs) => ∃ ls : List (List PV), cs = ls.flatten ∧ ls.length = fs.size ∧ ∀ (i : Nat) f l, fs[i]? = some f → ls[i]? = some l → ShC P k f.type l ∧ l.length = P.cellsOf f.type
    | _ => False
theorem flatten_len {ls : List (List PV)} {n : Nat} (h : ∀ l ∈ ls, l.length = n) : ls.flatten.length = ls.length * n := by
  induction ls with
  | nil => simp
  | cons l ls ih => rw [List.flatten_cons, List.length_append, ih (fun l' h' => h l' (by simp [h'])), h l (by simp), List.length_cons, Nat.add_mul]; omega
theorem mapM_get {α β : Type} {f : α → Option β} : ∀ {l : List α} {ys : List β}, l.mapM f = some ys → l.length = ys.length ∧ ∀ (i : Nat) a, l[i]? = some a → ∃ y, ys[i]? = some y ∧ f a = some y
  | [], ys, h => by simp at h; subst h; simp
  | a :: l, ys, h => by
    rw [List.mapM_cons] at h
    obtain ⟨y, hy, h⟩ := Option.bind_eq_some_iff.1 h
    obtain ⟨zs, hz, h⟩ := Option.bind_eq_some_iff.1 h
    simp only [Option.pure_def, Option.some.injEq] at h
    subst h
    obtain ⟨h1, h2⟩ := mapM_get hz
    refine ⟨by simp [h1], fun i b hb => ?_⟩
    cases i with
    | zero => simp at hb; subst hb; exact ⟨y, rfl, hy⟩
    | succ i => simpa using h2 i b (by simpa using hb)
section
variable {H : Type} {enc : TypeId × Value → H} {P : Program} {w : World} {spare : Nat → Bool} {held : Bool}
theorem cells_at {a : Addr} {n : Nat} {cs : List Value} (h : w.cells? 0 a n = some cs) (hn : 0 < n) : a.spot = none ∧ cs.length = n ∧ ∀ j c, cs[j]? = some c → w.cell? ⟨a.block, a.off + j, none⟩ = some c := by
  unfold World.cells? at h
  rw [if_pos (Nat.zero_le _)] at h
  obtain ⟨h1, h2⟩ := mapM_get h
  have hs : a.spot = none := by
    obtain ⟨y, _, hy⟩ := h2 0 0 (by simp [hn])
    simp only [Addr.add, if_true, World.cell?] at hy
    split at hy
    · split at hy
      · cases hy
      · rename_i hx; simpa using hx
    · cases hy
  refine ⟨hs, by simpa using h1.symm, fun j c hj => ?_⟩
  have hj' : j < n := by
    have := (List.getElem?_eq_some_iff.1 hj).1
    simp at h1; omega
  obtain ⟨y, hy1, hy2⟩ := h2 j j (by simp [hj'])
  rw [hj] at hy1
  injection hy1 with hy1
  subst hy1
  unfold Addr.add at hy2
  split at hy2
  · rename_i h0
    subst h0
    obtain ⟨b, o, s⟩ := a
    simp only at hs
    subst hs
    exact hy2
  · exact hy2
theorem vrelAt_app {b : Nat} : ∀ {l l' : List PV} {off : Nat}, VRelAt phi0 w b l off → VRelAt phi0 w b l' (off + l.length) → VRelAt phi0 w b (l ++ l') off
  | [], l', off, h, h' => by simpa using h'
  | p :: l, l', off, h, h' => by
    simp only [List.cons_append, VRelAt] at h ⊢
    exact ⟨h.1, vrelAt_app h.2 (by simpa [Nat.add_assoc, Nat.add_comm 1] using h')⟩
theorem vrelAt_flat {b c : Nat} : ∀ {ls : List (List PV)} {off : Nat}, (∀ (i : Nat) l, ls[i]? = some l → l.length = c ∧ VRelAt phi0 w b l (off + i * c)) → VRelAt phi0 w b ls.flatten off
  | [], off, h => by simp [VRelAt]
  | l :: ls, off, h => by
    rw [List.flatten_cons]
    obtain ⟨h1, h2⟩ := h 0 l rfl
    refine vrelAt_app (by simpa using h2) (vrelAt_flat (c := c) fun i l' hl' => ?_)
    obtain ⟨h3, h4⟩ := h (i + 1) l' (by simpa using hl')
    refine ⟨h3, ?_⟩
    rw [h1, show off + c + i * c = off + (i + 1) * c by rw [Nat.add_mul]; omega]
    exact h4
theorem pick {α : Type} {Q : Nat → α → Prop} : ∀ n, (∀ i, i < n → ∃ x, Q i x) → ∃ l : List α, l.length = n ∧ ∀ (i : Nat) x, l[i]? = some x → Q i x
  | 0, _ => ⟨[], rfl, fun i x h => by simp at h⟩
  | n + 1, h => by
    obtain ⟨l, h1, h2⟩ := pick n fun i hi => h i (by omega)
    obtain ⟨x, hx⟩ := h n (by omega)
    refine ⟨l ++ [x], by simp [h1], fun i y hy => ?_⟩
    rcases Nat.lt_or_ge i l.length with hl | hl
    · rw [List.getElem?_append_left hl] at hy; exact h2 i y hy
    · rw [List.getElem?_append_right hl] at hy
      have hi : i - l.length = 0 := by
        have := (List.getElem?_eq_some_iff.1 hy).1
        simp at this; omega
      rw [hi] at hy
      simp at hy
      subst hy
      rw [show i = n by omega]
      exact hx
theorem struct_rel {cs : List Value} : ∀ (fl : List Field) (ls : List (List PV)) (o e : Nat), rowB P fl o e = true → ls.length = fl.length → (∀ (i : Nat) f l, fl[i]? = some f → ls[i]? = some l → VRelL phi0 w l ((cs.drop f.offset).take (P.cellsOf f.type))) → e ≤ cs.length →
    o ≤ e ∧ VRelL phi0 w ls.flatten ((cs.drop o).take (e - o)) ∧ ∀ (i : Nat) f l, fl[i]? = some f → ls[i]? = some l → l.length = P.cellsOf f.type
  | [], [], o, e, h, _, _, _ => by
    simp only [rowB, decide_eq_true_eq] at h
    subst h
    exact ⟨Nat.le_refl _, by simp [VRelL], fun i f l h => by simp at h⟩
  | [], _ :: _, o, e, h, hl, _, _ => by simp at hl
  | _ :: _, [], o, e, h, hl, _, _ => by simp at hl
  | f :: fl, l :: ls, o, e, h, hl, hr, he => by
    simp only [rowB, Bool.and_eq_true, decide_eq_true_eq] at h
    obtain ⟨rfl, h⟩ := h
    obtain ⟨h1, h2, h3⟩ := struct_rel fl ls (f.offset + P.cellsOf f.type) e h (by simpa using hl) (fun i f' l' hf hl' => hr (i + 1) f' l' (by simpa using hf) (by simpa using hl')) he
    have h0 := hr 0 f l rfl rfl
    have hlen := vrelL_length h0
    rw [List.length_take, List.length_drop] at hlen
    refine ⟨by omega, ?_, fun i f' l' hf hl' => ?_⟩
    · rw [List.flatten_cons]
      have e1 : (cs.drop f.offset).take (e - f.offset) = (cs.drop f.offset).take (P.cellsOf f.type) ++ (cs.drop (f.offset + P.cellsOf f.type)).take (e - (f.offset + P.cellsOf f.type)) := by
        rw [show e - f.offset = P.cellsOf f.type + (e - (f.offset + P.cellsOf f.type)) by omega, List.take_add, List.drop_drop]
      rw [e1]
      exact vrelL_append h0 h2
    · cases i with
      | zero => simp at hf hl'; subst hf; subst hl'; omega
      | succ i => exact h3 i f' l' (by simpa using hf) (by simpa using hl')
theorem trod_rel : ∀ (fuel k : Nat) (t : TypeId) (cs : List Value) (x : DataW H × List MemPlace), DataW.trod enc P w 0 spare held fuel t cs = some x → typeOk P k t = true → ∃ pcs, VRelL phi0 w pcs cs ∧ ShC P k t pcs
  | 0, k, t, cs, x, h, _ => by simp [DataW.trod] at h
  | fuel + 1, 0, t, cs, x, h, hk => by simp [typeOk] at hk
  | fuel + 1, k + 1, t, cs, x, h, hk => by
    unfold typeOk at hk
    split at hk
    · rename_i hu
      obtain ⟨b, rfl, _⟩ := DataW.trod_bool hu h
      exact ⟨[.bool b], ⟨_, _, rfl, rfl, rfl⟩, by unfold ShC; rw [hu]; exact ⟨b, rfl⟩⟩
    · rename_i i hu
      obtain ⟨n, rfl, _, hw⟩ := DataW.trod_int hu h
      exact ⟨[.int i n], ⟨_, _, rfl, rfl, rfl⟩, by unfold ShC; rw [hu]; exact ⟨n, rfl, hw⟩⟩
    · rename_i hu
      obtain ⟨s, rfl, _⟩ := DataW.trod_string hu h
      exact ⟨[.str s], ⟨_, _, rfl, rfl, rfl⟩, by unfold ShC; rw [hu]; exact ⟨s, rfl⟩⟩
    · rename_i e hu
      simp only [Bool.and_eq_true, decide_eq_true_eq] at hk
      obtain ⟨hke, hpos⟩ := hk
      unfold ShC
      rw [hu]
      rcases DataW.trod_slice hu h with ⟨rfl, _⟩ | ⟨a, len, cap, elems, rest, n, hn, rfl, _, _, hlc, hcm, hel, hget, _⟩
      · exact ⟨[.snil], ⟨_, _, rfl, rfl, rfl⟩, .inl rfl⟩
      · have hn' : fuel = n := by omega
        subst hn'
        obtain ⟨ls, hl1, hl2⟩ := pick (Q := fun i l => ∃ csi, w.cells? 0 (a.add (i * P.cellsOf e)) (P.cellsOf e) = some csi ∧ VRelL phi0 w l csi ∧ ShC P k e l) len fun i hi => by
          have hg := hget i hi
          have : elems[i]? = some elems[i] := by simp
          rw [this] at hg
          obtain ⟨csi, hc1, hc2⟩ := Option.bind_eq_some_iff.1 hg
          obtain ⟨pcs, hp1, hp2⟩ := trod_rel fuel k e csi _ hc2 hke
          exact ⟨pcs, csi, hc1, hp1, hp2⟩
        have hlen : ∀ l ∈ ls, ShC P k e l ∧ l.length = P.cellsOf e := fun l hl => by
          obtain ⟨i, hi⟩ := List.mem_iff_getElem?.1 hl
          obtain ⟨csi, hc, hv, hs⟩ := hl2 i l hi
          exact ⟨hs, by rw [vrelL_length hv]; exact (cells_at hc hpos).2.1⟩
        refine ⟨[.sl none (P.cellsOf e) a.off ls.length ls.flatten], ⟨_, _, rfl, ?_, rfl⟩, .inr ⟨a.off, ls, rfl, by rw [hl1]; omega, hlen⟩⟩
        simp only [VRel]
        refine ⟨flatten_len fun l hl => (hlen l hl).2, some a, cap, by rw [hl1], by rw [hl1]; exact hlc, ?_⟩
        by_cases h0 : len = 0
        · exact .inl (by simpa [hl1] using h0)
        · have hi0 : ls[0]? = some (ls[0]'(by omega)) := by simp
          obtain ⟨csi, hc, hv, hs⟩ := hl2 0 _ hi0
          simp only [Nat.zero_mul, Addr.add, if_true] at hc
          obtain ⟨hspot, hcl, hcell⟩ := cells_at hc hpos
          have hadd : ∀ x, (a.add x).off = a.off + x ∧ (a.add x).block = a.block := fun x => by
            unfold Addr.add; split
            · rename_i h; subst h; exact ⟨rfl, rfl⟩
            · exact ⟨rfl, rfl⟩
          refine .inr ⟨a.block, by obtain ⟨b, o, s⟩ := a; simp only at hspot; subst hspot; rfl, ⟨own0 _, ?_⟩, vrelAt_flat (c := P.cellsOf e) fun i l hl => ?_⟩
          · have := hcell 0 (csi[0]'(by omega)) (by simp)
            unfold World.cell? at this
            split at this
            · rename_i hb; exact (Array.getElem?_eq_some_iff.1 hb).1
            · cases this
          · obtain ⟨csj, hc', hv', _⟩ := hl2 i l hl
            obtain ⟨_, hcl', hcell'⟩ := cells_at hc' hpos
            refine ⟨by rw [vrelL_length hv', hcl'], vrelAt_iff.2 fun j p hj => ?_⟩
            obtain ⟨v, h1, h2⟩ := vrelL_get hv' hj
            have := hcell' j v h1
            rw [(hadd _).1, (hadd _).2] at this
            exact ⟨v, this, h2⟩
    · rename_i fs hu
      simp only [Bool.and_eq_true, List.all_eq_true] at hk
      obtain ⟨hkf, hrow⟩ := hk
      unfold ShC
      rw [hu]
      obtain ⟨xs, n, hn, _, hcl, hxl, hget⟩ := DataW.trod_struct hu h
      have hn' : fuel = n := by omega
      subst hn'
      obtain ⟨ls, hl1, hl2⟩ := pick (Q := fun i l => ∀ f, fs[i]? = some f → VRelL phi0 w l ((cs.drop f.offset).take (P.cellsOf f.type)) ∧ ShC P k f.type l) fs.size fun i hi => by
        have hf : fs[i]? = some fs[i] := by simp
        have hg := hget i fs[i] hf
        have : xs[i]? = some (xs[i]'(by omega)) := by simp
        rw [this] at hg
        obtain ⟨pcs, hp1, hp2⟩ := trod_rel fuel k _ _ _ hg (hkf _ (by simp))
        exact ⟨pcs, fun f hf' => by rw [hf] at hf'; injection hf' with hf'; subst hf'; exact ⟨hp1, hp2⟩⟩
      obtain ⟨_, h2, h3⟩ := struct_rel fs.toList ls 0 (P.cellsOf t) hrow (by simpa using hl1) (fun i f l hf hl => (hl2 i l hl f (by simpa using hf)).1) (by omega)
      refine ⟨ls.flatten, ?_, ls, rfl, hl1, fun i f l hf hl => ⟨(hl2 i l hl f hf).2, h3 i f l (by simpa using hf) hl⟩⟩
      simpa [← hcl] using h2
    · cases hk
def ShV (P : Program) (k : Nat) (t : TypeId) (q : PV) : Prop := match aggT P t with
  | some true => ∃ cs, q = .agg cs ∧ ShC P k t cs
  | _ => ∃ q', q = q' ∧ ShC P k t [q']
def ShL (P : Program) (k : Nat) : List TypeId → List PV → Prop
  | [], [] => True
  | t :: ts, q :: qs => ShV P k t q ∧ ShL P k ts qs
  | _, _ => False
theorem single {pcs : List PV} {v : Value} (hc : v.cells = #[v]) (h : VRelL phi0 w pcs v.cells.toList) : ∃ q, pcs = [q] ∧ VRel phi0 w q v := by
  rw [hc] at h
  have hl := vrelL_length h
  match pcs, h with
  | [q], h =>
    obtain ⟨v', vs', e, h3, _⟩ := h
    injection e with e1 e2
    subst e1
    exact ⟨q, rfl, h3⟩
  | [], _ => simp at hl
  | _ :: _ :: _, _ => simp at hl
theorem arg_rel {k : Nat} {t : TypeId} {v : Value} {d : DataW H} {ps : List MemPlace} {r : Reach} {b0 : Nat} (h : DataW.Trod enc P w 0 spare held t v d ps) (hv : Value.okWide P w r b0 t v) (hk : typeOk P k t = true) : ∃ q, VRel phi0 w q v ∧ ShV P k t q := by
  obtain ⟨fuel, hf⟩ := h
  obtain ⟨pcs, h1, h2⟩ := trod_rel fuel k t _ _ hf hk
  cases k with
  | zero => simp [typeOk] at hk
  | succ k =>
    unfold typeOk at hk
    have flat : ∀ {d}, P.underlying t = some d → (∀ fs, d ≠ .struct fs) → (∀ n e, d ≠ .array n e) → v.cells = #[v] → ∃ q, VRel phi0 w q v ∧ ShV P (k + 1) t q := fun {d} hu hns hna hc => by
      obtain ⟨q, rfl, hq⟩ := single hc h1
      refine ⟨q, hq, ?_⟩
      unfold ShV aggT
      rw [hu]
      cases d <;> first | exact ⟨q, rfl, h2⟩ | exact absurd rfl (hns _) | exact absurd rfl (hna _ _)
    split at hk
    · rename_i hu
      obtain ⟨b, rfl⟩ := okWide_bool hu hv
      exact flat hu (fun _ => by simp) (fun _ _ => by simp) rfl
    · rename_i i hu
      obtain ⟨n, rfl⟩ := okWide_int hu hv
      exact flat hu (fun _ => by simp) (fun _ _ => by simp) rfl
    · rename_i hu
      obtain ⟨s, rfl⟩ := okWide_string hu hv
      exact flat hu (fun _ => by simp) (fun _ _ => by simp) rfl
    · rename_i e hu
      obtain ⟨a, len, cap, rfl⟩ := okWide_slice hu hv
      exact flat hu (fun _ => by simp) (fun _ _ => by simp) rfl
    · rename_i fs hu
      obtain ⟨cs, rfl, _⟩ := okWide_struct hu hv
      refine ⟨.agg pcs, ?_, ?_⟩
      · simp only [VRel]
        exact ⟨cs.toList, by simp, h1⟩
      · unfold ShV aggT
        rw [hu]
        exact ⟨pcs, rfl, h2⟩
    · cases hk
theorem args_rel {k : Nat} {r : Reach} {b0 : Nat} : ∀ {ts : List TypeId} {vs : List Value} {ds : List (DataW H)} {ps : List MemPlace}, DataW.TrodAll enc P w 0 spare held ts vs ds ps → (∀ (j : Nat) t v, ts[j]? = some t → vs[j]? = some v → Value.okWide P w r b0 t v) → ts.all (typeOk P k) = true →
    ∃ qs, VRelL phi0 w qs vs ∧ ShL P k ts qs
  | [], [], [], _, _, _, _ => ⟨[], rfl, trivial⟩
  | t :: ts, v :: vs, d :: ds, ps, h, hv, hk => by
    obtain ⟨p, q, h1, h2, _⟩ := h
    simp only [List.all_cons, Bool.and_eq_true] at hk
    obtain ⟨x, hx1, hx2⟩ := arg_rel h1 (hv 0 t v rfl rfl) hk.1
    obtain ⟨qs, hq1, hq2⟩ := args_rel h2 (fun j t v ht hv' => hv (j + 1) t v (by simpa using ht) (by simpa using hv')) hk.2
    exact ⟨x :: qs, ⟨v, vs, rfl, hx1, hq1⟩, hx2, hq2⟩
  | [], [], _ :: _, _, h, _, _ => h.elim
  | [], _ :: _, _, _, h, _, _ => h.elim
  | _ :: _, [], _, _, h, _, _ => h.elim
  | _ :: _, _ :: _, [], _, h, _, _ => h.elim
end
theorem shC_plain {P : Program} : ∀ (k : Nat) (t : TypeId) (cs : List PV), ShC P k t cs → plainC cs = true
  | 0, t, cs, h => by simp [ShC] at h
  | k + 1, t, cs, h => by
    unfold ShC at h
    split at h
    · obtain ⟨b, rfl⟩ := h; rfl
    · obtain ⟨n, rfl, _⟩ := h; rfl
    · obtain ⟨s, rfl⟩ := h; rfl
    · rename_i e hu
      rcases h with rfl | ⟨off, ls, rfl, _, hl⟩
      · rfl
      · have : plainC ls.flatten = true := by
          refine (plainC_iff _).2 fun q hq => ?_
          obtain ⟨l, hl1, hl2⟩ := List.mem_flatten.1 hq
          exact (plainC_iff l).1 (shC_plain k e l (hl l hl1).1) q hl2
        simp [plainC, PV.plain, PV.one, this]
    · rename_i fs hu
      obtain ⟨ls, rfl, hlen, hl⟩ := h
      refine (plainC_iff _).2 fun q hq => ?_
      obtain ⟨l, hl1, hl2⟩ := List.mem_flatten.1 hq
      obtain ⟨i, hi⟩ := List.mem_iff_getElem?.1 hl1
      have hif : i < fs.size := by rw [← hlen]; exact (List.getElem?_eq_some_iff.1 hi).1
      exact (plainC_iff l).1 (shC_plain k _ l (hl i fs[i] l (by simp) hi).1) q hl2
    · exact h.elim
def loopsOf (w : World) : List (Nat × Loop) := (List.range w.heap.size).filterMap fun l => match w.heap[l]? with
  | some (Obj.loop o) => some (l, o)
  | _ => none
theorem calls_of_plain {P : Program} {f : FuncId} {qs : List PV} {vs : List Value} {w : World} {R : PV → Prop} (h : ∀ m, ECalls P f qs m fun v E m' => R v ∧ E = [] ∧ m' = m) (hv : VRelL phi0 w qs vs) :
    Calls P f vs.toArray w fun e w' => ∃ v pv φ', e = .returned v ∧ VRel φ' w' pv v ∧ R pv ∧ Below w.heap.size w w' := by
  have hm : MRel phi0 ⟨fun _ => .hole, 0, 0, loopsOf w⟩ w := by
    refine ⟨fun i hi => absurd hi (Nat.not_lt_zero i), fun _ _ => rfl, fun i b h => (by cases h), fun i j b h => (by cases h), fun i j b h => (by cases h), fun i j b h => (by cases h), fun l o hl => ?_⟩
    unfold loopsOf at hl
    obtain ⟨l', h1, h2⟩ := List.mem_filterMap.1 hl
    split at h2
    · rename_i o' ho'
      injection h2 with h2
      injection h2 with h3 h4
      subst h3; subst h4
      exact ho'
    · cases h2
  refine (h _ phi0 vs w hm hv).mono ?_
  rintro e w' ⟨v, pv, E, m', φ', rfl, h1, h2, h3, h4, rfl, rfl⟩
  refine ⟨v, pv, φ', rfl, h1, h4, h3.os, h3.tape, h3.output, h3.size, fun k hk => ?_⟩
  by_cases hl : ∃ o, w.heap[k]? = some (.loop o)
  · obtain ⟨o, ho⟩ := hl
    rw [ho]
    refine h2.rcs k o ?_
    unfold loopsOf
    refine List.mem_filterMap.2 ⟨k, by simpa using hk, by simp [ho]⟩
  · exact (h3.rest k hk (own0 k) (fun o ho => hl ⟨o, ho⟩)).1
end Go.Proofs.Ytlminnpaeaganaa
namespace Go.Proofs.Ytlminnpaeaganaa
open Go Go.RowKit Go.WideShapes Go.ChangeShapes
set_option linter.unusedVariables false
set_option linter.unusedSimpArgs false
section
variable {H : Type} {enc : TypeId × Value → H} {P : Program}
theorem post_of_below {f : Func} {s : ChangeSpec} {apart fresh handsOn again : Bool} {W W' : World} {args : Array Value} {v : Value} {ds gs : List (DataW H)} {before pa pv : List MemPlace}
    (hW : DataW.Whole enc P f.params.toList s.vars apart W args.toList ds gs before)
    (hres : ∀ (b : Nat) (sp : Nat → Bool) (hd : Bool), DataW.TrodAll enc P W' b sp hd f.resultTypes.toList (v.resultList f.resultTypes.size) (s.fn H (ds ++ gs)).results [])
    (hargs : ∀ sp : Nat → Bool, (∀ p ∈ before, sp p.block = true) → DataW.TrodAll enc P W' 0 sp true f.params.toList args.toList (s.fn H (ds ++ gs)).args pa)
    (hvars : ∀ sp : Nat → Bool, (∀ p ∈ before, sp p.block = true) → DataW.TrodVars enc P W' sp s.vars (s.fn H (ds ++ gs)).vars pv)
    (hps : before = pa ++ pv) (hb : Below W.heap.size W W')
    (hok : ∀ (j : Nat) (t : TypeId) (r : Value), f.resultTypes[j]? = some t → (v.resultList f.resultTypes.size)[j]? = some r → Value.okWide P W' .any 0 t r) :
    s.post enc P f apart fresh handsOn again W args v W' := by
  have hlt : ∀ p ∈ before, p.block < W.heap.size := fun p hp => hW.lt p hp
  have hold : ∀ p ∈ before, (fun b => decide (b < W.heap.size)) p.block = true := fun p hp => by simpa using hlt p hp
  refine ⟨ds, gs, before, [], pa, pv, hW, hres _ _ _, hargs _ hold, hvars _ hold, World.keptBut_mono (fun p hp => ⟨hp, ?_⟩) (hb.frame (· ∈ before)), fun _ => ?_⟩
  · rw [hps, List.mem_append] at hp
    exact Or.inr hp
  · obtain ⟨_, _, _, _, _, hz, hn⟩ := hW
    refine ⟨hok, _, _, ([] ++ pa) ++ pv, ⟨[] ++ pa, pv, trodAll_append (hargs _ (fun _ _ => rfl)) (hres _ _ _), hvars _ (fun _ _ => rfl), rfl, ?_, ?_⟩, ?_⟩
    · intro b off hp
      have hin : MemPlace.cell b off ∈ before := by rw [hps]; simpa using hp
      rw [hb.frozen (hlt _ hin)]
      exact hz b off hin
    · intro ha
      have := hn ha
      rw [hps] at this
      simpa using this
    · intro p hp _
      rw [hps]
      simpa using hp
theorem trodAll_stays (hl : laidOutB P = true) {W W' : World} (hb : Below W.heap.size W W') {sp : Nat → Bool} : ∀ {ts : List TypeId} {vs : List Value} {ds : List (DataW H)} {ps : List MemPlace}, DataW.TrodAll enc P W 0 (fun _ => true) true ts vs ds ps → (∀ t ∈ ts, P.readableRec t = true ∧ t < P.types.size) →
    (∀ p ∈ ps, p.block < W.heap.size) → (∀ p ∈ ps, sp p.block = true) → DataW.TrodAll enc P W' 0 sp true ts vs ds ps
  | [], [], [], _, h, _, _, _ => h
  | t :: ts, v :: vs, d :: ds, ps, h, hr, hlt, hs => by
    obtain ⟨p, q, h1, h2, rfl⟩ := h
    exact ⟨p, q, WideElems.Trod_stays hl (hr t (by simp)).1 (hr t (by simp)).2 h1 (fun x hx => hb.same (hlt x (by simp [hx]))) (fun x hx => hs x (by simp [hx])),
      trodAll_stays hl hb h2 (fun t ht => hr t (by simp [ht])) (fun x hx => hlt x (by simp [hx])) (fun x hx => hs x (by simp [hx])), rfl⟩
  | [], [], _ :: _, _, h, _, _, _ => h.elim
  | [], _ :: _, _, _, h, _, _, _ => h.elim
  | _ :: _, [], _, _, h, _, _, _ => h.elim
  | _ :: _, _ :: _, [], _, h, _, _, _ => h.elim
theorem law_contract {f : FuncId} {fn : Func} {s : ChangeSpec} {k : Nat} {bt : TypeId} {apart fresh handsOn again : Bool} (hl : laidOutB P = true) (hv : s.vars = []) (hrt : fn.resultTypes = #[bt]) (hbt : P.underlying bt = some .bool) (hk : fn.params.toList.all (typeOk P k) = true) (hrd : ∀ t ∈ fn.params.toList, P.readableRec t = true ∧ t < P.types.size)
    (hs : ∀ ds : List (DataW H), ds.length = fn.params.size → s.fn H (ds ++ []) = { results := [.lit (.bool true)], args := ds })
    (hH : ∀ qs, ShL P k fn.params.toList qs → ∀ m, ECalls P f qs m fun v E m' => v = .bool true ∧ E = [] ∧ m' = m)
    {W : World} {base : Nat} {args : Array Value} {ds gs : List (DataW H)} {before : List MemPlace} (hval : ∀ (j : Nat) t v, fn.params[j]? = some t → args[j]? = some v → Value.okWide P W .any base t v)
    (hW : DataW.Whole enc P fn.params.toList s.vars apart W args.toList ds gs before) : Calls P f args W fun e W' => ∃ v, e = .returned v ∧ s.post enc P fn apart fresh handsOn again W args v W' := by
  have hW' := hW
  obtain ⟨p, q, hA, hV, rfl, hfz, hnd⟩ := hW
  rw [hv] at hV
  obtain ⟨rfl, rfl⟩ := trodVars_none hV
  obtain ⟨qs, h1, h2⟩ := args_rel (k := k) hA (fun j t v ht hv => hval j t v (by simpa using ht) (by simpa using hv)) hk
  have hlen : ds.length = fn.params.size := by
    have : ∀ {ts : List TypeId} {vs : List Value} {ds : List (DataW H)} {ps : List MemPlace}, DataW.TrodAll enc P W 0 (fun _ => true) true ts vs ds ps → ds.length = ts.length := by
      intro ts
      induction ts with
      | nil => intro vs ds ps h; cases vs <;> cases ds <;> simp_all [DataW.TrodAll]
      | cons t ts ih => intro vs ds ps h; cases vs <;> cases ds <;> simp only [DataW.TrodAll] at h; obtain ⟨p, q, _, h2, _⟩ := h; simp [ih h2]
    simpa using this hA
  have hc := calls_of_plain (R := fun v => v = .bool true) (f := f) (fun m => hH qs h2 m) h1
  refine hc.mono fun e W' ⟨v, pv, φ', he, hr, hp, hb⟩ => ?_
  subst he; subst hp
  have hvb : v = .bool true := hr
  subst hvb
  have hsp := hs ds hlen
  refine ⟨_, rfl, post_of_below (pa := p) (pv := []) hW' (fun b sp hd => ?_) (fun sp hsp' => ?_) (fun sp _ => ?_) rfl hb (ok_one hrt rfl (okWide_bool_mk hbt true))⟩
  · rw [hrt, hsp]
    exact trodAll_mk1 (shut_bool hbt true)
  · rw [hsp]
    exact trodAll_stays hl hb hA hrd (fun x hx => hW'.lt x (by simpa using hx)) (fun x hx => hsp' x (by simpa using hx))
  · rw [hv, hsp]
    rfl
end
end Go.Proofs.Ytlminnpaeaganaa
namespace Go.Proofs.Ytlminnpaeaganaa
open Go Go.RowKit Go.WideShapes Go.ChangeShapes
set_option maxRecDepth 100000
theorem argL_self {DI : List PV → Prop} {m : Mem} : ∀ {qs : List PV}, (∀ q ∈ qs, q.plain = true) → ArgL DI m qs qs
  | [], _ => rfl
  | q :: qs, h => ⟨q, qs, rfl, .inl ⟨rfl, h q (by simp)⟩, argL_self fun x hx => h x (by simp [hx])⟩
theorem own : ownKnob Try.prog.godebug = none := by kernel_rfl
theorem laidOut : laidOutB Try.prog = true := by kernel_rfl
end Go.Proofs.Ytlminnpaeaganaa
