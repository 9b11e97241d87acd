/- Symbolic execution: residual programs. No condition. -/
import Derived.Test.YtlminnpaeaganaaMSymD
namespace Go.Proofs.Ytlminnpaeaganaa
open Go Go.RowKit
set_option linter.unusedVariables false
set_option linter.unusedSimpArgs false
theorem splice_cons (l : List PV) (off : Nat) (v : PV) (vs : List PV) (h : off + (v :: vs).length ≤ l.length) : splice (l.set off v) (off + 1) vs = splice l off (v :: vs) := by
  simp only [List.length_cons] at h
  unfold splice
  have h1 : (l.set off v).take (off + 1) = l.take off ++ [v] := by
    rw [List.take_succ_eq_append_getElem (by simp; omega)]
    simp
    rw [List.take_set_of_le (Nat.le_refl _)]
  rw [h1, List.drop_set_of_lt (by omega)]
  simp only [List.append_assoc, List.cons_append, List.nil_append, List.length_cons]
  rw [show off + 1 + vs.length = off + (vs.length + 1) by omega]
theorem sub_wrs (id sz len : Nat) : ∀ (vs : List PV) (off : Nat) (cs : List PV), plainC cs = true → plainC vs = true → off + vs.length ≤ cs.length → PV.sub (wrs id off vs) (.sl (some id) sz 0 len cs) = .sl (some id) sz 0 len (splice cs off vs)
  | [], off, cs, _, _, h => by
    simp only [wrs, PV.sub, splice, List.append_nil, List.length_nil, Nat.add_zero, List.take_append_drop]
  | v :: vs, off, cs, hc, hv, h => by
    simp only [plainC, Bool.and_eq_true] at hv
    simp only [List.length_cons] at h
    simp only [wrs, PV.sub, PV.sub1, if_true, plainC_sub1 _ cs hc, setAt, Nat.zero_le, Nat.sub_zero]
    have hc' : plainC (cs.set off v) = true := (plainC_iff _).2 fun p hp => by
      rcases List.mem_or_eq_of_mem_set hp with h' | rfl
      · exact (plainC_iff _).1 hc p h'
      · exact ⟨hv.1.1, hv.1.2⟩
    rw [sub_wrs id sz len vs (off + 1) _ hc' hv.2 (by simp; omega), splice_cons cs off v vs (by simpa using h)]
theorem splice_length {l vs : List PV} {off : Nat} (h : off + vs.length ≤ l.length) : (splice l off vs).length = l.length := by
  unfold splice; simp; omega
theorem plainC_splice {l vs : List PV} {off : Nat} (h : plainC l = true) (hv : plainC vs = true) : plainC (splice l off vs) = true := plainC_append (plainC_append (plainC_take h _) hv) (plainC_drop h _)
theorem mem_wrs {id : Nat} {e : Eff} : ∀ {vs : List PV} {off : Nat}, e ∈ wrs id off vs → e.id = id ∧ ∃ v ∈ vs, ∃ p, e = .wr id p v
  | [], _, h => by cases h
  | v :: vs, off, h => by
    simp only [wrs, List.mem_cons] at h
    rcases h with rfl | h
    · exact ⟨rfl, v, by simp, off, rfl⟩
    · obtain ⟨h1, u, h2, p, h3⟩ := mem_wrs h
      exact ⟨h1, u, by simp [h2], p, h3⟩
section
variable {X : Ctx} {F : Frm} {C : Orc → FuncId → List PV → Option PV} {n : Nat} {R : Out → Prop} {S : Sym} {ρ : List PV} {ids : Nat → Option Nat} {s : St} {K : Sym → M} {t : Tree} {o : Oper} {m0 : Mem} {inl yl : Inl} {lx : Option Nat} {key : Nat} {E : Env}
theorem store_box' {ty : TypeId} {x y : Operand} {i off : Nat} (hx : S.ev x = .ptr i off) (h : cellsK X ty (S.ev y) S (fun c S => match S.bx[i]? with
    | some (BX.cells l) => if c.length = X.P.cellsOf ty ∧ c.all SV.solid = true ∧ off + c.length ≤ l.length ∧ (lx.all fun b => decide (off = 0) && decide (b ≤ i) && decide (l.length = c.length)) then K (S.setBox i (spliceS l off c)) else die "x"
    | _ => die "x") = .ok t) (hr : Rel F S ρ ids s) (hrun : Run X.P C n t ρ R) :
    s.ev x = .ptr (F.n0 + i) off ∧ i < S.bx.length ∧ (s.ev y).cells.length = X.P.cellsOf ty ∧ (s.ev y).cells.all PV.one = true ∧ ∃ l, s.m.β (F.n0 + i) = .cells l ∧ off + (s.ev y).cells.length ≤ l.length ∧ (∀ b, lx = some b → off = 0 ∧ b ≤ i ∧ l.length = (s.ev y).cells.length) ∧ Stp X F C n R K S ρ (s.setBox (F.n0 + i) (splice l off (s.ev y).cells)) := by
  have hxv := hr.ev x
  rw [hx] at hxv
  unfold RV at hxv
  obtain ⟨c, S1, ρ1, t1, h1, h2, h3, h4, h5, h6, h7⟩ := cellsK_ok h hr (hr.ev y) hrun
  dsimp only at h1
  split at h1
  · rename_i l hb
    split at h1
    · rename_i hcnd
      obtain ⟨c1, c2, c3, c4⟩ := hcnd
      obtain ⟨l', g1, g2⟩ := h2.box i _ hb
      have hlc := rvl_length h6
      have hll := rvl_length g2
      refine ⟨hxv.1, hxv.2, by rw [← hlc, c1], solid_one h6 c2, l', g1, by rw [← hlc, ← hll]; exact c3, fun b hbl => ?_, ?_⟩
      · subst hbl
        simp only [Option.all_some, Bool.and_eq_true, decide_eq_true_eq] at c4
        exact ⟨c4.1.1, c4.1.2, by rw [← hll, ← hlc]; exact c4.2⟩
      · exact ⟨_, _, ids, t1, h1, h2.setBox hb (rvl_splice g2 h6 off), h3, h4.trans ⟨List.prefix_refl _, rfl, rfl, rfl, rfl, rfl, by simp [Sym.setBox], rfl⟩⟩
    · cases h1
  · cases h1
theorem seq_store {ty : TypeId} {x y : Operand} (hop : o.op = .store ty x y) (h : compStore X none o ty x y S K = .ok t) (hr : Rel F S ρ ids s) (hrun : Run X.P C n t ρ R) : SeqOk X F C n R K S ρ s o := by
  unfold compStore at h
  split at h
  · cases h
  · rename_i hd
    have hdst : o.dst = none := by cases hh : o.dst <;> simp [hh] at hd ⊢
    have hin : (X.P.info? ty).isSome := by cases hh : X.P.info? ty <;> simp [hh] at hd ⊢
    split at h
    · rename_i i off hx
      obtain ⟨e1, e2, e3, e4, l, e5, e6, _, e7⟩ := store_box' (lx := none) hx h hr hrun
      refine ⟨s, Silent.refl s, ?_⟩
      simp only [opW, hop]
      refine ⟨hdst, ?_⟩
      rw [e1]
      simp only [aStore]
      exact ⟨by rw [hr.boxn]; omega, hin, e3, e4, l, e5, e6, e7⟩
    · rename_i k0 e0 fo0 hx0
      split at h
      · cases h
      · rename_i hcn
        have hpos : X.P.cellsOf ty ≠ 0 := by simpa using hcn
        refine seq_frz h hr hrun fun S ρ ids s t h hr hrun => ?_
        obtain ⟨c, S1, ρ1, t1, h1, h2, h3, h4, h5, h6, h7⟩ := cellsK_ok h hr (hr.ev y) hrun
        dsimp only at h1
        split at h1
        · rename_i k e fo hx
          have hxv := h2.ev x
          rw [hx] at hxv
          unfold RV at hxv
          obtain ⟨a, cs, id, nn, kk, q1, q2, q3, q4, q5, q6, q7, q8⟩ := hxv
          split at h1
          · rename_i a' ps ha' hps
            have : a' = a := by have := ha'.symm.trans q1; injection this
            subst this
            split at h1
            · cases h1
            · rename_i hcc
              have hc1 : c.length = X.P.cellsOf ty ∧ fo + c.length ≤ a'.sz := by
                simp only [ne_eq, not_or, Classical.not_not] at hcc
                exact ⟨hcc.1, by omega⟩
              have hlst : a'.born.lst = true := by
                simp only [ne_eq, not_or, Classical.not_not] at hcc
                simpa using hcc.2.2
              obtain ⟨t2, ht, rfl⟩ := emit_ok h1
              obtain ⟨v, hv, hrun2⟩ := h3.prim
              obtain ⟨hpd, hpp⟩ := peL_den hps h6
              have hlc := rvl_length h6
              have hden : a'.c.den ρ1 = .agg cs := q2.2.1
              have hde : e.den ρ1 = .int kk nn := q4
              simp only [Prim.run, putV, hden, hde] at hv
              rw [show denL ρ1 ps = (s.ev y).cells from hpd.symm] at hv
              split at hv
              · rename_i hbd
                injection hv with hv
                subst hv
                have hpl := plainC_splice (off := nn.toNat * a'.sz + fo) q2.plain hpp
                have hlen : (splice cs (nn.toNat * a'.sz + fo) (s.ev y).cells).length = cs.length := splice_length hbd
                have hb := h2.bind (.agg (splice cs (nn.toNat * a'.sz + fo) (s.ev y).cells)) false (by simp)
                obtain ⟨g1, g2⟩ := var_ok h2 (.agg (splice cs (nn.toNat * a'.sz + fo) (s.ev y).cells)) (by simpa only [PV.plain] using hpl)
                have q2' := AR.rel.mono (Env.le_bind S1 ρ1 ids (.agg (splice cs (nn.toNat * a'.sz + fo) (s.ev y).cells)) false) q1 q2
                have hnil := q2.2.2.2.2.1
                rw [q3] at hnil
                have hne : splice cs (nn.toNat * a'.sz + fo) (s.ev y).cells ≠ [] := fun e' => by
                  have := congrArg List.length e'
                  rw [hlen] at this
                  simp only [List.length_nil] at this
                  rw [this] at q7
                  simp at q7
                have hn' : isNil (ρ1 ++ [.agg (splice cs (nn.toNat * a'.sz + fo) (s.ev y).cells)]) a'.born (splice cs (nn.toNat * a'.sz + fo) (s.ev y).cells) = some false := by
                  rw [isNil_bind (ρ := ρ1) q2.2.2.2.2.2]
                  have hcs : cs ≠ [] := fun e' => by rw [e'] at q7; simp at q7
                  cases hbn : a'.born with
                  | real => rfl
                  | nil0 =>
                    cases hsp : splice cs (nn.toNat * a'.sz + fo) (s.ev y).cells with
                    | nil => exact absurd hsp hne
                    | cons _ _ => rfl
                  | dyn z =>
                    rw [hbn] at hnil
                    simp only [isNil, Sym.env] at hnil ⊢
                    cases hz : z.den ρ1 with
                    | bool b =>
                      rw [hz] at hnil
                      cases b
                      · rfl
                      · cases cs with
                        | nil => exact absurd rfl hcs
                        | cons _ _ => simp at hnil
                    | _ => rw [hz] at hnil; simp at hnil
                  | map => rfl
                  | it => rfl
                obtain ⟨r1, r2⟩ := hb.hit (k := k) (id := id) (c' := .var S1.nv) (all := false) (EE := wrs id (nn.toNat * a'.sz + fo) (s.ev y).cells) q1 q2' q3 (fun e he => by
                    obtain ⟨m1, u, m2, p, rfl⟩ := mem_wrs he
                    exact ⟨rfl, fun n an => plain_bd n an u ((plainC_iff _).1 hpp u m2).1⟩) g1 g2 (by rw [hlen]; exact q2.2.2.2.1) hn' (fun _ => by rw [ownV_lst hlst, ownV_lst hlst]; simp only; rw [hlen]; exact sub_wrs id a'.sz _ _ _ cs q2.plain hpp hbd)
                refine ⟨s, Silent.refl s, ?_⟩
                simp only [opW, hop]
                refine ⟨hdst, ?_⟩
                rw [q8]
                simp only [aStore]
                refine ⟨hin, Nat.pos_of_ne_zero hpos, by rw [← hlc]; exact hc1.1, plainC_one hpp, by rw [List.length_drop]; omega, plainC_noId hpp id, ?_⟩
                exact ⟨_, _, ids, t2, ht, r1, hrun2, h4.trans ((Ext.bind S1 ρ1 _ false).trans (ext_set k false _))⟩
              · cases hv
          · cases h1
        · cases h1
    · injection h with h
      subst h
      exact (run_die hrun).elim
    · cases h
theorem rvl_pe {c : List SV} {c' : List PV} {ps : List PE} (h : RVL F E c c') (hp : peL c = some ps) : c' = denL E.ρ ps ∧ plainC c' = true := peL_den hp h
theorem seq_buildSlice {ty : TypeId} {len : Nat} {parts : Array (Nat × Operand)} (hop : o.op = .buildSlice ty len parts) (h : compBuildSlice X none key o ty len parts S K = .ok t) (hr : Rel F S ρ ids s) (hrun : Run X.P C n t ρ R) : SeqOk X F C n R K S ρ s o := by
  unfold compBuildSlice at h
  split at h
  · rename_i e hu
    split at h
    · rename_i z hz
      split at h
      · rename_i hcnd
        obtain ⟨c1, c2, c3, c4, c5⟩ := hcnd
        refine seq_thaw h hr hrun fun S ρ ids s t h hr hrun => ?_
        obtain ⟨cs, S1, ρ1, t1, h1, h2, h3, h4, h5, h6⟩ := parts_ok hr parts (fun _ => e) h hrun
        split at h1
        · rename_i l hl
          obtain ⟨l', g1, g2⟩ := fillS_ok h6 (rvl_repl (rvl_cst c1) len) hl
          have hlen : l'.length = len * X.P.cellsOf e := by rw [aFill_length g1, repl_length, c3]
          split at h1
          · rename_i ps hps
            obtain ⟨hpd, hpp⟩ := rvl_pe g2 hps
            refine ⟨s, Silent.refl s, ?_⟩
            simp only [opW, hop, hu, Option.elim_some, hz]
            refine ⟨c2, c3, c4, c5, l', g1, ?_⟩
            split at h1
            · simp only [Option.isSome_none, Bool.false_eq_true, if_false] at h1
              obtain ⟨t2, ht, rfl⟩ := emit_ok h1
              obtain ⟨v, hv, hrun2⟩ := h3.prim
              simp only [Prim.run, Option.some.injEq] at hv
              have hv' : v = .agg l' := by rw [← hv]; congr 1; exact hpd.symm
              subst hv'
              have hb := h2.bind (.agg l') false (by simp)
              obtain ⟨v1, v2⟩ := var_ok h2 (.agg l') (by simpa only [PV.plain] using hpp)
              exact .inl (stp_mono (h4.trans (Ext.bind S1 ρ1 _ false)) (stp_newArr (a := ⟨X.P.cellsOf e, .real, .var S1.nv⟩) hb v1 v2 (by rw [← c3]; exact c4) hlen rfl (fun y e => by cases e) ht hrun2))
            · refine .inr ⟨_, ρ1, ids, t1, h1, h2.put o.dst ?_, h3, h4.put _ _⟩
              unfold RV
              exact ⟨l', rfl, g2, hpp, hlen⟩
          · cases h1
        · cases h1
      · cases h
    · cases h
  · cases h
theorem lex_buildSlice {b : Nat} {ty : TypeId} {len : Nat} {parts : Array (Nat × Operand)} (hop : o.op = .buildSlice ty len parts) (h : compBuildSlice X (some b) key o ty len parts S K = .ok t) (hr : Rel F S ρ ids s) (hrun : Run X.P C n t ρ R) : PureOk X F C n R K S ρ s m0 o := by
  unfold compBuildSlice at h
  split at h
  · rename_i e hu
    split at h
    · rename_i z hz
      split at h
      · rename_i hcnd
        obtain ⟨c1, c2, c3, c4, c5⟩ := hcnd
        unfold thaw at h
        split at h
        · obtain ⟨cs, S1, ρ1, t1, h1, h2, h3, h4, h5, h6⟩ := parts_ok hr parts (fun _ => e) h hrun
          split at h1
          · rename_i l hl
            obtain ⟨l', g1, g2⟩ := fillS_ok h6 (rvl_repl (rvl_cst c1) len) hl
            have hlen : l'.length = len * X.P.cellsOf e := by rw [aFill_length g1, repl_length, c3]
            split at h1
            · rename_i ps hps
              obtain ⟨hpd, hpp⟩ := rvl_pe g2 hps
              split at h1
              · simp only [Option.isSome_some, if_true] at h1
                cases h1
              · refine ⟨.sl none (X.P.cellsOf e) 0 len l', ?_, _, ρ1, ids, t1, h1, h2.put o.dst ?_, h3, h4.put _ _⟩
                · simp only [pureV, hop, hu, hz]
                  rw [if_pos ⟨c2, c3, c4, c5⟩, g1]
                  rfl
                · unfold RV
                  exact ⟨l', rfl, g2, hpp, hlen⟩
            · cases h1
          · cases h1
        · simp only [Option.isSome_some, if_true] at h
          cases h
      · cases h
    · cases h
  · cases h
end
end Go.Proofs.Ytlminnpaeaganaa
namespace Go.Proofs.Ytlminnpaeaganaa
open Go Go.RowKit
set_option linter.unusedVariables false
set_option linter.unusedSimpArgs false
def AnsR (P : Program) (f : FuncId) (args : List PV) (m : Mem) (R : PV → Prop) : Prop := ECalls P f args m fun v E m' => R v ∧ v.plain = true ∧ E = [] ∧ m' = m
def ArgR (DI : List PV → Prop) (m : Mem) (p q : PV) : Prop := (q = p ∧ p.plain = true) ∨ (p = .ptr 0 0 ∧ ∃ i, q = .ptr i 0 ∧ i < m.n ∧ m.β i = .inv DI)
def ArgL (DI : List PV → Prop) (m : Mem) : List PV → List PV → Prop
  | [], l => l = []
  | p :: ps, l => ∃ q l', l = q :: l' ∧ ArgR DI m p q ∧ ArgL DI m ps l'
structure CSound (P : Program) (DI : List PV → Prop) (C : Orc → FuncId → List PV → Option PV) : Prop where
  ans : ∀ g args, (∀ ω, (C ω g args).isSome) → ∀ args' m, ArgL DI m args args' → AnsR P g args' m fun v => ∃ ω, C ω g args = some v
  plain : ∀ ω g args v, C ω g args = some v → v.plain = true
  fn : ∀ ω g args v, C ω g args = some v → ∃ fn, P.funcs[g]? = some fn ∧ fn.name ≠ "runtime.NumGoroutine" ∧ fn.body.isSome
def DiceNew (P : Program) (DI : List PV → Prop) (g : FuncId) : Prop := ∀ x m, intsB x = true → ECalls P g [x] m fun v E m' => v = .ptr m.n 0 ∧ E = [] ∧ m' = ⟨updB m.β m.n (.inv DI), m.n + 1, m.an, m.rc⟩
def SortOk (P : Program) (f : FuncId) : Prop := ∀ cs m, cs.all intB = true → cs.length < 1099511627776 →
  (∀ id, ECalls P f [.sl (some id) 1 0 cs.length cs] m fun v E m' => v = .undef ∧ E = wrs id 0 (sortP cs) ∧ m' = { m with β := fun i => (m.β i).sub (wrs id 0 (sortP cs)) }) ∧
  ECalls P f [.snil] m fun v E m' => v = .undef ∧ E = [] ∧ m' = m
def CompOk (P : Program) (f : FuncId) : Prop := ∀ cs m, cs.all intB = true → cs.length < 1099511627776 →
  (∀ id, ECalls P f [.sl (some id) 1 0 cs.length cs] m fun v E m' => v = .sl none 1 0 (compP cs).length (compP cs) ∧ E = [.kill id] ∧ m' = { m with β := fun i => (m.β i).sub [.kill id] }) ∧
  ECalls P f [.snil] m fun v E m' => v = .snil ∧ E = [] ∧ m' = m
structure NewOk (P : Program) (DI : List PV → Prop) (g : LibF) : Prop where
  new : DiceNew P DI g.new
  srt : ∀ f, g.srt = some f → SortOk P f
  cpt : ∀ f, g.cpt = some f → CompOk P f
def detok : PV → PV
  | .ptr _ _ => .ptr 0 0
  | p => p
theorem detok_plain {p : PV} (h : p.plain = true) : detok p = p := by
  cases p <;> first | rfl | simp [PV.plain] at h
theorem argL_detok {DI : List PV → Prop} {m : Mem} : ∀ {ps qs : List PV}, ArgL DI m ps qs → qs.map detok = ps
  | [], qs, h => by simp only [ArgL] at h; subst h; rfl
  | p :: ps, qs, h => by
    obtain ⟨q, l', rfl, h1, h2⟩ := h
    simp only [List.map_cons, argL_detok h2]
    congr 1
    rcases h1 with ⟨rfl, hp⟩ | ⟨rfl, i, rfl, _⟩
    · exact detok_plain hp
    · rfl
section
variable {X : Ctx} {F : Frm} {C : Orc → FuncId → List PV → Option PV} {n : Nat} {R : Out → Prop} {S : Sym} {ρ : List PV} {ids : Nat → Option Nat} {s : St} {K : Sym → M} {t : Tree} {o : Oper} {m0 : Mem} {inl yl : Inl} {lx : Option Nat} {key : Nat} {E : Env}
def RVA (F : Frm) (E : Env) : List SV → List PV → Prop
  | [], l => l = []
  | v :: vs, l => ∃ q l', l = q :: l' ∧ RV F E v q ∧ RVA F E vs l'
theorem rva_append : ∀ {a : List SV} {a' : List PV} {b : List SV} {b' : List PV}, RVA F E a a' → RVA F E b b' → RVA F E (a ++ b) (a' ++ b')
  | [], a', b, b', h, k => by simp only [RVA] at h; subst h; simpa using k
  | v :: a, a', b, b', h, k => by
    obtain ⟨q, r, rfl, h1, h3⟩ := h
    exact ⟨q, r ++ b', rfl, h1, rva_append h3 k⟩
theorem rva_evs (hr : Rel F S ρ ids s) : ∀ (l : List Operand), RVA F (S.env ρ ids) (l.map S.ev) (l.map s.ev)
  | [] => rfl
  | x :: l => ⟨_, _, rfl, hr.ev x, rva_evs hr l⟩
theorem rva_of_rvl : ∀ {a : List SV} {a' : List PV}, RVL F E a a' → RVA F E a a'
  | [], a', h => by simp only [RVL] at h; exact h
  | v :: a, a', h => by
    simp only [RVL] at h
    obtain ⟨q, r, rfl, h1, _, h3⟩ := h
    exact ⟨q, r, rfl, h1, rva_of_rvl h3⟩
theorem litArgs_ok (hr : Rel F S ρ ids s) (hn : NearX F lx m0 s) {m : Mem} (hm : Near m0 m) : ∀ {l : List SV} {l' : List PV} {ps : List PE}, litArgs lx S l = some ps → RVA F (S.env ρ ids) l l' → ArgL F.DI m (denL ρ ps) l'
  | [], l', ps, h, hv => by
    simp only [litArgs, Option.some.injEq] at h
    subst h
    exact hv
  | v :: l, l', ps, h, hv => by
    obtain ⟨q, r, rfl, h1, h2⟩ := hv
    have hold : ∀ i, i < F.n0 → F.β0 i = .inv F.DI → i < m.n ∧ m.β i = .inv F.DI := fun i hi hb => by
      have hi0 : i < m0.n := by
        cases lx with
        | none => simp only [NearX] at hn; subst hn; rw [hr.boxn]; omega
        | some b => rw [hn.1]; omega
      refine ⟨Nat.lt_of_lt_of_le hi0 hm.1, ?_⟩
      have hs : s.m.β i = .inv F.DI := by rw [hr.old i hi]; exact hb
      have e := near_of hn
      rw [hm.2 i hi0, ← e.2 i hi0, hs]
    simp only [litArgs] at h
    split at h
    · rename_i ps' hl
      injection h with h
      subst h
      simp only [RV] at h1
      exact ⟨q, r, rfl, .inr ⟨rfl, F.d0, h1.1, hold F.d0 h1.2.1 h1.2.2⟩, litArgs_ok hr hn hm hl h2⟩
    · rename_i i ps' hl
      split at h
      · rename_i hb
        split at h
        · rename_i hlx
          injection h with h
          subst h
          simp only [RV] at h1
          refine ⟨q, r, rfl, .inr ⟨rfl, F.n0 + i, h1.1, ?_⟩, litArgs_ok hr hn hm hl h2⟩
          have hbx := hr.box i _ hb
          have hi0 : F.n0 + i < m0.n := by
            have hlt : i < S.bx.length := h1.2
            cases lx with
            | none => simp only [NearX] at hn; subst hn; rw [hr.boxn]; omega
            | some b =>
              simp only [Option.all_some, decide_eq_true_eq] at hlx
              rw [hn.1]; omega
          refine ⟨Nat.lt_of_lt_of_le hi0 hm.1, ?_⟩
          have e := near_of hn
          rw [hm.2 _ hi0, ← e.2 _ hi0]
          exact hbx
        · cases h
      · cases h
    · rename_i ps' _ _ hl
      split at h
      · rename_i p hp
        injection h with h
        subst h
        obtain ⟨e1, e2⟩ := pe_den hp h1
        have e1' : q = p.den ρ := e1
        exact ⟨q, r, rfl, .inl ⟨e1', by rw [← e1']; exact e2⟩, litArgs_ok hr hn hm hl h2⟩
      · cases h
    · cases h
def own1 (p v : PV) (a a' : Nat) : Prop := (∃ sz len cs id, p = .sl none sz 0 len cs ∧ v = .sl (some id) sz 0 len cs ∧ a ≤ id ∧ id < a') ∨ (p = .snil ∧ v = .snil)
def OwnV (path : Option (Nat × Nat)) (p v : PV) (a a' : Nat) : Prop := match path with
  | none => own1 p v a a'
  | some (_, j) => ∃ ps x y, p = .agg ps ∧ ps[j]? = some x ∧ v = .agg (ps.set j y) ∧ own1 x y a a'
def OwnSound (P : Program) (DI : List PV → Prop) (C : Orc → FuncId → List PV → Option PV) (g : FuncId) (path : Option (Nat × Nat)) : Prop :=
  ∀ args, (∀ ω, (C ω g args).isSome) → ∀ args' m, ArgL DI m args args' → ECalls P g args' m fun v E m' => ∃ p ω, C ω g args = some p ∧ p.plain = true ∧ E = [] ∧ m' = { m with an := m'.an } ∧ m.an ≤ m'.an ∧ OwnV path p v m.an m'.an
def OwnAll (X : Ctx) (DI : List PV → Prop) (C : Orc → FuncId → List PV → Option PV) : Prop := ∀ g r, findOr X.ownr g = some r → OwnSound X.P DI C g r.1
theorem rvl_set {l : List SV} {l' : List PV} (h : RVL F E l l') {v : SV} {q : PV} (hv : RV F E v q) (hq : q.one = true) (j : Nat) : RVL F E (l.set j v) (l'.set j q) := by
  rw [rvl_iff] at h ⊢
  refine ⟨by simp [h.1], fun i u r hi hr => ?_⟩
  simp only [List.getElem?_set] at hi hr
  by_cases e : j = i
  · subst e
    rw [if_pos rfl] at hi hr
    split at hi
    · rename_i hl
      rw [if_pos (by rw [← h.1]; exact hl)] at hr
      injection hi with hi
      injection hr with hr
      subst hi; subst hr
      exact ⟨hv, .inr hq⟩
    · cases hi
  · rw [if_neg e] at hi hr
    exact h.2 i u r hi hr
theorem take1_ok {r : Bool} {sz : Nat} {y : SE} {KK : AR → Sym → M} {v : PV} {a a' : Nat} (h : takeC r sz (.e y) S KK = .ok t) (hr : Rel F S ρ ids s) (hrun : Run X.P C n t ρ R) (ho : own1 (y.den ρ) v a a') (hy : y.ok ρ) :
    ∃ (ar : AR) (S1 : Sym) (ρ1 : List PV) (t1 : Tree) (cs : List PV) (xid : Option Nat), KK ar S1 = .ok t1 ∧ Rel F S1 ρ1 ids s ∧ Run X.P C n t1 ρ1 R ∧ Ext S ρ S1 ρ1 ∧ S1.ar = S.ar ∧ ar.c.ok ρ1 ∧ ar.c.den ρ1 = .agg cs ∧ 0 < ar.sz ∧ cs.length = cs.length / ar.sz * ar.sz ∧ isNil ρ1 ar.born cs = some xid.isNone ∧ (∀ y, ar.born = .dyn y → y.ok ρ1) ∧
      v = (match xid with | some id => .sl (some id) ar.sz 0 (cs.length / ar.sz) cs | none => .snil) ∧ (∀ id, xid = some id → a ≤ id ∧ id < a') ∧ ar.born.lst = true := by
  have hp : (y.den ρ).plain = true := SE.ok_plain hy
  unfold takeC at h
  split at h
  · cases h
  · rename_i hsz
    obtain ⟨t1, h1, rfl⟩ := emit_ok h
    obtain ⟨c, hc, hrun⟩ := hrun.prim
    simp only [Prim.run, PE.den] at hc
    have key : ∃ cs, c = .agg cs ∧ plainC cs = true ∧ cs.length = cs.length / sz * sz ∧ ∃ xid : Option Nat, (r = true → xid.isNone = false) ∧ isnilV (y.den ρ) = some (.bool xid.isNone) ∧ (xid = none → cs = []) ∧ v = (match xid with | some id => .sl (some id) sz 0 (cs.length / sz) cs | none => .snil) ∧ ∀ id, xid = some id → a ≤ id ∧ id < a' := by
      rcases ho with ⟨sz', len, cs, id, e1, e2, e3, e4⟩ | ⟨e1, e2⟩
      · rw [e1] at hc hp ⊢
        simp only [contV] at hc
        split at hc
        · rename_i hh
          injection hc with hc
          obtain ⟨rfl, hl⟩ := hh
          have hd : cs.length / sz' = len := by rw [hl]; exact Nat.mul_div_cancel _ (by omega)
          exact ⟨cs, hc.symm, by simpa only [PV.plain] using hp, by rw [hd]; exact hl, some id, fun _ => rfl, rfl, fun h => (by cases h), (by rw [e2, hd]), fun id' h => (by cases h; exact ⟨e3, e4⟩)⟩
        · cases hc
      · rw [e1] at hc ⊢
        simp only [contV] at hc
        split at hc
        · cases hc
        · rename_i hh
          injection hc with hc
          exact ⟨[], hc.symm, rfl, by simp, none, fun h => absurd h hh, rfl, fun _ => rfl, e2, fun id h => (by cases h)⟩
    obtain ⟨cs, rfl, hpl, hlen, xid, k1, k2, k3, k4, k5⟩ := key
    have hb := hr.bind (.agg cs) false (by simp)
    obtain ⟨g1, g2⟩ := var_ok hr (.agg cs) (by simpa only [PV.plain] using hpl)
    split at h1
    · rename_i hr1
      refine ⟨_, _, _, t1, cs, xid, h1, hb, hrun, Ext.bind S ρ _ false, rfl, g1, g2, by show 0 < sz; omega, hlen, ?_, fun y hy => (by cases hy), k4, k5, rfl⟩
      simp only [isNil, k1 hr1]
    · obtain ⟨t2, h2, rfl⟩ := emit_ok h1
      obtain ⟨b, hb2, hrun⟩ := hrun.prim
      have hden : y.den (ρ ++ [.agg cs]) = y.den ρ := (SE.den_prefix (List.prefix_append _ _) hy).1
      simp only [Prim.run, PE.den] at hb2
      rw [hden, k2] at hb2
      injection hb2 with hb2
      subst hb2
      have hb' := hb.bind (.bool xid.isNone) true (fun _ => rfl)
      obtain ⟨g3, g4⟩ := var_ok hb (.bool xid.isNone) rfl
      obtain ⟨e1, e2⟩ := SE.den_prefix (List.prefix_append (ρ ++ [PV.agg cs]) [.bool xid.isNone]) g1
      refine ⟨_, _, _, t2, cs, xid, h2, hb', hrun, (Ext.bind S ρ _ false).trans (Ext.bind _ _ _ true), rfl, e2, e1.trans g2, by show 0 < sz; omega, hlen, ?_, fun y hy => (by cases hy; exact g3), k4, k5, rfl⟩
      simp only [isNil, g4]
      cases hx : xid with
      | none => rw [k3 hx]; rfl
      | some id => rfl
theorem takeOwn_ok {r : Option (Nat × Nat) × Nat × Bool} {d : Option Tmp} {p v : PV} {m' : Mem} (h : takeOwn r (.var S.nv) d S.var K = .ok t) (hr : Rel F S ρ ids s) (hrun : Run X.P C n t (ρ ++ [p]) R) (hp : p.plain = true) (ho : OwnV r.1 p v s.m.an m'.an) (hm : m' = { s.m with an := m'.an }) (han : s.m.an ≤ m'.an) :
    ∃ S'' ρ'' ids'' t'', K S'' = .ok t'' ∧ Rel F S'' ρ'' ids'' ({ s with m := m' }.put d v) ∧ Run X.P C n t'' ρ'' R ∧ Ext S ρ S'' ρ'' := by
  have hb := hr.bind p false (by simp)
  obtain ⟨g1, g2⟩ := var_ok hr p hp
  have fin : ∀ {S1 : Sym} {ρ1 : List PV} {ar : AR} {cs : List PV} {xid : Option Nat}, Rel F S1 ρ1 ids s → ar.c.ok ρ1 → ar.c.den ρ1 = .agg cs → 0 < ar.sz → cs.length = cs.length / ar.sz * ar.sz → isNil ρ1 ar.born cs = some (Option.isNone xid) → (∀ y, ar.born = .dyn y → y.ok ρ1) → (∀ id, xid = some id → s.m.an ≤ id ∧ id < m'.an) → ar.born.lst = true →
      Rel F ({ S1 with ar := S1.ar ++ [some ar] } : Sym) ρ1 (withId ids S1.ar.length xid) { s with m := m' } ∧ RV F (({ S1 with ar := S1.ar ++ [some ar] } : Sym).env ρ1 (withId ids S1.ar.length xid)) (.own S1.ar.length) (match xid with | some id => .sl (some id) ar.sz 0 (cs.length / ar.sz) cs | none => .snil) := by
    intro S1 ρ1 ar cs xid q1 q2 q3 q4 q5 q6 q7 q8 ql
    obtain ⟨u1, u2⟩ := q1.addAr (x := xid) q2 q3 q4 q5 q6 q7 (s' := { s with m := m' }) rfl (by rw [hm]) (by rw [hm]) han q8 rfl rfl (by rw [hm])
    refine ⟨u1, ?_⟩
    simp only [RV]
    refine ⟨ar, cs, by simp [Sym.env, List.getD_eq_getElem?_getD], u2, ?_⟩
    simp only [Sym.env, withId, if_true]
    rw [ownV_lst ql]
    cases xid <;> rfl
  obtain ⟨path, sz, b⟩ := r
  cases path with
  | none =>
    simp only [takeOwn] at h
    have ho : own1 p v s.m.an m'.an := ho
    obtain ⟨ar, S1, ρ1, t1, cs, xid, h1, q1, q2, q3, q4, q5, q6, q7, q8, q9, q10, q11, q12, ql⟩ := take1_ok (X := X) h (show Rel F S.var (ρ ++ [p]) ids s from hb) hrun (by rw [g2]; exact ho) g1
    obtain ⟨u1, u2⟩ := fin q1 q5 q6 q7 q8 q9 q10 q12 ql
    rw [← q11] at u2
    refine ⟨_, ρ1, _, t1, h1, u1.put d u2, q2, ?_⟩
    have hx : Ext S ρ S.var (ρ ++ [p]) := Ext.bind S ρ p false
    have hy : Ext S1 ρ1 ({ S1 with ar := S1.ar ++ [some ar] } : Sym) ρ1 := ⟨List.prefix_refl _, rfl, rfl, rfl, rfl, rfl, Nat.le_refl _, rfl⟩
    exact ((hx.trans q3).trans hy).put _ _
  | some nj =>
    obtain ⟨nn, j⟩ := nj
    simp only [takeOwn] at h
    obtain ⟨ps, x, y, rfl, e2, rfl, ho⟩ := ho
    obtain ⟨t1, h1, rfl⟩ := emit_ok h
    obtain ⟨c, hc, hrun⟩ := hrun.prim
    simp only [Prim.run, PE.den, g2, aggV] at hc
    split at hc
    · rename_i hl
      injection hc with hc
      subst hc
      have hbv : Rel F S.var (ρ ++ [.agg ps]) ids s := hb
      have hb2 := hbv.bind (.agg ps) false (by simp)
      obtain ⟨g3, g4⟩ := var_ok hbv (.agg ps) hp
      have hpc : plainC ps = true := by simpa only [PV.plain] using hp
      have hxp := ((plainC_iff ps).1 hpc x (List.mem_of_getElem? e2))
      have hproj : SE.den ((ρ ++ [.agg ps]) ++ [.agg ps]) (.proj (.var S.var.nv) j) = x := by
        show projV (SE.den ((ρ ++ [.agg ps]) ++ [.agg ps]) (.var S.var.nv)) j = x
        rw [g4]
        simp [projV, List.getD_eq_getElem?_getD, e2]
      have hpok : SE.ok ((ρ ++ [.agg ps]) ++ [.agg ps]) (.proj (.var S.var.nv) j) := ⟨g3, by
        have : projV (SE.den ((ρ ++ [.agg ps]) ++ [.agg ps]) (.var S.var.nv)) j = x := hproj
        rw [this]; exact hxp.1⟩
      obtain ⟨ar, S1, ρ1, t1, cs, xid, h2, q1, q2, q3, q4, q5, q6, q7, q8, q9, q10, q11, q12, ql⟩ := take1_ok (X := X) h1 hb2 hrun (by rw [hproj]; exact ho) hpok
      obtain ⟨u1, u2⟩ := fin q1 q5 q6 q7 q8 q9 q10 q12 ql
      rw [← q11] at u2
      have hx : Ext S ρ S.var (ρ ++ [.agg ps]) := Ext.bind S ρ _ false
      have hx2 : Ext S.var (ρ ++ [.agg ps]) (S.var.bind false) ((ρ ++ [.agg ps]) ++ [.agg ps]) := Ext.bind _ _ _ false
      have hy : Ext S1 ρ1 ({ S1 with ar := S1.ar ++ [some ar] } : Sym) ρ1 := ⟨List.prefix_refl _, rfl, rfl, rfl, rfl, rfl, Nat.le_refl _, rfl⟩
      obtain ⟨d1, d2⟩ := SE.den_prefix q3.pre g3
      refine ⟨_, ρ1, _, t1, h2, u1.put d (v := .agg (((List.range nn).map fun i => SV.e (.proj (.var S.var.nv) i)).set j (.own S1.ar.length))) ?_, q2, (((hx.trans hx2).trans q3).trans hy).put _ _⟩
      simp only [RV]
      refine ⟨_, rfl, rvl_set ?_ u2 ?_ j⟩
      · exact rvl_projs0 (by show SE.den ρ1 _ = _; rw [d1, g4]) d2 hl
      · rw [q11]; cases xid <;> rfl
    · cases hc
theorem contV_own {r : Bool} {sz : Nat} {x c : PV} (h : contV r sz x = some c) (an : Nat) : ∃ v, own1 x v an (an + 1) := by
  unfold contV at h
  split at h
  · exact ⟨.snil, .inr ⟨rfl, rfl⟩⟩
  · rename_i sz' len cs
    split at h
    · exact ⟨.sl (some an) sz' 0 len cs, .inl ⟨sz', len, cs, an, rfl, rfl, Nat.le_refl _, by omega⟩⟩
    · cases h
  · cases h
theorem takeC_cont {r : Bool} {sz : Nat} {x : PE} {KK : AR → Sym → M} (h : takeC r sz x S KK = .ok t) (hrun : Run X.P C n t ρ R) : ∃ c, contV r sz (x.den ρ) = some c := by
  unfold takeC at h
  split at h
  · cases h
  · obtain ⟨t1, h1, rfl⟩ := emit_ok h
    obtain ⟨c, hc, _⟩ := hrun.prim
    exact ⟨c, hc⟩
theorem takeOwn_shape {r : Option (Nat × Nat) × Nat × Bool} {d : Option Tmp} {p : PV} (h : takeOwn r (.var S.nv) d S.var K = .ok t) (hr : Rel F S ρ ids s) (hrun : Run X.P C n t (ρ ++ [p]) R) (hp : p.plain = true) (an : Nat) : ∃ v, OwnV r.1 p v an (an + 1) := by
  obtain ⟨g1, g2⟩ := var_ok hr p hp
  obtain ⟨path, sz, b⟩ := r
  cases path with
  | none =>
    simp only [takeOwn] at h
    obtain ⟨c, hc⟩ := takeC_cont (X := X) h hrun
    simp only [PE.den, g2] at hc
    exact contV_own hc an
  | some nj =>
    obtain ⟨nn, j⟩ := nj
    simp only [takeOwn] at h
    obtain ⟨t1, h1, rfl⟩ := emit_ok h
    obtain ⟨c, hc, hrun⟩ := hrun.prim
    simp only [Prim.run, PE.den, g2, aggV] at hc
    cases p with
    | agg ps =>
      simp only [] at hc
      split at hc
      · injection hc with hc
        subst hc
        have hbv : Rel F S.var (ρ ++ [.agg ps]) ids s := hr.bind (.agg ps) false (by simp)
        obtain ⟨g3, g4⟩ := var_ok hbv (.agg ps) hp
        obtain ⟨c, hc⟩ := takeC_cont (X := X) h1 hrun
        have hproj : PE.den ((ρ ++ [.agg ps]) ++ [.agg ps]) (.e (.proj (.var S.var.nv) j)) = ps.getD j .bad := by
          show projV (SE.den ((ρ ++ [.agg ps]) ++ [.agg ps]) (.var S.var.nv)) j = _
          rw [g4]; rfl
        rw [hproj, List.getD_eq_getElem?_getD] at hc
        cases hj : ps[j]? with
        | none => rw [hj] at hc; simp [contV] at hc
        | some x =>
          rw [hj] at hc
          obtain ⟨y, hy⟩ := contV_own (by simpa using hc) an
          exact ⟨_, ps, x, y, rfl, hj, rfl, hy⟩
      · cases hc
    | _ => cases hc
theorem after_nil (s : St) : s.after [] s.m = s := by
  have : addEff s.a0.a s.eff [] = s.eff := by cases s.eff <;> simp [addEff]
  simp [St.after, PV.sub, this]
theorem seq_pure_call {c : Call} {f : Operand} {g : FuncId} {caps : List PV} {args' : List PV} {args : List PE} (hC : CSound X.P F.DI C) (hop : o.op = .call c) (hcal : c.callee = .value f) (hf : s.ev f = .fn g caps) (ha : ArgL F.DI s.m (denL ρ args ++ args') (c.args.toList.map s.ev ++ caps))
    {t' : Tree} (hsome : ∀ ω, (C ω g (denL ρ args ++ args')).isSome) (hrun : ∀ ω v, C ω g (denL ρ args ++ args') = some v → Run X.P C n t' (ρ ++ [v]) R) (hr : Rel F S ρ ids s)
    (h : K (S.var.put o.dst (.e (.var S.nv))) = .ok t') : SeqOk X F C n R K S ρ s o := by
  refine ⟨s, Silent.refl s, ?_⟩
  simp only [opW, hop, hcal, hf]
  obtain ⟨v0, hv0⟩ := Option.isSome_iff_exists.1 (hsome orc0)
  refine ⟨hC.fn _ _ _ _ hv0, ((hC.ans g _ hsome _ _ ha).mono ?_).y⟩
  rintro v E m' ⟨⟨ω, hv⟩, hp, rfl, rfl⟩
  rw [after_nil]
  have hb := hr.bind v false (by simp)
  obtain ⟨g1, g2⟩ := var_ok hr v hp
  exact ⟨_, _, ids, t', h, hb.put o.dst (by unfold RV; exact ⟨g2.symm, g1⟩), hrun ω v hv, (Ext.bind S ρ v false).put _ _⟩
def InlOk (X : Ctx) (C : Orc → FuncId → List PV → Option PV) (n : Nat) (inl : Inl) : Prop :=
  ∀ (F : Frm) (R : Out → Prop) (key : Nat) (g : FuncId) (args : List SV) (K : SV → Sym → M) (S : Sym) (ρ : List PV) (ids : Nat → Option Nat) (s : St) (t : Tree) (qs : List PV),
    F.P = X.P → CSound X.P F.DI C → NewOk X.P F.DI X.diceNew → OwnAll X F.DI C → inl key g args S K = .ok t → Rel F S ρ ids s → RVA F (S.env ρ ids) args qs → Run X.P C n t ρ R →
    ECallsY X.P s.nowY g qs s.m fun q E m' => ∃ v S' ρ' ids' t', K v S' = .ok t' ∧ Rel F S' ρ' ids' (s.after E m') ∧ RV F (S'.env ρ' ids') v q ∧ Run X.P C n t' ρ' R ∧ Ext S ρ S' ρ'
theorem seq_inl {c : Call} {f : Operand} {g : FuncId} {caps : List SV} {fn : Func} (hF : F.P = X.P) (hC : CSound X.P F.DI C) (hN : NewOk X.P F.DI X.diceNew) (hO : OwnAll X F.DI C) (hI : InlOk X C n inl) (hop : o.op = .call c) (hcal : c.callee = .value f) (hf : S.ev f = .fn g caps) (hfn : X.P.funcs[g]? = some fn) (hname : ¬ (fn.name = "runtime.NumGoroutine" ∨ fn.body.isNone))
    (h : inl key g (c.args.toList.map S.ev ++ caps) S (fun v S => K (S.put o.dst v)) = .ok t) (hr : Rel F S ρ ids s) (hrun : Run X.P C n t ρ R) : SeqOk X F C n R K S ρ s o := by
  have hfv := hr.ev f
  rw [hf] at hfv
  unfold RV at hfv
  obtain ⟨l', e, hl⟩ := hfv
  refine ⟨s, Silent.refl s, ?_⟩
  simp only [opW, hop, hcal, e]
  refine ⟨⟨fn, hfn, fun e => hname (.inl e), by cases hb : fn.body <;> simp [hb] at hname ⊢⟩, ?_⟩
  refine (hI F R key g _ _ S ρ ids s t _ hF hC hN hO h hr (rva_append (rva_evs hr _) (rva_of_rvl hl)) hrun).mono ?_
  rintro q E m' ⟨v, S', ρ', ids', t', h1, h2, h3, h4, h5⟩
  exact ⟨_, ρ', ids', t', h1, h2.put o.dst h3, h4, h5.put _ _⟩
def YldOk (X : Ctx) (C : Orc → FuncId → List PV → Option PV) (n : Nat) (yl : Inl) : Prop :=
  ∀ (F : Frm) (R : Out → Prop) (key : Nat) (y : Nat) (args : List SV) (K : SV → Sym → M) (S : Sym) (ρ : List PV) (ids : Nat → Option Nat) (s : St) (t : Tree) (qs : List PV),
    F.P = X.P → CSound X.P F.DI C → NewOk X.P F.DI X.diceNew → OwnAll X F.DI C → yl key y args S K = .ok t → Rel F S ρ ids s → RVA F (S.env ρ ids) args qs → Run X.P C n t ρ R →
    ∃ yr st pd, yr ∈ s.nowY ∧ F.ent.ys[y]?.map YRec.l = some yr.l ∧ (yr.l, { yr.o with state := st, pending := pd }) ∈ s.m.rc ∧ qs.length = yr.o.params.size ∧
      EYield X.P s.nowY yr.o yr.l qs s.m fun q E m' => ∃ v S' ρ' ids' t', K v S' = .ok t' ∧ Rel F S' ρ' ids' (s.after E m') ∧ RV F (S'.env ρ' ids') v q ∧ Run X.P C n t' ρ' R ∧ Ext S ρ S' ρ'
theorem seq_yld {c : Call} {f : Operand} {y : Nat} (hF : F.P = X.P) (hC : CSound X.P F.DI C) (hN : NewOk X.P F.DI X.diceNew) (hO : OwnAll X F.DI C) (hY : YldOk X C n yl) (hop : o.op = .call c) (hcal : c.callee = .value f) (hf : S.ev f = .yld y)
    (h : yl key y (c.args.toList.map S.ev) S (fun v S => K (S.put o.dst v)) = .ok t) (hr : Rel F S ρ ids s) (hrun : Run X.P C n t ρ R) : SeqOk X F C n R K S ρ s o := by
  have hfv := hr.ev f
  rw [hf] at hfv
  unfold RV at hfv
  obtain ⟨l', e1, e⟩ := hfv
  refine ⟨s, Silent.refl s, ?_⟩
  simp only [opW, hop, hcal, e]
  obtain ⟨yr, st, pd, h1, h2, h3, h4, h5⟩ := hY F R key y _ _ S ρ ids s t _ hF hC hN hO h hr (rva_evs hr _) hrun
  rw [e1] at h2
  injection h2 with h2
  subst h2
  refine ⟨yr, st, pd, h1, rfl, h3, by simpa using h4, h5.mono ?_⟩
  rintro q E m' ⟨v, S', ρ', ids', t', h1, h2, h3, h4, h5⟩
  exact ⟨_, ρ', ids', t', h1, h2.put o.dst h3, h4, h5.put _ _⟩
theorem rel_dice (h : Rel F S ρ ids s) : Rel F ({ S with bx := S.bx ++ [BX.dice] } : Sym) ρ ids { s with m := ⟨updB s.m.β s.m.n (.inv F.DI), s.m.n + 1, s.m.an, s.m.rc⟩ } := by
  have hle : (S.env ρ ids).le (({ S with bx := S.bx ++ [BX.dice] } : Sym).env ρ ids) := ⟨List.prefix_refl _, fun _ _ h => h, by simp [Sym.env], fun _ _ _ => rfl⟩
  refine ⟨h.len, h.kn, fun t => RV.mono hle (h.slot t), by simp [h.boxn]; omega, fun i hi => ?_, fun i b hb => ?_, h.idlt, h.idinj, fun k a ha => ?_, h.a0, h.ent, h.efc, h.eff, h.new, h.keep, h.bbase, h.ba, by have := h.bb; simp; omega, h.an, h.obd, h.rc⟩
  · have := h.boxn
    simp only [updB_other _ _ _ _ (by omega : i ≠ s.m.n)]
    exact h.old i hi
  · simp only [List.getElem?_append] at hb
    have hn := h.boxn
    split at hb
    · rename_i hlt
      simp only [updB_other _ _ _ _ (by omega : F.n0 + i ≠ s.m.n)]
      exact rb_mono hle (h.box i b hb)
    · rename_i hge
      have : i = S.bx.length := by
        have := (List.getElem?_eq_some_iff.1 hb).1
        simp at this
        omega
      subst this
      simp at hb
      subst hb
      rw [← hn]
      simp only [updB_same]
      exact rfl
  · obtain ⟨cs, hc⟩ := h.arr k a ha
    exact ⟨cs, AR.rel.mono hle ha hc⟩
theorem seq_dice {c : Call} {f : Operand} {p : PE} (hC : NewOk X.P F.DI X.diceNew) (hop : o.op = .call c) (hcal : c.callee = .value f) (hf : S.ev f = .fn X.diceNew.new []) (hp : peL (c.args.toList.map S.ev) = some [p]) {fn : Func} (hfn : X.P.funcs[X.diceNew.new]? = some fn) (hname : ¬ (fn.name = "runtime.NumGoroutine" ∨ fn.body.isNone))
    (h : emit (.ints p) false S (fun _ S => K (Sym.put { S with bx := S.bx ++ [BX.dice] } o.dst (.ptr S.bx.length 0))) = .ok t) (hr : Rel F S ρ ids s) (hrun : Run X.P C n t ρ R) : SeqOk X F C n R K S ρ s o := by
  obtain ⟨t', hK, rfl⟩ := emit_ok h
  obtain ⟨pv, hpv, hrun⟩ := hrun.prim
  simp only [Prim.run, intsV] at hpv
  split at hpv
  case isFalse => cases hpv
  rename_i hints
  injection hpv with hpv
  subst hpv
  obtain ⟨e1, e2⟩ := hr.evs _ _ hp
  have hbd := hr.bind (p.den ρ) false (by simp)
  have hfv := hr.ev f
  rw [hf] at hfv
  unfold RV at hfv
  obtain ⟨l', e, hl⟩ := hfv
  simp only [RVL] at hl
  subst hl
  refine ⟨s, Silent.refl s, ?_⟩
  simp only [opW, hop, hcal, e]
  refine ⟨⟨fn, hfn, fun e => hname (.inl e), by cases hb : fn.body <;> simp [hb] at hname ⊢⟩, ?_⟩
  rw [List.append_nil, e1]
  refine ECalls.y ((hC.new (p.den ρ) s.m hints).mono ?_)
  rintro v E m' ⟨rfl, rfl, rfl⟩
  have hk := rel_dice hbd
  have haft : s.after [] ⟨updB s.m.β s.m.n (.inv F.DI), s.m.n + 1, s.m.an, s.m.rc⟩ = { s with m := ⟨updB s.m.β s.m.n (.inv F.DI), s.m.n + 1, s.m.an, s.m.rc⟩ } := by
    have : addEff s.a0.a s.eff [] = s.eff := by cases s.eff <;> simp [addEff]
    simp [St.after, PV.sub, this]
  rw [haft]
  have e0 : (S.bind false).bx.length = S.bx.length := rfl
  refine ⟨_, _, ids, t', hK, hk.put o.dst (by unfold RV; exact ⟨by rw [hr.boxn, e0], by simp [Sym.env]⟩), hrun, ?_⟩
  have hx : Ext (S.bind false) (ρ ++ [p.den ρ]) ({ S.bind false with bx := (S.bind false).bx ++ [BX.dice] } : Sym) (ρ ++ [p.den ρ]) := ⟨List.prefix_refl _, rfl, rfl, rfl, rfl, rfl, by simp, rfl⟩
  exact ((Ext.bind S ρ _ false).trans hx).put _ _
end
end Go.Proofs.Ytlminnpaeaganaa
namespace Go.Proofs.Ytlminnpaeaganaa
open Go Go.RowKit
set_option linter.unusedVariables false
set_option linter.unusedSimpArgs false
section
variable {X : Ctx} {F : Frm} {C : Orc → FuncId → List PV → Option PV} {n : Nat} {R : Out → Prop} {S : Sym} {ρ : List PV} {ids : Nat → Option Nat} {s : St} {K : Sym → M} {t : Tree} {o : Oper} {m0 : Mem} {inl yl : Inl} {lx : Option Nat} {key : Nat} {E : Env}
theorem isMap_eq {b : BN} (h : b.isMap = true) : b = .map := by cases b <;> first | rfl | cases h
theorem isIt_eq {b : BN} (h : b.isIt = true) : b = .it := by cases b <;> first | rfl | cases h
theorem own_mp {k : Nat} {a : AR} {q : PV} {it : Bool} (hb : a.born = if it then .it else .map) (ha : S.ar.getD k none = some a) (hq : RV F (S.env ρ ids) (.own k) q) : ∃ cs id, a.rel (S.env ρ ids) k cs ∧ ids k = some id ∧ q = .mp it (some id) a.sz cs := by
  unfold RV at hq
  obtain ⟨a', cs, h1, h2, h3⟩ := hq
  have : a' = a := by have := h1.symm.trans ha; injection this
  subst this
  have hn := h2.2.2.2.2.1
  have hid : ((S.env ρ ids).ids k).isNone = false := by
    rw [hb] at hn
    cases it <;> (simp only [isNil] at hn; exact (Option.some.inj hn).symm)
  cases hi : (S.env ρ ids).ids k with
  | none => rw [hi] at hid; cases hid
  | some id =>
    rw [hi, hb] at h3
    exact ⟨cs, id, h2, hi, by rw [h3]; cases it <;> rfl⟩
theorem plainC_app {a b : List PV} (ha : plainC a = true) (hb : plainC b = true) : plainC (a ++ b) = true := by
  rw [plainC_iff] at *
  intro p hp
  rcases List.mem_append.1 hp with h | h
  · exact ha p h
  · exact hb p h
theorem plainC_tk {a : List PV} (ha : plainC a = true) (i : Nat) : plainC (a.take i) = true := by
  rw [plainC_iff] at *
  exact fun p hp => ha p (List.mem_of_mem_take hp)
theorem plainC_dp {a : List PV} (ha : plainC a = true) (i : Nat) : plainC (a.drop i) = true := by
  rw [plainC_iff] at *
  exact fun p hp => ha p (List.mem_of_mem_drop hp)
theorem clean_agg {l : List PV} (h : plainC l = true) (id sz : Nat) : Eff.clean (.wr id sz (.agg l)) := fun n an => by
  simp only [PV.bd]
  exact plainC_bd n an l h
theorem seq_makeMap {ty : TypeId} {r : Option Operand} (hop : o.op = .makeMap ty r) (h : compMakeMap X none o ty r S K = .ok t) (hr : Rel F S ρ ids s) (hrun : Run X.P C n t ρ R) : SeqOk X F C n R K S ρ s o := by
  unfold compMakeMap at h
  split at h
  · cases h
  · rename_i hr0
    split at h
    · rename_i kt e hu
      split at h
      · rename_i hpos
        obtain ⟨t', ht, rfl⟩ := emit_ok h
        obtain ⟨v, hv, hrun⟩ := hrun.prim
        simp only [Prim.run, denL, Option.some.injEq] at hv
        subst hv
        have hb := hr.bind (.agg []) false (by simp)
        obtain ⟨g1, g2⟩ := var_ok hr (.agg []) rfl
        refine ⟨s, Silent.refl s, ?_⟩
        simp only [opW, hop, hu]
        refine ⟨?_, stp_mono (Ext.bind S ρ _ false) (stp_newMp (a := ⟨X.P.cellsOf kt, .map, .var S.nv⟩) (it := false) hb rfl g1 g2 hpos (by simp) ht hrun)⟩
        cases r with
        | none => rfl
        | some r => exact absurd (.inr rfl) hr0
      · cases h
    · cases h
theorem hit_mp {k id : Nat} {a : AR} {it : Bool} {cs cs' : List PV} (hab : a.born = if it then .it else .map) (ha : S.ar.getD k none = some a) (hr : Rel F S ρ ids s) (hrel : a.rel (S.env ρ ids) k cs) (hid : ids k = some id) (hpl : plainC cs' = true) (hl : cs'.length = cs'.length / a.sz * a.sz)
    {x : SE} (g1 : x.ok ρ) (g2 : x.den ρ = .agg cs') : Rel F (S.setArr k false { a with c := x }) ρ ids (s.setMp id a.sz cs') := by
  refine (hr.hit (k := k) (id := id) (c' := x) (all := false) (EE := [.wr id a.sz (.agg cs')]) ha hrel hid (fun e he => ?_) g1 g2 hl (by rw [hab]; cases it <;> rfl) (fun _ => ?_)).1
  · simp only [List.mem_singleton] at he
    subst he
    exact ⟨rfl, clean_agg hpl id a.sz⟩
  · rw [hab]
    cases it <;> simp [ownV, PV.sub, PV.sub1]
theorem insC_facts {sz : Nat} {cs k : List PV} (hsz : 0 < sz) (hk : k.length = sz) (hl : cs.length = cs.length / sz * sz) : (insC sz cs k).length = (insC sz cs k).length / sz * sz := by
  unfold insC
  split
  · exact hl
  · rw [List.length_append, hk, Nat.add_div_right _ hsz, Nat.succ_mul, ← hl]
theorem seq_mapUpdate {ty : TypeId} {m k x : Operand} (hop : o.op = .mapUpdate ty m k x) (h : compMapUpdate X none o ty m k S K = .ok t) (hr : Rel F S ρ ids s) (hrun : Run X.P C n t ρ R) : SeqOk X F C n R K S ρ s o := by
  unfold compMapUpdate at h
  split at h
  · cases h
  · rename_i hd0
    have hdst : o.dst = none := by cases hd : o.dst with | none => rfl | some d => exact absurd (.inr (by rw [hd]; rfl)) hd0
    split at h
    · rename_i kt e hu
      split at h
      · rename_i hky
        split at h
        · rename_i l kk hk hm
          split at h
          · rename_i a ps ha hps
            split at h
            · rename_i hmap
              obtain ⟨t', ht, rfl⟩ := emit_ok h
              obtain ⟨v, hv, hrun⟩ := hrun.prim
              have hmv := hr.ev m
              rw [hm] at hmv
              obtain ⟨cs, id, h2, hid, hq⟩ := own_mp (it := false) (isMap_eq hmap) ha hmv
              have hkv := hr.ev k
              rw [hk] at hkv
              unfold RV at hkv
              obtain ⟨l', hl', hrvl⟩ := hkv
              obtain ⟨p1, p2⟩ := peL_den hps hrvl
              have hden : a.c.den ρ = .agg cs := h2.2.1
              simp only [Prim.run, hden, insV] at hv
              rw [show denL ρ ps = l' from p1.symm] at hv
              split at hv
              · rename_i hc
                obtain ⟨c1, c2, c3, c4⟩ := hc
                injection hv with hv
                subst hv
                have hpl : plainC (insC a.sz cs l') = true := by
                  unfold insC
                  split
                  · exact h2.plain
                  · exact plainC_app h2.plain p2
                have hb := hr.bind (.agg (insC a.sz cs l')) false (by simp)
                obtain ⟨g1, g2⟩ := var_ok hr (.agg (insC a.sz cs l')) (by simpa only [PV.plain] using hpl)
                have h2' := AR.rel.mono (Env.le_bind S ρ ids (.agg (insC a.sz cs l')) false) ha h2
                refine ⟨s, Silent.refl s, ?_⟩
                simp only [opW, hop, hu, hq, hl']
                exact ⟨hdst, keyedB_ok hky, c1, c2, c3, c4, _, _, ids, t', ht, hit_mp (it := false) (S := S.bind false) (isMap_eq hmap) ha hb h2' hid hpl (insC_facts c1 c2 h2.2.2.2.1) g1 g2, hrun, (Ext.bind S ρ _ false).trans (ext_set kk false _)⟩
              · cases hv
            · cases h
          · cases h
        · cases h
      · cases h
    · cases h
theorem repl_len (z : PV) : ∀ n, (repl [z] n).length = n
  | 0 => rfl
  | n + 1 => by simp [repl, repl_len z n]
theorem repl_plain : ∀ n, plainC (repl [.nilp] n) = true
  | 0 => rfl
  | n + 1 => by simp only [repl, List.singleton_append, plainC, repl_plain n]; rfl
theorem seq_rangeM {ty : TypeId} {x : Operand} (hop : o.op = .range ty x) (h : compRangeM X none o ty x S K = .ok t) (hr : Rel F S ρ ids s) (hrun : Run X.P C n t ρ R) : SeqOk X F C n R K S ρ s o := by
  unfold compRangeM at h
  split at h
  · cases h
  · split at h
    · rename_i kt e hu
      refine seq_frz h hr hrun fun S ρ ids s t h hr hrun => ?_
      split at h
      · rename_i y hx
        obtain ⟨t', ht, rfl⟩ := emit_ok h
        obtain ⟨v, hv, hrun⟩ := hrun.prim
        have hxv := hr.ev x
        rw [hx] at hxv
        unfold RV at hxv
        simp only [Prim.run, PE.den] at hv
        have e0 : s.ev x = y.den ρ := hxv.1
        rw [← e0] at hv
        unfold keysV at hv
        split at hv
        · rename_i sz' cs hq
          split at hv
          · rename_i hc
            obtain ⟨rfl, c1, c2, c3⟩ := hc
            injection hv with hv
            subst hv
            have hpl : plainC (repl [.nilp] (X.P.cellsOf kt) ++ cs) = true := plainC_app (repl_plain _) c2
            have hb := hr.bind (.agg (repl [.nilp] (X.P.cellsOf kt) ++ cs)) false (by simp)
            obtain ⟨g1, g2⟩ := var_ok hr (.agg (repl [.nilp] (X.P.cellsOf kt) ++ cs)) (by simpa only [PV.plain] using hpl)
            refine ⟨s, Silent.refl s, ?_⟩
            simp only [opW, hop, hu, hq]
            refine ⟨c1, stp_mono (Ext.bind S ρ _ false) (stp_newMp (a := ⟨X.P.cellsOf kt, .it, .var S.nv⟩) (it := true) hb rfl g1 g2 c1 ?_ ht hrun)⟩
            show (repl [.nilp] (X.P.cellsOf kt) ++ cs).length = (repl [.nilp] (X.P.cellsOf kt) ++ cs).length / X.P.cellsOf kt * X.P.cellsOf kt
            rw [List.length_append, repl_len, Nat.add_div_left _ c1, Nat.succ_mul, ← c3]
            omega
          · cases hv
        · cases hv
      · cases h
    · cases h
theorem seq_entry {x : Operand} (hop : o.op = .entry x) (h : compEntry none o x S K = .ok t) (hr : Rel F S ρ ids s) (hrun : Run X.P C n t ρ R) : SeqOk X F C n R K S ρ s o := by
  unfold compEntry at h
  simp only [Option.isSome_none, Bool.false_eq_true, if_false] at h
  split at h
  · rename_i k hx
    split at h
    · rename_i a ha
      split at h
      · rename_i hit
        obtain ⟨t', ht, rfl⟩ := emit_ok h
        obtain ⟨v, hv, hrun⟩ := hrun.prim
        have hxv := hr.ev x
        rw [hx] at hxv
        obtain ⟨cs, id, h2, hid, hq⟩ := own_mp (it := true) (isIt_eq hit) ha hxv
        have hden : a.c.den ρ = .agg cs := h2.2.1
        simp only [Prim.run, hden, lkV] at hv
        split at hv
        · rename_i hc
          obtain ⟨c1, c2, c3⟩ := hc
          injection hv with hv
          subst hv
          have hpl : plainC (cs.take a.sz) = true := plainC_tk h2.plain _
          have hb := hr.bind (.agg (cs.take a.sz)) false (by simp)
          obtain ⟨g1, g2⟩ := var_ok hr (.agg (cs.take a.sz)) (by simpa only [PV.plain] using hpl)
          refine ⟨s, Silent.refl s, ?_⟩
          simp only [opW, hop, hq]
          refine ⟨c1, c2, _, _, ids, t', ht, hb.put o.dst ?_, hrun, (Ext.bind S ρ _ false).put _ _⟩
          simp only [RV]
          refine ⟨_, rfl, _, _, rfl, ⟨_, rfl, rvl_projs0 g2 g1 c3⟩, _, _, rfl, trivial, rfl⟩
        · cases hv
      · cases h
    · cases h
  · cases h
theorem chunk_len {sz : Nat} {rem : List PV} {j : Nat} (hj : j < rem.length / sz) : (chunk sz rem j).length = sz := by
  have hpos : 0 < sz := by
    rcases Nat.eq_zero_or_pos sz with h | h
    · rw [h, Nat.div_zero] at hj; omega
    · exact h
  have : (j + 1) * sz ≤ rem.length := (Nat.le_div_iff_mul_le hpos).1 hj
  rw [Nat.succ_mul] at this
  simp only [chunk, List.length_take, List.length_drop]
  omega
theorem dropK_len {sz : Nat} {rem : List PV} {j : Nat} (hl : rem.length = rem.length / sz * sz) (hj : j < rem.length / sz) : (dropK sz rem j).length = (rem.length / sz - 1) * sz := by
  obtain ⟨m, hm⟩ : ∃ m, rem.length / sz = m + 1 := ⟨rem.length / sz - 1, by omega⟩
  rw [hm] at hl hj ⊢
  have h1 : j * sz ≤ m * sz := Nat.mul_le_mul_right _ (by omega)
  simp only [dropK, List.length_append, List.length_take, List.length_drop, Nat.succ_mul, Nat.add_sub_cancel] at hl ⊢
  omega
theorem seq_next {x : Operand} {str : Bool} (hop : o.op = .next x str) (h : compNext none o x str S K = .ok t) (hr : Rel F S ρ ids s) (hrun : Run X.P C n t ρ R) : SeqOk X F C n R K S ρ s o := by
  unfold compNext at h
  split at h
  · cases h
  · rename_i hstr
    have hs : str = false := by cases str with | false => rfl | true => exact absurd (.inr rfl) hstr
    subst hs
    split at h
    · rename_i k hx
      split at h
      · rename_i a ha
        split at h
        · rename_i hit
          cases hA : (emit (.tl (.var S.nv)) false S.var fun v S => K ((S.setArr k false { a with c := v }).put o.dst (.tup [.e (.cst (.bool true)), .junk, .junk]))) with
          | error e => rw [hA] at h; cases h
          | ok tA =>
            cases hB : K (S.var.put o.dst (.tup [.e (.cst (.bool false))])) with
            | error e => rw [hA, hB] at h; cases h
            | ok tB =>
              rw [hA, hB] at h
              simp only [bind, Except.bind, pure, Except.pure, Except.ok.injEq] at h
              subst h
              obtain ⟨cs', hc', hrun⟩ := hrun.pick
              have hxv := hr.ev x
              rw [hx] at hxv
              obtain ⟨cs, id, h2, hid, hq⟩ := own_mp (it := true) (isIt_eq hit) ha hxv
              have hden : a.c.den ρ = .agg cs := h2.2.1
              have : cs' = cs := by have := hc'.symm.trans hden; injection this
              subst this
              have hpos := h2.2.2.1
              have hlen := h2.2.2.2.1
              refine ⟨s, Silent.refl s, ?_⟩
              simp only [opW, hop, hq]
              refine ⟨trivial, hpos, fun h0 => ?_, fun i hi => ?_⟩
              · have hv : pickV a.sz cs' 0 = .agg [.bool false] := by simp only [pickV, pickN, h0, if_true]
                have hrun := hrun 0
                rw [hv] at hrun
                have hb := hr.bind (.agg [.bool false]) false (by simp)
                obtain ⟨g1, g2⟩ := var_ok hr (.agg [.bool false]) rfl
                have hcd : (SE.proj (.var S.nv) 0).den (ρ ++ [.agg [.bool false]]) = .bool false := by simp only [SE.den] at g2 ⊢; rw [g2]; rfl
                have hrun2 : Run X.P C n tB (ρ ++ [.agg [.bool false]]) R := fun ω => by
                  obtain ⟨o, ho, hR⟩ := hrun ω
                  simp only [eval, hcd] at ho
                  exact ⟨o, ho, hR⟩
                refine ⟨_, _, ids, tB, hB, Rel.put (S := S.var) hb o.dst ?_, hrun2, (Ext.bind S ρ _ false).put _ _⟩
                simp only [RV]
                exact ⟨_, rfl, _, _, rfl, ⟨rfl, rfl⟩, rfl⟩
              · have hN : pickN a.sz cs' ≠ 0 := by unfold pickN; omega
                have hv : pickV a.sz cs' i = .agg (.bool true :: (chunk a.sz (cs'.drop a.sz) i ++ dropK a.sz (cs'.drop a.sz) i)) := by
                  simp only [pickV]
                  rw [if_neg hN, Nat.mod_eq_of_lt (by unfold pickN; exact hi)]
                have hrun := hrun i
                rw [hv] at hrun
                have hpd : plainC (cs'.drop a.sz) = true := plainC_dp h2.plain _
                have hpl : plainC (chunk a.sz (cs'.drop a.sz) i ++ dropK a.sz (cs'.drop a.sz) i) = true := plainC_app (plainC_tk (plainC_dp hpd _) _) (plainC_app (plainC_tk hpd _) (plainC_dp hpd _))
                have hpl1 : plainC (.bool true :: (chunk a.sz (cs'.drop a.sz) i ++ dropK a.sz (cs'.drop a.sz) i)) = true := by simp only [plainC, hpl]; rfl
                obtain ⟨u1, u2⟩ := var_ok hr (.agg (.bool true :: (chunk a.sz (cs'.drop a.sz) i ++ dropK a.sz (cs'.drop a.sz) i))) (by simpa only [PV.plain] using hpl1)
                have hb1 := hr.bind (.agg (.bool true :: (chunk a.sz (cs'.drop a.sz) i ++ dropK a.sz (cs'.drop a.sz) i))) false (by simp)
                have hcd : (SE.proj (.var S.nv) 0).den (ρ ++ [.agg (.bool true :: (chunk a.sz (cs'.drop a.sz) i ++ dropK a.sz (cs'.drop a.sz) i))]) = .bool true := by simp only [SE.den] at u2 ⊢; rw [u2]; rfl
                have hrunA : Run X.P C n tA (ρ ++ [.agg (.bool true :: (chunk a.sz (cs'.drop a.sz) i ++ dropK a.sz (cs'.drop a.sz) i))]) R := fun ω => by
                  obtain ⟨o, ho, hR⟩ := hrun ω
                  simp only [eval, hcd] at ho
                  exact ⟨o, ho, hR⟩
                obtain ⟨t', ht, rfl⟩ := emit_ok hA
                obtain ⟨v, hv2, hrunA⟩ := hrunA.prim
                simp only [Prim.run] at hv2
                rw [u2] at hv2
                simp only [tlV, Option.some.injEq] at hv2
                subst hv2
                have hb1' : Rel F S.var (ρ ++ [.agg (.bool true :: (chunk a.sz (cs'.drop a.sz) i ++ dropK a.sz (cs'.drop a.sz) i))]) ids s := hb1
                have hb2 := hb1'.bind (.agg (chunk a.sz (cs'.drop a.sz) i ++ dropK a.sz (cs'.drop a.sz) i)) false (by simp)
                obtain ⟨g1, g2⟩ := var_ok hb1' (.agg (chunk a.sz (cs'.drop a.sz) i ++ dropK a.sz (cs'.drop a.sz) i)) (by simpa only [PV.plain] using hpl)
                have h2' := AR.rel.mono (Env.le_bind S ρ ids (.agg (.bool true :: (chunk a.sz (cs'.drop a.sz) i ++ dropK a.sz (cs'.drop a.sz) i))) false) ha h2
                have h2'' := AR.rel.mono (Env.le_bind S.var _ ids (.agg (chunk a.sz (cs'.drop a.sz) i ++ dropK a.sz (cs'.drop a.sz) i)) false) ha h2'
                have hdl : (cs'.drop a.sz).length = (cs'.drop a.sz).length / a.sz * a.sz := by
                  rw [List.length_drop, hlen]
                  obtain ⟨m, hm⟩ : ∃ m, cs'.length / a.sz = m := ⟨_, rfl⟩
                  rw [hm]
                  cases m with
                  | zero => simp
                  | succ m => rw [Nat.succ_mul, Nat.add_sub_cancel, Nat.mul_div_cancel _ hpos]
                have hl2 : (chunk a.sz (cs'.drop a.sz) i ++ dropK a.sz (cs'.drop a.sz) i).length = (chunk a.sz (cs'.drop a.sz) i ++ dropK a.sz (cs'.drop a.sz) i).length / a.sz * a.sz := by
                  rw [List.length_append, chunk_len hi, dropK_len hdl hi, Nat.add_mul_div_right _ _ hpos, Nat.div_self hpos, Nat.add_mul]
                  omega
                have hset := hit_mp (it := true) (S := S.var.bind false) (isIt_eq hit) ha hb2 h2'' hid hpl hl2 g1 g2
                refine ⟨_, _, ids, t', ht, hset.put o.dst ?_, hrunA, ((Ext.bind S ρ _ false).trans ((Ext.bind S.var _ _ false).trans (ext_set k false _))).put _ _⟩
                simp only [RV]
                exact ⟨_, rfl, _, _, rfl, ⟨rfl, rfl⟩, _, _, rfl, trivial, _, _, rfl, trivial, rfl⟩
        · cases h
      · cases h
    · cases h
theorem srt_plain (l : List Int) : plainC (l.map (PV.int .i64)) = true := by
  induction l with
  | nil => rfl
  | cons x l ih => simp only [List.map_cons, plainC, ih]; rfl
theorem sortP_len (cs : List PV) : (sortP cs).length = cs.length := by simp [sortP]
theorem after_nil' (s : St) : s.after [] s.m = s := by
  have : addEff s.a0.a s.eff [] = s.eff := by cases s.eff <;> simp [addEff]
  simp [St.after, PV.sub, this]
theorem seq_sort {c : Call} {f : Operand} {g : FuncId} {k : Nat} {a : AR} {fn : Func} (hS : SortOk X.P g) (hop : o.op = .call c) (hcal : c.callee = .value f) (hf : S.ev f = .fn g []) (hm : c.args.toList.map S.ev = [.own k]) (ha : S.ar.getD k none = some a) (hsz : a.sz = 1) (hst : a.born.still = true)
    (hfn : X.P.funcs[g]? = some fn) (hname : ¬ (fn.name = "runtime.NumGoroutine" ∨ fn.body.isNone = true)) (h : emit (.srt a.c) false S (fun v S => K ((S.setArr k false { a with c := v }).put o.dst .undef)) = .ok t) (hr : Rel F S ρ ids s) (hrun : Run X.P C n t ρ R) : SeqOk X F C n R K S ρ s o := by
  obtain ⟨t', ht, rfl⟩ := emit_ok h
  obtain ⟨v, hv, hrun⟩ := hrun.prim
  have hfv := hr.ev f
  rw [hf] at hfv
  unfold RV at hfv
  obtain ⟨l', e, hl⟩ := hfv
  simp only [RVL] at hl
  subst hl
  have hev := rva_evs hr c.args.toList
  rw [hm] at hev
  obtain ⟨q, l2, e2, hq, hl2⟩ := hev
  simp only [RVA] at hl2
  subst hl2
  unfold RV at hq
  obtain ⟨a', cs, h1, h2, h3⟩ := hq
  have : a' = a := by have := h1.symm.trans ha; injection this
  subst this
  have hden : a'.c.den ρ = .agg cs := h2.2.1
  simp only [Prim.run, hden, srtV] at hv
  split at hv
  case isFalse => cases hv
  rename_i hc
  injection hv with hv
  subst hv
  have hpl : plainC (sortP cs) = true := srt_plain _
  have hb := hr.bind (.agg (sortP cs)) false (by simp)
  obtain ⟨g1, g2⟩ := var_ok hr (.agg (sortP cs)) (by simpa only [PV.plain] using hpl)
  have h2' := AR.rel.mono (Env.le_bind S ρ ids (.agg (sortP cs)) false) h1 h2
  have hlen : (sortP cs).length = (sortP cs).length / a'.sz * a'.sz := by rw [hsz]; simp
  refine ⟨s, Silent.refl s, ?_⟩
  simp only [opW, hop, hcal, e]
  refine ⟨⟨fn, hfn, fun e => hname (.inl e), by cases hb : fn.body <;> simp [hb] at hname ⊢⟩, ?_⟩
  rw [List.append_nil, e2]
  have hnil := h2.2.2.2.2.1
  cases hid : ids k with
  | some id =>
    rw [show (S.env ρ ids).ids k = some id from hid, ownV_lst (still_lst hst), hsz] at h3
    rw [show (S.env ρ ids).ids k = some id from hid] at hnil
    simp only [Nat.div_one] at h3
    rw [h3]
    refine ECalls.y (((hS cs s.m hc.1 hc.2).1 id).mono ?_)
    rintro v E m' ⟨rfl, rfl, rfl⟩
    have hn' : isNil (ρ ++ [.agg (sortP cs)]) a'.born (sortP cs) = some false := by
      rw [isNil_bind (ρ := ρ) h2.2.2.2.2.2]
      have hnil' : isNil ρ a'.born cs = some false := hnil
      cases hb : a'.born with
      | real => rfl
      | nil0 =>
        rw [hb] at hnil'
        cases hcs : cs with
        | nil => rw [hcs] at hnil'; simp [isNil] at hnil'
        | cons x xs =>
          cases hs : sortP (x :: xs) with
          | nil => have := sortP_len (x :: xs); rw [hs] at this; simp at this
          | cons _ _ => rfl
      | dyn y => rw [hb] at hst; cases hst
      | map => rw [hb] at hst; cases hst
      | it => rw [hb] at hst; cases hst
    obtain ⟨r1, r2⟩ := hb.hit (k := k) (id := id) (c' := .var S.nv) (all := false) (EE := wrs id 0 (sortP cs)) h1 h2' hid (fun e he => by
        obtain ⟨m1, u, m2, p, rfl⟩ := mem_wrs he
        exact ⟨rfl, fun n an => plain_bd n an u ((plainC_iff _).1 hpl u m2).1⟩) g1 g2 hlen hn' (fun _ => by
          rw [ownV_lst (still_lst hst), ownV_lst (still_lst hst)]
          simp only
          rw [sub_wrs id a'.sz _ _ _ cs h2.plain hpl (by rw [sortP_len]; omega), sortP_len]
          congr 1
          simp [splice, sortP_len])
    refine ⟨_, _, ids, t', ht, r1.put o.dst (v := .undef) (by simp only [RV]), hrun, ((Ext.bind S ρ _ false).trans (ext_set k false _)).put _ _⟩
  | none =>
    rw [show (S.env ρ ids).ids k = none from hid, ownV_lst (still_lst hst)] at h3
    rw [show (S.env ρ ids).ids k = none from hid] at hnil
    obtain ⟨hb0, hcs⟩ := isNil_nil0 hst hnil
    subst hcs
    simp only at h3
    rw [h3]
    refine ECalls.y ((hS [] s.m hc.1 hc.2).2.mono ?_)
    rintro v E m' ⟨rfl, rfl, rfl⟩
    rw [after_nil']
    have hs0 : sortP [] = [] := by simp [sortP]
    rw [hs0] at hb g1 g2 h2' hrun
    obtain ⟨r1, r2⟩ := hb.hitG (k := k) (xid := none) (c' := .var S.nv) (cs' := []) (all := false) (EE := []) h1 h2' hid (fun e he => by cases he) g1 g2 (by simp) (by rw [hb0]; rfl) (fun _ => rfl)
    have hh : s.hit [] = s := by
      have : addEff s.a0.a s.eff [] = s.eff := by cases s.eff <;> simp [addEff]
      have hβ : (fun i => (s.m.β i).sub []) = s.m.β := by funext i; simp
      simp only [St.hit, PV.sub_nil, this, hβ]
    rw [hh] at r1
    refine ⟨_, _, ids, t', ht, r1.put o.dst (v := .undef) (by simp only [RV]), hrun, ((Ext.bind S ρ _ false).trans (ext_set k false _)).put _ _⟩
theorem seq_comp {c : Call} {f : Operand} {g : FuncId} {k : Nat} {a : AR} {fn : Func} (hS : CompOk X.P g) (hop : o.op = .call c) (hcal : c.callee = .value f) (hf : S.ev f = .fn g []) (hm : c.args.toList.map S.ev = [.own k]) (ha : S.ar.getD k none = some a) (hsz : a.sz = 1) (hst : a.born.still = true)
    (hfn : X.P.funcs[g]? = some fn) (hname : ¬ (fn.name = "runtime.NumGoroutine" ∨ fn.body.isNone = true)) (h : emit (.cpt a.born a.c) true S (fun v S => K ((S.setArr k true a).put o.dst (.e v))) = .ok t) (hr : Rel F S ρ ids s) (hrun : Run X.P C n t ρ R) : SeqOk X F C n R K S ρ s o := by
  obtain ⟨t', ht, rfl⟩ := emit_ok h
  obtain ⟨v, hv, hrunN⟩ := hrun.prim
  have hfv := hr.ev f
  rw [hf] at hfv
  unfold RV at hfv
  obtain ⟨l', e, hl⟩ := hfv
  simp only [RVL] at hl
  subst hl
  have hev := rva_evs hr c.args.toList
  rw [hm] at hev
  obtain ⟨q, l2, e2, hq, hl2⟩ := hev
  simp only [RVA] at hl2
  subst hl2
  unfold RV at hq
  obtain ⟨a', cs, h1, h2, h3⟩ := hq
  have : a' = a := by have := h1.symm.trans ha; injection this
  subst this
  have hden : a'.c.den ρ = .agg cs := h2.2.1
  have hnil : isNil ρ a'.born cs = some (ids k).isNone := h2.2.2.2.2.1
  simp only [Prim.run, hden, cptV, hnil] at hv
  split at hv
  case isFalse => cases hv
  rename_i hc
  have hvp : v.plain = true ∧ v.one = true := by
    split at hv
    · injection hv with hv; subst hv; exact ⟨rfl, rfl⟩
    · injection hv with hv; subst hv; exact ⟨by simp only [PV.plain]; exact srt_plain _, rfl⟩
    · cases hv
  have hb := hr.bind v true (fun _ => hvp.2)
  obtain ⟨g1, g2⟩ := var_ok hr v hvp.1
  have h2' := AR.rel.mono (Env.le_bind S ρ ids v true) h1 h2
  refine ⟨s, Silent.refl s, ?_⟩
  simp only [opW, hop, hcal, e]
  refine ⟨⟨fn, hfn, fun e => hname (.inl e), by cases hb : fn.body <;> simp [hb] at hname ⊢⟩, ?_⟩
  rw [List.append_nil, e2]
  have hc1 : SE.ok (ρ ++ [v]) a'.c := h2'.1
  have hc2 : SE.den (ρ ++ [v]) a'.c = .agg cs := h2'.2.1
  cases hid : ids k with
  | some id =>
    rw [show (S.env ρ ids).ids k = some id from hid, ownV_lst (still_lst hst), hsz] at h3
    rw [hid] at hv hnil
    simp only [Nat.div_one] at h3
    simp only [Option.isNone_some, Option.some.injEq] at hv
    rw [h3]
    refine ECalls.y (((hS cs s.m hc.1 hc.2).1 id).mono ?_)
    rintro w E m' ⟨rfl, rfl, rfl⟩
    obtain ⟨r1, r2⟩ := hb.hit (k := k) (id := id) (c' := a'.c) (all := true) (EE := [.kill id]) h1 h2' hid (fun e he => by simp only [List.mem_singleton] at he; subst he; exact ⟨rfl, trivial⟩) hc1 hc2 h2.2.2.2.1 (by rw [isNil_bind (ρ := ρ) h2.2.2.2.2.2]; exact hnil) (fun e => by cases e)
    refine ⟨_, _, ids, t', ht, r1.put o.dst (v := .e (.var S.nv)) ?_, hrunN, ((Ext.bind S ρ _ true).trans (ext_set k true _)).put _ _⟩
    simp only [RV]
    exact ⟨hv.trans g2.symm, g1⟩
  | none =>
    rw [show (S.env ρ ids).ids k = none from hid, ownV_lst (still_lst hst)] at h3
    rw [hid] at hv hnil
    obtain ⟨hb0, hcs⟩ := isNil_nil0 hst hnil
    subst hcs
    simp only [Option.isNone_none, Option.some.injEq] at hv
    simp only at h3
    rw [h3]
    refine ECalls.y ((hS [] s.m hc.1 hc.2).2.mono ?_)
    rintro w E m' ⟨rfl, rfl, rfl⟩
    rw [after_nil']
    obtain ⟨r1, r2⟩ := hb.hitG (k := k) (xid := none) (c' := a'.c) (cs' := []) (all := true) (EE := []) h1 h2' hid (fun e he => by cases he) hc1 hc2 (by simp) (by rw [hb0]; rfl) (fun _ => rfl)
    have hh : s.hit [] = s := by
      have : addEff s.a0.a s.eff [] = s.eff := by cases s.eff <;> simp [addEff]
      have hβ : (fun i => (s.m.β i).sub []) = s.m.β := by funext i; simp
      simp only [St.hit, PV.sub_nil, this, hβ]
    rw [hh] at r1
    refine ⟨_, _, ids, t', ht, r1.put o.dst (v := .e (.var S.nv)) ?_, hrunN, ((Ext.bind S ρ _ true).trans (ext_set k true _)).put _ _⟩
    simp only [RV]
    exact ⟨hv.trans g2.symm, g1⟩
end
end Go.Proofs.Ytlminnpaeaganaa
namespace Go.Proofs.Ytlminnpaeaganaa
open Go Go.RowKit
set_option linter.unusedVariables false
set_option linter.unusedSimpArgs false
def RngOk (X : Ctx) (C : Orc → FuncId → List PV → Option PV) (n : Nat) (inl : Inl) : Prop :=
  ∀ (F : Frm) (R : Out → Prop) (f : FuncId) (h : Operand) (ps : Array Tmp) (a b : Code) (p : Nat) (K : Ex → Sym → M) (S : Sym) (ρ : List PV) (ids : Nat → Option Nat) (s : St) (t : Tree),
    F.P = X.P → CSound X.P F.DI C → NewOk X.P F.DI X.diceNew → OwnAll X F.DI C → compRange X inl f h ps a b p S K = .ok t → Rel F S ρ ids s → Run X.P C n t ρ R →
    CodeSem X.P (.rangeFunc h ps a b) s fun e s' => Stp X F C n R (K e) S ρ s'
structure Known (X : Ctx) (DI : List PV → Prop) (C : Orc → FuncId → List PV → Option PV) (n : Nat) (il yi : Inl) : Prop where
  c : CSound X.P DI C
  new : NewOk X.P DI X.diceNew
  inl : InlOk X C n il
  yl : YldOk X C n yi
  rng : RngOk X C n il
  own : ∀ g r, findOr X.ownr g = some r → OwnSound X.P DI C g r.1
section
variable {X : Ctx} {F : Frm} {C : Orc → FuncId → List PV → Option PV} {n : Nat} {R : Out → Prop} {S : Sym} {ρ : List PV} {ids : Nat → Option Nat} {s : St} {K : Sym → M} {t : Tree} {o : Oper} {m0 : Mem} {inl yl : Inl} {lx : Option Nat} {key : Nat} {E : Env}
theorem map_ok {α β : Type} {x : Except String α} {f : α → β} {b : β} (h : Except.map f x = .ok b) : ∃ a, x = .ok a ∧ f a = b := by
  cases x with
  | error e => cases h
  | ok a => exact ⟨a, rfl, by simpa [Except.map] using h⟩
theorem bind_ok {α β : Type} {x : Except String α} {f : α → Except String β} {b : β} (h : (x >>= f) = .ok b) : ∃ a, x = .ok a ∧ f a = .ok b := by
  cases x with
  | error e => cases h
  | ok a => exact ⟨a, rfl, h⟩
theorem seq_call {c : Call} {f : Operand} (hF : F.P = X.P) (hk : Known X F.DI C n inl yl) (hop : o.op = .call c) (hcal : c.callee = .value f) (h : compCall X inl yl none key o f c.args.toList S K = .ok t) (hr : Rel F S ρ ids s) (hrun : Run X.P C n t ρ R) : SeqOk X F C n R K S ρ s o := by
  unfold compCall at h
  split at h
  · rename_i g caps hf
    split at h
    · rename_i fn hfn
      split at h
      · cases h
      · rename_i hname
        split at h
        · rename_i hg
          simp only [Option.isSome_none, Bool.false_eq_true, if_false] at h
          refine seq_thaw h hr hrun fun S ρ ids s t h hr hrun => ?_
          split at h
          · rename_i g' _ p hf' hp
            split at h
            · rename_i hgg
              exact seq_dice hk.new hop hcal (by rw [hf', hgg, hg]) hp (by rw [← hg]; exact hfn) hname h hr hrun
            · cases h
          · cases h
        · split at h
          · rename_i hsrt
            simp only [Option.isSome_none, Bool.false_eq_true, if_false] at h
            split at h
            · rename_i k hargs
              split at h
              · rename_i a ha
                split at h
                · rename_i hc
                  exact seq_sort (hk.new.srt _ hsrt) hop hcal hf hargs ha hc.1 hc.2 hfn hname h hr hrun
                · cases h
              · cases h
            · cases h
          split at h
          · rename_i hcpt
            simp only [Option.isSome_none, Bool.false_eq_true, if_false] at h
            split at h
            · rename_i k hargs
              split at h
              · rename_i a ha
                split at h
                · rename_i hc
                  exact seq_comp (hk.new.cpt _ hcpt) hop hcal hf hargs ha hc.1 hc.2 hfn hname h hr hrun
                · cases h
              · cases h
            · cases h
          split at h
          · exact seq_inl hF hk.c hk.new hk.own hk.inl hop hcal hf hfn hname h hr hrun
          · refine seq_thaw h hr hrun fun S ρ ids s t h hr hrun => ?_
            split at h
            · rename_i g' caps' hf'
              split at h
              · rename_i hgg
                subst hgg
                split at h
                · rename_i ps hps
                  obtain ⟨t', ht, h⟩ := map_ok h
                  have hfv := hr.ev f
                  rw [hf'] at hfv
                  unfold RV at hfv
                  obtain ⟨l', e, hl⟩ := hfv
                  subst h
                  obtain ⟨h1, h2⟩ := hrun.call
                  have ha := litArgs_ok (m0 := s.m) (lx := none) hr rfl ⟨Nat.le_refl _, fun _ _ => rfl⟩ hps (rva_append (rva_evs hr _) (rva_of_rvl hl))
                  have plain : K (S.var.put o.dst (.e (.var S.nv))) = .ok t' → SeqOk X F C n R K S ρ s o := fun ht =>
                    seq_pure_call (args := ps) (args' := []) hk.c hop hcal e (by rw [List.append_nil]; exact ha) (by rw [List.append_nil]; exact h1) (by rw [List.append_nil]; exact h2) hr ht
                  split at ht
                  · rename_i r hfind
                    split at ht
                    · refine ⟨s, Silent.refl s, ?_⟩
                      simp only [opW, hop, hcal, e]
                      obtain ⟨v0, hv0⟩ := Option.isSome_iff_exists.1 (h1 orc0)
                      refine ⟨hk.c.fn _ _ _ _ hv0, ((hk.own g' r hfind _ h1 _ s.m ha).mono ?_).y⟩
                      rintro v E m' ⟨p, ω, hv, hp, rfl, hm', han, ho⟩
                      have haft : s.after [] m' = { s with m := m' } := by
                        have : addEff s.a0.a s.eff [] = s.eff := by cases s.eff <;> simp [addEff]
                        simp [St.after, PV.sub, this]
                      rw [haft]
                      obtain ⟨S'', ρ'', ids'', t'', k1, k2, k3, k4⟩ := takeOwn_ok (X := X) ht hr (h2 ω p hv) hp ho hm' han
                      exact ⟨S'', ρ'', ids'', t'', k1, k2, k3, k4⟩
                    · split at ht
                      · rename_i hx; simp at hx
                      · exact plain ht
                  · exact plain ht
                · cases h
              · cases h
            · cases h
    · cases h
  · simp only [Option.isSome_none, Bool.false_and, Bool.false_eq_true, if_false] at h
    refine seq_thaw h hr hrun fun S ρ ids s t h hr hrun => ?_
    split at h
    · rename_i x hx
      split at h
      · rename_i ps hps
        obtain ⟨t', ht, h⟩ := map_ok h
        subst h
        obtain ⟨g, caps, e, h1, h2⟩ := hrun.callv
        have hfv := hr.ev f
        rw [hx] at hfv
        unfold RV at hfv
        have e' : s.ev f = .fn g caps := by rw [hfv.1]; exact e
        have hpl : (s.ev f).plain = true := by rw [hfv.1]; exact SE.ok_plain hfv.2
        rw [e'] at hpl
        have hcp : plainC caps = true := by simpa only [PV.plain] using hpl
        have ha := litArgs_ok (m0 := s.m) (lx := none) hr rfl ⟨Nat.le_refl _, fun _ _ => rfl⟩ hps (rva_evs hr _)
        have hcl : ∀ {a a' : List PV} {b : List PV}, ArgL F.DI s.m a a' → plainC b = true → ArgL F.DI s.m (a ++ b) (a' ++ b) := by
          intro a
          induction a with
          | nil =>
            intro a' b h hb
            simp only [ArgL] at h
            subst h
            induction b with
            | nil => rfl
            | cons q b ih =>
              simp only [plainC, Bool.and_eq_true] at hb
              exact ⟨q, b, rfl, .inl ⟨rfl, hb.1.1⟩, ih hb.2⟩
          | cons p a ih =>
            rintro a' b ⟨q, l', rfl, h1, h2⟩ hb
            exact ⟨q, l' ++ b, rfl, h1, ih h2 hb⟩
        exact seq_pure_call hk.c hop hcal e' (hcl ha hcp) h1 h2 hr ht
      · cases h
    · cases h
  · rename_i y hf
    simp only [Option.isSome_none, Bool.false_eq_true, if_false] at h
    exact seq_yld hF hk.c hk.new hk.own hk.yl hop hcal hf h hr hrun
  · cases h
theorem seq_op (hF : F.P = X.P) (hk : Known X F.DI C n inl yl) (h : compOp X inl yl none key o S K = .ok t) (hr : Rel F S ρ ids s) (hrun : Run X.P C n t ρ R) : SeqOk X F C n R K S ρ s o := by
  unfold compOp at h
  split at h
  · rename_i x hop
    exact seq_of_pure (by simp [hop]) (pure_put h hr hrun (by simp only [pureV, hop]) (hr.ev x))
  · rename_i x hop
    exact seq_of_pure (by simp [hop]) (pure_put h hr hrun (by simp only [pureV, hop]) (hr.ev x))
  · rename_i c x y hop
    exact seq_of_pure (by simp [hop]) (ok_pick hop h hr hrun)
  · rename_i op ty x y ty' hop
    split at h
    · rename_i p q hp hq
      exact seq_of_pure (by simp [hop]) (ok_bin hop hp hq h hr hrun)
    · cases h
  · rename_i ty x hop
    split at h
    · rename_i b hp
      obtain ⟨e, _⟩ := hr.pe hp
      exact seq_of_pure (by simp [hop]) (pure_put h hr hrun (pv := .bool !b) (by simp only [pureV, hop, e]; rfl) (by unfold RV; exact ⟨rfl, rfl⟩))
    · rename_i p _ hp
      exact seq_of_pure (by simp [hop]) (ok_un hop hp h hr hrun)
    · cases h
  · rename_i op ty x _ hop
    split at h
    · rename_i p hp
      exact seq_of_pure (by simp [hop]) (ok_un hop hp h hr hrun)
    · cases h
  · rename_i a b x hop
    split at h
    · rename_i p hp
      exact seq_of_pure (by simp [hop]) (ok_conv hop hp h hr hrun)
    · cases h
  · rename_i x hop
    exact seq_of_pure (by simp [hop]) (ok_nil hop h hr hrun)
  · rename_i x i hop
    exact seq_of_pure (by simp [hop]) (ok_ext hop h hr hrun)
  · rename_i ty x f hop
    exact seq_of_pure (by simp [hop]) (ok_field hop h hr hrun)
  · rename_i ty x f hop
    exact seq_of_pure (by simp [hop]) (ok_fieldV hop h hr hrun)
  · rename_i ty x i hop
    exact seq_of_pure (by simp [hop]) (ok_indexAddr hop h hr hrun)
  · rename_i ty x i hop
    split at h
    · rename_i p q hp hq
      exact seq_of_pure (by simp [hop]) (ok_index hop hp hq h hr hrun)
    · cases h
  · rename_i ty x hop
    exact seq_of_pure (by simp [hop]) (ok_load (lx := none) hop h hr rfl hrun)
  · rename_i ty x y hop
    exact seq_store hop h hr hrun
  · rename_i ty x hop
    exact seq_box hop h hr hrun
  · rename_i ty hop
    split at h
    · rename_i z hz
      split at h
      · rename_i hp
        exact seq_alloc hop hz hp h hr hrun
      · cases h
    · cases h
  · rename_i ty parts hop
    exact seq_of_pure (by simp [hop]) (ok_build hop h hr hrun)
  · rename_i ty len parts hop
    exact seq_buildSlice hop h hr hrun
  · rename_i ty l c hop
    exact seq_make hop h hr hrun
  · rename_i ty x lo hi hop
    unfold compSlice at h
    refine seq_thaw h hr hrun fun S ρ ids s t h hr hrun => ?_
    split at h
    · rename_i p a b hp ha hb
      exact seq_of_pure (by simp [hop]) (ok_slice hop hp ha hb h hr hrun)
    · cases h
  · rename_i f first caps hop
    split at h
    · cases h
    · rename_i hc
      have h1 : first.size = 0 := Classical.byContradiction fun e => hc (.inl e)
      have h2 : (caps.toList.all fun x => (S.ev x).cellish S) = true := by
        cases hh : (caps.toList.all fun x => (S.ev x).cellish S) with
        | true => rfl
        | false => exact absurd (.inr hh) hc
      exact seq_of_pure (by simp [hop]) (ok_makeFunc hop h1 h h2 hr hrun)
  · rename_i c hop
    split at h
    · rename_i f hcal
      exact seq_call hF hk hop hcal h hr hrun
    · rename_i hcal
      split at h
      · rename_i ty x ht hx
        exact seq_of_pure (by simp [hop]) (ok_len hop hcal ht hx h hr hrun)
      · cases h
    · rename_i hcal
      split at h
      · rename_i l hl
        exact seq_of_pure (by simp [hop]) (ok_min hop hcal hl h hr hrun)
      · cases h
    · rename_i hcal
      split at h
      · rename_i l hl
        exact seq_of_pure (by simp [hop]) (ok_max hop hcal hl h hr hrun)
      · cases h
    · rename_i hcal
      split at h
      · rename_i ty ty' x y hat har
        split at h
        · rename_i e
          subst e
          exact seq_append hop hcal hat har h hr hrun
        · cases h
      · cases h
    · cases h
  · rename_i ty r hop
    exact seq_makeMap hop h hr hrun
  · rename_i ty m k x hop
    exact seq_mapUpdate hop h hr hrun
  · rename_i ty x hop
    exact seq_rangeM hop h hr hrun
  · rename_i x str hop
    exact seq_next hop h hr hrun
  · rename_i x hop
    exact seq_entry hop h hr hrun
  · simp only [pure, Except.pure, Except.ok.injEq] at h
    subst h
    obtain ⟨o, ho, _⟩ := hrun orc0
    simp [eval] at ho
  · simp only [pure, Except.pure, Except.ok.injEq] at h
    subst h
    obtain ⟨o, ho, _⟩ := hrun orc0
    simp [eval] at ho
  · cases h
end
end Go.Proofs.Ytlminnpaeaganaa
namespace Go.Proofs.Ytlminnpaeaganaa
open Go Go.RowKit
set_option linter.unusedVariables false
set_option linter.unusedSimpArgs false
section
variable {X : Ctx} {F : Frm} {C : Orc → FuncId → List PV → Option PV} {n : Nat} {R : Out → Prop} {S : Sym} {ρ : List PV} {ids : Nat → Option Nat} {s : St} {K : Sym → M} {t : Tree} {o : Oper} {m0 : Mem} {inl yl : Inl} {lx : Option Nat} {key : Nat} {E : Env} {ops : Array Oper} {rid : Nat}
theorem put_same {s : St} {d : Nat} {v : PV} (h : s.g d = v) : s.put (some d) v = s := by
  cases s with
  | mk g m a0 eff =>
    simp only [St.put] at h ⊢
    congr 1
    funext u
    split
    · rename_i e; rw [e]; exact h.symm
    · rfl
theorem rel_know (hr : Rel F S ρ ids s) {d : Nat} {b : Bool} (h : s.g d = .bool b) : Rel F (S.put (some d) (.e (.cst (.bool b)))) ρ ids s := by
  have := hr.put (some d) (v := .e (.cst (.bool b))) (q := .bool b) (by unfold RV; exact ⟨rfl, rfl⟩)
  rwa [put_same h] at this
theorem rel_skip (hr : Rel F S ρ ids s) (d : Option Tmp) : Rel F (S.put d .undef) ρ ids (s.put d .undef) := hr.put d (by simp only [RV])
theorem opsW_mono {P : Program} {K K' : St → Prop} (hk : ∀ s, K s → K' s) : ∀ (l : List Oper) (s : St), opsW P ops l s K → opsW P ops l s K'
  | [], s, h => hk s h
  | o :: l, s, h => guard_imp h (fun ⟨s1, h1, h2⟩ => ⟨s1, h1, opW_imp (fun s' _ h => opsW_mono hk l s' h) h2⟩) (fun h => opsW_mono hk l _ h)
theorem iteM_ok {x : SE} {a b : M} (h : iteM x a b = .ok t) : ∃ a' b', a = .ok a' ∧ b = .ok b' ∧ t = .ite x a' b' := by
  unfold iteM at h
  split at h
  · rename_i a' b'
    injection h with h
    exact ⟨a', b', rfl, rfl, h.symm⟩
  · cases h
  · cases h
theorem seq_ops (hF : F.P = X.P) (hk : Known X F.DI C n inl yl) : ∀ (l : List Oper) (i : Nat) {S : Sym} {ρ : List PV} {ids : Nat → Option Nat} {s : St} {t : Tree}, compOps X inl yl none ops rid l i S K = .ok t → Rel F S ρ ids s → Run X.P C n t ρ R →
    opsW X.P ops l s fun s' => Stp X F C n R K S ρ s'
  | [], i, S, ρ, ids, s, t, h, hr, hrun => by
    simp only [compOps] at h
    exact ⟨S, ρ, ids, t, h, hr, hrun, Ext.refl S ρ⟩
  | o :: l, i, S, ρ, ids, s, t, h, hr, hrun => by
    have run : ∀ {S : Sym} {t : Tree}, compOp X inl yl none (rid * 1000 + i) o S (fun S => compOps X inl yl none ops rid l (i + 1) S K) = .ok t → Rel F S ρ ids s → Run X.P C n t ρ R →
        ∃ s1, Silent s s1 ∧ opW X.P s1 o fun s' => opsW X.P ops l s' fun s' => Stp X F C n R K S ρ s' := fun {S t} h hr hrun => by
      obtain ⟨s1, q1, q2⟩ := seq_op hF hk h hr hrun
      refine ⟨s1, q1, opW_imp (fun s' _ hs => ?_) q2⟩
      obtain ⟨S', ρ', ids', t', h1, h2, h3, h4⟩ := hs
      exact opsW_mono (fun s'' h => stp_mono h4 h) l s' (seq_ops hF hk l (i + 1) h1 h2 h3)
    have skip : ∀ {S : Sym} {t : Tree}, compOps X inl yl none ops rid l (i + 1) (S.put o.dst .undef) K = .ok t → Rel F S ρ ids s → Run X.P C n t ρ R → opsW X.P ops l (s.put o.dst .undef) fun s' => Stp X F C n R K S ρ s' := fun {S t} h hr hrun =>
      opsW_mono (fun s'' h => stp_mono ((Ext.refl S ρ).put _ _) h) l _ (seq_ops hF hk l (i + 1) h (rel_skip hr o.dst) hrun)
    have back : ∀ {d : Nat} {v : SV} {s' : St}, Stp X F C n R K (S.put (some d) v) ρ s' → Stp X F C n R K S ρ s' := fun h => stp_mono ((Ext.refl S ρ).put _ _) h
    simp only [compOps] at h
    simp only [opsW, guardW]
    split at h
    · rename_i hg
      simp only [hg]
      exact run h hr hrun
    · rename_i j want hg
      simp only [hg]
      split at h
      · rename_i hd
        simp only [hd]
        exact skip h hr hrun
      · rename_i d hd
        simp only [hd]
        have hsl := hr.slot d
        split at h
        · rename_i hv
          rw [hv] at hsl
          simp only [RV] at hsl
          simp only [hsl]
          exact skip h hr hrun
        · rename_i b hv
          rw [hv] at hsl
          simp only [RV, SE.den] at hsl
          simp only [hsl.1]
          split at h
          · rename_i hb
            rw [if_pos hb]
            exact run h hr hrun
          · rename_i hb
            rw [if_neg hb]
            exact skip h hr hrun
        · rename_i x _ hv
          rw [hv] at hsl
          simp only [RV] at hsl
          cases want with
          | true =>
            simp only [if_true] at h
            obtain ⟨a, b, ha, hb, rfl⟩ := iteM_ok h
            rcases hrun.ite with ⟨h1, h2⟩ | ⟨h1, h2⟩
            · have e : s.g d = .bool true := by rw [hsl.1]; exact h1
              simp only [e, if_true]
              obtain ⟨s1, q1, q2⟩ := run ha (rel_know hr e) h2
              exact ⟨s1, q1, opW_imp (fun s' _ h => opsW_mono (fun s'' h => back h) l s' h) q2⟩
            · have e : s.g d = .bool false := by rw [hsl.1]; exact h1
              simp only [e, Bool.false_eq_true, if_false]
              exact opsW_mono (fun s'' h => back h) l _ (skip hb (rel_know hr e) h2)
          | false =>
            simp only [Bool.false_eq_true, if_false] at h
            obtain ⟨a, b, ha, hb, rfl⟩ := iteM_ok h
            rcases hrun.ite with ⟨h1, h2⟩ | ⟨h1, h2⟩
            · have e : s.g d = .bool true := by rw [hsl.1]; exact h1
              simp only [e, Bool.true_eq_false, if_false]
              exact opsW_mono (fun s'' h => back h) l _ (skip ha (rel_know hr e) h2)
            · have e : s.g d = .bool false := by rw [hsl.1]; exact h1
              simp only [e, if_true]
              obtain ⟨s1, q1, q2⟩ := run hb (rel_know hr e) h2
              exact ⟨s1, q1, opW_imp (fun s' _ h => opsW_mono (fun s'' h => back h) l s' h) q2⟩
        · cases h
def StpN (X : Ctx) (F : Frm) (C : Orc → FuncId → List PV → Option PV) (n : Nat) (R : Out → Prop) (K : Sym → M) (S : Sym) (ρ : List PV) (b : Nat) (m0 : Mem) (s' : St) : Prop := Stp X F C n R K S ρ s' ∧ NearX F (some b) m0 s'
def tabX (X : Ctx) (C : Orc → FuncId → List PV → Option PV) : Tab := fun g args an v an' => match findOr X.ownr g with
  | none => an' = an ∧ v.plain = true ∧ ∃ ω, C ω g (args.map detok) = some v
  | some r => ∃ p ω, C ω g (args.map detok) = some p ∧ p.plain = true ∧ an ≤ an' ∧ OwnV r.1 p v an an'
theorem callOk_C {DI : List PV → Prop} (hC : CSound X.P DI C) (ho : ∀ g r, findOr X.ownr g = some r → OwnSound X.P DI C g r.1) {g : FuncId} {args args' : List PV} (ha : ∀ m, Near m0 m → ArgL DI m args args') (hsome : ∀ ω, (C ω g args).isSome) (an : Nat) (hsh : ∀ r, findOr X.ownr g = some r → ∀ ω p, C ω g args = some p → ∃ v, OwnV r.1 p v an (an + 1)) : callOk X.P m0 (tabX X C) g args' an := by
  have hd : args'.map detok = args := argL_detok (ha m0 ⟨Nat.le_refl _, fun _ _ => rfl⟩)
  unfold callOk tabX
  cases hf : findOr X.ownr g with
  | none =>
    simp only []
    have hans := fun m hm => hC.ans g args hsome args' m (ha m hm)
    refine ⟨?_, fun m hm han => (hans m hm).mono ?_⟩
    · obtain ⟨v, hv⟩ := Option.isSome_iff_exists.1 (hsome orc0)
      exact ⟨v, an, rfl, hC.plain _ _ _ _ hv, orc0, by rw [hd]; exact hv⟩
    · rintro v E m' ⟨⟨ω, hv⟩, hp, rfl, rfl⟩
      exact ⟨rfl, rfl, Nat.le_refl _, by rw [← han], hp, ω, by rw [hd]; exact hv⟩
  | some r =>
    simp only []
    refine ⟨?_, fun m hm han => (ho g r hf args hsome args' m (ha m hm)).mono ?_⟩
    · obtain ⟨v, hv⟩ := Option.isSome_iff_exists.1 (hsome orc0)
      obtain ⟨y, hy⟩ := hsh r hf orc0 v hv
      exact ⟨y, an + 1, v, orc0, by rw [hd]; exact hv, hC.plain _ _ _ _ hv, by omega, hy⟩
    · rintro v E m' ⟨p, ω, hv, hp, rfl, hm', han', hov⟩
      exact ⟨rfl, hm', han', p, ω, by rw [hd]; exact hv, hp, by omega, by rw [← han]; exact hov⟩
end
end Go.Proofs.Ytlminnpaeaganaa
