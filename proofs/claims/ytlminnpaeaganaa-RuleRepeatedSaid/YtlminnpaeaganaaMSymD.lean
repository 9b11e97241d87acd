/- Symbolic execution: residual programs. No condition. -/
import Derived.Test.YtlminnpaeaganaaMSymC
namespace Go.Proofs.Ytlminnpaeaganaa
open Go Go.RowKit
set_option linter.unusedVariables false
set_option linter.unusedSimpArgs false
theorem hom_id : Hom (fun q => q) := ⟨fun _ _ => rfl, rfl, fun l => by simp, fun l => by simp, fun f l => by simp, fun _ _ _ l => by simp, fun _ l => by simp, fun _ => rfl, fun q h _ => .inl h⟩
theorem frz_sl_other {id i : Nat} (h : i ≠ id) {sz off len : Nat} {cs : List PV} (hc : plainC cs = true) : PV.frz id (.sl (some i) sz off len cs) = .sl (some i) sz off len cs := by
  simp only [PV.frz, if_neg h, plainC_frz id cs hc]
theorem frz_own_other {id i : Nat} (h : i ≠ id) {b : BN} {sz : Nat} {cs : List PV} (hc : plainC cs = true) : PV.frz id (ownV b (some i) sz cs) = ownV b (some i) sz cs := by
  unfold ownV
  cases b with
  | map => simp only [PV.frz, if_neg h]
  | it => simp only [PV.frz, if_neg h]
  | _ => exact frz_sl_other h hc
theorem frz_eref_other {id i : Nat} (h : i ≠ id) {off : Nat} {cs : List PV} (hc : plainC cs = true) : PV.frz id (.eref (some i) off cs) = .eref (some i) off cs := by
  simp only [PV.frz, if_neg h, plainC_frz id cs hc]
section
variable {X : Ctx} {F : Frm} {C : Orc → FuncId → List PV → Option PV} {n : Nat} {R : Out → Prop} {S : Sym} {ρ : List PV} {ids : Nat → Option Nat} {s : St} {K : Sym → M} {t : Tree} {o : Oper} {m0 : Mem} {inl yl : Inl} {lx : Option Nat} {key : Nat} {E : Env}
theorem ar_frz {k j : Nat} {x : SE} (hj : j ≠ k) : (S.frzArr k x).ar.getD j none = S.ar.getD j none := by
  simp only [Sym.frzArr, Sym.mapV]
  rw [getD_set, if_neg (fun e => hj e.1)]
theorem ar_frz_self {k : Nat} {x : SE} : (S.frzArr k x).ar.getD k none = none := by
  simp only [Sym.frzArr, Sym.mapV]
  rw [getD_set]
  split
  · rfl
  · rename_i h
    simp only [true_and, Nat.not_lt] at h
    simp [List.getD_eq_getElem?_getD, List.getElem?_eq_none h]
theorem tr_frz (h : Rel F S ρ ids s) {k : Nat} {a : AR} {cs : List PV} {x : SE} {T : PV → PV} (hT : Hom T) (ha : S.ar.getD k none = some a) (hr : a.rel (S.env ρ ids) k cs) (hx1 : x.ok ρ)
    (hp : ∀ i o, T (.ptr i o) = .ptr i o) (hself : T (ownV a.born (ids k) a.sz cs) = x.den ρ) (hone : (x.den ρ).one = true)
    (hsl : ∀ j id b sz l, j ≠ k → ids j = some id → plainC l = true → T (ownV b (some id) sz l) = ownV b (some id) sz l) (hsn : T .snil = .snil)
    (her : ∀ j id off l, j ≠ k → ids j = some id → plainC l = true → T (.eref (some id) off l) = .eref (some id) off l) :
    Tr F (S.env ρ ids) ((S.frzArr k x).env ρ (withId ids k none)) (SV.frz k x) T := by
  have hother : ∀ j b, j ≠ k → (S.env ρ ids).ar.getD j none = some b → ((S.frzArr k x).env ρ (withId ids k none)).ar.getD j none = some b := fun j b hj hb => by
    simp only [Sym.env]
    rw [ar_frz hj]
    exact hb
  have hrel : ∀ j b l, j ≠ k → AR.rel (S.env ρ ids) j b l → AR.rel ((S.frzArr k x).env ρ (withId ids k none)) j b l := fun j b l hj hb => by
    obtain ⟨g1, g2, g3, g4, g5, g6⟩ := hb
    refine ⟨g1, g2, g3, g4, ?_, g6⟩
    rw [show ((S.frzArr k x).env ρ (withId ids k none)).ids j = ids j by simp [Sym.env, withId, hj]]
    exact g5
  have hids : ∀ j, j ≠ k → ((S.frzArr k x).env ρ (withId ids k none)).ids j = ids j := fun j hj => by simp [Sym.env, withId, hj]
  refine ⟨hT, List.prefix_refl _, fun _ => rfl, rfl, rfl, rfl, fun _ _ _ => rfl, fun _ => by simp only [SV.frz], fun g l => by simp only [SV.frz, frzSL_eq], fun l => by simp only [SV.frz, frzSL_eq], fun l => by simp only [SV.frz, frzSL_eq], fun _ _ l => by simp only [SV.frz, frzSL_eq], fun l _ => by simp only [SV.frz, frzSL_eq], fun i o q hq => ?_, fun q hq => ?_, fun j q hq => ?_, fun j y fo q hq => ?_⟩
  · have hq' := hq
    unfold RV at hq'
    rw [hq'.1, hp]
    refine ⟨?_, .inr rfl⟩
    show RV F _ (SV.ptr i o) _
    unfold RV
    exact ⟨rfl, by have := hq'.2; simpa [Sym.env, Sym.frzArr, Sym.mapV] using this⟩
  · unfold RV at hq
    rw [hq.1, hp]
  · unfold RV at hq
    obtain ⟨b, csj, g1, g2, g3⟩ := hq
    by_cases hjk : j = k
    · subst hjk
      simp only [SV.frz, if_true]
      have hb : b = a := by have := g1.symm.trans ha; injection this
      subst hb
      have hcs := AR.rel_of g2 hr
      subst hcs
      have e : T q = x.den ρ := by rw [g3]; exact hself
      rw [e]
      refine ⟨?_, .inr hone⟩
      unfold RV
      exact ⟨rfl, hx1⟩
    · simp only [SV.frz, hjk, if_false]
      have hT' : T q = q := by
        rw [g3]
        cases hi : (S.env ρ ids).ids j with
        | none => exact hsn
        | some id' => exact hsl j id' _ _ _ hjk hi g2.plain
      rw [hT']
      refine ⟨?_, .inr (by rw [g3]; exact ownV_one _ _ _ _)⟩
      unfold RV
      exact ⟨b, csj, hother j b hjk g1, hrel j b csj hjk g2, by rw [hids j hjk]; exact g3⟩
  · unfold RV at hq
    obtain ⟨b, csj, id', nn, kk, g1, g2, g3, g4, g5, g6, g7, g8⟩ := hq
    by_cases hjk : j = k
    · simp only [SV.frz, hjk, if_true]; exact ⟨by simp only [RV], .inl trivial⟩
    · simp only [SV.frz, hjk, if_false]
      have hT' : T q = q := by
        rw [g8]
        exact her j id' _ _ hjk g3 (plainC_drop g2.plain _)
      rw [hT']
      refine ⟨?_, .inr (by rw [g8]; rfl)⟩
      unfold RV
      exact ⟨b, csj, id', nn, kk, hother j b hjk g1, hrel j b csj hjk g2, by rw [hids j hjk]; exact g3, g4, g5, g6, g7, g8⟩
theorem rel_frz_mk (h : Rel F S ρ ids s) {k : Nat} {x : SE} {T : PV → PV} {s' : St} (tr : Tr F (S.env ρ ids) ((S.frzArr k x).env ρ (withId ids k none)) (SV.frz k x) T)
    (hg : ∀ t, s'.g t = T (s.g t)) (hn : s'.m.n = s.m.n) (han : s'.m.an = s.m.an) (hold : ∀ i, i < F.n0 → s'.m.β i = F.β0 i) (hβ : ∀ i l, s.m.β i = .cells l → s'.m.β i = .cells (l.map T)) (hβi : ∀ i I, s.m.β i = .inv I → s'.m.β i = .inv I)
    (h0 : s'.a0 = s.a0) (he : ∀ e ∈ s'.eff, F.A0 ≤ e.id ∧ e.clean) (hee : (S.eff || decide (k < S.base)) = false ∨ F.A0 = F.ent.a → s'.eff = []) (hrc : s'.m.rc = s.m.rc) : Rel F (S.frzArr k x) ρ (withId ids k none) s' := by
  refine ⟨h.len, h.kn, fun t => ?_, by rw [hn]; simpa [Sym.frzArr, Sym.mapV] using h.boxn, hold, fun i b hb => ?_, fun j id' hj => ?_, fun j j' id' hj hj' => ?_, fun j b hb => ?_, by rw [h0]; exact h.a0, h.ent, he, hee, fun hef j id' hj hge => ?_, fun hef j hj => ?_, h.bbase, by simpa [Sym.frzArr, Sym.mapV] using h.ba, by simpa [Sym.frzArr, Sym.mapV] using h.bb, by rw [han]; exact h.an, h.obd, by rw [hrc]; exact h.rc⟩
  · have : (S.frzArr k x).get t = SV.frz k x (S.get t) := by
      simp only [Sym.get, Sym.frzArr, Sym.mapV]
      exact getD_map rfl t
    rw [this, hg]
    exact tr.rv (h.slot t)
  · simp only [Sym.frzArr, Sym.mapV, List.getElem?_map] at hb
    obtain ⟨b0, hb0, rfl⟩ := Option.map_eq_some_iff.1 hb
    have hbox := h.box i b0 hb0
    cases b0 with
    | cells l =>
      obtain ⟨l', e1, e2⟩ := hbox
      exact ⟨_, hβ _ _ e1, tr.rvl e2⟩
    | dice => exact hβi _ _ hbox
    | gone => trivial
  · simp only [withId] at hj
    split at hj
    · cases hj
    · obtain ⟨g1, g2, g3⟩ := h.idlt j id' hj
      exact ⟨g1, by rw [han]; exact g2, by simpa [Sym.frzArr, Sym.mapV] using g3⟩
  · simp only [withId] at hj hj'
    split at hj <;> first | (cases hj; done) | skip
    split at hj' <;> first | (cases hj'; done) | skip
    exact h.idinj j j' id' hj hj'
  · by_cases hjk : j = k
    · subst hjk
      rw [ar_frz_self] at hb
      cases hb
    · rw [ar_frz hjk] at hb
      obtain ⟨cs, g1, g2, g3, g4, g5, g6⟩ := h.arr j b hb
      refine ⟨cs, g1, g2, g3, g4, ?_, g6⟩
      rw [show ((S.frzArr k x).env ρ (withId ids k none)).ids j = ids j by simp [Sym.env, withId, hjk]]
      exact g5
  · simp only [Sym.frzArr, Sym.mapV, Bool.or_eq_false_iff] at hef
    simp only [withId] at hj
    split at hj
    · cases hj
    · exact h.new hef.1 j id' hj hge
  · simp only [Sym.frzArr, Sym.mapV, Bool.or_eq_false_iff, decide_eq_false_iff_not] at hef
    have h2 : j < S.base := hj
    obtain ⟨g1, g2⟩ := h.keep hef.1 j h2
    rw [ar_frz (by omega)]
    refine ⟨g1, ?_⟩
    simp only [withId]
    rw [if_neg (by omega)]
    exact g2
theorem boxFrz_cells (id : Nat) (l : List PV) : BoxC.frz id (.cells l) = .cells (l.map (PV.frz id)) := rfl
theorem Rel.frz (h : Rel F S ρ ids s) {k : Nat} {a : AR} {cs : List PV} {x : SE} (ha : S.ar.getD k none = some a) (hr : a.rel (S.env ρ ids) k cs) (hx1 : x.ok ρ) (hx2 : frzV ρ a.sz a.born (.agg cs) = some (x.den ρ)) :
    ∃ s1, Silent s s1 ∧ s1.m.n = s.m.n ∧ Rel F (S.frzArr k x) ρ (withId ids k none) s1 := by
  have hnil : isNil ρ a.born cs = some (ids k).isNone := hr.2.2.2.2.1
  simp only [frzV, hnil] at hx2
  cases hi : ids k with
  | none =>
    rw [hi] at hx2
    simp only [Option.isNone_none, Option.some.injEq] at hx2
    refine ⟨s, Silent.refl s, rfl, rel_frz_mk h (T := fun q => q) (tr_frz h hom_id ha hr hx1 (fun _ _ => rfl) (by rw [hi]; exact hx2) (by rw [← hx2]; rfl) (fun _ _ _ _ _ _ _ _ => rfl) rfl (fun _ _ _ _ _ _ _ => rfl)) (fun _ => rfl) rfl rfl h.old (fun i l hl => by simpa using hl) (fun _ _ hI => hI) rfl h.efc (fun he => h.eff (eff_or he)) rfl⟩
  | some id =>
    rw [hi] at hx2
    simp only [Option.isNone_some] at hx2
    have hx3 : PV.frz id (ownV a.born (some id) a.sz cs) = x.den ρ := by
      cases hbo : a.born with
      | map => rw [hbo] at hx2; simp only [Option.some.injEq] at hx2; simp only [ownV, PV.frz, if_true]; exact hx2
      | it => rw [hbo] at hx2; cases hx2
      | _ => rw [hbo] at hx2; simp only [Option.some.injEq] at hx2; simp only [ownV, PV.frz, if_true, plainC_frz id cs hr.plain]; exact hx2
    have hone : (x.den ρ).one = true := by
      split at hx2
      · simp only [Option.some.injEq] at hx2; rw [← hx2]; rfl
      · cases hx2
      · simp only [Option.some.injEq] at hx2; rw [← hx2]; rfl
    have hid := h.idlt k id hi
    refine ⟨s.freeze id, silent_freeze s id, rfl, rel_frz_mk h (T := PV.frz id) (tr_frz h (hom_frz id) ha hr hx1 (fun _ _ => by simp only [PV.frz]) ?_ hone (fun j id' b sz l hj hj' hl => frz_own_other (fun e => ids_ne h hi hj' hj e.symm) hl) (by simp only [PV.frz]) (fun j id' off l hj hj' hl => frz_eref_other (fun e => ids_ne h hi hj' hj e.symm) hl)) (fun _ => rfl) rfl rfl (fun i hi' => ?_) (fun i l hl => ?_) (fun i I hI => ?_) rfl (fun e he => ?_) (fun he => ?_) rfl⟩
    · rw [hi]; exact hx3
    · show (s.m.β i).frz id = _
      rw [h.old i hi']
      cases hb : F.β0 i with
      | cells l =>
        rw [boxFrz_cells, ← frzL_eq, bdL_frz_id hid.1 l (h.obd i l hi' hb)]
      | inv I => rfl
      | hole => rfl
    · show (s.m.β i).frz id = _
      rw [hl]; rfl
    · show (s.m.β i).frz id = _
      rw [hI]; rfl
    · rcases mem_addEff he with he | he
      · exact h.efc e he
      · simp only [List.mem_singleton] at he
        subst he
        exact ⟨hid.1, trivial⟩
    · show addEff s.a0.a s.eff [.kill id] = []
      rw [h.eff (eff_or he), addEff_nil]
      refine dropNew_all fun e hee => ?_
      simp only [List.mem_singleton] at hee
      subst hee
      rw [h.a0]
      exact h.young hi he
end
end Go.Proofs.Ytlminnpaeaganaa
namespace Go.Proofs.Ytlminnpaeaganaa
open Go Go.RowKit
set_option linter.unusedVariables false
set_option linter.unusedSimpArgs false
mutual
def PV.stand (i : Nat) (l : List PV) : PV → PV
  | .ptr j o => if j = i then .eref none o (l.drop o) else .ptr j o
  | .sl id sz off len cs => .sl id sz off len (standP i l cs)
  | .eref id off cs => .eref id off (standP i l cs)
  | .fn f cs => .fn f (standP i l cs)
  | .agg cs => .agg (standP i l cs)
  | .tup cs => .tup (standP i l cs)
  | .int k m => .int k m
  | .bool b => .bool b
  | .str s => .str s
  | .undef => .undef
  | .bad => .bad
  | .nilp => .nilp
  | .nilfn => .nilfn
  | .snil => .snil
  | .dead k => .dead k
  | .yld k => .yld k
  | .mp it id sz cs => .mp it id sz cs
def standP (i : Nat) (l : List PV) : List PV → List PV
  | [] => []
  | p :: ps => p.stand i l :: standP i l ps
end
theorem standP_eq (i : Nat) (c l : List PV) : standP i c l = l.map (PV.stand i c) := by
  induction l with
  | nil => rfl
  | cons p ps ih => simp [standP, ih]
def Phi.dropB (φ : Phi) (i : Nat) : Phi := { box := fun j => if j = i then none else φ.box j, arr := φ.arr }
section
variable {φ : Phi} {w : World} {m : Mem} {i : Nat} {n an : Nat}
theorem own_dropB {b : Nat} (h : (φ.dropB i).own b) : φ.own b := by
  rcases h with ⟨j, h⟩ | ⟨j, h⟩
  · simp only [Phi.dropB] at h
    split at h
    · cases h
    · exact .inl ⟨j, h⟩
  · exact .inr ⟨j, h⟩
theorem place_dropB {id : Option Nat} {b sz off cap : Nat} (h : place φ w id b sz off cap) : place (φ.dropB i) w id b sz off cap := by
  cases id with
  | none => exact ⟨fun k => h.1 (own_dropB k), h.2⟩
  | some j => exact h
mutual
theorem VRel.dropB (hn : n ≤ i) : ∀ (q : PV) (c : Value), VRel φ w q c → q.bd n an → VRel (φ.dropB i) w q c
  | .int _ _, c, h, _ | .bool _, c, h, _ | .str _, c, h, _ | .undef, c, h, _ | .bad, c, h, _ | .nilp, c, h, _ | .nilfn, c, h, _ | .snil, c, h, _ | .dead _, c, h, _ | .yld _, c, h, _ => by
    simp only [VRel] at h ⊢ <;> exact h
  | .ptr j o, c, h, hb => by
    simp only [VRel, PV.bd] at h hb ⊢
    obtain ⟨b, h1, h2⟩ := h
    exact ⟨b, by simp only [Phi.dropB]; rw [if_neg (by omega)]; exact h1, h2⟩
  | .sl id sz off len cs, c, h, hb => by
    simp only [VRel] at h ⊢
    obtain ⟨hl, a, cap, hv, hc, h⟩ := h
    refine ⟨hl, a, cap, hv, hc, ?_⟩
    rcases h with h | ⟨b, ha, hp, hr⟩
    · exact .inl h
    · refine .inr ⟨b, ha, place_dropB hp, VRelAt.dropB hn b cs off hr ?_⟩
      cases id <;> simp only [PV.bd] at hb <;> first | exact hb | exact hb.2
  | .eref id off cs, c, h, hb => by
    simp only [VRel] at h ⊢
    obtain ⟨b, ha, hp, hr⟩ := h
    refine ⟨b, ha, place_dropB hp, VRelAt.dropB hn b cs off hr ?_⟩
    cases id <;> simp only [PV.bd] at hb <;> first | exact hb | exact hb.2
  | .fn f cs, c, h, hb => by
    simp only [VRel, PV.bd] at h hb ⊢
    obtain ⟨vs, h1, h2⟩ := h
    exact ⟨vs, h1, VRelL.dropB hn cs vs h2 hb⟩
  | .agg cs, c, h, hb => by
    simp only [VRel, PV.bd] at h hb ⊢
    obtain ⟨vs, h1, h2⟩ := h
    exact ⟨vs, h1, VRelL.dropB hn cs vs h2 hb⟩
  | .tup cs, c, h, hb => by
    simp only [VRel, PV.bd] at h hb ⊢
    obtain ⟨vs, h1, h2⟩ := h
    exact ⟨vs, h1, VRelL.dropB hn cs vs h2 hb⟩
  | .mp it id sz cs, c, h, hb => by
    simp only [VRel] at h ⊢
    refine h.move (fun b o hp hh _ _ _ => ⟨?_, hh⟩) fun b o hp hh _ _ _ => ⟨fun k => hp (own_dropB k), hh⟩
    cases id with
    | none => exact fun k => hp (own_dropB k)
    | some j => exact hp
theorem VRelL.dropB (hn : n ≤ i) : ∀ (l : List PV) (vs : List Value), VRelL φ w l vs → bdL n an l → VRelL (φ.dropB i) w l vs
  | [], vs, h, _ => by simp only [VRelL] at h ⊢; exact h
  | p :: ps, vs, h, hb => by
    simp only [VRelL, bdL] at h hb ⊢
    obtain ⟨v, vs', e, h0, h1⟩ := h
    exact ⟨v, vs', e, VRel.dropB hn p v h0 hb.1, VRelL.dropB hn ps vs' h1 hb.2⟩
theorem VRelAt.dropB (hn : n ≤ i) (b : Nat) : ∀ (l : List PV) (off : Nat), VRelAt φ w b l off → bdL n an l → VRelAt (φ.dropB i) w b l off
  | [], _, _, _ => by simp only [VRelAt]
  | p :: ps, off, h, hb => by
    simp only [VRelAt, bdL] at h hb ⊢
    obtain ⟨⟨c, hc, h0⟩, h1⟩ := h
    exact ⟨⟨c, hc, VRel.dropB hn p c h0 hb.1⟩, VRelAt.dropB hn b ps (off + 1) h1 hb.2⟩
end
theorem box_at (hm : MRel φ m w) {l : List PV} {b : Nat} (hb : φ.box i = some b) (hβ : m.β i = .cells l) (hp : plainC l = true) (o : Nat) : VRelAt (φ.dropB i) w b (l.drop o) o := by
  obtain ⟨cs, e, h1, h2, h3⟩ := hm.has hb
  rw [hβ] at h2
  have hl : VRelL φ w l cs.toList := h2
  refine vrelAt_mk fun j p hj => ?_
  rw [List.getElem?_drop] at hj
  obtain ⟨v, hv, hr⟩ := vrelL_get hl hj
  refine ⟨v, by simp only [World.cell?, h1]; simpa using hv, ?_⟩
  exact VRel.dropB (n := 0) (an := 0) (Nat.zero_le _) p v hr (plain_bd 0 0 p (plainC_get hp hj).1)
mutual
theorem VRel.stand (hm : MRel φ m w) {l : List PV} (hβ : m.β i = .cells l) (hp : plainC l = true) : ∀ (q : PV) (c : Value), VRel φ w q c → VRel (φ.dropB i) w (q.stand i l) c
  | .int _ _, c, h | .bool _, c, h | .str _, c, h | .undef, c, h | .bad, c, h | .nilp, c, h | .nilfn, c, h | .snil, c, h | .dead _, c, h | .yld _, c, h => by
    simp only [VRel, PV.stand] at h ⊢ <;> exact h
  | .ptr j o, c, h => by
    simp only [VRel] at h
    obtain ⟨b, h1, h2⟩ := h
    simp only [PV.stand]
    by_cases hj : j = i
    · subst hj
      rw [if_pos rfl]
      simp only [VRel]
      obtain ⟨cs, e, g1, _, _⟩ := hm.has h1
      refine ⟨b, h2, ⟨fun ho => ?_, (Array.getElem?_eq_some_iff.1 g1).1⟩, box_at hm h1 hβ hp o⟩
      rcases ho with ⟨k, hk⟩ | ⟨k, hk⟩
      · simp only [Phi.dropB] at hk
        split at hk
        · cases hk
        · rename_i hne
          exact hne (hm.boxinj k j b hk h1)
      · exact hm.sep j k b h1 hk
    · rw [if_neg hj]
      simp only [VRel]
      exact ⟨b, by simp only [Phi.dropB]; rw [if_neg hj]; exact h1, h2⟩
  | .sl id sz off len cs, c, h => by
    simp only [VRel, PV.stand] at h ⊢
    obtain ⟨hl, a, cap, hv, hc, h⟩ := h
    refine ⟨by rw [standP_eq, List.length_map]; exact hl, a, cap, hv, hc, ?_⟩
    rcases h with h | ⟨b, hab, hpl, hr⟩
    · exact .inl h
    · exact .inr ⟨b, hab, place_dropB hpl, VRelAt.stand hm hβ hp b cs off hr⟩
  | .eref id off cs, c, h => by
    simp only [VRel, PV.stand] at h ⊢
    obtain ⟨b, hab, hpl, hr⟩ := h
    exact ⟨b, hab, place_dropB hpl, VRelAt.stand hm hβ hp b cs off hr⟩
  | .fn f cs, c, h => by
    simp only [VRel, PV.stand] at h ⊢
    obtain ⟨vs, h1, h2⟩ := h
    exact ⟨vs, h1, VRelL.stand hm hβ hp cs vs h2⟩
  | .agg cs, c, h => by
    simp only [VRel, PV.stand] at h ⊢
    obtain ⟨vs, h1, h2⟩ := h
    exact ⟨vs, h1, VRelL.stand hm hβ hp cs vs h2⟩
  | .tup cs, c, h => by
    simp only [VRel, PV.stand] at h ⊢
    obtain ⟨vs, h1, h2⟩ := h
    exact ⟨vs, h1, VRelL.stand hm hβ hp cs vs h2⟩
  | .mp it id sz cs, c, h => by
    simp only [VRel, PV.stand] at h ⊢
    refine h.move (fun b o hp hh _ _ _ => ⟨?_, hh⟩) fun b o hp hh _ _ _ => ⟨fun k => hp (own_dropB k), hh⟩
    cases id with
    | none => exact fun k => hp (own_dropB k)
    | some j => exact hp
theorem VRelL.stand (hm : MRel φ m w) {l : List PV} (hβ : m.β i = .cells l) (hp : plainC l = true) : ∀ (ps : List PV) (vs : List Value), VRelL φ w ps vs → VRelL (φ.dropB i) w (standP i l ps) vs
  | [], vs, h => by simp only [VRelL, standP] at h ⊢; exact h
  | p :: ps, vs, h => by
    simp only [VRelL, standP] at h ⊢
    obtain ⟨v, vs', e, h0, h1⟩ := h
    exact ⟨v, vs', e, VRel.stand hm hβ hp p v h0, VRelL.stand hm hβ hp ps vs' h1⟩
theorem VRelAt.stand (hm : MRel φ m w) {l : List PV} (hβ : m.β i = .cells l) (hp : plainC l = true) (b : Nat) : ∀ (ps : List PV) (off : Nat), VRelAt φ w b ps off → VRelAt (φ.dropB i) w b (standP i l ps) off
  | [], _, _ => by simp only [VRelAt, standP]
  | p :: ps, off, h => by
    simp only [VRelAt, standP] at h ⊢
    obtain ⟨⟨c, hc, h0⟩, h1⟩ := h
    exact ⟨⟨c, hc, VRel.stand hm hβ hp p c h0⟩, VRelAt.stand hm hβ hp b ps (off + 1) h1⟩
end
theorem VRelL.dropB_fixed {I : List PV → Prop} (l : List PV) (vs : List Value) (h : VRelL φ w l vs) (hc : ∀ k, cutbL k l = l) (ha : ∀ j b, φ.arr j = some b → j < an) (hb : ∀ j b, φ.box j = some b → j < n) : VRelL (φ.dropB i) w l vs := by
  have hbd : bdL 0 an l := by
    have h0 := VRelL.cutb (n := 0) (an := an) ha l vs h
    rw [hc 0] at h0
    exact bdL_of_rel (fun j b hj => by simp only [Phi.cut] at hj; split at hj <;> first | omega | cases hj) (fun j b hj => by
      simp only [Phi.cut] at hj
      split at hj
      · assumption
      · cases hj) l vs h0
  exact VRelL.dropB (Nat.zero_le _) l vs h hbd
end
def BoxC.stand (i : Nat) (l : List PV) : BoxC → BoxC
  | .cells c => .cells (c.map (PV.stand i l))
  | .inv I => .inv I
  | .hole => .hole
def St.stand (s : St) (i : Nat) (l : List PV) : St := { s with g := fun t => (s.g t).stand i l, m := { s.m with β := fun j => if j = i then .hole else (s.m.β j).stand i l } }
theorem silent_stand (s : St) {i : Nat} {l : List PV} (hβ : s.m.β i = .cells l) (hp : plainC l = true) (hi : s.a0.n ≤ i) (he : ∀ e ∈ s.eff, e.clean) : Silent s (s.stand i l) := by
  refine ⟨rfl, fun φ w N a A hs ha hA => ⟨φ.dropB i, ⟨fun t => VRel.stand hs.mem hβ hp _ _ (hs.tmp t), hs.size, ?_⟩, ?_⟩⟩
  · have hm := hs.mem
    refine ⟨fun j hj => ?_, fun j hj => ?_, fun j b h => hm.arr j b h, fun j k b h1 h2 => ?_, hm.arrinj, fun j k b h1 h2 => ?_, hm.rcs⟩
    · by_cases hji : j = i
      · subst hji
        exact .inl ⟨by simp [St.stand], by simp [Phi.dropB]⟩
      · rcases hm.box j hj with ⟨g1, g2⟩ | ⟨b, cs, e, hb, hh, hr⟩
        · exact .inl ⟨by simp [St.stand, hji, g1, BoxC.stand], by simp [Phi.dropB, hji, g2]⟩
        · refine .inr ⟨b, cs, e, by simp [Phi.dropB, hji, hb], hh, ?_⟩
          simp only [St.stand, hji, if_false]
          cases hc : s.m.β j with
          | cells c =>
            rw [hc] at hr
            simp only [BoxC.stand, BRel]
            rw [← standP_eq]
            exact VRelL.stand hm hβ hp c _ hr
          | inv I =>
            rw [hc] at hr
            obtain ⟨c, h1, h2, h3, h4⟩ := hr
            exact ⟨c, h1, h2, h3, VRelL.dropB_fixed (I := I) (n := s.m.n) c _ h4 h3 (fun k b hk => (hm.arr k b hk).1) (fun k b hk => Nat.lt_of_not_le fun hle => by rw [hm.boxn k hle] at hk; cases hk)⟩
          | hole => rw [hc] at hr; exact hr.elim
    · simp only [Phi.dropB]
      split
      · rfl
      · exact hm.boxn j hj
    · simp only [Phi.dropB] at h1 h2
      split at h1 <;> first | (cases h1; done) | skip
      split at h2 <;> first | (cases h2; done) | skip
      exact hm.boxinj j k b h1 h2
    · simp only [Phi.dropB] at h1
      split at h1 <;> first | (cases h1; done) | skip
      exact hm.sep j k b h1 h2
  · refine ⟨⟨fun q c hq => ?_, ha.st.os, ha.st.tape, ha.st.output, ha.st.size, fun b hb ho hl => ?_⟩, ha.re.trans ⟨Nat.le_refl _, fun b _ ho _ => ⟨rfl, fun k => ho (own_dropB k)⟩⟩⟩
    · have hbd : q.bd s.a0.n s.a0.a := bd_of_rel hA.2.1 hA.1 q c hq
      exact VRel.dropB hi _ c (ha.st.tr q c hq) (bd_sub he hbd)
    · exact ⟨(ha.st.rest b hb ho hl).1, fun k => (ha.st.rest b hb ho hl).2 (own_dropB k)⟩
end Go.Proofs.Ytlminnpaeaganaa
namespace Go.Proofs.Ytlminnpaeaganaa
open Go Go.RowKit
set_option linter.unusedVariables false
set_option linter.unusedSimpArgs false
mutual
theorem plain_stand (i : Nat) (l : List PV) : ∀ p : PV, p.plain = true → p.stand i l = p
  | .int _ _, _ | .bool _, _ | .str _, _ | .nilp, _ | .nilfn, _ | .snil, _ => by simp only [PV.stand]
  | .undef, h | .bad, h | .dead _, h | .yld _, h | .ptr _ _, h => by simp [PV.plain] at h
  | .mp _ _ _ _, h => by simp only [PV.stand]
  | .sl none _ _ _ cs, h => by simp only [PV.stand, plainC_stand i l cs (by simpa only [PV.plain] using h)]
  | .sl (some _) _ _ _ cs, h => by simp [PV.plain] at h
  | .eref none _ cs, h => by simp only [PV.stand, plainC_stand i l cs (by simpa only [PV.plain] using h)]
  | .eref (some _) _ cs, h => by simp [PV.plain] at h
  | .fn _ cs, h => by simp only [PV.stand, plainC_stand i l cs (by simpa only [PV.plain] using h)]
  | .agg cs, h => by simp only [PV.stand, plainC_stand i l cs (by simpa only [PV.plain] using h)]
  | .tup cs, h => by simp only [PV.stand, plainT_stand i l cs (by simpa only [PV.plain] using h)]
theorem plainC_stand (i : Nat) (l : List PV) : ∀ c : List PV, plainC c = true → standP i l c = c
  | [], _ => rfl
  | p :: ps, h => by
    simp only [plainC, Bool.and_eq_true] at h
    simp only [standP, plain_stand i l p h.1.1, plainC_stand i l ps h.2]
theorem plainT_stand (i : Nat) (l : List PV) : ∀ c : List PV, plainT c = true → standP i l c = c
  | [], _ => rfl
  | p :: ps, h => by
    simp only [plainT, Bool.and_eq_true] at h
    simp only [standP, plain_stand i l p h.1, plainT_stand i l ps h.2]
end
mutual
theorem bd_stand_id {n a i : Nat} (hi : n ≤ i) (l : List PV) : ∀ q : PV, q.bd n a → q.stand i l = q
  | .int _ _, _ | .bool _, _ | .str _, _ | .undef, _ | .bad, _ | .nilp, _ | .nilfn, _ | .snil, _ | .dead _, _ | .yld _, _ => by simp only [PV.stand]
  | .ptr j o, h => by
    simp only [PV.bd] at h
    simp only [PV.stand]
    rw [if_neg (by omega)]
  | .sl id _ _ _ cs, h => by
    have : bdL n a cs := by cases id <;> simp only [PV.bd] at h <;> first | exact h | exact h.2
    simp only [PV.stand, bdL_stand_id hi l cs this]
  | .eref id _ cs, h => by
    have : bdL n a cs := by cases id <;> simp only [PV.bd] at h <;> first | exact h | exact h.2
    simp only [PV.stand, bdL_stand_id hi l cs this]
  | .fn _ cs, h => by simp only [PV.stand, bdL_stand_id hi l cs (by simpa only [PV.bd] using h)]
  | .agg cs, h => by simp only [PV.stand, bdL_stand_id hi l cs (by simpa only [PV.bd] using h)]
  | .tup cs, h => by simp only [PV.stand, bdL_stand_id hi l cs (by simpa only [PV.bd] using h)]
  | .mp _ _ _ _, h => by simp only [PV.stand]
theorem bdL_stand_id {n a i : Nat} (hi : n ≤ i) (l : List PV) : ∀ c : List PV, bdL n a c → standP i l c = c
  | [], _ => by simp only [standP]
  | p :: ps, h => by
    simp only [bdL] at h
    simp only [standP, bd_stand_id hi l p h.1, bdL_stand_id hi l ps h.2]
end
theorem hom_stand (i : Nat) (l : List PV) : Hom (PV.stand i l) where
  plain := fun q h => plain_stand i l q h
  undef := by simp only [PV.stand]
  agg := fun c => by simp only [PV.stand, standP_eq]
  tup := fun c => by simp only [PV.stand, standP_eq]
  fn := fun f c => by simp only [PV.stand, standP_eq]
  sl := fun _ _ _ c => by simp only [PV.stand, standP_eq]
  eref := fun _ c => by simp only [PV.stand, standP_eq]
  yld := fun _ => by simp only [PV.stand]
  one := fun q h _ => by
    cases q with
    | ptr j o => simp only [PV.stand]; split <;> exact .inl rfl
    | undef => simp [PV.one] at h
    | bad => simp [PV.one] at h
    | agg _ => simp [PV.one] at h
    | tup _ => simp [PV.one] at h
    | _ => exact .inl rfl
section
variable {X : Ctx} {F : Frm} {C : Orc → FuncId → List PV → Option PV} {n : Nat} {R : Out → Prop} {S : Sym} {ρ : List PV} {ids : Nat → Option Nat} {s : St} {K : Sym → M} {t : Tree} {o : Oper} {m0 : Mem} {inl yl : Inl} {lx : Option Nat} {key : Nat} {E : Env}
theorem env_stand (i : Nat) (l : List SV) : (S.standBox i l).env ρ ids = S.env ρ ids := by simp [Sym.env, Sym.standBox, Sym.mapV]
theorem Rel.stand (h : Rel F S ρ ids s) {i : Nat} {l : List SV} {ps : List PE} (hb : S.bx[i]? = some (.cells l)) (hp : peL l = some ps) (hi : S.bbase ≤ i) :
    ∃ s1, Silent s s1 ∧ s1.m.n = s.m.n ∧ Rel F (S.standBox i l) ρ ids s1 := by
  obtain ⟨l', h1, h2⟩ := h.box i _ hb
  have hpl := (peL_den hp h2).2
  have hlt : i < S.bx.length := (List.getElem?_eq_some_iff.1 hb).1
  refine ⟨s.stand (F.n0 + i) l', silent_stand s h1 hpl (by rw [h.a0, h.bbase]; omega) (fun e he => (h.efc e he).2), rfl, ?_⟩
  have tr : Tr F (S.env ρ ids) (S.env ρ ids) (SV.stand i l) (PV.stand (F.n0 + i) l') := by
    refine ⟨hom_stand _ _, List.prefix_refl _, fun _ => rfl, rfl, rfl, rfl, fun _ _ _ => rfl, fun _ => by simp only [SV.stand], fun g c => by simp only [SV.stand, standL_eq], fun c => by simp only [SV.stand, standL_eq], fun c => by simp only [SV.stand, standL_eq], fun _ _ c => by simp only [SV.stand, standL_eq], fun c _ => by simp only [SV.stand, standL_eq], fun j o q hq => ?_, fun q hq => ?_, fun k q hq => ?_, fun k x fo q hq => ?_⟩
    · unfold RV at hq
      rw [hq.1]
      by_cases hj : j = i
      · subst hj
        simp only [SV.stand, PV.stand, if_true]
        refine ⟨?_, .inr rfl⟩
        unfold RV
        exact ⟨l', h2, hpl, rfl⟩
      · simp only [SV.stand, PV.stand, hj, if_false]
        rw [if_neg (by omega)]
        refine ⟨?_, .inr rfl⟩
        unfold RV
        exact ⟨rfl, hq.2⟩
    · unfold RV at hq
      rw [hq.1]
      simp only [PV.stand]
      rw [if_neg (by have := hq.2.1; omega)]
    · have hq' := hq
      unfold RV at hq
      obtain ⟨b, csj, g1, g2, g3⟩ := hq
      have hT : PV.stand (F.n0 + i) l' q = q := by
        rw [g3]
        unfold ownV
        split
        · split <;> simp only [PV.stand, plainC_stand _ _ _ g2.plain]
        · simp only [PV.stand]
      rw [hT]
      exact ⟨hq', .inr (by rw [g3]; exact ownV_one _ _ _ _)⟩
    · have hq' := hq
      unfold RV at hq
      obtain ⟨b, csj, id', nn, kk, g1, g2, g3, g4, g5, g6, g7, g8⟩ := hq
      have hT : PV.stand (F.n0 + i) l' q = q := by
        rw [g8]
        simp only [PV.stand, plainC_stand _ _ _ (plainC_drop g2.plain _)]
      rw [hT]
      exact ⟨hq', .inr (by rw [g8]; rfl)⟩
  refine ⟨h.len, h.kn, fun t => ?_, by show s.m.n = _; simp [Sym.standBox, Sym.mapV, h.boxn], fun j hj => ?_, fun j b hj => ?_, fun k id hk => ⟨(h.idlt k id hk).1, (h.idlt k id hk).2.1, by simpa [Sym.standBox, Sym.mapV] using (h.idlt k id hk).2.2⟩, h.idinj, by rw [env_stand]; exact h.arr, h.a0, h.ent, h.efc, h.eff, h.new, h.keep, h.bbase, h.ba, by simpa [Sym.standBox, Sym.mapV] using h.bb, h.an, h.obd, h.rc⟩
  · have : (S.standBox i l).get t = SV.stand i l (S.get t) := by
      simp only [Sym.get, Sym.standBox, Sym.mapV]
      exact getD_map rfl t
    rw [this, env_stand]
    exact tr.rv (h.slot t)
  · simp only [St.stand]
    rw [if_neg (by omega), h.old j hj]
    cases hb0 : F.β0 j with
    | cells c => simp only [BoxC.stand]; rw [← standP_eq, bdL_stand_id (by omega : F.n0 ≤ F.n0 + i) l' c (h.obd j c hj hb0)]
    | inv I => rfl
    | hole => rfl
  · rw [env_stand]
    simp only [Sym.standBox, List.getElem?_set, List.getElem?_map, List.length_map] at hj
    split at hj
    · rename_i hij
      subst hij
      simp only [hlt, if_true, Option.some.injEq] at hj
      subst hj
      trivial
    · rename_i hij
      obtain ⟨b0, hb0, rfl⟩ := Option.map_eq_some_iff.1 hj
      have hbox := h.box j b0 hb0
      simp only [St.stand]
      rw [if_neg (by omega)]
      cases b0 with
      | cells c =>
        obtain ⟨c', e1, e2⟩ := hbox
        rw [e1]
        exact ⟨_, rfl, tr.rvl e2⟩
      | dice => rw [show s.m.β (F.n0 + j) = .inv F.DI from hbox]; rfl
      | gone => trivial
def Sil (X : Ctx) (F : Frm) (C : Orc → FuncId → List PV → Option PV) (n : Nat) (R : Out → Prop) (K : Sym → M) (S : Sym) (ρ : List PV) (s : St) : Prop :=
  ∃ s1, Silent s s1 ∧ s1.m.n = s.m.n ∧ Stp X F C n R K S ρ s1
theorem Ext.bind' (S : Sym) (ρ : List PV) (v : PV) (kn : Bool) (k : Nat) (x : SE) : Ext S ρ ((S.bind kn).frzArr k x) (ρ ++ [v]) :=
  ⟨List.prefix_append _ _, rfl, rfl, rfl, rfl, rfl, by simp [Sym.frzArr, Sym.mapV, Sym.bind], by simp [Sym.frzArr, Sym.mapV, Sym.bind]⟩
theorem frzV_plain {sz : Nat} {b : BN} {cs : List PV} {v : PV} (hc : plainC cs = true) (h : frzV ρ sz b (.agg cs) = some v) : v.plain = true ∧ v.one = true := by
  simp only [frzV] at h
  split at h
  · injection h with h; subst h; exact ⟨rfl, rfl⟩
  · split at h
    · injection h with h; subst h; exact ⟨rfl, rfl⟩
    · cases h
    · injection h with h; subst h; exact ⟨by simpa only [PV.plain] using hc, rfl⟩
  · cases h
theorem isNil_bind {b : BN} {cs : List PV} (hb : ∀ x, b = .dyn x → x.ok ρ) (v : PV) : isNil (ρ ++ [v]) b cs = isNil ρ b cs := isNil_prefix (List.prefix_append _ _) hb
theorem frzK_ok {k : Nat} (h : frzK k S K = .ok t) (hr : Rel F S ρ ids s) (hrun : Run X.P C n t ρ R) : Sil X F C n R K S ρ s := by
  unfold frzK at h
  split at h
  · rename_i a ha
    obtain ⟨t', ht, rfl⟩ := emit_ok h
    obtain ⟨v, hv, hrun⟩ := hrun.prim
    obtain ⟨cs, hc⟩ := hr.arr k a ha
    have hden : a.c.den ρ = .agg cs := hc.2.1
    simp only [Prim.run, hden] at hv
    obtain ⟨p1, p2⟩ := frzV_plain hc.plain hv
    have hb := hr.bind v true fun _ => p2
    obtain ⟨g1, g2⟩ := var_ok hr v p1
    have hc' := AR.rel.mono (Env.le_bind S ρ ids v true) ha hc
    obtain ⟨s1, q1, q2, q3⟩ := Rel.frz hb (x := .var S.nv) ha hc' g1 (by
      rw [g2]
      simp only [frzV] at hv ⊢
      rw [isNil_bind (ρ := ρ) (b := a.born) (cs := cs) hc.2.2.2.2.2 v]
      exact hv)
    exact ⟨s1, q1, q2, _, _, _, t', ht, q3, hrun, Ext.bind' S ρ v true k _⟩
  · cases h
theorem Sil.of (h : Stp X F C n R K S ρ s) : Sil X F C n R K S ρ s := ⟨s, Silent.refl s, rfl, h⟩
theorem frzAll_ok : ∀ {d : Nat} {ks : List Nat} {S : Sym} {ρ : List PV} {ids : Nat → Option Nat} {s : St} {t : Tree}, frzAll d ks S K = .ok t → Rel F S ρ ids s → Run X.P C n t ρ R → Sil X F C n R K S ρ s
  | 0, ks, S, ρ, ids, s, t, h, hr, hrun => by simp only [frzAll] at h; cases h
  | d + 1, [], S, ρ, ids, s, t, h, hr, hrun => by
    simp only [frzAll] at h
    exact Sil.of ⟨S, ρ, ids, t, h, hr, hrun, Ext.refl S ρ⟩
  | d + 1, k :: ks, S, ρ, ids, s, t, h, hr, hrun => by
    simp only [frzAll] at h
    split at h
    · split at h
      · obtain ⟨s1, q1, q2, S1, ρ1, ids1, t1, h1, h2, h3, h4⟩ := frzK_ok (X := X) h hr hrun
        obtain ⟨s2, p1, p2, S2, ρ2, ids2, t2, g1, g2, g3, g4⟩ := frzAll_ok h1 h2 h3
        exact ⟨s2, q1.trans p1, p2.trans q2, S2, ρ2, ids2, t2, g1, g2, g3, h4.trans g4⟩
      · exact frzAll_ok h hr hrun
    · split at h
      · rename_i c hb
        have hb' : S.bx[k / 2]? = some (.cells c) := by
          rw [List.getD_eq_getElem?_getD] at hb
          cases hg : S.bx[k / 2]? with
          | none => rw [hg] at hb; cases hb
          | some b => rw [hg] at hb; simp only [Option.getD_some] at hb; rw [hb]
        split at h
        · split at h
          · rename_i ps hp
            split at h
            · cases h
            · rename_i hbb
              obtain ⟨s1, q1, q2, q3⟩ := hr.stand hb' hp (by omega)
              obtain ⟨s2, p1, p2, S2, ρ2, ids2, t2, g1, g2, g3, g4⟩ := frzAll_ok h q3 hrun
              have hx : Ext S ρ (S.standBox (k / 2) c) ρ := ⟨List.prefix_refl _, rfl, rfl, rfl, rfl, rfl, by simp [Sym.standBox, Sym.mapV], by simp [Sym.standBox, Sym.mapV]⟩
              exact ⟨s2, q1.trans p1, p2.trans q2, S2, ρ2, ids2, t2, g1, g2, g3, hx.trans g4⟩
          · cases h
        · exact frzAll_ok h hr hrun
      · exact frzAll_ok h hr hrun
end
end Go.Proofs.Ytlminnpaeaganaa
namespace Go.Proofs.Ytlminnpaeaganaa
open Go Go.RowKit
set_option linter.unusedVariables false
set_option linter.unusedSimpArgs false
section
variable {X : Ctx} {F : Frm} {C : Orc → FuncId → List PV → Option PV} {n : Nat} {R : Out → Prop} {S : Sym} {ρ : List PV} {ids : Nat → Option Nat} {s : St} {K : Sym → M} {t : Tree} {o : Oper} {m0 : Mem} {inl yl : Inl} {lx : Option Nat} {key : Nat} {E : Env}
def SeqOk (X : Ctx) (F : Frm) (C : Orc → FuncId → List PV → Option PV) (n : Nat) (R : Out → Prop) (K : Sym → M) (S : Sym) (ρ : List PV) (s : St) (o : Oper) : Prop :=
  ∃ s1, Silent s s1 ∧ opW X.P s1 o fun s' => Stp X F C n R K S ρ s'
theorem seq_of_pure (hb : ∀ t l p, o.op ≠ .buildSlice t l p) (h : PureOk X F C n R K S ρ s s.m o) : SeqOk X F C n R K S ρ s o := by
  obtain ⟨pv, h1, h2⟩ := h
  exact ⟨s, Silent.refl s, pure_opW (m0 := s.m) ⟨Nat.le_refl _, fun _ _ => rfl⟩ h1 hb h2⟩
theorem stp_mono {S1 : Sym} {ρ1 : List PV} {s' : St} (hx : Ext S ρ S1 ρ1) (h : Stp X F C n R K S1 ρ1 s') : Stp X F C n R K S ρ s' := by
  obtain ⟨S', ρ', ids', t', h1, h2, h3, h4⟩ := h
  exact ⟨S', ρ', ids', t', h1, h2, h3, hx.trans h4⟩
theorem seq_mono {S1 : Sym} {ρ1 : List PV} {s1 : St} (hs : Silent s s1) (hx : Ext S ρ S1 ρ1) (h : SeqOk X F C n R K S1 ρ1 s1 o) : SeqOk X F C n R K S ρ s o := by
  obtain ⟨s2, h1, h2⟩ := h
  exact ⟨s2, hs.trans h1, opW_imp (fun s' _ h => stp_mono hx h) h2⟩
theorem seq_frz {ks : List Nat} {d : Nat} {K' : Sym → M} (h : frzAll d ks S K' = .ok t) (hr : Rel F S ρ ids s) (hrun : Run X.P C n t ρ R)
    (hk : ∀ S1 ρ1 ids1 s1 t1, K' S1 = .ok t1 → Rel F S1 ρ1 ids1 s1 → Run X.P C n t1 ρ1 R → SeqOk X F C n R K S1 ρ1 s1 o) : SeqOk X F C n R K S ρ s o := by
  obtain ⟨s1, q1, q2, S1, ρ1, ids1, t1, h1, h2, h3, h4⟩ := frzAll_ok (X := X) h hr hrun
  exact seq_mono q1 h4 (hk S1 ρ1 ids1 s1 t1 h1 h2 h3)
theorem seq_thaw {ks : List Nat} {K' : Sym → M} (h : thaw none key ks S K' = .ok t) (hr : Rel F S ρ ids s) (hrun : Run X.P C n t ρ R)
    (hk : ∀ S1 ρ1 ids1 s1 t1, K' S1 = .ok t1 → Rel F S1 ρ1 ids1 s1 → Run X.P C n t1 ρ1 R → SeqOk X F C n R K S1 ρ1 s1 o) : SeqOk X F C n R K S ρ s o := by
  unfold thaw at h
  split at h
  · exact hk S ρ ids s t h hr hrun
  · simp only [Option.isSome_none, Bool.false_eq_true, if_false] at h
    exact seq_frz h hr hrun hk
theorem stp_newArr (hr : Rel F S ρ ids s) {a : AR} {cs : List PV} {len : Nat} (ha : a.c.ok ρ) (hc : a.c.den ρ = .agg cs) (hsz : 0 < a.sz) (hl : cs.length = len * a.sz) (hb : isNil ρ a.born cs = some false) (hd : ∀ y, a.born = .dyn y → y.ok ρ)
    (h : K (S.addArr a o.dst) = .ok t) (hrun : Run X.P C n t ρ R) (hlst : a.born.lst = true := by rfl) : Stp X F C n R K S ρ (s.newArr o.dst a.sz len cs) := by
  have hdiv : cs.length / a.sz = len := by rw [hl]; exact Nat.mul_div_cancel _ hsz
  obtain ⟨h1, h2⟩ := hr.addAr (x := some s.m.an) (s' := { s with m := { s.m with an := s.m.an + 1 } }) ha hc hsz (by rw [hdiv, hl]) (by rw [hb]; rfl) hd rfl rfl rfl (Nat.le_succ _) (fun id e => by injection e with e; subst e; exact ⟨Nat.le_refl _, Nat.lt_succ_self _⟩) rfl rfl rfl
  refine ⟨_, ρ, _, t, h, h1.put o.dst (v := .own S.ar.length) ?_, hrun, ?_⟩
  · unfold RV
    refine ⟨a, cs, by simp [Sym.env, List.getD_eq_getElem?_getD], h2, ?_⟩
    rw [ownV_lst hlst]
    simp [Sym.env, withId, hdiv]
  · have hx : Ext S ρ ({ S with ar := S.ar ++ [some a] } : Sym) ρ := ⟨List.prefix_refl _, rfl, rfl, rfl, rfl, rfl, Nat.le_refl _, rfl⟩
    exact hx.put _ _
theorem stp_nilArr (hr : Rel F S ρ ids s) {a : AR} (ha : a.c.ok ρ) (hc : a.c.den ρ = .agg []) (hsz : 0 < a.sz) (hb : isNil ρ a.born [] = some true) (hd : ∀ y, a.born = .dyn y → y.ok ρ)
    (h : K (S.addArr a o.dst) = .ok t) (hrun : Run X.P C n t ρ R) : Stp X F C n R K S ρ (s.put o.dst .snil) := by
  obtain ⟨h1, h2⟩ := hr.addAr (x := none) (s' := s) ha hc hsz (by simp) (by rw [hb]; rfl) hd rfl rfl rfl (Nat.le_refl _) (fun id e => by cases e) rfl rfl rfl
  refine ⟨_, ρ, _, t, h, h1.put o.dst (v := .own S.ar.length) ?_, hrun, ?_⟩
  · unfold RV
    refine ⟨a, [], by simp [Sym.env, List.getD_eq_getElem?_getD], h2, ?_⟩
    simp [Sym.env, withId, ownV]
  · have hx : Ext S ρ ({ S with ar := S.ar ++ [some a] } : Sym) ρ := ⟨List.prefix_refl _, rfl, rfl, rfl, rfl, rfl, Nat.le_refl _, rfl⟩
    exact hx.put _ _
theorem stp_newMp (hr : Rel F S ρ ids s) {a : AR} {cs : List PV} {it : Bool} (hab : a.born = if it then .it else .map) (ha : a.c.ok ρ) (hc : a.c.den ρ = .agg cs) (hsz : 0 < a.sz) (hl : cs.length = cs.length / a.sz * a.sz)
    (h : K (S.addArr a o.dst) = .ok t) (hrun : Run X.P C n t ρ R) : Stp X F C n R K S ρ (s.newMp o.dst it a.sz cs) := by
  obtain ⟨h1, h2⟩ := hr.addAr (x := some s.m.an) (s' := { s with m := { s.m with an := s.m.an + 1 } }) ha hc hsz hl (by rw [hab]; cases it <;> rfl) (fun y e => by rw [hab] at e; cases it <;> cases e) rfl rfl rfl (Nat.le_succ _) (fun id e => by injection e with e; subst e; exact ⟨Nat.le_refl _, Nat.lt_succ_self _⟩) rfl rfl rfl
  refine ⟨_, ρ, _, t, h, h1.put o.dst (v := .own S.ar.length) ?_, hrun, ?_⟩
  · unfold RV
    refine ⟨a, cs, by simp [Sym.env, List.getD_eq_getElem?_getD], h2, ?_⟩
    have : (({ S with ar := S.ar ++ [some a] } : Sym).env ρ (withId ids S.ar.length (some s.m.an))).ids S.ar.length = some s.m.an := by simp [Sym.env, withId]
    rw [this, hab]
    cases it <;> rfl
  · have hx : Ext S ρ ({ S with ar := S.ar ++ [some a] } : Sym) ρ := ⟨List.prefix_refl _, rfl, rfl, rfl, rfl, rfl, Nat.le_refl _, rfl⟩
    exact hx.put _ _
theorem b_eq {x y : SE} (h : x.b y = true) : x.den ρ = y.den ρ := by
  induction x generalizing y with
  | var i => cases y <;> simp [SE.b] at h; subst h; rfl
  | proj x j ih => cases y <;> simp [SE.b] at h; obtain ⟨rfl, h⟩ := h; simp only [SE.den, ih h]
  | cst v =>
    cases y with
    | cst u =>
      simp only [SE.b] at h
      simp only [SE.den]
      unfold pvB at h
      split at h
      · simp only [Bool.and_eq_true, decide_eq_true_eq] at h; rw [h.1, h.2]
      · simp only [beq_iff_eq] at h; rw [h]
      all_goals first | rfl | cases h
    | _ => simp [SE.b] at h
theorem seq_make {ty : TypeId} {l c : Operand} (hop : o.op = .makeSlice ty l c) (h : compMake X none o ty l c S K = .ok t) (hr : Rel F S ρ ids s) (hrun : Run X.P C n t ρ R) : SeqOk X F C n R K S ρ s o := by
  unfold compMake at h
  simp only [Option.isSome_none, Bool.false_eq_true, if_false] at h
  split at h
  · rename_i e hu
    split at h
    · rename_i a b z ha hb hz
      split at h
      · rename_i hcnd
        obtain ⟨c1, c2, c3, c4, c5⟩ := hcnd
        obtain ⟨t', ht, rfl⟩ := emit_ok h
        obtain ⟨v, hv, hrun⟩ := hrun.prim
        have hl := hr.ev l
        have hc := hr.ev c
        rw [ha] at hl
        rw [hb] at hc
        simp only [RV] at hl hc
        have hc' : s.ev c = s.ev l := by rw [hl.1, hc.1]; exact (b_eq c1).symm
        simp only [Prim.run, mkV, PE.den] at hv
        split at hv
        · rename_i k hk
          split at hv
          · rename_i hbd
            injection hv with hv
            subst hv
            have hl' : s.ev l = .int .i64 k := by rw [hl.1]; exact hk
            have hpz : plainC (repl z k.toNat) = true := by
              have : ∀ j, plainC (repl z j) = true := fun j => by
                induction j with
                | zero => rfl
                | succ j ih => exact plainC_append c2 ih
              exact this _
            obtain ⟨g1, g2⟩ := var_ok hr (.agg (repl z k.toNat)) (by simpa only [PV.plain] using hpz)
            have hbnd := hr.bind (.agg (repl z k.toNat)) false (by simp)
            refine ⟨s, Silent.refl s, ?_⟩
            simp only [opW, hop, hu, hl', hc']
            refine ⟨z, hz, c3, c4, c5, hbd.1, Int.le_refl _, hbd.2.1, hbd.2.2, ?_⟩
            exact stp_mono (Ext.bind S ρ _ false) (stp_newArr (a := ⟨X.P.cellsOf e, .real, .var S.nv⟩) hbnd g1 g2 (by rw [← c3]; exact c4) (by rw [repl_length, c3]) rfl (fun y e => by cases e) ht hrun)
          · cases hv
        · cases hv
      · cases h
    · cases h
  · cases h
theorem seq_box {e : TypeId} {x : Operand} (hop : o.op = .box e x) (h : cellsK X e (S.ev x) S (fun c S => K (S.newBox o.dst c)) = .ok t) (hr : Rel F S ρ ids s) (hrun : Run X.P C n t ρ R) : SeqOk X F C n R K S ρ s o := by
  obtain ⟨c, S1, ρ1, t1, h1, h2, h3, h4, h5, h6, h7⟩ := cellsK_ok h hr (hr.ev x) hrun
  refine ⟨s, Silent.refl s, ?_⟩
  simp only [opW, hop]
  refine ⟨h7, S1.newBox o.dst c, ρ1, ids, t1, h1, h2.newBox o.dst h6, h3, h4.trans ?_⟩
  rw [newBox_eq]
  have hx : Ext S1 ρ1 (S1.addBox c) ρ1 := ⟨List.prefix_refl _, rfl, rfl, rfl, rfl, rfl, by simp [Sym.addBox], rfl⟩
  exact hx.put _ _
theorem seq_alloc {e : TypeId} {z : List PV} (hop : o.op = .alloc e) (hz : zeroCs X.P e = some z) (hp : plainC z = true) (h : K (S.newBox o.dst (cstL z)) = .ok t) (hr : Rel F S ρ ids s) (hrun : Run X.P C n t ρ R) : SeqOk X F C n R K S ρ s o := by
  refine ⟨s, Silent.refl s, ?_⟩
  simp only [opW, hop]
  refine ⟨z, hz, S.newBox o.dst (cstL z), ρ, ids, t, h, hr.newBox o.dst (rvl_cst hp), hrun, ?_⟩
  rw [newBox_eq]
  have hx : Ext S ρ (S.addBox (cstL z)) ρ := ⟨List.prefix_refl _, rfl, rfl, rfl, rfl, rfl, by simp [Sym.addBox], rfl⟩
  exact hx.put _ _
theorem solid_one {l : List SV} {l' : List PV} (h : RVL F E l l') (hs : l.all SV.solid = true) : l'.all PV.one = true := by
  rw [List.all_eq_true] at hs ⊢
  intro q hq
  obtain ⟨j, hj⟩ := List.mem_iff_getElem?.1 hq
  have hlt : j < l.length := by rw [rvl_length h]; exact (List.getElem?_eq_some_iff.1 hj).1
  have hv : l[j]? = some l[j] := by simp [hlt]
  refine ((rvl_iff.1 h).2 j _ q hv hj).2.resolve_left fun e => ?_
  have := hs l[j] (by simp)
  rw [e] at this
  cases this
theorem aTail_plain {sz : Nat} {y : PV} {m : Nat} {news : List PV} (hy : y.plain = true) (h : aTail sz y = some (m, news)) : plainC news = true := by
  unfold aTail at h
  split at h
  · injection h with h; injection h with _ h; subst h; rfl
  · rename_i id sz' off len cs
    split at h
    · injection h with h
      injection h with _ h
      subst h
      cases id with
      | none => simpa only [PV.plain] using hy
      | some i => simp [PV.plain] at hy
    · cases h
  · cases h
theorem plainC_noId {l : List PV} (h : plainC l = true) (id : Nat) : ∀ c ∈ l, noId id c := fun c hc => plain_sub1 _ c ((plainC_iff _).1 h c hc).1
theorem plainC_one {l : List PV} (h : plainC l = true) : l.all PV.one = true := List.all_eq_true.2 fun q hq => ((plainC_iff _).1 h q hq).2
theorem Rel.revive (h : Rel F S ρ ids s) {k : Nat} {a : AR} {c' : SE} {cs' : List PV} {x : Option Nat} (ha : S.ar.getD k none = some a) (hid : ids k = none) (hc1 : c'.ok ρ) (hc2 : c'.den ρ = .agg cs') (hsz : 0 < a.sz) (hl : cs'.length = cs'.length / a.sz * a.sz) (hn : isNil ρ a.born cs' = some x.isNone)
    (hd : ∀ y, a.born = .dyn y → y.ok ρ) {s' : St} (hg : s'.g = s.g) (hβ : s'.m.β = s.m.β) (hnn : s'.m.n = s.m.n) (han : s.m.an ≤ s'.m.an) (hx : ∀ id, x = some id → s.m.an ≤ id ∧ id < s'.m.an) (h0 : s'.a0 = s.a0) (he : s'.eff = s.eff) (hrc : s'.m.rc = s.m.rc) :
    Rel F (S.setArr k true { a with c := c' }) ρ (withId ids k x) s' ∧ AR.rel ((S.setArr k true { a with c := c' }).env ρ (withId ids k x)) k { a with c := c' } cs' := by
  have hkl := arr_lt_len ha
  have hnew : AR.rel ((S.setArr k true { a with c := c' }).env ρ (withId ids k x)) k { a with c := c' } cs' := ⟨hc1, hc2, hsz, hl, by simpa [Sym.env, withId] using hn, hd⟩
  have hids : ∀ j, j ≠ k → ((S.setArr k true { a with c := c' }).env ρ (withId ids k x)).ids j = ids j := fun j hj => by simp [Sym.env, withId, hj]
  have hother : ∀ j b, j ≠ k → (S.env ρ ids).ar.getD j none = some b → ((S.setArr k true { a with c := c' }).env ρ (withId ids k x)).ar.getD j none = some b := fun j b hj hb => by
    simp only [Sym.env, Sym.setArr, Sym.mapV]
    rw [getD_set, if_neg (fun e => hj e.1)]
    exact hb
  have hrel : ∀ j b l, j ≠ k → AR.rel (S.env ρ ids) j b l → AR.rel ((S.setArr k true { a with c := c' }).env ρ (withId ids k x)) j b l := fun j b l hj hb => by
    obtain ⟨g1, g2, g3, g4, g5, g6⟩ := hb
    exact ⟨g1, g2, g3, g4, by rw [hids j hj]; exact g5, g6⟩
  have tr : Tr F (S.env ρ ids) ((S.setArr k true { a with c := c' }).env ρ (withId ids k x)) (SV.hitS k true) (fun q => q) := by
    refine ⟨hom_id, List.prefix_refl _, fun x => rfl, rfl, rfl, rfl, fun _ _ _ => rfl, fun _ => by simp only [SV.hitS], fun g l => by simp only [SV.hitS, hitSL_eq], fun l => by simp only [SV.hitS, hitSL_eq], fun l => by simp only [SV.hitS, hitSL_eq], fun _ _ l => by simp only [SV.hitS, hitSL_eq], fun l _ => by simp only [SV.hitS, hitSL_eq], fun i o q hq => ?_, fun q hq => rfl, fun j q hq => ?_, fun j y fo q hq => ?_⟩
    · have hq' := hq
      unfold RV at hq'
      refine ⟨?_, .inr (by rw [hq'.1]; rfl)⟩
      show RV F _ (SV.ptr i o) _
      unfold RV
      exact ⟨hq'.1, by have := hq'.2; simpa [Sym.env, Sym.setArr, Sym.mapV] using this⟩
    · unfold RV at hq
      obtain ⟨b, csj, g1, g2, g3⟩ := hq
      by_cases hjk : j = k
      · simp only [SV.hitS, hjk, and_self, if_true]; exact ⟨by simp only [RV], .inl trivial⟩
      · simp only [SV.hitS, hjk, false_and, if_false]
        refine ⟨?_, .inr (by rw [g3]; exact ownV_one _ _ _ _)⟩
        unfold RV
        exact ⟨b, csj, hother j b hjk g1, hrel j b csj hjk g2, by rw [hids j hjk]; exact g3⟩
    · unfold RV at hq
      obtain ⟨b, csj, id', nn, kk, g1, g2, g3, g4, g5, g6, g7, g8⟩ := hq
      by_cases hjk : j = k
      · simp only [SV.hitS, hjk, if_true]; exact ⟨by simp only [RV], .inl trivial⟩
      · simp only [SV.hitS, hjk, if_false]
        refine ⟨?_, .inr (by rw [g8]; rfl)⟩
        unfold RV
        exact ⟨b, csj, id', nn, kk, hother j b hjk g1, hrel j b csj hjk g2, by rw [hids j hjk]; exact g3, g4, g5, g6, g7, g8⟩
  refine ⟨⟨h.len, h.kn, fun t => ?_, by rw [hnn]; simpa [Sym.setArr, Sym.mapV] using h.boxn, fun i hi => by rw [hβ]; exact h.old i hi, fun i b hb => ?_, fun j id' hj => ?_, fun j j' id' hj hj' => ?_, fun j b hb => ?_, by rw [h0]; exact h.a0, h.ent, by rw [he]; exact h.efc, fun hef => ?_, fun hef j id' hj hge => ?_, fun hef j hj => ?_, h.bbase, by simpa [Sym.setArr, Sym.mapV] using h.ba, by simpa [Sym.setArr, Sym.mapV] using h.bb, Nat.le_trans h.an han, h.obd, by rw [hrc]; exact h.rc⟩, hnew⟩
  · have : (S.setArr k true { a with c := c' }).get t = SV.hitS k true (S.get t) := by
      simp only [Sym.get, Sym.setArr, Sym.mapV]
      exact getD_map rfl t
    rw [this, hg]
    exact tr.rv (h.slot t)
  · simp only [Sym.setArr, Sym.mapV, List.getElem?_map] at hb
    obtain ⟨b0, hb0, rfl⟩ := Option.map_eq_some_iff.1 hb
    have hbox := h.box i b0 hb0
    rw [hβ]
    cases b0 with
    | cells l =>
      obtain ⟨l', e1, e2⟩ := hbox
      exact ⟨_, e1, by have := tr.rvl e2; simpa using this⟩
    | dice => exact hbox
    | gone => trivial
  · simp only [withId] at hj
    split at hj
    · rename_i e
      subst e
      obtain ⟨h1, h2⟩ := hx id' hj
      exact ⟨by have := h.an; have := h.ent.1; omega, h2, by simpa [Sym.setArr, Sym.mapV] using hkl⟩
    · obtain ⟨h1, h2, h3⟩ := h.idlt j id' hj
      exact ⟨h1, by omega, by simpa [Sym.setArr, Sym.mapV] using h3⟩
  · simp only [withId] at hj hj'
    split at hj <;> split at hj'
    · omega
    · obtain ⟨h1, h2⟩ := hx id' hj
      have := (h.idlt j' id' hj').2.1
      omega
    · obtain ⟨h1, h2⟩ := hx id' hj'
      have := (h.idlt j id' hj).2.1
      omega
    · exact h.idinj j j' id' hj hj'
  · by_cases hjk : j = k
    · subst hjk
      have : b = { a with c := c' } := by
        simp only [Sym.setArr, Sym.mapV] at hb
        rw [getD_set, if_pos ⟨rfl, hkl⟩] at hb
        injection hb with hb
        exact hb.symm
      subst this
      exact ⟨cs', hnew⟩
    · have hb' : S.ar.getD j none = some b := by
        simp only [Sym.setArr, Sym.mapV] at hb
        rw [getD_set, if_neg (fun e => hjk e.1)] at hb
        exact hb
      obtain ⟨l, hl'⟩ := h.arr j b hb'
      exact ⟨l, hrel j b l hjk hl'⟩
  · rw [he]
    exact h.eff (eff_or hef)
  · simp only [Sym.setArr, Sym.mapV, Bool.or_eq_false_iff] at hef
    simp only [withId] at hj
    split at hj
    · obtain ⟨h1, h2⟩ := hx id' hj
      have := h.an
      omega
    · exact h.new hef.1 j id' hj hge
  · simp only [Sym.setArr, Sym.mapV, Bool.or_eq_false_iff, decide_eq_false_iff_not] at hef
    have h2 : j < S.base := hj
    obtain ⟨g1, g2⟩ := h.keep hef.1 j h2
    refine ⟨?_, by simp only [withId]; rw [if_neg (by omega)]; exact g2⟩
    simp only [Sym.setArr, Sym.mapV]
    rw [getD_set, if_neg (fun e => by omega)]
    exact g1
end
end Go.Proofs.Ytlminnpaeaganaa
namespace Go.Proofs.Ytlminnpaeaganaa
open Go Go.RowKit
set_option linter.unusedVariables false
set_option linter.unusedSimpArgs false
section
variable {X : Ctx} {F : Frm} {C : Orc → FuncId → List PV → Option PV} {n : Nat} {R : Out → Prop} {S : Sym} {ρ : List PV} {ids : Nat → Option Nat} {s : St} {K : Sym → M} {t : Tree} {o : Oper} {m0 : Mem} {inl yl : Inl} {lx : Option Nat} {key : Nat} {E : Env}
theorem ext_set {S1 : Sym} {ρ1 : List PV} (k : Nat) (all : Bool) (a : AR) : Ext S1 ρ1 (S1.setArr k all a) ρ1 :=
  ⟨List.prefix_refl _, rfl, rfl, rfl, rfl, rfl, by simp [Sym.setArr, Sym.mapV], by simp [Sym.setArr, Sym.mapV]⟩
theorem isNil_still {b : BN} {cs cs' : List PV} (hs : b.still = true) (h : isNil ρ b cs = some false) (hne : cs' ≠ []) : isNil ρ b cs' = some false := by
  cases b with
  | real => rfl
  | nil0 =>
    cases cs' with
    | nil => exact absurd rfl hne
    | cons _ _ => rfl
  | dyn x => cases hs
  | map => cases hs
  | it => cases hs
theorem isNil_nil0 {b : BN} {cs : List PV} (hs : b.still = true) (h : isNil ρ b cs = some true) : b = .nil0 ∧ cs = [] := by
  cases b with
  | real => simp [isNil] at h
  | nil0 =>
    cases cs with
    | nil => exact ⟨rfl, rfl⟩
    | cons _ _ => simp [isNil] at h
  | dyn x => cases hs
  | map => cases hs
  | it => cases hs
theorem still_lst {b : BN} (h : b.still = true) : b.lst = true := by cases b <;> first | rfl | cases h
theorem seq_append {c : Call} {ty : TypeId} {x y : Operand} (hop : o.op = .call c) (hcal : c.callee = .builtin .append) (hat : c.argTypes = ⟨[ty, ty]⟩) (har : c.args.toList = [x, y]) (h : compAppend X none o ty x y S K = .ok t) (hr : Rel F S ρ ids s) (hrun : Run X.P C n t ρ R) : SeqOk X F C n R K S ρ s o := by
  unfold compAppend at h
  simp only [Option.isSome_none, Bool.false_eq_true, if_false] at h
  split at h
  · rename_i e hu
    split at h
    · rename_i hcnd
      obtain ⟨c1, c2, c3⟩ := hcnd
      refine seq_frz h hr hrun fun S ρ ids s t h hr hrun => ?_
      split at h
      · rename_i py hpy
        obtain ⟨hy, hyp⟩ := hr.pe hpy
        have hW : ∀ K' : St → Prop, opW X.P s o K' = (ty = ty ∧ aAppend X.P s o.dst ty (s.ev x) (s.ev y) K') := fun K' => by
          simp only [opW, hop, hcal, hat, har]
        refine ⟨s, Silent.refl s, ?_⟩
        rw [hW]
        refine ⟨rfl, ?_⟩
        simp only [aAppend, hu]
        refine ⟨c1, c2, c3, ?_⟩
        have hxv := hr.ev x
        split at h
        · rename_i k hxk
          rw [hxk] at hxv
          unfold RV at hxv
          obtain ⟨a, cs, h1, h2, h3⟩ := hxv
          split at h
          · rename_i a' ha'
            have : a' = a := by have := ha'.symm.trans h1; injection this
            subst this
            split at h
            · rename_i hcn
              obtain ⟨hsz, hstill⟩ := hcn
              obtain ⟨t', ht, rfl⟩ := emit_ok h
              obtain ⟨v, hv, hrun⟩ := hrun.prim
              have hden : a'.c.den ρ = .agg cs := h2.2.1
              simp only [Prim.run, hden, ← hy] at hv
              unfold pushV at hv
              split at hv
              · rename_i cs0 m news hcs0 htl
                injection hcs0 with hcs0
                subst hcs0
                split at hv
                · rename_i hbd
                  obtain ⟨b1, b2, b3⟩ := hbd
                  injection hv with hv
                  subst hv
                  have hnews := aTail_plain hyp htl
                  have hpl := plainC_append h2.plain hnews
                  have hb := hr.bind (.agg (cs ++ news)) false (by simp)
                  obtain ⟨g1, g2⟩ := var_ok hr (.agg (cs ++ news)) (by simpa only [PV.plain] using hpl)
                  have h2' := AR.rel.mono (Env.le_bind S ρ ids (.agg (cs ++ news)) false) h1 h2
                  have hpos := h2.2.2.1
                  have hlen := h2.2.2.2.1
                  have hl' : (cs ++ news).length = (cs ++ news).length / a'.sz * a'.sz ∧ (cs ++ news).length / a'.sz = cs.length / a'.sz + m := by
                    have e : (cs ++ news).length = (cs.length / a'.sz + m) * a'.sz := by rw [List.length_append, b1, Nat.add_mul, ← hlen]
                    have e2 : (cs ++ news).length / a'.sz = cs.length / a'.sz + m := by rw [e]; exact Nat.mul_div_cancel _ hpos
                    exact ⟨by rw [e2]; exact e, e2⟩
                  have hsz' : X.P.cellsOf e = a'.sz := hsz.symm
                  rw [hsz', htl]
                  refine ⟨plainC_one hnews, ?_⟩
                  cases hid : ids k with
                  | some id =>
                    rw [show (S.env ρ ids).ids k = some id from hid, ownV_lst (still_lst hstill)] at h3
                    simp only [h3]
                    refine ⟨trivial, trivial, b2, b3, plainC_noId hpl id, ?_⟩
                    have hnil := h2.2.2.2.2.1
                    rw [show (S.env ρ ids).ids k = some id from hid] at hnil
                    have hne : cs ++ news ≠ [] ∨ a'.born = .real := by
                      cases hbn : a'.born with
                      | real => exact .inr rfl
                      | nil0 =>
                        refine .inl fun e => ?_
                        have : cs = [] := (List.append_eq_nil_iff.1 e).1
                        rw [hbn, this] at hnil
                        simp [isNil] at hnil
                      | dyn y => rw [hbn] at hstill; cases hstill
                      | map => rw [hbn] at hstill; cases hstill
                      | it => rw [hbn] at hstill; cases hstill
                    have hn' : isNil (ρ ++ [.agg (cs ++ news)]) a'.born (cs ++ news) = some false := by
                      rcases hne with hne | hne
                      · exact isNil_still (cs := cs) hstill ((isNil_bind (ρ := ρ) h2.2.2.2.2.2 _).trans hnil) hne
                      · rw [hne]; rfl
                    obtain ⟨r1, r2⟩ := hb.hit (k := k) (id := id) (c' := .var S.nv) (all := true) (EE := [.kill id]) h1 h2' hid (fun e he => by simp only [List.mem_singleton] at he; subst he; exact ⟨rfl, trivial⟩) g1 g2 hl'.1 hn' (fun e => by cases e)
                    refine ⟨_, _, ids, t', ht, r1.put o.dst (v := .own k) ?_, hrun, (Ext.bind S ρ (.agg (cs ++ news)) false).trans ((ext_set k true _).put _ _)⟩
                    unfold RV
                    refine ⟨_, cs ++ news, ?_, r2, ?_⟩
                    · simp only [Sym.env, Sym.setArr, Sym.mapV]
                      rw [getD_set, if_pos ⟨rfl, arr_lt_len h1⟩]
                    · rw [show ((S.bind false).setArr k true { a' with c := .var S.nv }).env (ρ ++ [.agg (cs ++ news)]) ids = ⟨ρ ++ [.agg (cs ++ news)], ((S.bind false).setArr k true { a' with c := .var S.nv }).ar, ((S.bind false).setArr k true { a' with c := .var S.nv }).bx.length, ids⟩ from rfl]
                      rw [ownV_lst (still_lst hstill)]
                      simp only [hid, hl'.2]
                  | none =>
                    rw [show (S.env ρ ids).ids k = none from hid, ownV_lst (still_lst hstill)] at h3
                    have hnil := h2.2.2.2.2.1
                    rw [show (S.env ρ ids).ids k = none from hid] at hnil
                    obtain ⟨hb0, hcs⟩ := isNil_nil0 hstill hnil
                    subst hcs
                    simp only [List.length_nil, Nat.zero_div, Nat.zero_add, List.nil_append] at b2 b3 hl' hb g1 g2 h2' ⊢
                    simp only [h3]
                    refine ⟨b2, b3, ?_⟩
                    by_cases hm : m = 0
                    · rw [if_pos hm]
                      have hn0 : news = [] := List.eq_nil_of_length_eq_zero (by rw [b1, hm]; simp)
                      subst hn0
                      obtain ⟨r1, r2⟩ := hb.revive (k := k) (c' := .var S.nv) (cs' := []) (x := none) (s' := s) h1 hid g1 g2 hpos (by simp) (by rw [hb0]; rfl) (fun y e => by rw [hb0] at e; cases e) rfl rfl rfl (Nat.le_refl _) (fun id e => by cases e) rfl rfl rfl
                      refine ⟨_, _, _, t', ht, r1.put o.dst (v := .own k) ?_, hrun, (Ext.bind S ρ (.agg []) false).trans ((ext_set k true _).put _ _)⟩
                      unfold RV
                      refine ⟨_, [], ?_, r2, ?_⟩
                      · simp only [Sym.env, Sym.setArr, Sym.mapV]
                        rw [getD_set, if_pos ⟨rfl, arr_lt_len h1⟩]
                      · simp [Sym.env, withId, ownV]
                    · rw [if_neg hm]
                      have hn0 : news ≠ [] := fun e => by
                        rw [e] at b1
                        simp only [List.length_nil] at b1
                        rcases Nat.mul_eq_zero.1 b1.symm with e1 | e1
                        · exact hm e1
                        · omega
                      obtain ⟨r1, r2⟩ := hb.revive (k := k) (c' := .var S.nv) (cs' := news) (x := some s.m.an) (s' := { s with m := { s.m with an := s.m.an + 1 } }) h1 hid g1 g2 hpos hl'.1 (by
                        rw [hb0]
                        cases news with
                        | nil => exact absurd rfl hn0
                        | cons _ _ => rfl) (fun y e => by rw [hb0] at e; cases e) rfl rfl rfl (Nat.le_succ _) (fun id e => by injection e with e; subst e; exact ⟨Nat.le_refl _, Nat.lt_succ_self _⟩) rfl rfl rfl
                      refine ⟨_, _, _, t', ht, r1.put o.dst (v := .own k) ?_, hrun, (Ext.bind S ρ (.agg news) false).trans ((ext_set k true _).put _ _)⟩
                      unfold RV
                      refine ⟨_, news, ?_, r2, ?_⟩
                      · simp only [Sym.env, Sym.setArr, Sym.mapV]
                        rw [getD_set, if_pos ⟨rfl, arr_lt_len h1⟩]
                      · rw [ownV_lst (still_lst hstill)]; simp [Sym.env, withId, hl'.2]
                · cases hv
              · cases hv
            · cases h
          · cases h
        · rename_i hxk
          rw [hxk] at hxv
          unfold RV at hxv
          have hx0 : s.ev x = .snil := hxv.1
          obtain ⟨t', ht, rfl⟩ := emit_ok h
          obtain ⟨v, hv, hrun⟩ := hrun.prim
          simp only [Prim.run, SE.den, ← hy] at hv
          unfold pushV at hv
          split at hv
          · rename_i cs0 m news hcs0 htl
            injection hcs0 with hcs0
            subst hcs0
            split at hv
            · rename_i hbd
              obtain ⟨b1, b2, b3⟩ := hbd
              injection hv with hv
              subst hv
              have hnews := aTail_plain hyp htl
              simp only [List.length_nil, Nat.zero_div, Nat.zero_add, List.nil_append] at b2 b3 hrun
              have hb := hr.bind (.agg news) false (by simp)
              obtain ⟨g1, g2⟩ := var_ok hr (.agg news) (by simpa only [PV.plain] using hnews)
              rw [htl, hx0]
              refine ⟨plainC_one hnews, b2, b3, ?_⟩
              refine stp_mono (Ext.bind S ρ (.agg news) false) ?_
              by_cases hm : m = 0
              · rw [if_pos hm]
                have hn0 : news = [] := List.eq_nil_of_length_eq_zero (by rw [b1, hm]; simp)
                subst hn0
                exact stp_nilArr (a := ⟨X.P.cellsOf e, .nil0, .var S.nv⟩) hb g1 g2 c2 rfl (fun y e => by cases e) ht hrun
              · rw [if_neg hm]
                have hn0 : news ≠ [] := fun e' => by
                  rw [e'] at b1
                  simp only [List.length_nil] at b1
                  rcases Nat.mul_eq_zero.1 b1.symm with e1 | e1
                  · exact hm e1
                  · omega
                exact stp_newArr (a := ⟨X.P.cellsOf e, .nil0, .var S.nv⟩) hb g1 g2 c2 b1 (by
                  cases news with
                  | nil => exact absurd rfl hn0
                  | cons _ _ => rfl) (fun y e => by cases e) ht hrun
            · cases hv
          · cases hv
        · cases h
      · cases h
    · cases h
  · cases h
end
end Go.Proofs.Ytlminnpaeaganaa
