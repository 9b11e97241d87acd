/- Residual programs answer as the code does. No condition. -/
import Derived.Test.YtlminnpaeaganaaMSymF
namespace Go.Proofs.Ytlminnpaeaganaa
open Go Go.RowKit
set_option linter.unusedVariables false
set_option linter.unusedSimpArgs false
structure KeepH (S H : Sym) : Prop where
  base : H.base = S.base
  bbase : H.bbase = S.bbase
  site : H.site = S.site
  kn : H.kn = S.kn
  ys : H.ys = S.ys
theorem KeepH.refl (S : Sym) : KeepH S S := ⟨rfl, rfl, rfl, rfl, rfl⟩
theorem KeepH.trans {S S1 S2 : Sym} (h : KeepH S S1) (k : KeepH S1 S2) : KeepH S S2 := ⟨k.base.trans h.base, k.bbase.trans h.bbase, k.site.trans h.site, k.kn.trans h.kn, k.ys.trans h.ys⟩
theorem keepH_lose : ∀ (l : List Nat) (S : Sym), KeepH S (S.lose l)
  | [], S => KeepH.refl S
  | k :: l, S => by
    have h : KeepH S { S.mapV (SV.hitS k true) with ar := S.ar.set k none } := ⟨rfl, rfl, rfl, rfl, rfl⟩
    exact h.trans (keepH_lose l _)
theorem keepH_setAt (S : Sym) (p : Pos) (v : SV) : KeepH S (S.setAt p v) := by
  unfold Sym.setAt
  split
  · split
    · exact ⟨rfl, rfl, rfl, rfl, rfl⟩
    · exact KeepH.refl S
  · exact ⟨rfl, rfl, rfl, rfl, rfl⟩
theorem keepH_fresh : ∀ (l : List Pos) (S : Sym), KeepH S (S.fresh l)
  | [], S => KeepH.refl S
  | p :: l, S => by
    simp only [Sym.fresh]
    split
    · have h := keepH_setAt S p (.e (.var S.nv))
      have h' : KeepH S { S.setAt p (.e (.var S.nv)) with nv := S.nv + 1 } := ⟨h.base, h.bbase, h.site, h.kn, h.ys⟩
      exact h'.trans (keepH_fresh l _)
    · rename_i sz b _
      have h := keepH_setAt S p (.own S.ar.length)
      have h' : KeepH S { S.setAt p (.own S.ar.length) with ar := S.ar ++ [some ⟨sz, b, .var S.nv⟩], nv := S.nv + 1 } := ⟨h.base, h.bbase, h.site, h.kn, h.ys⟩
      exact h'.trans (keepH_fresh l _)
theorem keepH_freshA : ∀ (l : List Nat) (S : Sym), KeepH S (S.freshA l)
  | [], S => KeepH.refl S
  | k :: l, S => by
    simp only [Sym.freshA]
    split
    · rename_i a _
      have h' : KeepH S { S with ar := S.ar.set k (some { a with c := .var S.nv }), nv := S.nv + 1 } := ⟨rfl, rfl, rfl, rfl, rfl⟩
      exact h'.trans (keepH_freshA l _)
    · have h' : KeepH S { S with nv := S.nv + 1 } := ⟨rfl, rfl, rfl, rfl, rfl⟩
      exact h'.trans (keepH_freshA l _)
theorem keepH_headOf (sk : Skel) (S : Sym) : KeepH S (headOf sk S) := by
  unfold headOf
  have h1 := keepH_lose (rmOf S sk.pos) S
  have h2 : KeepH (S.lose (rmOf S sk.pos)) ((S.lose (rmOf S sk.pos)).keep sk.live) := ⟨rfl, rfl, rfl, rfl, rfl⟩
  have h3 := keepH_fresh sk.pos ((S.lose (rmOf S sk.pos)).keep sk.live)
  have h4 := keepH_freshA sk.arrs (Sym.fresh ((S.lose (rmOf S sk.pos)).keep sk.live) sk.pos)
  have h := ((h1.trans h2).trans h3).trans h4
  exact ⟨h.base, h.bbase, h.site, h.kn, h.ys⟩
structure FitH (sk : Skel) (S1 H S : Sym) (ps qs : List PE) (ks : List (Option Nat)) : Prop where
  v : valsOf S sk.pos = some (ps, ks)
  a : valsA S1 S sk.arrs = some qs
  nv : H.nv = S1.nv + sk.pos.length + sk.arrs.length
  pos : posOk H S1.ar.length S1.nv sk.pos = true
  arrs : arrsOk H S1 (S1.nv + sk.pos.length) sk.arrs = true
  dist : distinctK (freshK H sk.pos) = true
  fresh : freshOk (freshK H sk.pos) S1.ar.length H.ar.length = true
  le : S1.ar.length ≤ H.ar.length
  g : sameG (fun t => isPos sk.pos false t 0) H S1.ar.length 0 H.g S1.g S.g = true
  b : sameB sk.pos H S1.ar.length 0 H.bx S1.bx S.bx = true
  sa : sameA ks sk.arrs H S1 S S1.ar.length = true
  al : ∀ k ∈ sk.arrs, k < S1.ar.length
  y : sameY H.ys S.ys = true
  e : sk.eff = true ∨ S.eff = false ∧ baseOk H S1 S ks sk.arrs = true
theorem fitVals_ok {sk : Skel} {S1 H S : Sym} {vs : List PE} (h : fitVals sk S1 H S = some vs) : ∃ ps qs ks, vs = ps ++ qs ∧ FitH sk S1 H S ps qs ks := by
  unfold fitVals at h
  split at h
  · rename_i ps ks hv
    split at h
    · rename_i qs ha
      split at h
      · rename_i hc
        injection h with h
        simp only [Bool.and_eq_true, decide_eq_true_eq, Bool.or_eq_true, Bool.not_eq_true', List.all_eq_true] at hc
        obtain ⟨⟨⟨⟨⟨⟨⟨⟨⟨⟨⟨h1, h2⟩, h3⟩, h4⟩, h5⟩, h6⟩, h7⟩, h8⟩, h9⟩, h10⟩, h11⟩, h12⟩ := hc
        exact ⟨ps, qs, ks, h.symm, hv, ha, h1, h2, h3, h4, h5, h6, h7, h8, h9, h10, h11, h12⟩
      · cases h
    · cases h
  · cases h
section
variable {F : Frm} {S S1 H : Sym} {ρ ρ1 : List PV} {ids ids1 : Nat → Option Nat} {s s1 : St} {ps qs : List PE} {ks : List (Option Nat)} {sk : Skel} {ρH : List PV} {idsH : Nat → Option Nat}
theorem pos_arr {p : Pos} {pe : PE} {ko : Option Nat} {v sz : Nat} {b : BN} {K : Nat} (h : Rel F S ρ ids s) (hown : p.own = some (sz, b)) (hV : PosV S p pe ko) (hvar : ρH.getD v .bad = pe.den ρ) (hid : idsH K = ko.bind ids) :
    ∃ cs, AR.rel (H.env ρH idsH) K ⟨sz, b, .var v⟩ cs ∧ ∀ q, RV F (S.env ρ ids) (S.at p) q → q = ownV b (idsH K) sz cs ∧ plainC cs = true := by
  rcases hV with ⟨h1, _⟩ | ⟨sz', b', k, a, h1, h2, h3, h4, h5, h6, rfl, rfl⟩ | ⟨sz', h1, h2, h3, rfl, rfl⟩
  · rw [hown] at h1; cases h1
  · rw [hown] at h1
    injection h1 with h1
    injection h1 with e1 e2
    subst e1; subst e2
    obtain ⟨cs, hr⟩ := h.arr k a h3
    obtain ⟨r1, r2, r3, r4, r5, r6⟩ := hr
    have hρ : (S.env ρ ids).ρ = ρ := rfl
    rw [hρ] at r1 r2 r5
    have hp : plainC cs = true := by have := SE.ok_plain r1; rw [r2] at this; simpa only [PV.plain] using this
    have hden : ρH.getD v .bad = .agg cs := by rw [hvar]; simp only [PE.den, r2]
    have hnil : ∀ ρ', isNil ρ' a.born cs = isNil ρ a.born cs := fun ρ' => by
      cases hb : a.born with
      | dyn x => rw [← h5, hb] at h6; cases h6
      | map => rw [← h5, hb] at h6; cases h6
      | it => rw [← h5, hb] at h6; cases h6
      | real => rfl
      | nil0 => rfl
    refine ⟨cs, ⟨?_, hden, by rw [← h4]; exact r3, by rw [← h4]; exact r4, ?_, fun x e => ?_⟩, fun q hq => ⟨?_, hp⟩⟩
    · show (ρH.getD v .bad).plain = true
      rw [hden]; simpa only [PV.plain] using hp
    · show isNil ρH b cs = some (idsH K).isNone
      rw [hid, ← h5, hnil ρH, r5]; rfl
    · simp only at e
      rw [← h5] at h6
      rw [h5, e] at h6
      cases h6
    · rw [h2] at hq
      unfold RV at hq
      obtain ⟨a', cs', g1, g2, g3⟩ := hq
      have : S.arr k = some a' := g1
      rw [h3] at this
      injection this with this
      subst this
      have := AR.rel_of g2 ⟨r1, r2, r3, r4, r5, r6⟩
      subst this
      rw [g3, hid, ← h4, ← h5]
      rfl
  · rw [hown] at h1
    injection h1 with h1
    injection h1 with e1 e2
    subst e1; subst e2
    refine ⟨[], ⟨?_, ?_, h2, by simp, ?_, fun x e => by cases e⟩, fun q hq => ⟨?_, rfl⟩⟩
    · show (ρH.getD v .bad).plain = true
      rw [hvar]; rfl
    · show ρH.getD v .bad = .agg []
      rw [hvar]; rfl
    · show isNil ρH .nil0 [] = some (idsH K).isNone
      rw [hid]; rfl
    · rw [h3] at hq
      unfold RV at hq
      rw [hid, hq.1]; rfl
theorem pos_rv {p : Pos} {pe : PE} {ko : Option Nat} {v n1 N : Nat} (h : Rel F S ρ ids s) (hP : PosH H n1 v p) (hV : PosV S p pe ko) (hvar : ρH.getD v .bad = pe.den ρ) (hid : ∀ K, H.at p = .own K → idsH K = ko.bind ids) {q : PV} (hq : RV F (S.env ρ ids) (S.at p) q) :
    RV F (H.env ρH idsH) (H.at p) (q.cutb N) ∧ (q.one = true → (q.cutb N).one = true) := by
  rcases hP with ⟨h1, h2⟩ | ⟨sz, b, K, h1, h2, h3, h4⟩
  · rcases hV with ⟨g1, g2, g3⟩ | ⟨sz', b', k, a, g1, _⟩ | ⟨sz', g1, _⟩
    · obtain ⟨e1, e2⟩ := pe_den g2 hq
      have e1' : q = pe.den ρ := e1
      rw [plain_cutb _ q e2, h2]
      refine ⟨?_, fun h => h⟩
      unfold RV
      have hv : SE.den (H.env ρH idsH).ρ (.var v) = q := by show ρH.getD v .bad = q; rw [hvar, e1']
      exact ⟨hv.symm, by show (ρH.getD v .bad).plain = true; rw [hvar, ← e1']; exact e2⟩
    · rw [h1] at g1; cases g1
    · rw [h1] at g1; cases g1
  · obtain ⟨cs, hr, hq'⟩ := pos_arr (H := H) (K := K) h h1 hV hvar (hid K h2)
    obtain ⟨e, hp⟩ := hq' q hq
    have hc : q.cutb N = q := by
      rw [e]
      exact ownV_cutb hp
    rw [hc, h2]
    refine ⟨?_, fun h => h⟩
    unfold RV
    exact ⟨_, cs, h4, hr, e⟩
end
end Go.Proofs.Ytlminnpaeaganaa
namespace Go.Proofs.Ytlminnpaeaganaa
open Go Go.RowKit
set_option linter.unusedVariables false
set_option linter.unusedSimpArgs false
theorem sameY_eq : ∀ {a b : List YS}, sameY a b = true → a.map YS.core = b.map YS.core → a = b
  | [], [], _, _ => rfl
  | [], _ :: _, h, _ => by simp [sameY] at h
  | _ :: _, [], h, _ => by simp [sameY] at h
  | a :: l, b :: m, h, k => by
    simp only [sameY, Bool.and_eq_true, decide_eq_true_eq] at h
    simp only [List.map_cons, List.cons.injEq] at k
    have e : a = b := by
      obtain ⟨g, f, ps, asg, body, p, pend, busy⟩ := a
      obtain ⟨g', f', ps', asg', body', p', pend', busy'⟩ := b
      have k1 := k.1
      simp only [YS.core, YS.mk.injEq] at k1
      obtain ⟨⟨h1, h2⟩, _⟩ := h
      simp only at h1 h2
      simp only [YS.mk.injEq]
      exact ⟨k1.1, k1.2.1, k1.2.2.1, k1.2.2.2.1, k1.2.2.2.2.1, k1.2.2.2.2.2.1, h1, h2⟩
    rw [e, sameY_eq h.2 k.2]
section
variable {F : Frm} {S S1 H : Sym} {ρ ρ1 : List PV} {ids ids1 : Nat → Option Nat} {s s1 : St} {ps qs : List PE} {ks : List (Option Nat)} {sk : Skel}
theorem fit_one {q : PV} {N : Nat} (h : q.one = true) : (q.cutb N).one = true ∨ q.cutb N = .bad := by
  cases q with
  | ptr i o =>
    simp only [PV.cutb]
    split
    · exact .inl rfl
    · exact .inr rfl
  | undef => simp [PV.one] at h
  | bad => simp [PV.one] at h
  | agg _ => simp [PV.one] at h
  | tup _ => simp [PV.one] at h
  | _ => exact .inl rfl
def idsF (n1 : Nat) (Ks ks : List (Option Nat)) (ids : Nat → Option Nat) (k : Nat) : Option Nat :=
  if k < n1 then (if ks.contains (some k) = true then none else ids k) else (renId Ks ks k).bind ids
theorem fit_ok (h1 : Rel F S1 ρ1 ids1 s1) (h : Rel F S ρ ids s) (hx : Ext S1 ρ1 S ρ) (hH : KeepH S1 H) (heff : H.eff = sk.eff) (hf : FitH sk S1 H S ps qs ks) :
    Silent s (s.trim (F.n0 + S1.bx.length)) ∧ Rel F H (ρ1 ++ denL ρ (ps ++ qs)) (idsF S1.ar.length (freshK H sk.pos) ks ids) (s.trim (F.n0 + S1.bx.length)) ∧ Ext S1 ρ1 H (ρ1 ++ denL ρ (ps ++ qs)) := by
  obtain ⟨v1, v2, v3, v4⟩ := valsOf_get hf.v
  obtain ⟨a1, a2⟩ := valsA_get hf.a
  have hpos := posOk_get hf.pos
  have harrs := arrsOk_get hf.arrs
  have hdist := distinctK_get hf.dist
  obtain ⟨g1, g2, g3⟩ := sameG_get hf.g
  obtain ⟨b1, b2, b3⟩ := sameB_get hf.b
  have hlen1 : ρ1.length = S1.nv := h1.len
  generalize hρH : ρ1 ++ denL ρ (ps ++ qs) = ρH
  generalize hidsH : idsF S1.ar.length (freshK H sk.pos) ks ids = idsH
  have hvar : ∀ (j : Nat) pe, (ps ++ qs)[j]? = some pe → ρH.getD (S1.nv + j) .bad = pe.den ρ := fun j pe hj => by
    rw [← hρH, denL_eq, List.getD_eq_getElem?_getD, List.getElem?_append_right (by omega), hlen1]
    rw [show S1.nv + j - S1.nv = j by omega, List.getElem?_map, hj]; rfl
  have hvp : ∀ (j : Nat) pe, ps[j]? = some pe → ρH.getD (S1.nv + j) .bad = pe.den ρ := fun j pe hj => hvar j pe (by
    rw [List.getElem?_append_left (List.getElem?_eq_some_iff.1 hj).1]; exact hj)
  have hvq : ∀ (j : Nat) pe, qs[j]? = some pe → ρH.getD (S1.nv + sk.pos.length + j) .bad = pe.den ρ := fun j pe hj => by
    have := hvar (ps.length + j) pe (by rw [List.getElem?_append_right (by omega), show ps.length + j - ps.length = j by omega]; exact hj)
    rwa [v1, ← Nat.add_assoc] at this
  have hpH : ρ1 <+: ρH := by rw [← hρH]; exact List.prefix_append _ _
  have hbl : H.bx.length = S1.bx.length := b1
  have hfresh : ∀ (j : Nat) p ko K, sk.pos[j]? = some p → ks[j]? = some ko → p.own.isSome = true → H.at p = .own K → S1.ar.length ≤ K → idsH K = ko.bind ids := fun j p ko K hp hk ho hat hle => by
    have hfk := freshK_get (H := H) hp
    have : (freshK H sk.pos)[j]? = some (some K) := by
      rw [hfk, hat]
      cases hown : p.own with
      | none => rw [hown] at ho; cases ho
      | some _ => rfl
    rw [← hidsH]
    unfold idsF
    rw [if_neg (by omega), renId_get hdist this hk]
  have hplace : ∀ (j : Nat) p, sk.pos[j]? = some p → ∀ q, RV F (S.env ρ ids) (S.at p) q → RV F (H.env ρH idsH) (H.at p) (q.cutb (F.n0 + S1.bx.length)) ∧ (q.one = true → (q.cutb (F.n0 + S1.bx.length)).one = true) := fun j p hj q hq => by
    obtain ⟨pe, ko, e1, e2, hV⟩ := v3 j p hj
    have hP := hpos j p hj
    refine pos_rv h hP hV (hvp j pe e1) (fun K hK => ?_) hq
    rcases hP with ⟨_, h2⟩ | ⟨sz, b, K', h3, h4, h5, h6⟩
    · rw [hK] at h2; cases h2
    · exact hfresh j p ko K hj e2 (by rw [h3]; rfl) hK (by rw [h4] at hK; injection hK with hK; omega)
  have helder : ∀ k a, k < S1.ar.length → H.arr k = some a → idsH k = ids k ∧ ∃ a', S.arr k = some a' ∧ (a'.sz = a.sz ∧ a'.born = a.born) ∧ ∀ cs, a'.rel (S.env ρ ids) k cs → a.rel (H.env ρH idsH) k cs := fun k a hk ha => by
    have hs := hf.sa
    unfold sameA at hs
    have hs := List.all_eq_true.1 hs k (List.mem_range.2 hk)
    simp only [ha, Bool.and_eq_true, Bool.not_eq_true', Bool.or_eq_true] at hs
    obtain ⟨hn, hs⟩ := hs
    have hid : idsH k = ids k := by rw [← hidsH]; unfold idsF; rw [if_pos hk, hn]; simp
    refine ⟨hid, ?_⟩
    rcases hs with hs | ⟨hs1, hs2⟩
    · have hm : k ∈ sk.arrs := by simpa [List.contains_iff_mem] using hs
      obtain ⟨j, hj⟩ := List.mem_iff_getElem?.1 hm
      obtain ⟨a0, e1, e2⟩ := harrs j k hj
      obtain ⟨x, a', e3, e4, e5, e6, e7⟩ := a2 j k hj
      rw [e1] at e3; injection e3 with e3; subst e3
      rw [ha] at e2; injection e2 with e2
      refine ⟨a', e4, by rw [e2]; exact ⟨e6, e7⟩, fun cs hr => ?_⟩
      obtain ⟨r1, r2, r3, r4, r5, r6⟩ := hr
      have hρ : (S.env ρ ids).ρ = ρ := rfl
      have hi : (S.env ρ ids).ids = ids := rfl
      rw [hρ] at r1 r2 r5
      rw [hi] at r5
      obtain ⟨cs0, q1, q2, q3, q4, q5, q6⟩ := h1.arr k a0 e1
      have q6' : ∀ x, a0.born = .dyn x → x.ok ρ1 := q6
      have hv := hvq j _ e5
      have hden : ρH.getD (S1.nv + sk.pos.length + j) .bad = .agg cs := by rw [hv]; exact r2
      have hp : plainC cs = true := by have := SE.ok_plain r1; rw [r2] at this; simpa only [PV.plain] using this
      subst e2
      refine ⟨?_, hden, by show 0 < a0.sz; rw [← e6]; exact r3, by show cs.length = cs.length / a0.sz * a0.sz; rw [← e6]; exact r4, ?_, fun x hx' => ?_⟩
      · show (ρH.getD _ .bad).plain = true
        rw [hden]; simpa only [PV.plain] using hp
      · show isNil ρH a0.born cs = some (idsH k).isNone
        rw [isNil_prefix hpH q6', hid, ← r5, e7, isNil_prefix hx.pre q6']
      · exact (SE.den_prefix hpH (q6' x hx')).2
    · have e1 := arB_eq hs1
      have e2 := arB_eq hs2
      refine ⟨a, e2.symm, ⟨rfl, rfl⟩, fun cs hr => ?_⟩
      obtain ⟨r1, r2, r3, r4, r5, r6⟩ := hr
      have hρ : (S.env ρ ids).ρ = ρ := rfl
      have hi : (S.env ρ ids).ids = ids := rfl
      rw [hρ] at r1 r2 r5
      rw [hi] at r5
      obtain ⟨cs0, q1, q2, q3, q4, q5, q6⟩ := h1.arr k a e1.symm
      have q1' : a.c.ok ρ1 := q1
      have q6' : ∀ x, a.born = .dyn x → x.ok ρ1 := q6
      obtain ⟨d1, d2⟩ := SE.den_prefix hpH q1'
      obtain ⟨d3, _⟩ := SE.den_prefix hx.pre q1'
      refine ⟨d2, ?_, r3, r4, ?_, fun x hx' => (SE.den_prefix hpH (q6' x hx')).2⟩
      · show a.c.den ρH = .agg cs
        rw [d1, ← d3]; exact r2
      · show isNil ρH a.born cs = some (idsH k).isNone
        rw [isNil_prefix hpH q6', hid, ← r5, isNil_prefix hx.pre q6']
  have hmv : Mv F (S1.env ρ1 ids1) (S.env ρ ids) (H.env ρH idsH) H S1.ar.length := by
    refine ⟨hx.pre, hpH, hbl.symm, rfl, fun k cs a hk ha ⟨a', h2, h3⟩ => ?_⟩
    obtain ⟨e1, a'', e2, e3, e4⟩ := helder k a hk ha
    have : S.arr k = some a' := h2
    rw [e2] at this; injection this with this; subst this
    exact ⟨e4 cs h3, e1, fun a3 h4 => by
      have : S.arr k = some a3 := h4
      rw [e2] at this; injection this with this; subst this; exact e3⟩
  have hnb : (H.env ρH idsH).nb = S1.bx.length := hbl
  have hkeepv : ∀ hv u v q q0, svOk H S1.ar.length hv u v = true → RV F (S1.env ρ1 ids1) u q0 → RV F (S.env ρ ids) v q → RV F (H.env ρH idsH) hv (q.cutb (F.n0 + S1.bx.length)) := fun hv u v q q0 hok hu hq => by
    rcases svOk_cases hok with rfl | ⟨rfl, e, ht⟩
    · simp only [RV]
    · rw [← e] at hq
      have := hmv.rv ht hu hq
      rwa [hnb] at this
  have hrc : RcOk F H.ys ρH s.m.rc := by
    have e : H.ys = S.ys := sameY_eq hf.y (by rw [hH.ys]; exact hx.ys.symm)
    rw [e]
    exact ⟨h1.rc.pre.trans hpH, h.rc.len, h.rc.rc, h.rc.y, h.rc.ne, h.rc.ne0⟩
  have hn0 : F.n0 + S1.bx.length ≤ s.m.n := by rw [h.boxn]; have := hx.bx; omega
  have hen : F.ent.n ≤ F.n0 + S1.bx.length := by rw [h1.bbase]; have := h1.bb; omega
  refine ⟨silent_trim s hn0 (by rw [h.a0]; exact hen) (by rw [h.a0]; exact h.an) (fun e he => (h.efc e he).2), ?_, hpH, hH.base, hH.bbase, hH.site, hH.site, by rw [hH.ys], by omega, g1⟩
  have hfr : ∀ k, S1.ar.length ≤ k → k < H.ar.length → ∃ j p ko pe sz b, sk.pos[j]? = some p ∧ ks[j]? = some ko ∧ ps[j]? = some pe ∧ PosV S p pe ko ∧ p.own = some (sz, b) ∧ H.at p = .own k ∧ H.arr k = some ⟨sz, b, .var (S1.nv + j)⟩ := fun k hk1 hk2 => by
    have hfo := hf.fresh
    unfold freshOk at hfo
    have hfo := List.all_eq_true.1 hfo k (List.mem_range.2 hk2)
    simp only [Bool.or_eq_true, decide_eq_true_eq] at hfo
    have hm : some k ∈ freshK H sk.pos := by
      rcases hfo with hfo | hfo
      · omega
      · simpa [List.contains_iff_mem] using hfo
    obtain ⟨j, hj⟩ := List.mem_iff_getElem?.1 hm
    have hjl : j < sk.pos.length := by
      have := (List.getElem?_eq_some_iff.1 hj).1
      rwa [freshK_length] at this
    have hp : sk.pos[j]? = some sk.pos[j] := by simp [hjl]
    rw [freshK_get hp] at hj
    injection hj with hj
    obtain ⟨pe, ko, e1, e2, hV⟩ := v3 j _ hp
    split at hj
    · rename_i x K hown hat
      injection hj with hj
      subst hj
      rcases hpos j _ hp with ⟨h2, _⟩ | ⟨sz, b, K', h3, h4, h5, h6⟩
      · rw [hown] at h2; cases h2
      · rw [hat] at h4
        injection h4 with h4
        subst h4
        exact ⟨j, _, ko, pe, sz, b, hp, e2, e1, hV, h3, hat, h6⟩
    · cases hj
  have hidc : ∀ k id, idsH k = some id → ∃ k', ids k' = some id ∧ k < H.ar.length ∧ ((k < S1.ar.length ∧ k' = k ∧ ks.contains (some k) = false) ∨ (S1.ar.length ≤ k ∧ ∃ j : Nat, (freshK H sk.pos)[j]? = some (some k) ∧ ks[j]? = some (some k'))) := fun k id hk => by
    rw [← hidsH] at hk
    unfold idsF at hk
    split at hk
    · rename_i hlt
      split at hk
      · cases hk
      · rename_i hc
        have := hf.le
        exact ⟨k, hk, by omega, .inl ⟨hlt, rfl, by simpa using hc⟩⟩
    · rename_i hlt
      obtain ⟨k', e1, e2⟩ := Option.bind_eq_some_iff.1 hk
      obtain ⟨j, e3, e4⟩ := renId_some e1
      refine ⟨k', e2, ?_, .inr ⟨by omega, j, e3, e4⟩⟩
      have hjl : j < sk.pos.length := by
        have := (List.getElem?_eq_some_iff.1 e3).1
        rwa [freshK_length] at this
      have hp : sk.pos[j]? = some sk.pos[j] := by simp [hjl]
      rw [freshK_get hp] at e3
      injection e3 with e3
      split at e3
      · rename_i x K hown hat
        injection e3 with e3
        subst e3
        rcases hpos j _ hp with ⟨h2, _⟩ | ⟨sz, b, K', h3, h4, h5, h6⟩
        · rw [hown] at h2; cases h2
        · rw [hat] at h4
          injection h4 with h4
          subst h4
          unfold Sym.arr at h6
          rw [List.getD_eq_getElem?_getD] at h6
          rcases Nat.lt_or_ge K H.ar.length with hl | hl
          · exact hl
          · rw [List.getElem?_eq_none hl] at h6; cases h6
      · cases e3
  have hinjk : ∀ (i j : Nat) k, ks[i]? = some (some k) → ks[j]? = some (some k) → i = j := v4
  have hbase : H.eff = false → S.eff = false ∧ ∀ k, k < H.base → H.arr k = S.arr k ∧ ks.contains (some k) = false := fun he => by
    rcases hf.e with h2 | ⟨h2, h3⟩
    · rw [heff, h2] at he; cases he
    · refine ⟨h2, fun k hk => ?_⟩
      unfold baseOk at h3
      have h3 := List.all_eq_true.1 h3 k (List.mem_range.2 hk)
      simp only [Bool.and_eq_true, Bool.not_eq_true'] at h3
      exact ⟨arB_eq h3.1.1.2, h3.1.2⟩
  refine ⟨?_, fun i hi => ?_, fun t => ?_, ?_, fun i hi => ?_, fun i b hb => ?_, fun k id hk => ?_, fun k j id hk hj => ?_, fun k a ha => ?_, h.a0, h.ent, h.efc, fun he => h.eff (he.imp_left fun he => (hbase he).1), fun he k id hk hle => ?_, fun he k hk => ?_, by rw [hH.bbase]; exact h1.bbase, by rw [hH.base]; exact Nat.le_trans h1.ba hf.le, by rw [hH.bbase, hbl]; exact h1.bb, h.an, h.obd, hrc⟩
  · rw [← hρH, List.length_append, denL_eq, List.length_map, List.length_append, hlen1, v1, a1, hf.nv]; omega
  · rw [hH.kn] at hi
    have hk1 := h1.kn i hi
    have hlt : i < ρ1.length := by
      rcases Nat.lt_or_ge i ρ1.length with h2 | h2
      · exact h2
      · simp [List.getD_eq_getElem?_getD, List.getElem?_eq_none h2, PV.one] at hk1
    rw [← hρH]
    simpa [List.getD_eq_getElem?_getD, List.getElem?_append_left hlt] using hk1
  · rw [St.trim_g]
    rcases Nat.lt_or_ge t H.g.length with hl | hl
    · have e1 : H.g[t]? = some H.g[t] := by simp [hl]
      have e2 : S1.g[t]? = some (S1.get t) := by
        have : t < S1.g.length := by omega
        simp [Sym.get, List.getD_eq_getElem?_getD, this]
      have e3 : S.g[t]? = some (S.get t) := by
        have : t < S.g.length := by omega
        simp [Sym.get, List.getD_eq_getElem?_getD, this]
      have e4 : H.get t = H.g[t] := by simp [Sym.get, List.getD_eq_getElem?_getD, hl]
      rcases g3 t _ _ _ e1 e2 e3 with hp | hp
      · rw [Nat.zero_add] at hp
        obtain ⟨j, p, hj, hbx, hi, _⟩ := isPos_get hp
        have at1 : S.at p = S.get t := by unfold Sym.at; rw [hbx, hi]; simp
        have at2 : H.at p = H.get t := by unfold Sym.at; rw [hbx, hi]; simp
        have := (hplace j p hj (s.g t) (by rw [at1]; exact h.slot t)).1
        rwa [at2] at this
      · rw [e4]
        exact hkeepv _ _ _ _ _ hp (h1.slot t) (h.slot t)
    · have : H.get t = .junk := by simp [Sym.get, List.getD_eq_getElem?_getD, List.getElem?_eq_none hl]
      rw [this]; simp only [RV]
  · rw [St.trim_n, hbl]
  · rw [St.trim_β, h.old i hi]
    cases hb : F.β0 i with
    | cells l =>
      have : (BoxC.cells l).cutb (F.n0 + S1.bx.length) = .cells (cutbL (F.n0 + S1.bx.length) l) := by simp [BoxC.cutb, cutbL_eq]
      rw [this, bdL_cutb_id (by omega : F.n0 ≤ F.n0 + S1.bx.length) l (h.obd i l hi hb)]
    | inv I => rfl
    | hole => rfl
  · rw [St.trim_β]
    have hi : i < H.bx.length := (List.getElem?_eq_some_iff.1 hb).1
    have hi1 : i < S1.bx.length := by omega
    have hi2 : i < S.bx.length := by omega
    have e2 : S1.bx[i]? = some S1.bx[i] := by simp [hi1]
    have e3 : S.bx[i]? = some S.bx[i] := by simp [hi2]
    have hok := b3 i _ _ _ hb e2 e3
    rw [Nat.zero_add] at hok
    have hr1 := h1.box i _ e2
    have hr := h.box i _ e3
    cases hb' : b with
    | cells hs =>
      cases hu : S1.bx[i] with
      | cells us =>
        cases hv : S.bx[i] with
        | cells vs =>
          rw [hb', hu, hv] at hok
          rw [hu] at hr1
          rw [hv] at hr
          obtain ⟨l1, f1, f2⟩ := hr1
          obtain ⟨l', f3, f4⟩ := hr
          have hok' : sameG (isPos sk.pos true i) H S1.ar.length 0 hs us vs = true := hok
          obtain ⟨c1, c2, c3⟩ := sameG_get hok'
          refine ⟨cutbL (F.n0 + S1.bx.length) l', by rw [f3]; simp [BoxC.cutb, cutbL_eq], ?_⟩
          rw [cutbL_eq]
          have hl' := rvl_length f4
          have hl1 := rvl_length f2
          refine rvl_iff.2 ⟨by simp; omega, fun j hvj q hj hq => ?_⟩
          rw [List.getElem?_map] at hq
          obtain ⟨q0, hq0, rfl⟩ := Option.map_eq_some_iff.1 hq
          have hjl : j < hs.length := (List.getElem?_eq_some_iff.1 hj).1
          have ju : us[j]? = some us[j] := by simp [show j < us.length by omega]
          have jv : vs[j]? = some vs[j] := by simp [show j < vs.length by omega]
          have jl1 : l1[j]? = some l1[j] := by simp [show j < l1.length by omega]
          obtain ⟨r1, r2⟩ := (rvl_iff.1 f4).2 j _ q0 jv hq0
          obtain ⟨r3, r4⟩ := (rvl_iff.1 f2).2 j _ _ ju jl1
          rcases c3 j _ _ _ hj ju jv with hp | hp
          · rw [Nat.zero_add] at hp
            obtain ⟨jj, p, hjj, hbx, hpi, hpj⟩ := isPos_get hp
            have at1 : S.at p = vs[j] := by
              unfold Sym.at
              rw [hbx, hpi, hpj rfl]
              simp only [if_true, List.getD_eq_getElem?_getD, e3, Option.getD_some, hv, jv]
            have at2 : H.at p = hvj := by
              unfold Sym.at
              rw [hbx, hpi, hpj rfl]
              simp only [if_true, List.getD_eq_getElem?_getD, hb, Option.getD_some, hb', hj]
            have := hplace jj p hjj q0 (by rw [at1]; exact r1)
            rw [at2] at this
            refine ⟨this.1, ?_⟩
            rcases r2 with r2 | r2
            · obtain ⟨pe, ko, _, _, hV⟩ := v3 jj p hjj
              rw [← at1] at r2
              rcases hV with ⟨_, g, _⟩ | ⟨_, _, _, _, _, g, _⟩ | ⟨_, _, _, g, _⟩
              · rw [r2] at g; simp [SV.pe] at g
              · rw [r2] at g; cases g
              · rw [r2] at g; cases g
            · exact .inr (this.2 r2)
          · have hk := hkeepv _ _ _ _ _ hp r3 r1
            refine ⟨hk, ?_⟩
            rcases svOk_cases hp with e | ⟨e, e', _⟩
            · exact .inl e
            · rcases r2 with r2 | r2
              · exact .inl (by rw [e', r2])
              · rcases fit_one (N := F.n0 + S1.bx.length) r2 with r5 | r5
                · exact .inr r5
                · rw [r5] at hk; exact .inl (rv_bad hk)
        | dice => rw [hb', hu, hv] at hok; exact hok.elim
        | gone => rw [hb', hu, hv] at hok; exact hok.elim
      | dice => rw [hb', hu] at hok; cases hv : S.bx[i] <;> rw [hv] at hok <;> exact hok.elim
      | gone => rw [hb', hu] at hok; cases hv : S.bx[i] <;> rw [hv] at hok <;> exact hok.elim
    | dice =>
      cases hv : S.bx[i] with
      | dice =>
        rw [hv] at hr
        have : s.m.β (F.n0 + i) = .inv F.DI := hr
        show (s.m.β (F.n0 + i)).cutb _ = .inv F.DI
        rw [this]; rfl
      | cells _ => rw [hb', hv] at hok; cases hu : S1.bx[i] <;> rw [hu] at hok <;> exact hok.elim
      | gone => rw [hb', hv] at hok; cases hu : S1.bx[i] <;> rw [hu] at hok <;> exact hok.elim
    | gone => trivial
  · obtain ⟨k', e1, e2, _⟩ := hidc k id hk
    exact ⟨(h.idlt k' id e1).1, (h.idlt k' id e1).2.1, e2⟩
  · obtain ⟨k', e1, _, c1⟩ := hidc k id hk
    obtain ⟨j', e3, _, c2⟩ := hidc j id hj
    have ekj := h.idinj k' j' id e1 e3
    subst ekj
    rcases c1 with ⟨_, rfl, c1⟩ | ⟨_, i, c3, c4⟩
    · rcases c2 with ⟨_, c2, _⟩ | ⟨_, i, c5, c6⟩
      · exact c2
      · have := List.mem_of_getElem? c6
        simp [List.contains_iff_mem, this] at c1
    · rcases c2 with ⟨_, rfl, c2⟩ | ⟨_, i', c5, c6⟩
      · have := List.mem_of_getElem? c4
        simp [List.contains_iff_mem, this] at c2
      · have := hinjk i i' _ c4 c6
        subst this
        rw [c3] at c5
        injection c5 with c5
        injection c5
  · rcases Nat.lt_or_ge k S1.ar.length with hk | hk
    · obtain ⟨_, a', e2, _, e4⟩ := helder k a hk ha
      obtain ⟨cs, hr⟩ := h.arr k a' e2
      exact ⟨cs, e4 cs hr⟩
    · have hkl : k < H.ar.length := by
        rw [List.getD_eq_getElem?_getD] at ha
        rcases Nat.lt_or_ge k H.ar.length with hl | hl
        · exact hl
        · rw [List.getElem?_eq_none hl] at ha; cases ha
      obtain ⟨j, p, ko, pe, sz, b, e1, e2, e3, hV, e4, e5, e6⟩ := hfr k hk hkl
      have ha' : H.arr k = some a := ha
      rw [e6] at ha'
      injection ha' with ha'
      subst ha'
      obtain ⟨cs, hr, _⟩ := pos_arr (H := H) (K := k) (ρH := ρH) (idsH := idsH) h e4 hV (hvp j pe e3) (hfresh j p ko k e1 e2 (by rw [e4]; rfl) e5 hk)
      exact ⟨cs, hr⟩
  · obtain ⟨k', e1, _, c1⟩ := hidc k id hk
    obtain ⟨he', hb⟩ := hbase he
    have hbe : H.base = S.base := by rw [hH.base, hx.base]
    rcases c1 with ⟨_, rfl, _⟩ | ⟨_, i, _, c4⟩
    · exact h.new he' k' id e1 (by omega)
    · refine h.new he' k' id e1 ?_
      rcases Nat.lt_or_ge k' S.base with hlt | hge
      · have := (hb k' (by omega)).2
        have hm := List.mem_of_getElem? c4
        simp [List.contains_iff_mem, hm] at this
      · exact hge
  · obtain ⟨he', hb⟩ := hbase he
    have hbe : H.base = S.base := by rw [hH.base, hx.base]
    obtain ⟨b4, b5⟩ := hb k hk
    obtain ⟨k1, k2⟩ := h.keep he' k (by omega)
    refine ⟨?_, ?_⟩
    · have : H.arr k = S.arr k := b4
      unfold Sym.arr at this
      rw [this, k1]
    · have hk1 : k < S1.ar.length := Nat.lt_of_lt_of_le (by rw [← hH.base]; exact hk) h1.ba
      rw [← hidsH]
      unfold idsF
      rw [if_pos hk1, b5]
      simpa using k2
end
end Go.Proofs.Ytlminnpaeaganaa
namespace Go.Proofs.Ytlminnpaeaganaa
open Go Go.RowKit
set_option linter.unusedVariables false
set_option linter.unusedSimpArgs false
section
variable {P : Program} {s : St}
theorem goodC_post {A : Anchor} {N : Nat} {Q : Ex → St → Prop} {e : Exit} {a : Act} {w : World} (h : GoodC A N (fun e s' => ∃ s1, Silent s' s1 ∧ Q e s1) e a w) : GoodC A N Q e a w := by
  obtain ⟨ex, s', φ', h1, h2, h3, h4, h5, s1, h6, h7⟩ := h
  obtain ⟨φ1, k1, k2⟩ := h6.2 φ' w N a ⟨A.φ0, A.w0, φ', w⟩ h2 ⟨h3.st, Rest.refl φ' w⟩ h5
  exact ⟨ex, s1, φ1, h1, k1, ⟨k2.st, h3.re.trans k2.re⟩, h4.rest k2.re, by unfold Old at h5 ⊢; rw [h6.1]; exact h5, h7⟩
theorem codeSem_post {c : Code} {Q : Ex → St → Prop} (h : CodeSem P c s fun e s' => ∃ s1, Silent s' s1 ∧ Q e s1) : CodeSem P c s Q :=
  fun A φ w N n r a hd hs ha hA hm => wpIn_mono (h A φ w N n r a hd hs ha hA hm) fun _ _ _ h => goodC_post h
theorem sem_loopS {c : Code} {Q : Ex → St → Prop} (I : St → Prop) (μ : St → Nat) (h0 : I s)
    (round : ∀ s, I s → CodeSem P c s fun e s' => match e with
      | .normal => ∃ s1, Silent s' s1 ∧ I s1 ∧ μ s1 < μ s
      | .exit i => Q (.exit i) s'
      | .ret => Q .ret s') : CodeSem P (.loop c) s Q := by
  refine sem_loop I μ h0 fun s hs => ?_
  refine codeSem_post (codeSem_mono (round s hs) fun e s' h => ?_)
  cases e with
  | normal =>
    obtain ⟨s1, h1, h2⟩ := h
    exact ⟨s1, h1, .inl h2⟩
  | exit i => exact ⟨s', Silent.refl s', h⟩
  | ret => exact ⟨s', Silent.refl s', h⟩
end
section
variable {P : Program} {C : Orc → FuncId → List PV → Option PV} {n : Nat} {R : Out → Prop} {ρ : List PV}
theorem iter_low {step : Orc → List PV → Option Out} {L B : Nat} {ex : List Nat} (h : ∀ ω vs L' vs', step ω vs = some (.jump L' vs') → L' ∈ L :: ex ∨ L' < B) : ∀ {k : Nat} {ω : Orc} {vs : List PV} {L' : Nat} {vs' : List PV}, iter step L k ω vs = some (.jump L' vs') → L' ∈ ex ∨ L' < B
  | 0, ω, vs, L', vs', hi => by simp [iter] at hi
  | k + 1, ω, vs, L', vs', hi => by
    simp only [iter] at hi
    split at hi
    · rename_i L'' vs'' hs
      split at hi
      · exact iter_low h hi
      · rename_i hne
        injection hi with hi
        injection hi with e1 e2
        subst e1
        rcases h _ _ _ _ hs with h | h
        · rcases List.mem_cons.1 h with h | h
          · exact absurd h hne
          · exact .inl h
        · exact .inr h
    · rename_i hno
      exact absurd hi (hno _ _)
theorem eval_low {B : Nat} : ∀ {t : Tree} {ex : List Nat} {ω : Orc} {ρ : List PV} {L : Nat} {vs : List PV}, t.low B ex = true → eval P C n t ω ρ = some (.jump L vs) → L ∈ ex ∨ L < B
  | .ret v, ex, ω, ρ, L, vs, h, he => by simp [eval] at he
  | .jump L' l, ex, ω, ρ, L, vs, h, he => by
    simp only [eval, Option.some.injEq, Out.jump.injEq] at he
    simp only [Tree.low, Bool.or_eq_true, decide_eq_true_eq] at h
    rw [← he.1]
    rcases h with h | h
    · exact .inl (by simpa [List.contains_iff_mem] using h)
    · exact .inr h
  | .prim p t, ex, ω, ρ, L, vs, h, he => by
    simp only [eval] at he
    simp only [Tree.low] at h
    split at he
    · exact eval_low h he
    · cases he
  | .ite c a b, ex, ω, ρ, L, vs, h, he => by
    simp only [eval] at he
    simp only [Tree.low, Bool.and_eq_true] at h
    split at he
    · exact eval_low h.1 he
    · exact eval_low h.2 he
    · cases he
  | .call g args t, ex, ω, ρ, L, vs, h, he => by
    simp only [eval] at he
    simp only [Tree.low] at h
    split at he
    · exact eval_low h he
    · cases he
  | .callv f args t, ex, ω, ρ, L, vs, h, he => by
    simp only [eval] at he
    simp only [Tree.low] at h
    split at he
    · split at he
      · exact eval_low h he
      · cases he
    · cases he
  | .pick sz c t, ex, ω, ρ, L, vs, h, he => by
    simp only [eval] at he
    simp only [Tree.low] at h
    split at he
    · exact eval_low h he
    · cases he
  | .loop L' init b, ex, ω, ρ, L, vs, h, he => by
    simp only [eval] at he
    simp only [Tree.low] at h
    exact iter_low (fun ω vs L'' vs' hs => eval_low h hs) he
  | .join L' b k, ex, ω, ρ, L, vs, h, he => by
    simp only [eval] at he
    simp only [Tree.low, Bool.and_eq_true] at h
    split at he
    · rename_i L'' vs'' hb
      split at he
      · exact eval_low h.2 he
      · rename_i hne
        injection he with he
        injection he with e1 e2
        subst e1
        rcases eval_low h.1 hb with g | g
        · rcases List.mem_cons.1 g with g | g
          · exact absurd g hne
          · exact .inl g
        · exact .inr g
    · rename_i hno
      exact absurd he (hno _ _)
  | .die, ex, ω, ρ, L, vs, h, he => by simp [eval] at he
def atL (L : Nat) (J : List PV → Prop) (R : Out → Prop) : Out → Prop
  | .jump L' vs => if L' = L then J vs else R (.jump L' vs)
  | .val v => R (.val v)
theorem run_low {t : Tree} {L : Nat} {J : List PV → Prop} (h : t.low L [] = true) (hrun : Run P C n t ρ (atL L J R)) : Run P C n t ρ R := by
  intro ω
  obtain ⟨o, ho, hR⟩ := hrun ω
  refine ⟨o, ho, ?_⟩
  cases o with
  | val v => exact hR
  | jump L' vs =>
    rcases eval_low h ho with g | g
    · cases g
    · simp only [atL] at hR
      rwa [if_neg (by omega)] at hR
theorem lowK_ok {L : Nat} {x : M} {t : Tree} (h : lowK L x = .ok t) : x = .ok t ∧ t.low L [] = true := by
  unfold lowK at h
  split at h
  · split at h
    · rename_i hl
      injection h with h
      subst h
      exact ⟨rfl, hl⟩
    · cases h
  · cases h
theorem run_join {L : Nat} {b k : Tree} (h : Run P C n (.join L b k) ρ R) : Run P C n b ρ (atL L (fun vs => Run P C n k (ρ ++ vs) R) R) := by
  intro ω
  obtain ⟨o, ho, hR⟩ := h (Orc.mk ω ω)
  simp only [eval, Orc.mk_l] at ho
  split at ho
  · rename_i L' vs hb
    refine ⟨_, hb, ?_⟩
    simp only [atL]
    split
    · rename_i hL
      intro ω'
      obtain ⟨o', ho', hR'⟩ := h (Orc.mk ω ω')
      simp only [eval, Orc.mk_l, Orc.mk_r, hb, hL, if_true] at ho'
      exact ⟨o', ho', hR'⟩
    · rename_i hL
      rw [if_neg hL] at ho
      injection ho with ho
      subst ho
      exact hR
  · rename_i hno
    refine ⟨o, ho, ?_⟩
    cases o with
    | val v => exact hR
    | jump L' vs => exact absurd ho (hno _ _)
def Iter (P : Program) (C : Orc → FuncId → List PV → Option PV) (n L : Nat) (b : Tree) (ρ : List PV) (R : Out → Prop) (k : Nat) (vs : List PV) : Prop :=
  ∀ ω, ∃ o, iter (fun ω vs => eval P C n b ω (ρ ++ vs)) L k ω vs = some o ∧ R o
theorem run_loop {L : Nat} {b : Tree} {init : List PE} (h : Run P C n (.loop L init b) ρ R) : Iter P C n L b ρ R n (denL ρ init) := by
  intro ω
  obtain ⟨o, ho, hR⟩ := h ω
  simp only [eval] at ho
  exact ⟨o, ho, hR⟩
theorem iter_zero {L : Nat} {b : Tree} {vs : List PV} (h : Iter P C n L b ρ R 0 vs) : False := by
  obtain ⟨o, ho, _⟩ := h orc0
  simp [iter] at ho
theorem iter_run {L : Nat} {b : Tree} {vs : List PV} {k : Nat} (h : Iter P C n L b ρ R (k + 1) vs) : Run P C n b (ρ ++ vs) (atL L (fun vs' => Iter P C n L b ρ R k vs') R) := by
  intro ω
  obtain ⟨o, ho, hR⟩ := h (Orc.mk ω ω)
  simp only [iter, Orc.mk_l] at ho
  split at ho
  · rename_i L' vs' hb
    refine ⟨_, hb, ?_⟩
    simp only [atL]
    split
    · rename_i hL
      intro ω'
      obtain ⟨o', ho', hR'⟩ := h (Orc.mk ω ω')
      simp only [iter, Orc.mk_l, Orc.mk_r, hb, hL, if_true] at ho'
      exact ⟨o', ho', hR'⟩
    · rename_i hL
      rw [if_neg hL] at ho
      injection ho with ho
      subst ho
      exact hR
  · rename_i hno
    refine ⟨o, ho, ?_⟩
    cases o with
    | val v => exact hR
    | jump L' vs => exact absurd ho (hno _ _)
end
end Go.Proofs.Ytlminnpaeaganaa
namespace Go.Proofs.Ytlminnpaeaganaa
open Go Go.RowKit
set_option linter.unusedVariables false
set_option linter.unusedSimpArgs false
section
variable {X : Ctx} {W : Hints} {F : Frm} {C : Orc → FuncId → List PV → Option PV} {n : Nat} {inl yl : Inl} {f : FuncId}
theorem rel_lv {S : Sym} {ρ : List PV} {ids : Nat → Option Nat} {s : St} (h : Rel F S ρ ids s) (l : Nat) : Rel F { S with lv := l } ρ ids s :=
  ⟨h.len, h.kn, h.slot, h.boxn, h.old, h.box, h.idlt, h.idinj, h.arr, h.a0, h.ent, h.efc, h.eff, h.new, h.keep, h.bbase, h.ba, h.bb, h.an, h.obd, h.rc⟩
theorem ext_lv {S S' : Sym} {ρ ρ' : List PV} {l : Nat} (h : Ext { S with lv := l } ρ S' ρ') : Ext S ρ S' ρ' := ⟨h.pre, h.base, h.bbase, h.site, h.lv, h.ys, h.bx, h.g⟩
theorem fitK_ok {sk : Skel} {S1 S : Sym} {ρ1 ρ : List PV} {ids1 ids : Nat → Option Nat} {s1 s : St} {L : Nat} {wh : String} {t : Tree} {J : List PV → Prop} {R : Out → Prop} (h1 : Rel F S1 ρ1 ids1 s1) (hr : Rel F S ρ ids s) (hx : Ext S1 ρ1 S ρ)
    (h : fitK sk S1 (headOf sk S1) S L wh = .ok t) (hrun : Run X.P C n t ρ (atL L J R)) :
    ∃ s2 vs idsH, Silent s s2 ∧ Rel F (headOf sk S1) (ρ1 ++ vs) idsH s2 ∧ Ext S1 ρ1 (headOf sk S1) (ρ1 ++ vs) ∧ J vs := by
  unfold fitK at h
  obtain ⟨s2, p1, p2, S2, ρ2, ids2, t2, f1, f2, f3, f4⟩ := frzAll_ok (X := X) h hr hrun
  simp only [] at f1
  split at f1
  · rename_i vs hvs
    injection f1 with f1
    subst f1
    obtain ⟨ps, qs, ks, rfl, hf⟩ := fitVals_ok hvs
    obtain ⟨g1, g2, g3⟩ := fit_ok h1 f2 (hx.trans f4) (keepH_headOf sk S1) rfl hf
    refine ⟨_, _, _, p1.trans g1, g2, g3, ?_⟩
    obtain ⟨o, ho, hR⟩ := f3 orc0
    simp only [eval, Option.some.injEq] at ho
    subst ho
    simpa only [atL, if_true] using hR
  · cases f1
theorem join_ok {p : Nat} {c : Code} {run : Sym → (Ex → Sym → M) → M}
    (hc : ∀ {S : Sym} {ρ : List PV} {ids : Nat → Option Nat} {s : St} {t : Tree} {R : Out → Prop} {K : Ex → Sym → M}, run S K = .ok t → Rel F S ρ ids s → Run X.P C n t ρ R → CodeSem X.P c s fun e s' => Stp X F C n R (K e) S ρ s')
    {S : Sym} {ρ : List PV} {ids : Nat → Option Nat} {s : St} {t : Tree} {R : Out → Prop} {K : Ex → Sym → M} (h : joinK W p S run K = .ok t) (hr : Rel F S ρ ids s) (hrun : Run X.P C n t ρ R) : CodeSem X.P c s fun e s' => Stp X F C n R (K e) S ρ s' := by
  unfold joinK at h
  split at h
  · exact hc h hr hrun
  · rename_i sk _
    obtain ⟨s1, q1, q2, S1, ρ1, ids1, t1, h1, h2, h3, h4⟩ := frzAll_ok (X := X) h hr hrun
    obtain ⟨body, hb, h1⟩ := bind_ok h1
    obtain ⟨k, hk, h1⟩ := bind_ok h1
    injection h1 with h1
    subst h1
    have := hc hb (rel_lv h2 _) (run_join h3)
    refine codeSem_silent q1 (codeSem_post (codeSem_mono this fun e s' hs => ?_))
    obtain ⟨S', ρ', ids', t', e1, e2, e3, e4⟩ := hs
    have low : ∀ e, lowK S1.lv (K e S') = .ok t' → ∃ s1, Silent s' s1 ∧ Stp X F C n R (K e) S ρ s1 := fun e e1 => by
      obtain ⟨e5, e6⟩ := lowK_ok e1
      exact ⟨s', Silent.refl s', S', ρ', ids', t', e5, e2, run_low e6 e3, h4.trans (ext_lv e4)⟩
    cases e with
    | normal =>
      obtain ⟨s2, vs, idsH, g1, g2, g3, g4⟩ := fitK_ok (X := X) h2 e2 (ext_lv e4) e1 e3
      exact ⟨s2, g1, _, _, idsH, k, hk, g2, g4, h4.trans g3⟩
    | exit i => exact low _ e1
    | ret => exact low _ e1
theorem loop_ok {q : Nat} {x : Code} {sk : Skel} {S1 : Sym} {ρ1 : List PV} {ids1 : Nat → Option Nat} {s1 : St} {L : Nat} {body : Tree} {wh : String} {R : Out → Prop} {K : Ex → Sym → M} {vs0 : List PV} {idsH : Nat → Option Nat} {s2 : St}
    (hc : ∀ {S : Sym} {ρ : List PV} {ids : Nat → Option Nat} {s : St} {t : Tree} {R : Out → Prop} {K : Ex → Sym → M}, comp X W inl yl f x q S K = .ok t → Rel F S ρ ids s → Run X.P C n t ρ R → CodeSem X.P x s fun e s' => Stp X F C n R (K e) S ρ s')
    (h : comp X W inl yl f x q (headOf sk S1) (fun e S' => match e with
          | .normal => fitK sk S1 (headOf sk S1) S' L wh
          | e => lowK L (K e S')) = .ok body)
    (h1 : Rel F S1 ρ1 ids1 s1) (hx : Ext S1 ρ1 (headOf sk S1) (ρ1 ++ vs0)) (h2 : Rel F (headOf sk S1) (ρ1 ++ vs0) idsH s2) (hI : Iter X.P C n L body ρ1 R n vs0) :
    CodeSem X.P (.loop x) s2 fun e s' => Stp X F C n R (K e) S1 ρ1 s' := by
  let J : Nat → St → Prop := fun k s => ∃ vs ids, Rel F (headOf sk S1) (ρ1 ++ vs) ids s ∧ Iter X.P C n L body ρ1 R k vs
  have hleast : ∀ s, ∃ k : Nat, (∃ k, J k s) → J k s ∧ ∀ j, J j s → k ≤ j := fun s => by
    by_cases h : ∃ k, J k s
    · obtain ⟨k, h1, h2⟩ := exists_least h
      exact ⟨k, fun _ => ⟨h1, h2⟩⟩
    · exact ⟨0, fun h' => absurd h' h⟩
  let μ : St → Nat := fun s => Classical.choose (hleast s)
  have hμ : ∀ s, (∃ k, J k s) → J (μ s) s ∧ ∀ j, J j s → μ s ≤ j := fun s => Classical.choose_spec (hleast s)
  refine sem_loopS (fun s => ∃ k, J k s) μ ⟨n, vs0, idsH, h2, hI⟩ fun s hs => ?_
  obtain ⟨⟨vs, ids, g1, g2⟩, _⟩ := hμ s hs
  have hxv : Ext S1 ρ1 (headOf sk S1) (ρ1 ++ vs) := ⟨List.prefix_append _ _, hx.base, hx.bbase, hx.site, hx.lv, hx.ys, hx.bx, hx.g⟩
  cases hk : μ s with
  | zero => rw [hk] at g2; exact (iter_zero g2).elim
  | succ k =>
    rw [hk] at g2
    refine codeSem_mono (hc h g1 (iter_run g2)) fun e s' hs' => ?_
    obtain ⟨S', ρ', ids', t', e1, e2, e3, e4⟩ := hs'
    have low : ∀ e, lowK L (K e S') = .ok t' → Stp X F C n R (K e) S1 ρ1 s' := fun e e1 => by
      obtain ⟨e5, e6⟩ := lowK_ok e1
      exact ⟨S', ρ', ids', t', e5, e2, run_low e6 e3, hxv.trans e4⟩
    cases e with
    | normal =>
      obtain ⟨s3, vs', idsH', k1, k2, k3, k4⟩ := fitK_ok (X := X) h1 e2 (hxv.trans e4) e1 e3
      have hJ : J k s3 := ⟨vs', idsH', k2, k4⟩
      exact ⟨s3, k1, ⟨k, hJ⟩, by have := (hμ s3 ⟨k, hJ⟩).2 k hJ; omega⟩
    | exit i => exact low _ e1
    | ret => exact low _ e1
mutual
theorem PE.b_eq : ∀ {x y : PE}, x.b y = true → x = y
  | .e x, y, h => by
    cases y with
    | e y =>
      simp only [PE.b, Bool.or_eq_true] at h
      rcases h with h | h
      · rw [SE.b_eq h]
      · split at h
        · simp only [Bool.and_eq_true, decide_eq_true_eq] at h
          rw [h.1, h.2]
        · cases h
    | _ => simp [PE.b] at h
  | .agg l, y, h => by cases y <;> simp [PE.b] at h; rw [peLB_eq h]
  | .tup l, y, h => by cases y <;> simp [PE.b] at h; rw [peLB_eq h]
  | .lit a b l, y, h => by cases y <;> simp [PE.b] at h; rw [h.1.1, h.1.2, peLB_eq h.2]
  | .fn f l, y, h => by cases y <;> simp [PE.b] at h; rw [h.1, peLB_eq h.2]
  | .ref l, y, h => by cases y <;> simp [PE.b] at h; rw [peLB_eq h]
theorem peLB_eq : ∀ {l m : List PE}, peLB l m = true → l = m
  | [], m, h => by cases m <;> simp [peLB] at h; rfl
  | x :: l, m, h => by
    cases m with
    | nil => simp [peLB] at h
    | cons y m =>
      simp only [peLB, Bool.and_eq_true] at h
      rw [PE.b_eq h.1, peLB_eq h.2]
end
theorem pvLB_eq : ∀ {l m : List PV}, pvLB l m = true → l = m
  | [], m, h => by cases m <;> simp [pvLB] at h; rfl
  | x :: l, m, h => by
    cases m with
    | nil => simp [pvLB] at h
    | cons y m =>
      simp only [pvLB, Bool.and_eq_true] at h
      rw [pvB_eq h.1, pvLB_eq h.2]
theorem peOB_eq : ∀ {x y : Option PE}, peOB x y = true → x = y
  | none, y, h => by cases y <;> simp [peOB] at h; rfl
  | some x, y, h => by cases y <;> simp [peOB] at h; rw [PE.b_eq h]
theorem Prim.b_eq {p q : Prim} (h : p.b q = true) : p = q := by
  cases p <;> cases q <;> simp only [Prim.b, Bool.and_eq_true, decide_eq_true_eq, Bool.false_eq_true] at h <;> simp only [Prim.bin.injEq, Prim.un.injEq, Prim.conv.injEq, Prim.ext.injEq, Prim.agg.injEq, Prim.one.injEq, Prim.row.injEq, Prim.idx.injEq, Prim.len.injEq, Prim.slice.injEq, Prim.mm.injEq, Prim.lst.injEq, Prim.mk.injEq, Prim.chk.injEq, Prim.get.injEq, Prim.put.injEq, Prim.push.injEq, Prim.lenc.injEq, Prim.frz.injEq, Prim.deref.injEq, Prim.cont.injEq, Prim.isnil.injEq, Prim.ints.injEq, Prim.ins.injEq, Prim.keys.injEq, Prim.lk.injEq, Prim.tl.injEq, Prim.srt.injEq, Prim.cpt.injEq]
  case bin => exact ⟨h.1.1.1, h.1.1.2, PE.b_eq h.1.2, PE.b_eq h.2⟩
  case un => exact ⟨h.1, PE.b_eq h.2⟩
  case conv => exact ⟨h.1.1, h.1.2, PE.b_eq h.2⟩
  case ext => exact ⟨PE.b_eq h.1, h.2⟩
  case agg => exact ⟨h.1, PE.b_eq h.2⟩
  case one => exact PE.b_eq h
  case row => exact ⟨h.1.1, PE.b_eq h.1.2, PE.b_eq h.2⟩
  case idx => exact ⟨h.1.1, PE.b_eq h.1.2, PE.b_eq h.2⟩
  case len => exact ⟨h.1, PE.b_eq h.2⟩
  case slice => exact ⟨h.1.1.1, PE.b_eq h.1.1.2, peOB_eq h.1.2, peOB_eq h.2⟩
  case mm => exact ⟨h.1, peLB_eq h.2⟩
  case lst => exact peLB_eq h
  case mk => exact ⟨pvLB_eq h.1.1, h.1.2, PE.b_eq h.2⟩
  case chk => exact ⟨h.1.1, SE.b_eq h.1.2, PE.b_eq h.2⟩
  case get => exact ⟨h.1.1.1.1, h.1.1.1.2, h.1.1.2, SE.b_eq h.1.2, SE.b_eq h.2⟩
  case put => exact ⟨h.1.1.1.1, h.1.1.1.2, SE.b_eq h.1.1.2, SE.b_eq h.1.2, peLB_eq h.2⟩
  case push => exact ⟨h.1.1.1, h.1.1.2, SE.b_eq h.1.2, PE.b_eq h.2⟩
  case lenc => exact ⟨h.1, SE.b_eq h.2⟩
  case frz => exact ⟨h.1.1, BN.b_eq h.1.2, SE.b_eq h.2⟩
  case deref => exact ⟨h.1, PE.b_eq h.2⟩
  case cont => exact ⟨h.1.1, h.1.2, PE.b_eq h.2⟩
  case isnil => exact PE.b_eq h
  case ints => exact PE.b_eq h
  case ins => exact ⟨h.1.1.1, h.1.1.2, SE.b_eq h.1.2, peLB_eq h.2⟩
  case keys => exact ⟨h.1, PE.b_eq h.2⟩
  case lk => exact ⟨h.1, SE.b_eq h.2⟩
  case tl => exact SE.b_eq h
  case srt => exact SE.b_eq h
  case cpt => exact ⟨BN.b_eq h.1, SE.b_eq h.2⟩
theorem Tree.b_eq : ∀ {t u : Tree}, t.b u = true → t = u
  | .ret v, u, h => by cases u <;> simp [Tree.b] at h; rw [PE.b_eq h]
  | .jump L l, u, h => by cases u <;> simp [Tree.b] at h; rw [h.1, peLB_eq h.2]
  | .prim p t, u, h => by cases u <;> simp [Tree.b] at h; rw [Prim.b_eq h.1, Tree.b_eq h.2]
  | .ite c x y, u, h => by cases u <;> simp [Tree.b] at h; rw [SE.b_eq h.1.1, Tree.b_eq h.1.2, Tree.b_eq h.2]
  | .call g l t, u, h => by cases u <;> simp [Tree.b] at h; rw [h.1.1, peLB_eq h.1.2, Tree.b_eq h.2]
  | .callv f l t, u, h => by cases u <;> simp [Tree.b] at h; rw [SE.b_eq h.1.1, peLB_eq h.1.2, Tree.b_eq h.2]
  | .pick z c t, u, h => by cases u <;> simp [Tree.b] at h; rw [h.1.1, SE.b_eq h.1.2, Tree.b_eq h.2]
  | .loop L i t, u, h => by cases u <;> simp [Tree.b] at h; rw [h.1.1, peLB_eq h.1.2, Tree.b_eq h.2]
  | .join L x y, u, h => by cases u <;> simp [Tree.b] at h; rw [h.1.1, Tree.b_eq h.1.2, Tree.b_eq h.2]
  | .die, u, h => by cases u <;> simp [Tree.b] at h; rfl
theorem sameM_eq {t : Tree} {x : M} (h : sameM t x = true) : x = .ok t := by
  cases x with
  | ok u => rw [Tree.b_eq (show t.b u = true from h)]
  | error e => cases h
theorem anyW_mono {P : Program} {ops : Array Oper} {K K' : St → Prop} (hk : ∀ s, K s → K' s) : ∀ (m : Nat) (l : Array Bool) (s : St), anyW P ops m l s K → anyW P ops m l s K'
  | 0, l, s, h => ⟨h.1, hk s h.2⟩
  | m + 1, l, s, h => ⟨fun e => hk s (h.1 e), fun i hi o ho => opsW_mono (fun s' h' => anyW_mono hk m _ s' h') [o] s (h.2 i hi o ho)⟩
theorem any_ok (hF : F.P = X.P) (hk : Known X F.DI C n inl yl) {ops : Array Oper} {rid : Nat} {K : Sym → M} {R : Out → Prop} : ∀ (m : Nat) (l : Array Bool) {S : Sym} {ρ : List PV} {ids : Nat → Option Nat} {s : St} {t : Tree}, compAny X inl yl ops rid m l S K = .ok t → Rel F S ρ ids s → Run X.P C n t ρ R → anyW X.P ops m l s fun s' => Stp X F C n R K S ρ s'
  | 0, l, S, ρ, ids, s, t, h, hr, hrun => by
    simp only [compAny] at h
    split at h
    · rename_i he
      exact ⟨he, S, ρ, ids, t, h, hr, hrun, Ext.refl S ρ⟩
    · cases h
  | m + 1, l, S, ρ, ids, s, t, h, hr, hrun => by
    simp only [compAny] at h
    split at h
    · rename_i he
      exact ⟨fun _ => ⟨S, ρ, ids, t, h, hr, hrun, Ext.refl S ρ⟩, fun i hi => (by rw [he] at hi; cases hi)⟩
    · rename_i i is he
      obtain ⟨t0, ht, h⟩ := bind_ok h
      split at h
      · rename_i hall
        injection h with h
        subst h
        refine ⟨fun e => (by rw [e] at he; cases he), fun j hj o ho => ?_⟩
        have hone : oneAny X inl yl ops rid S (fun i S => compAny X inl yl ops rid m (l.setIfInBounds i true) S K) j = .ok t0 := by
          rw [he] at hj
          rcases List.mem_cons.1 hj with rfl | hj
          · exact ht
          · exact sameM_eq (List.all_eq_true.1 hall j hj)
        simp only [oneAny, ho] at hone
        refine opsW_mono (fun s' hs => ?_) [o] s (seq_ops hF hk [o] j hone hr hrun)
        obtain ⟨S', ρ', ids', t', h1, h2, h3, h4⟩ := hs
        exact anyW_mono (fun s3 h => stp_mono h4 h) m _ s' (any_ok hF hk m _ h1 h2 h3)
      · cases h
theorem comp_ok (hF : F.P = X.P) (hm : X.P.follows .mixedOrders = true) (hk : Known X F.DI C n inl yl) : ∀ (c : Code) {p : Nat} {S : Sym} {ρ : List PV} {ids : Nat → Option Nat} {s : St} {t : Tree} {R : Out → Prop} {K : Ex → Sym → M}, 
    comp X W inl yl f c p S K = .ok t → Rel F S ρ ids s → Run X.P C n t ρ R → CodeSem X.P c s fun e s' => Stp X F C n R (K e) S ρ s'
  | .skip, p, S, ρ, ids, s, t, R, K, h, hr, hrun => by
    simp only [comp] at h
    exact sem_skip ⟨S, ρ, ids, t, h, hr, hrun, Ext.refl S ρ⟩
  | .ret, p, S, ρ, ids, s, t, R, K, h, hr, hrun => by
    simp only [comp] at h
    exact sem_ret ⟨S, ρ, ids, t, h, hr, hrun, Ext.refl S ρ⟩
  | .exit i, p, S, ρ, ids, s, t, R, K, h, hr, hrun => by
    simp only [comp] at h
    exact sem_exit ⟨S, ρ, ids, t, h, hr, hrun, Ext.refl S ρ⟩
  | .seq x y, p, S, ρ, ids, s, t, R, K, h, hr, hrun => by
    simp only [comp] at h
    refine sem_seq (codeSem_mono (comp_ok hF hm hk x h hr hrun) fun e s' hs => ?_)
    obtain ⟨S', ρ', ids', t', e1, e2, e3, e4⟩ := hs
    cases e with
    | normal => exact codeSem_mono (comp_ok hF hm hk y e1 e2 e3) fun e s'' hs => stp_mono e4 hs
    | exit i => exact ⟨S', ρ', ids', t', e1, e2, e3, e4⟩
    | ret => exact ⟨S', ρ', ids', t', e1, e2, e3, e4⟩
  | .cond c x y, p, S, ρ, ids, s, t, R, K, h, hr, hrun => by
    simp only [comp] at h
    refine join_ok (fun {S ρ ids s t R K} h hr hrun => ?_) h hr hrun
    have hv := hr.ev c
    split at h
    · rename_i b hc
      rw [hc] at hv
      unfold RV at hv
      cases b with
      | true => exact sem_cond true hv.1 (by simp only [if_true]; exact comp_ok hF hm hk x (by simpa using h) hr hrun)
      | false => exact sem_cond false hv.1 (by simp only [Bool.false_eq_true, if_false]; exact comp_ok hF hm hk y (by simpa using h) hr hrun)
    · rename_i e _ hc
      rw [hc] at hv
      unfold RV at hv
      obtain ⟨a, ha, h⟩ := bind_ok h
      obtain ⟨b, hb, h⟩ := bind_ok h
      injection h with h
      subst h
      rcases hrun.ite with ⟨h1, h2⟩ | ⟨h1, h2⟩
      · exact sem_cond true (hv.1.trans h1) (by simp only [if_true]; exact comp_ok hF hm hk x ha hr h2)
      · exact sem_cond false (hv.1.trans h1) (by simp only [Bool.false_eq_true, if_false]; exact comp_ok hF hm hk y hb hr h2)
    · cases h
  | .block id x, p, S, ρ, ids, s, t, R, K, h, hr, hrun => by
    simp only [comp] at h
    refine join_ok (fun {S ρ ids s t R K} h hr hrun => ?_) h hr hrun
    refine sem_block (codeSem_mono (comp_ok hF hm hk x h hr hrun) fun e s' hs => ?_)
    obtain ⟨S', ρ', ids', t', e1, e2, e3, e4⟩ := hs
    cases e with
    | normal => exact ⟨S', ρ', ids', t', e1, e2, e3, e4⟩
    | exit i =>
      simp only at e1 ⊢
      split
      · rename_i hi
        rw [if_pos hi] at e1
        exact ⟨S', ρ', ids', t', e1, e2, e3, e4⟩
      · rename_i hi
        rw [if_neg hi] at e1
        exact ⟨S', ρ', ids', t', e1, e2, e3, e4⟩
    | ret => exact ⟨S', ρ', ids', t', e1, e2, e3, e4⟩
  | .region rid ops false, p, S, ρ, ids, s, t, R, K, h, hr, hrun => by
    simp only [comp] at h
    refine join_ok (fun {S ρ ids s t R K} h hr hrun => ?_) h hr hrun
    exact sem_region (seq_ops hF hk ops.toList 0 h hr hrun)
  | .region rid ops true, p, S, ρ, ids, s, t, R, K, h, hr, hrun => by
    simp only [comp] at h
    refine join_ok (fun {S ρ ids s t R K} h hr hrun => ?_) h hr hrun
    split at h
    · rename_i hd
      obtain ⟨s1, q1, q2, S1, ρ1, ids1, t1, h1, h2, h3, h4⟩ := frzAll_ok (X := X) h hr hrun
      refine codeSem_silent q1 (sem_draw hm _ hd (tabX X C) ?_)
      refine lex_ops.lexW_imp (fun s' hs => ?_) _ _ (lex_ops (m0 := s1.m) hF hk _ 0 h1 h2 ⟨h2.boxn, Nat.le_refl _, fun _ _ => rfl⟩ h3)
      obtain ⟨⟨S', ρ', ids', t', e1, e2, e3, e4⟩, _⟩ := hs
      exact opsW_mono (fun s'' h => stp_mono (h4.trans e4) h) _ _ (seq_ops hF hk _ _ e1 e2 e3)
    · exact sem_any hm (any_ok hF hk _ _ h hr hrun)
  | .loop x, p, S, ρ, ids, s, t, R, K, h, hr, hrun => by
    simp only [comp] at h
    split at h
    · cases h
    · rename_i sk _
      obtain ⟨s1, q1, q2, S1, ρ1, ids1, t1, h1, h2, h3, h4⟩ := frzAll_ok (X := X) h hr hrun
      simp only [] at h1
      split at h1
      · cases h1
      · rename_i vs hvs
        obtain ⟨body, hb, h1⟩ := bind_ok h1
        injection h1 with h1
        subst h1
        obtain ⟨ps, qs, ks, rfl, hf⟩ := fitVals_ok hvs
        obtain ⟨g1, g2, g3⟩ := fit_ok h2 h2 (Ext.refl S1 ρ1) (keepH_headOf sk S1) rfl hf
        refine codeSem_silent (q1.trans g1) (codeSem_mono (loop_ok (X := X) (f := f) (inl := inl) (yl := yl) (W := W) (fun {S ρ ids s t R K} h hr hrun => comp_ok hF hm hk x h hr hrun) hb h2 g3 g2 (run_loop h3)) fun e s' hs => stp_mono h4 hs)
  | .rangeFunc g ps a b, p, S, ρ, ids, s, t, R, K, h, hr, hrun => by
    simp only [comp] at h
    exact hk.rng F R f g ps a b p K S ρ ids s t hF hk.c hk.new hk.own h hr hrun
  | .scope _, p, S, ρ, ids, s, t, R, K, h, hr, hrun => by simp only [comp] at h; cases h
  | .label _, p, S, ρ, ids, s, t, R, K, h, hr, hrun => by simp only [comp] at h; cases h
  | .goto _, p, S, ρ, ids, s, t, R, K, h, hr, hrun => by simp only [comp] at h; cases h
  | .refuse _, p, S, ρ, ids, s, t, R, K, h, hr, hrun => by simp only [comp] at h; cases h
end
end Go.Proofs.Ytlminnpaeaganaa
