/- Symbolic execution: residual programs. No condition. -/
import Derived.Test.YtlminnpaeaganaaMSymA
namespace Go.Proofs.Ytlminnpaeaganaa
open Go Go.RowKit
set_option linter.unusedVariables false
theorem plainC_iff (l : List PV) : plainC l = true ↔ ∀ p ∈ l, p.plain = true ∧ p.one = true := by
  induction l with
  | nil => simp [plainC]
  | cons p ps ih => simp [plainC, ih, and_assoc]
theorem plainT_iff (l : List PV) : plainT l = true ↔ ∀ p ∈ l, p.plain = true := by
  induction l with
  | nil => simp [plainT]
  | cons p ps ih => simp [plainT, ih]
mutual
theorem plain_sub1 (e : Eff) : ∀ p : PV, p.plain = true → p.sub1 e = p
  | .int _ _, _ | .bool _, _ | .str _, _ | .nilp, _ | .nilfn, _ | .snil, _ => by simp only [PV.sub1]
  | .undef, h | .bad, h | .dead _, h | .yld _, h | .ptr _ _, h => by simp [PV.plain] at h
  | .mp _ (some _) _ _, h => by simp [PV.plain] at h
  | .mp _ none _ _, h => by simp only [PV.sub1]
  | .sl none _ _ _ cs, h => by simp only [PV.sub1, plainC_sub1 e cs (by simpa only [PV.plain] using h)]
  | .sl (some _) _ _ _ cs, h => by simp [PV.plain] at h
  | .eref none _ cs, h => by simp only [PV.sub1, plainC_sub1 e cs (by simpa only [PV.plain] using h)]
  | .eref (some _) _ cs, h => by simp [PV.plain] at h
  | .fn _ cs, h => by simp only [PV.sub1, plainC_sub1 e cs (by simpa only [PV.plain] using h)]
  | .agg cs, h => by simp only [PV.sub1, plainC_sub1 e cs (by simpa only [PV.plain] using h)]
  | .tup cs, h => by simp only [PV.sub1, plainT_sub1 e cs (by simpa only [PV.plain] using h)]
theorem plainC_sub1 (e : Eff) : ∀ l : List PV, plainC l = true → subL1 e l = l
  | [], _ => rfl
  | p :: ps, h => by
    simp only [plainC, Bool.and_eq_true] at h
    simp only [subL1, plain_sub1 e p h.1.1, plainC_sub1 e ps h.2]
theorem plainT_sub1 (e : Eff) : ∀ l : List PV, plainT l = true → subL1 e l = l
  | [], _ => rfl
  | p :: ps, h => by
    simp only [plainT, Bool.and_eq_true] at h
    simp only [subL1, plain_sub1 e p h.1, plainT_sub1 e ps h.2]
end
mutual
theorem plain_frz (id : Nat) : ∀ p : PV, p.plain = true → p.frz id = p
  | .int _ _, _ | .bool _, _ | .str _, _ | .nilp, _ | .nilfn, _ | .snil, _ => by simp only [PV.frz]
  | .undef, h | .bad, h | .dead _, h | .yld _, h | .ptr _ _, h => by simp [PV.plain] at h
  | .mp _ (some _) _ _, h => by simp [PV.plain] at h
  | .mp _ none _ _, h => by simp only [PV.frz]
  | .sl none _ _ _ cs, h => by simp only [PV.frz, plainC_frz id cs (by simpa only [PV.plain] using h)]
  | .sl (some _) _ _ _ cs, h => by simp [PV.plain] at h
  | .eref none _ cs, h => by simp only [PV.frz, plainC_frz id cs (by simpa only [PV.plain] using h)]
  | .eref (some _) _ cs, h => by simp [PV.plain] at h
  | .fn _ cs, h => by simp only [PV.frz, plainC_frz id cs (by simpa only [PV.plain] using h)]
  | .agg cs, h => by simp only [PV.frz, plainC_frz id cs (by simpa only [PV.plain] using h)]
  | .tup cs, h => by simp only [PV.frz, plainT_frz id cs (by simpa only [PV.plain] using h)]
theorem plainC_frz (id : Nat) : ∀ l : List PV, plainC l = true → frzL id l = l
  | [], _ => rfl
  | p :: ps, h => by
    simp only [plainC, Bool.and_eq_true] at h
    simp only [frzL, plain_frz id p h.1.1, plainC_frz id ps h.2]
theorem plainT_frz (id : Nat) : ∀ l : List PV, plainT l = true → frzL id l = l
  | [], _ => rfl
  | p :: ps, h => by
    simp only [plainT, Bool.and_eq_true] at h
    simp only [frzL, plain_frz id p h.1, plainT_frz id ps h.2]
end
mutual
theorem plain_cutb (n : Nat) : ∀ p : PV, p.plain = true → p.cutb n = p
  | .int _ _, _ | .bool _, _ | .str _, _ | .nilp, _ | .nilfn, _ | .snil, _ => by simp only [PV.cutb]
  | .undef, h | .bad, h | .dead _, h | .yld _, h | .ptr _ _, h => by simp [PV.plain] at h
  | .mp _ (some _) _ _, h => by simp [PV.plain] at h
  | .mp _ none _ _, h => by simp only [PV.cutb]
  | .sl none _ _ _ cs, h => by simp only [PV.cutb, plainC_cutb n cs (by simpa only [PV.plain] using h)]
  | .sl (some _) _ _ _ cs, h => by simp [PV.plain] at h
  | .eref none _ cs, h => by simp only [PV.cutb, plainC_cutb n cs (by simpa only [PV.plain] using h)]
  | .eref (some _) _ cs, h => by simp [PV.plain] at h
  | .fn _ cs, h => by simp only [PV.cutb, plainC_cutb n cs (by simpa only [PV.plain] using h)]
  | .agg cs, h => by simp only [PV.cutb, plainC_cutb n cs (by simpa only [PV.plain] using h)]
  | .tup cs, h => by simp only [PV.cutb, plainT_cutb n cs (by simpa only [PV.plain] using h)]
theorem plainC_cutb (n : Nat) : ∀ l : List PV, plainC l = true → cutbL n l = l
  | [], _ => rfl
  | p :: ps, h => by
    simp only [plainC, Bool.and_eq_true] at h
    simp only [cutbL, plain_cutb n p h.1.1, plainC_cutb n ps h.2]
theorem plainT_cutb (n : Nat) : ∀ l : List PV, plainT l = true → cutbL n l = l
  | [], _ => rfl
  | p :: ps, h => by
    simp only [plainT, Bool.and_eq_true] at h
    simp only [cutbL, plain_cutb n p h.1, plainT_cutb n ps h.2]
end
mutual
theorem plain_anon (n an : Nat) : ∀ p : PV, p.plain = true → p.anon n an = p
  | .int _ _, _ | .bool _, _ | .str _, _ | .nilp, _ | .nilfn, _ | .snil, _ => by simp only [PV.anon]
  | .undef, h | .bad, h | .dead _, h | .yld _, h | .ptr _ _, h => by simp [PV.plain] at h
  | .mp _ (some _) _ _, h => by simp [PV.plain] at h
  | .mp _ none _ _, h => by simp only [PV.anon]
  | .sl none _ _ _ cs, h => by simp only [PV.anon, plainC_anon n an cs (by simpa only [PV.plain] using h)]
  | .sl (some _) _ _ _ cs, h => by simp [PV.plain] at h
  | .eref none _ cs, h => by simp only [PV.anon, plainC_anon n an cs (by simpa only [PV.plain] using h)]
  | .eref (some _) _ cs, h => by simp [PV.plain] at h
  | .fn _ cs, h => by simp only [PV.anon, plainC_anon n an cs (by simpa only [PV.plain] using h)]
  | .agg cs, h => by simp only [PV.anon, plainC_anon n an cs (by simpa only [PV.plain] using h)]
  | .tup cs, h => by simp only [PV.anon, plainT_anon n an cs (by simpa only [PV.plain] using h)]
theorem plainC_anon (n an : Nat) : ∀ l : List PV, plainC l = true → anonL n an l = l
  | [], _ => rfl
  | p :: ps, h => by
    simp only [plainC, Bool.and_eq_true] at h
    simp only [anonL, plain_anon n an p h.1.1, plainC_anon n an ps h.2]
theorem plainT_anon (n an : Nat) : ∀ l : List PV, plainT l = true → anonL n an l = l
  | [], _ => rfl
  | p :: ps, h => by
    simp only [plainT, Bool.and_eq_true] at h
    simp only [anonL, plain_anon n an p h.1, plainT_anon n an ps h.2]
end
mutual
theorem plain_bd (n an : Nat) : ∀ p : PV, p.plain = true → p.bd n an
  | .int _ _, _ | .bool _, _ | .str _, _ | .nilp, _ | .nilfn, _ | .snil, _ => by simp only [PV.bd]
  | .undef, h | .bad, h | .dead _, h | .yld _, h | .ptr _ _, h => by simp [PV.plain] at h
  | .mp _ (some _) _ _, h => by simp [PV.plain] at h
  | .mp _ none _ _, h => by simp only [PV.bd]
  | .sl none _ _ _ cs, h => by simp only [PV.bd]; exact plainC_bd n an cs (by simpa only [PV.plain] using h)
  | .sl (some _) _ _ _ cs, h => by simp [PV.plain] at h
  | .eref none _ cs, h => by simp only [PV.bd]; exact plainC_bd n an cs (by simpa only [PV.plain] using h)
  | .eref (some _) _ cs, h => by simp [PV.plain] at h
  | .fn _ cs, h => by simp only [PV.bd]; exact plainC_bd n an cs (by simpa only [PV.plain] using h)
  | .agg cs, h => by simp only [PV.bd]; exact plainC_bd n an cs (by simpa only [PV.plain] using h)
  | .tup cs, h => by simp only [PV.bd]; exact plainT_bd n an cs (by simpa only [PV.plain] using h)
theorem plainC_bd (n an : Nat) : ∀ l : List PV, plainC l = true → bdL n an l
  | [], _ => by simp only [bdL]
  | p :: ps, h => by
    simp only [plainC, Bool.and_eq_true] at h
    simp only [bdL]
    exact ⟨plain_bd n an p h.1.1, plainC_bd n an ps h.2⟩
theorem plainT_bd (n an : Nat) : ∀ l : List PV, plainT l = true → bdL n an l
  | [], _ => by simp only [bdL]
  | p :: ps, h => by
    simp only [plainT, Bool.and_eq_true] at h
    simp only [bdL]
    exact ⟨plain_bd n an p h.1, plainT_bd n an ps h.2⟩
end
theorem plain_sub (E : List Eff) {p : PV} (h : p.plain = true) : p.sub E = p := by
  induction E with
  | nil => rfl
  | cons e E ih => simp only [PV.sub, plain_sub1 e p h, ih]
def SE.ok (ρ : List PV) : SE → Prop
  | .var i => (ρ.getD i .bad).plain = true
  | .proj e j => e.ok ρ ∧ (projV (e.den ρ) j).plain = true
  | .cst v => v.plain = true
theorem SE.ok_plain {ρ : List PV} {x : SE} (h : x.ok ρ) : (x.den ρ).plain = true := by
  cases x with
  | var i => exact h
  | proj e j => exact h.2
  | cst v => exact h
theorem projV_one {v : PV} {j : Nat} (h : v.plain = true) (hp : (projV v j).plain = true) : (projV v j).one = true := by
  unfold projV at *
  split at hp
  · rename_i cs
    rw [List.getD_eq_getElem?_getD] at hp ⊢
    cases hg : cs[j]? with
    | none => rw [hg] at hp; simp [PV.plain] at hp
    | some p =>
      simp only [Option.getD_some]
      have h' : plainC cs = true := by simpa only [PV.plain] using h
      exact ((plainC_iff cs).1 h' p (List.mem_of_getElem? hg)).2
  · simp [PV.plain] at hp
theorem getD_prefix {ρ ρ' : List PV} (h : ρ <+: ρ') {i : Nat} (hp : (ρ.getD i .bad).plain = true) : ρ'.getD i .bad = ρ.getD i .bad := by
  obtain ⟨t, rfl⟩ := h
  simp only [List.getD_eq_getElem?_getD] at hp ⊢
  rcases Nat.lt_or_ge i ρ.length with hi | hi
  · rw [List.getElem?_append_left hi]
  · rw [List.getElem?_eq_none hi] at hp
    simp [PV.plain] at hp
theorem SE.den_prefix {ρ ρ' : List PV} (h : ρ <+: ρ') : ∀ {x : SE}, x.ok ρ → x.den ρ' = x.den ρ ∧ x.ok ρ'
  | .var i, hx => by
    have e := getD_prefix h hx
    exact ⟨e, by unfold SE.ok at hx ⊢; rw [e]; exact hx⟩
  | .proj x j, hx => by
    obtain ⟨e, k⟩ := SE.den_prefix h hx.1
    have e2 : SE.den ρ' (.proj x j) = SE.den ρ (.proj x j) := by simp only [SE.den, e]
    exact ⟨e2, k, by rw [e]; exact hx.2⟩
  | .cst v, hx => ⟨rfl, hx⟩
structure Frm where
  P : Program
  n0 : Nat
  A0 : Nat
  β0 : Nat → BoxC
  d0 : Nat
  DI : List PV → Prop
  ent : Ent
  ar0 : Nat → Option AR
  ids0 : Nat → Option Nat
  rc0 : List (Nat × Loop)
  ρ0 : List PV
structure Env where
  ρ : List PV
  ar : List (Option AR)
  nb : Nat
  ids : Nat → Option Nat
def ownV (b : BN) (id : Option Nat) (sz : Nat) (cs : List PV) : PV := match id with
  | some id => match b with
    | .map => .mp false (some id) sz cs
    | .it => .mp true (some id) sz cs
    | _ => .sl (some id) sz 0 (cs.length / sz) cs
  | none => .snil
def AR.rel (E : Env) (k : Nat) (a : AR) (cs : List PV) : Prop :=
  a.c.ok E.ρ ∧ a.c.den E.ρ = .agg cs ∧ 0 < a.sz ∧ cs.length = cs.length / a.sz * a.sz ∧ isNil E.ρ a.born cs = some (E.ids k).isNone ∧ (∀ x, a.born = .dyn x → x.ok E.ρ)
mutual
def RV (F : Frm) (E : Env) : SV → PV → Prop
  | .e x, q => q = x.den E.ρ ∧ x.ok E.ρ
  | .undef, q => q = .undef
  | .junk, _ => True
  | .ptr i o, q => q = .ptr (F.n0 + i) o ∧ i < E.nb
  | .dice, q => q = .ptr F.d0 0 ∧ F.d0 < F.n0 ∧ F.β0 F.d0 = .inv F.DI
  | .yld y, q => ∃ l, F.ent.ys[y]?.map YRec.l = some l ∧ q = .yld l
  | .own k, q => ∃ a cs, E.ar.getD k none = some a ∧ a.rel E k cs ∧ q = ownV a.born (E.ids k) a.sz cs
  | .eown k x fo, q => ∃ a cs id n kk, E.ar.getD k none = some a ∧ a.rel E k cs ∧ E.ids k = some id ∧ x.den E.ρ = .int kk n ∧ x.ok E.ρ ∧ 0 ≤ n ∧ n.toNat < cs.length / a.sz ∧ q = .eref (some id) (n.toNat * a.sz + fo) (cs.drop (n.toNat * a.sz + fo))
  | .erow x sz fo, q => ∃ cs off tl, x.den E.ρ = .agg cs ∧ x.ok E.ρ ∧ cs.length = sz ∧ q = .eref none off (cs.drop fo ++ tl)
  | .sref l fo, q => ∃ l', RVL F E l l' ∧ plainC l' = true ∧ q = .eref none fo (l'.drop fo)
  | .fn f l, q => ∃ l', q = .fn f l' ∧ RVL F E l l'
  | .agg l, q => ∃ l', q = .agg l' ∧ RVL F E l l'
  | .tup l, q => ∃ l', q = .tup l' ∧ RVT F E l l'
  | .lit sz len l, q => ∃ l', q = .sl none sz 0 len l' ∧ RVL F E l l' ∧ plainC l' = true ∧ l'.length = len * sz
def RVL (F : Frm) (E : Env) : List SV → List PV → Prop
  | [], l => l = []
  | v :: vs, l => ∃ q l', l = q :: l' ∧ RV F E v q ∧ (v = .junk ∨ q.one = true) ∧ RVL F E vs l'
def RVT (F : Frm) (E : Env) : List SV → List PV → Prop
  | [], l => l = []
  | v :: vs, l => ∃ q l', l = q :: l' ∧ RV F E v q ∧ RVT F E vs l'
end
def RB (F : Frm) (E : Env) : BX → BoxC → Prop
  | .cells l, c => ∃ l', c = .cells l' ∧ RVL F E l l'
  | .dice, c => c = .inv F.DI
  | .gone, _ => True
def Sym.env (S : Sym) (ρ : List PV) (ids : Nat → Option Nat) : Env := ⟨ρ, S.ar, S.bx.length, ids⟩
mutual
def SV.noOwn : SV → SV
  | .own _ => .junk
  | .eown _ _ _ => .junk
  | .fn f l => .fn f (noOwnL l)
  | .sref l o => .sref (noOwnL l) o
  | .agg l => .agg (noOwnL l)
  | .tup l => .tup (noOwnL l)
  | .lit a b l => .lit a b (noOwnL l)
  | .e y => .e y
  | .undef => .undef
  | .junk => .junk
  | .ptr i o => .ptr i o
  | .dice => .dice
  | .yld a => .yld a
  | .erow y s fo => .erow y s fo
def noOwnL : List SV → List SV
  | [] => []
  | v :: l => v.noOwn :: noOwnL l
end
def YS.now (y : YS) (r : YRec) : Nat × Loop := (r.l, { r.o with state := if y.busy then .busy else if y.pend.isSome then .done else .ready, pending := jumpOf (exOf y.pend) })
structure YOk (F : Frm) (y : YS) (r : YRec) : Prop where
  ps : r.o.params.toList = y.ps
  asg : r.o.assign = y.asg
  body : r.o.body = y.body
  lt : ∀ p ∈ y.ps, p < r.o.tmps.size
  da : dstsOk r.o.tmps.size y.asg = true
  db : dstsOk r.o.tmps.size y.body = true
  own : ∀ t, (y.g.getD t .junk).noOwn = y.g.getD t .junk
  g : ∀ t, RV F ⟨F.ρ0, [], F.ent.n - F.n0, fun _ => none⟩ (y.g.getD t .junk) (r.g t)
structure RcOk (F : Frm) (ys : List YS) (ρ : List PV) (rc : List (Nat × Loop)) : Prop where
  pre : F.ρ0 <+: ρ
  len : ys.length = F.ent.ys.length
  rc : rc = List.zipWith YS.now ys F.ent.ys ++ F.rc0
  y : ∀ (i : Nat) y r, ys[i]? = some y → F.ent.ys[i]? = some r → YOk F y r
  ne : ∀ (i j : Nat) r r', F.ent.ys[i]? = some r → F.ent.ys[j]? = some r' → r.l = r'.l → i = j
  ne0 : ∀ r ∈ F.ent.ys, ∀ p ∈ F.rc0, p.1 ≠ r.l
theorem RcOk.mono {F : Frm} {ys : List YS} {ρ ρ' : List PV} {rc : List (Nat × Loop)} (h : RcOk F ys ρ rc) (k : ρ <+: ρ') : RcOk F ys ρ' rc := ⟨h.pre.trans k, h.len, h.rc, h.y, h.ne, h.ne0⟩
theorem RcOk.push {F : Frm} {ys : List YS} {ρ l : List PV} {rc : List (Nat × Loop)} (h : RcOk F ys ρ rc) : RcOk F ys (ρ ++ l) rc := h.mono (List.prefix_append _ _)
structure Rel (F : Frm) (S : Sym) (ρ : List PV) (ids : Nat → Option Nat) (s : St) : Prop where
  len : ρ.length = S.nv
  kn : ∀ i, i ∈ S.kn → (ρ.getD i .bad).one = true
  slot : ∀ t, RV F (S.env ρ ids) (S.get t) (s.g t)
  boxn : s.m.n = F.n0 + S.bx.length
  old : ∀ i, i < F.n0 → s.m.β i = F.β0 i
  box : ∀ i b, S.bx[i]? = some b → RB F (S.env ρ ids) b (s.m.β (F.n0 + i))
  idlt : ∀ k id, ids k = some id → F.A0 ≤ id ∧ id < s.m.an ∧ k < S.ar.length
  idinj : ∀ k j id, ids k = some id → ids j = some id → k = j
  arr : ∀ k a, S.ar.getD k none = some a → ∃ cs, a.rel (S.env ρ ids) k cs
  a0 : s.a0 = F.ent
  ent : F.A0 ≤ F.ent.a ∧ F.n0 ≤ F.ent.n
  efc : ∀ e ∈ s.eff, F.A0 ≤ e.id ∧ e.clean
  eff : S.eff = false ∨ F.A0 = F.ent.a → s.eff = []
  new : S.eff = false → ∀ k id, ids k = some id → S.base ≤ k → F.ent.a ≤ id
  keep : S.eff = false → ∀ k, k < S.base → S.ar.getD k none = F.ar0 k ∧ ids k = F.ids0 k
  bbase : F.ent.n = F.n0 + S.bbase
  ba : S.base ≤ S.ar.length
  bb : S.bbase ≤ S.bx.length
  an : F.ent.a ≤ s.m.an
  obd : ∀ i l, i < F.n0 → F.β0 i = .cells l → bdL F.n0 F.A0 l
  rc : RcOk F S.ys ρ s.m.rc
theorem Rel.young {F : Frm} {S : Sym} {ρ : List PV} {ids : Nat → Option Nat} {s : St} (h : Rel F S ρ ids s) {k id : Nat} (hid : ids k = some id) (he : (S.eff || decide (k < S.base)) = false ∨ F.A0 = F.ent.a) : F.ent.a ≤ id := by
  rcases he with he | he
  · simp only [Bool.or_eq_false_iff, decide_eq_false_iff_not] at he
    exact h.new he.1 k id hid (by omega)
  · rw [← he]; exact (h.idlt k id hid).1
theorem eff_or {a b : Bool} {p : Prop} (h : (a || b) = false ∨ p) : a = false ∨ p := h.imp_left fun h => by simp only [Bool.or_eq_false_iff] at h; exact h.1
section
variable {F : Frm} {E E' : Env}
theorem rvl_iff : ∀ {l : List SV} {l' : List PV}, RVL F E l l' ↔ l.length = l'.length ∧ ∀ (j : Nat) v q, l[j]? = some v → l'[j]? = some q → RV F E v q ∧ (v = .junk ∨ q.one = true)
  | [], l' => by
    simp only [RVL, List.length_nil]
    constructor
    · rintro rfl; simp
    · rintro ⟨h, _⟩; exact List.length_eq_zero_iff.1 h.symm
  | v :: vs, [] => by simp [RVL]
  | v :: vs, q :: qs => by
    simp only [RVL, List.cons.injEq]
    constructor
    · rintro ⟨q', l', ⟨rfl, rfl⟩, h0, h1, h2⟩
      rw [rvl_iff] at h2
      refine ⟨by simp [h2.1], fun j u r hj hr => ?_⟩
      cases j with
      | zero => simp at hj hr; subst hj; subst hr; exact ⟨h0, h1⟩
      | succ j => exact h2.2 j u r (by simpa using hj) (by simpa using hr)
    · rintro ⟨hl, h⟩
      obtain ⟨h0, h1⟩ := h 0 v q (by simp) (by simp)
      exact ⟨q, qs, ⟨rfl, rfl⟩, h0, h1, rvl_iff.2 ⟨by simpa using hl, fun j u r hj hr => h (j + 1) u r (by simpa using hj) (by simpa using hr)⟩⟩
theorem rvl_length {l : List SV} {l' : List PV} (h : RVL F E l l') : l.length = l'.length := (rvl_iff.1 h).1
theorem AR.rel_of {k : Nat} {a : AR} {cs cs' : List PV} (h : a.rel E k cs) (h' : a.rel E k cs') : cs = cs' := by
  have := h.2.1.symm.trans h'.2.1
  injection this
end
structure Env.le (E E' : Env) : Prop where
  ρ : E.ρ <+: E'.ρ
  ar : ∀ k a, E.ar.getD k none = some a → E'.ar.getD k none = some a
  nb : E.nb ≤ E'.nb
  ids : ∀ k a, E.ar.getD k none = some a → E'.ids k = E.ids k
theorem Env.le.refl (E : Env) : E.le E := ⟨List.prefix_refl _, fun _ _ h => h, Nat.le_refl _, fun _ _ _ => rfl⟩
theorem Env.le.trans {E E1 E2 : Env} (h : E.le E1) (k : E1.le E2) : E.le E2 :=
  ⟨h.ρ.trans k.ρ, fun i a e => k.ar i a (h.ar i a e), Nat.le_trans h.nb k.nb, fun i a e => (k.ids i a (h.ar i a e)).trans (h.ids i a e)⟩
theorem isNil_prefix {ρ ρ' : List PV} (h : ρ <+: ρ') {b : BN} {cs : List PV} (hb : ∀ x, b = .dyn x → x.ok ρ) : isNil ρ' b cs = isNil ρ b cs := by
  cases b with
  | real => rfl
  | nil0 => rfl
  | map => rfl
  | it => rfl
  | dyn x => simp only [isNil, (SE.den_prefix h (hb x rfl)).1]
theorem ownV_one (b : BN) (id : Option Nat) (sz : Nat) (cs : List PV) : (ownV b id sz cs).one = true := by
  unfold ownV
  split
  · split <;> rfl
  · rfl
theorem ownV_lst {b : BN} (h : b.lst = true) (id : Option Nat) (sz : Nat) (cs : List PV) : ownV b id sz cs = match id with | some id => .sl (some id) sz 0 (cs.length / sz) cs | none => .snil := by
  unfold ownV
  cases b <;> first | rfl | cases h
theorem AR.rel.mono {E E' : Env} (h : E.le E') {k : Nat} {a : AR} {cs : List PV} (ha : E.ar.getD k none = some a) (hr : a.rel E k cs) : a.rel E' k cs := by
  obtain ⟨h1, h2, h3, h4, h5, h6⟩ := hr
  obtain ⟨e1, e2⟩ := SE.den_prefix h.ρ h1
  exact ⟨e2, by rw [e1]; exact h2, h3, h4, by rw [isNil_prefix h.ρ h6, h.ids k a ha]; exact h5, fun x hx => (SE.den_prefix h.ρ (h6 x hx)).2⟩
mutual
theorem RV.mono {F : Frm} {E E' : Env} (h : E.le E') : ∀ {v : SV} {q : PV}, RV F E v q → RV F E' v q
  | .e x, q, hr => by
    simp only [RV] at hr ⊢
    obtain ⟨e1, e2⟩ := SE.den_prefix h.ρ hr.2
    exact ⟨by rw [e1]; exact hr.1, e2⟩
  | .undef, q, hr => by simpa only [RV] using hr
  | .junk, q, hr => by simp only [RV]
  | .ptr i o, q, hr => by
    simp only [RV] at hr ⊢
    exact ⟨hr.1, Nat.lt_of_lt_of_le hr.2 h.nb⟩
  | .dice, q, hr => by simpa only [RV] using hr
  | .yld _, q, hr => by simpa only [RV] using hr
  | .own k, q, hr => by
    simp only [RV] at hr ⊢
    obtain ⟨a, cs, h1, h2, h3⟩ := hr
    exact ⟨a, cs, h.ar k a h1, h2.mono h h1, by rw [h.ids k a h1]; exact h3⟩
  | .eown k x fo, q, hr => by
    simp only [RV] at hr ⊢
    obtain ⟨a, cs, id, n, kk, h1, h2, h3, h4, h5, h6⟩ := hr
    obtain ⟨e1, e2⟩ := SE.den_prefix h.ρ h5
    exact ⟨a, cs, id, n, kk, h.ar k a h1, h2.mono h h1, by rw [h.ids k a h1]; exact h3, by rw [e1]; exact h4, e2, h6⟩
  | .erow x sz fo, q, hr => by
    simp only [RV] at hr ⊢
    obtain ⟨cs, off, tl, h1, h2, h3⟩ := hr
    obtain ⟨e1, e2⟩ := SE.den_prefix h.ρ h2
    exact ⟨cs, off, tl, by rw [e1]; exact h1, e2, h3⟩
  | .sref l fo, q, hr => by
    simp only [RV] at hr ⊢
    obtain ⟨l', h1, h2⟩ := hr
    exact ⟨l', RVL.mono h h1, h2⟩
  | .fn f l, q, hr => by
    simp only [RV] at hr ⊢
    obtain ⟨l', h1, h2⟩ := hr
    exact ⟨l', h1, RVL.mono h h2⟩
  | .agg l, q, hr => by
    simp only [RV] at hr ⊢
    obtain ⟨l', h1, h2⟩ := hr
    exact ⟨l', h1, RVL.mono h h2⟩
  | .tup l, q, hr => by
    simp only [RV] at hr ⊢
    obtain ⟨l', h1, h2⟩ := hr
    exact ⟨l', h1, RVT.mono h h2⟩
  | .lit sz len l, q, hr => by
    simp only [RV] at hr ⊢
    obtain ⟨l', h1, h2, h3⟩ := hr
    exact ⟨l', h1, RVL.mono h h2, h3⟩
theorem RVL.mono {F : Frm} {E E' : Env} (h : E.le E') : ∀ {l : List SV} {l' : List PV}, RVL F E l l' → RVL F E' l l'
  | [], l', hr => by simpa only [RVL] using hr
  | v :: vs, l', hr => by
    simp only [RVL] at hr ⊢
    obtain ⟨q, r, h1, h2, h3, h4⟩ := hr
    exact ⟨q, r, h1, RV.mono h h2, h3, RVL.mono h h4⟩
theorem RVT.mono {F : Frm} {E E' : Env} (h : E.le E') : ∀ {l : List SV} {l' : List PV}, RVT F E l l' → RVT F E' l l'
  | [], l', hr => by simpa only [RVT] using hr
  | v :: vs, l', hr => by
    simp only [RVT] at hr ⊢
    obtain ⟨q, r, h1, h2, h4⟩ := hr
    exact ⟨q, r, h1, RV.mono h h2, RVT.mono h h4⟩
end
mutual
theorem pe_den {F : Frm} {E : Env} : ∀ {v : SV} {p : PE} {q : PV}, v.pe = some p → RV F E v q → q = p.den E.ρ ∧ q.plain = true
  | .e x, p, q, hp, hr => by
    simp only [SV.pe, Option.some.injEq] at hp
    subst hp
    simp only [RV] at hr
    exact ⟨hr.1, by rw [hr.1]; exact SE.ok_plain hr.2⟩
  | .agg l, p, q, hp, hr => by
    simp only [SV.pe] at hp
    obtain ⟨ps, hps, rfl⟩ := Option.map_eq_some_iff.1 hp
    simp only [RV] at hr
    obtain ⟨l', rfl, hl⟩ := hr
    obtain ⟨e, hc⟩ := peL_den hps hl
    exact ⟨by rw [e]; simp only [PE.den], by simpa only [PV.plain] using hc⟩
  | .tup l, p, q, hp, hr => by
    simp only [SV.pe] at hp
    obtain ⟨ps, hps, rfl⟩ := Option.map_eq_some_iff.1 hp
    simp only [RV] at hr
    obtain ⟨l', rfl, hl⟩ := hr
    obtain ⟨e, hc⟩ := peT_den hps hl
    exact ⟨by rw [e]; simp only [PE.den], by simpa only [PV.plain] using hc⟩
  | .lit sz len l, p, q, hp, hr => by
    simp only [SV.pe] at hp
    obtain ⟨ps, hps, rfl⟩ := Option.map_eq_some_iff.1 hp
    simp only [RV] at hr
    obtain ⟨l', rfl, hl, hpl, _⟩ := hr
    obtain ⟨e, hc⟩ := peL_den hps hl
    exact ⟨by rw [e]; simp only [PE.den], by simpa only [PV.plain] using hpl⟩
  | .fn f l, p, q, hp, hr => by
    simp only [SV.pe] at hp
    obtain ⟨ps, hps, rfl⟩ := Option.map_eq_some_iff.1 hp
    simp only [RV] at hr
    obtain ⟨l', rfl, hl⟩ := hr
    obtain ⟨e, hc⟩ := peL_den hps hl
    exact ⟨by rw [e]; simp only [PE.den], by simpa only [PV.plain] using hc⟩
  | .sref l 0, p, q, hp, hr => by
    simp only [SV.pe] at hp
    obtain ⟨ps, hps, rfl⟩ := Option.map_eq_some_iff.1 hp
    simp only [RV] at hr
    obtain ⟨l', hl, hpl, rfl⟩ := hr
    obtain ⟨e, hc⟩ := peL_den hps hl
    exact ⟨by rw [e]; simp only [PE.den, List.drop_zero], by simpa only [PV.plain, List.drop_zero] using hpl⟩
  | .sref l (n + 1), p, q, hp, hr => by simp [SV.pe] at hp
  | .undef, p, q, hp, hr | .junk, p, q, hp, hr | .ptr _ _, p, q, hp, hr | .dice, p, q, hp, hr | .yld _, p, q, hp, hr | .own _, p, q, hp, hr | .eown _ _ _, p, q, hp, hr | .erow _ _ _, p, q, hp, hr => by simp [SV.pe] at hp
theorem peL_den {F : Frm} {E : Env} : ∀ {l : List SV} {ps : List PE} {l' : List PV}, peL l = some ps → RVL F E l l' → l' = denL E.ρ ps ∧ plainC l' = true
  | [], ps, l', hp, hr => by
    simp only [peL, Option.some.injEq] at hp
    simp only [RVL] at hr
    subst hp; subst hr
    exact ⟨rfl, rfl⟩
  | v :: vs, ps, l', hp, hr => by
    simp only [peL] at hp
    split at hp
    · rename_i p ps' h1 h2
      injection hp with hp
      subst hp
      simp only [RVL] at hr
      obtain ⟨q, r, rfl, h3, h4, h5⟩ := hr
      obtain ⟨e1, e2⟩ := pe_den h1 h3
      obtain ⟨e3, e4⟩ := peL_den h2 h5
      have hone : q.one = true := by
        rcases h4 with rfl | h4
        · simp [SV.pe] at h1
        · exact h4
      exact ⟨by simp only [denL, ← e1, ← e3], by simp [plainC, e2, e4, hone]⟩
    · cases hp
theorem peT_den {F : Frm} {E : Env} : ∀ {l : List SV} {ps : List PE} {l' : List PV}, peL l = some ps → RVT F E l l' → l' = denL E.ρ ps ∧ plainT l' = true
  | [], ps, l', hp, hr => by
    simp only [peL, Option.some.injEq] at hp
    simp only [RVT] at hr
    subst hp; subst hr
    exact ⟨rfl, rfl⟩
  | v :: vs, ps, l', hp, hr => by
    simp only [peL] at hp
    split at hp
    · rename_i p ps' h1 h2
      injection hp with hp
      subst hp
      simp only [RVT] at hr
      obtain ⟨q, r, rfl, h3, h5⟩ := hr
      obtain ⟨e1, e2⟩ := pe_den h1 h3
      obtain ⟨e3, e4⟩ := peT_den h2 h5
      exact ⟨by simp only [denL, ← e1, ← e3], by simp [plainT, e2, e4]⟩
    · cases hp
end
end Go.Proofs.Ytlminnpaeaganaa
namespace Go.Proofs.Ytlminnpaeaganaa
open Go Go.RowKit
set_option linter.unusedVariables false
structure Hom (T : PV → PV) : Prop where
  plain : ∀ q, q.plain = true → T q = q
  undef : T .undef = .undef
  agg : ∀ l, T (.agg l) = .agg (l.map T)
  tup : ∀ l, T (.tup l) = .tup (l.map T)
  fn : ∀ f l, T (.fn f l) = .fn f (l.map T)
  sl : ∀ sz off len l, T (.sl none sz off len l) = .sl none sz off len (l.map T)
  eref : ∀ off l, T (.eref none off l) = .eref none off (l.map T)
  yld : ∀ l, T (.yld l) = .yld l
  one : ∀ q, q.one = true → (∀ o, q = .eref o 0 [] → True) → (T q).one = true ∨ T q = .bad
theorem hom_frz (id : Nat) : Hom (PV.frz id) where
  plain := fun q h => plain_frz id q h
  undef := by simp only [PV.frz]
  agg := fun l => by simp only [PV.frz, frzL_eq]
  tup := fun l => by simp only [PV.frz, frzL_eq]
  fn := fun f l => by simp only [PV.frz, frzL_eq]
  sl := fun sz off len l => by simp only [PV.frz, frzL_eq]
  eref := fun off l => by simp only [PV.frz, frzL_eq]
  yld := fun l => by simp only [PV.frz]
  one := fun q h _ => by
    cases q with
    | sl id _ _ _ _ => cases id <;> exact .inl (by simp [PV.frz, PV.one])
    | eref id _ _ => cases id <;> exact .inl (by simp [PV.frz, PV.one])
    | mp _ id _ _ => cases id <;> exact .inl (by simp [PV.frz, PV.one])
    | undef => simp [PV.one] at h
    | bad => simp [PV.one] at h
    | agg _ => simp [PV.one] at h
    | tup _ => simp [PV.one] at h
    | _ => exact .inl (by simp [PV.frz, PV.one])
theorem one_sub1 (e : Eff) (q : PV) (h : q.one = true) : (q.sub1 e).one = true ∨ q.sub1 e = .bad := by
  cases q with
  | sl id _ _ _ _ =>
    cases id with
    | none => exact .inl (by simp [PV.sub1, PV.one])
    | some i =>
      cases e <;> simp only [PV.sub1] <;> split <;> exact .inl (by simp [PV.one])
  | eref id _ _ =>
    cases id with
    | none => exact .inl (by simp [PV.sub1, PV.one])
    | some i =>
      cases e <;> simp only [PV.sub1] <;> split <;> first | exact .inr rfl | exact .inl rfl
  | mp it id sz cs =>
    cases id with
    | none => exact .inl (by simp [PV.sub1, PV.one])
    | some i =>
      cases e with
      | kill j => simp only [PV.sub1]; split <;> first | exact .inr rfl | exact .inl rfl
      | wr j p v =>
        simp only [PV.sub1]
        split
        · split
          · split <;> first | exact .inr rfl | exact .inl rfl
          · exact .inr rfl
        · exact .inl rfl
  | undef => simp [PV.one] at h
  | bad => simp [PV.one] at h
  | agg _ => simp [PV.one] at h
  | tup _ => simp [PV.one] at h
  | _ => exact .inl (by simp [PV.sub1, PV.one])
theorem bad_sub (E : List Eff) : PV.sub E .bad = .bad := by
  induction E with
  | nil => rfl
  | cons e E ih => simp only [PV.sub, PV.sub1, ih]
theorem hom_sub (E : List Eff) : Hom (PV.sub E) := by
  induction E with
  | nil => exact ⟨fun _ _ => rfl, rfl, fun l => by simp [PV.sub], fun l => by simp [PV.sub], fun f l => by simp [PV.sub], fun _ _ _ l => by simp [PV.sub], fun _ l => by simp [PV.sub], fun l => rfl, fun q h _ => .inl h⟩
  | cons e E ih =>
    refine ⟨fun q h => plain_sub _ h, ?_, fun l => ?_, fun l => ?_, fun f l => ?_, fun _ _ _ l => ?_, fun _ l => ?_, fun l => ?_, fun q h _ => ?_⟩
    · simp only [PV.sub, PV.sub1, ih.undef]
    · simp only [PV.sub, PV.sub1, subL1_eq, ih.agg, List.map_map]; rfl
    · simp only [PV.sub, PV.sub1, subL1_eq, ih.tup, List.map_map]; rfl
    · simp only [PV.sub, PV.sub1, subL1_eq, ih.fn, List.map_map]; rfl
    · simp only [PV.sub, PV.sub1, subL1_eq, ih.sl, List.map_map]; rfl
    · simp only [PV.sub, PV.sub1, subL1_eq, ih.eref, List.map_map]; rfl
    · simp only [PV.sub, PV.sub1, ih.yld]
    · rcases one_sub1 e q h with h1 | h1
      · exact ih.one _ h1 (fun _ _ => trivial)
      · exact .inr (by simp only [PV.sub, h1, bad_sub])
structure Tr (F : Frm) (E E' : Env) (f : SV → SV) (T : PV → PV) : Prop where
  hom : Hom T
  ρ : E.ρ <+: E'.ρ
  e : ∀ x, f (.e x) = .e x
  undef : f .undef = .undef
  junk : f .junk = .junk
  dice : f .dice = .dice
  erow : ∀ x sz fo, f (.erow x sz fo) = .erow x sz fo
  yld : ∀ y, f (.yld y) = .yld y
  fn : ∀ g l, f (.fn g l) = .fn g (l.map f)
  agg : ∀ l, f (.agg l) = .agg (l.map f)
  tup : ∀ l, f (.tup l) = .tup (l.map f)
  lit : ∀ a b l, f (.lit a b l) = .lit a b (l.map f)
  sref : ∀ l o, f (.sref l o) = .sref (l.map f) o
  ptr : ∀ i o q, RV F E (.ptr i o) q → RV F E' (f (.ptr i o)) (T q) ∧ (f (.ptr i o) = .junk ∨ (T q).one = true)
  dicep : ∀ q, RV F E .dice q → T q = q
  own : ∀ k q, RV F E (.own k) q → RV F E' (f (.own k)) (T q) ∧ (f (.own k) = .junk ∨ (T q).one = true)
  eown : ∀ k x fo q, RV F E (.eown k x fo) q → RV F E' (f (.eown k x fo)) (T q) ∧ (f (.eown k x fo) = .junk ∨ (T q).one = true)
theorem plainC_map {T : PV → PV} (h : Hom T) {l : List PV} (hl : plainC l = true) : l.map T = l := by
  rw [plainC_iff] at hl
  conv => rhs; rw [← List.map_id l]
  exact List.map_congr_left fun q hq => h.plain q (hl q hq).1
section
variable {F : Frm} {E E' : Env} {f : SV → SV} {T : PV → PV}
mutual
theorem Tr.rv (t : Tr F E E' f T) : ∀ {v : SV} {q : PV}, RV F E v q → RV F E' (f v) (T q)
  | .e x, q, h => by
    rw [t.e]
    simp only [RV] at h ⊢
    obtain ⟨e1, e2⟩ := SE.den_prefix t.ρ h.2
    rw [t.hom.plain q (by rw [h.1]; exact SE.ok_plain h.2), e1]
    exact ⟨h.1, e2⟩
  | .undef, q, h => by
    rw [t.undef]
    simp only [RV] at h ⊢
    rw [h, t.hom.undef]
  | .junk, q, h => by rw [t.junk]; simp only [RV]
  | .ptr i o, q, h => (t.ptr i o q h).1
  | .dice, q, h => by
    rw [t.dice, t.dicep q h]
    simpa only [RV] using h
  | .yld _, q, h => by
    rw [t.yld]
    simp only [RV] at h ⊢
    obtain ⟨l, h1, rfl⟩ := h
    exact ⟨l, h1, t.hom.yld l⟩
  | .own k, q, h => (t.own k q h).1
  | .eown k x fo, q, h => (t.eown k x fo q h).1
  | .erow x sz fo, q, h => by
    rw [t.erow]
    simp only [RV] at h ⊢
    obtain ⟨cs, off, tl, h1, h2, h3, rfl⟩ := h
    obtain ⟨e1, e2⟩ := SE.den_prefix t.ρ h2
    have hp : plainC cs = true := by have := SE.ok_plain h2; rw [h1] at this; simpa only [PV.plain] using this
    refine ⟨cs, off, tl.map T, by rw [e1]; exact h1, e2, h3, ?_⟩
    rw [t.hom.eref, List.map_append]
    congr 2
    have := plainC_map t.hom hp
    rw [List.map_drop, this]
  | .sref l fo, q, h => by
    rw [t.sref]
    simp only [RV] at h ⊢
    obtain ⟨l', h1, h2, rfl⟩ := h
    refine ⟨l', ?_, h2, ?_⟩
    · have := Tr.rvl t h1
      rwa [plainC_map t.hom h2] at this
    · rw [t.hom.eref, List.map_drop, plainC_map t.hom h2]
  | .fn g l, q, h => by
    rw [t.fn]
    simp only [RV] at h ⊢
    obtain ⟨l', rfl, h2⟩ := h
    exact ⟨_, t.hom.fn _ _, Tr.rvl t h2⟩
  | .agg l, q, h => by
    rw [t.agg]
    simp only [RV] at h ⊢
    obtain ⟨l', rfl, h2⟩ := h
    exact ⟨_, t.hom.agg _, Tr.rvl t h2⟩
  | .tup l, q, h => by
    rw [t.tup]
    simp only [RV] at h ⊢
    obtain ⟨l', rfl, h2⟩ := h
    exact ⟨_, t.hom.tup _, Tr.rvt t h2⟩
  | .lit sz len l, q, h => by
    rw [t.lit]
    simp only [RV] at h ⊢
    obtain ⟨l', rfl, h2, h3, h4⟩ := h
    have := Tr.rvl t h2
    rw [plainC_map t.hom h3] at this
    exact ⟨l', by rw [t.hom.sl, plainC_map t.hom h3], this, h3, h4⟩
theorem Tr.rvl (t : Tr F E E' f T) : ∀ {l : List SV} {l' : List PV}, RVL F E l l' → RVL F E' (l.map f) (l'.map T)
  | [], l', h => by simp only [RVL] at h; subst h; simp [RVL]
  | v :: vs, l', h => by
    simp only [RVL] at h
    obtain ⟨q, r, rfl, h2, h3, h4⟩ := h
    simp only [List.map_cons, RVL]
    refine ⟨T q, r.map T, rfl, Tr.rv t h2, ?_, Tr.rvl t h4⟩
    rcases h3 with rfl | h3
    · exact .inl t.junk
    · cases v with
      | ptr i o => exact (t.ptr i o q h2).2
      | own k => exact (t.own k q h2).2
      | eown k x fo => exact (t.eown k x fo q h2).2
      | junk => exact .inl t.junk
      | yld _ =>
        simp only [RV] at h2
        obtain ⟨l, _, rfl⟩ := h2
        rw [t.hom.yld]
        exact .inr rfl
      | undef => simp only [RV] at h2; subst h2; simp [PV.one] at h3
      | e x => 
        simp only [RV] at h2
        rw [t.hom.plain q (by rw [h2.1]; exact SE.ok_plain h2.2)]
        exact .inr h3
      | dice => rw [t.dicep q h2]; exact .inr h3
      | erow x sz fo =>
        simp only [RV] at h2
        obtain ⟨cs, off, tl, _, _, _, rfl⟩ := h2
        rw [t.hom.eref]
        exact .inr rfl
      | sref l fo =>
        simp only [RV] at h2
        obtain ⟨l', _, _, rfl⟩ := h2
        rw [t.hom.eref]
        exact .inr rfl
      | fn g l =>
        simp only [RV] at h2
        obtain ⟨l', rfl, _⟩ := h2
        rw [t.hom.fn]
        exact .inr rfl
      | agg l =>
        simp only [RV] at h2
        obtain ⟨l', rfl, _⟩ := h2
        simp [PV.one] at h3
      | tup l =>
        simp only [RV] at h2
        obtain ⟨l', rfl, _⟩ := h2
        simp [PV.one] at h3
      | lit a b l =>
        simp only [RV] at h2
        obtain ⟨l', rfl, _⟩ := h2
        rw [t.hom.sl]
        exact .inr rfl
theorem Tr.rvt (t : Tr F E E' f T) : ∀ {l : List SV} {l' : List PV}, RVT F E l l' → RVT F E' (l.map f) (l'.map T)
  | [], l', h => by simp only [RVT] at h; subst h; simp [RVT]
  | v :: vs, l', h => by
    simp only [RVT] at h
    obtain ⟨q, r, rfl, h2, h4⟩ := h
    simp only [List.map_cons, RVT]
    exact ⟨T q, r.map T, rfl, Tr.rv t h2, Tr.rvt t h4⟩
end
end
theorem frzSL_eq (k : Nat) (x : SE) (l : List SV) : frzSL k x l = l.map (SV.frz k x) := by
  induction l with
  | nil => rfl
  | cons v l ih => simp [frzSL, ih]
theorem hitSL_eq (k : Nat) (a : Bool) (l : List SV) : hitSL k a l = l.map (SV.hitS k a) := by
  induction l with
  | nil => rfl
  | cons v l ih => simp [hitSL, ih]
theorem standL_eq (i : Nat) (c l : List SV) : standL i c l = l.map (SV.stand i c) := by
  induction l with
  | nil => rfl
  | cons v l ih => simp [standL, ih]
end Go.Proofs.Ytlminnpaeaganaa
namespace Go.Proofs.Ytlminnpaeaganaa
open Go Go.RowKit
set_option linter.unusedVariables false
section
variable {F : Frm} {S : Sym} {ρ : List PV} {ids : Nat → Option Nat} {s : St}
@[simp] theorem env_put (d : Option Tmp) (v : SV) : (S.put d v).env ρ ids = S.env ρ ids := by cases d <;> rfl
@[simp] theorem put_nv (d : Option Tmp) (v : SV) : (S.put d v).nv = S.nv := by cases d <;> rfl
@[simp] theorem put_kn (d : Option Tmp) (v : SV) : (S.put d v).kn = S.kn := by cases d <;> rfl
@[simp] theorem put_bx (d : Option Tmp) (v : SV) : (S.put d v).bx = S.bx := by cases d <;> rfl
@[simp] theorem put_ar (d : Option Tmp) (v : SV) : (S.put d v).ar = S.ar := by cases d <;> rfl
@[simp] theorem put_effS (d : Option Tmp) (v : SV) : (S.put d v).eff = S.eff := by cases d <;> rfl
@[simp] theorem put_base (d : Option Tmp) (v : SV) : (S.put d v).base = S.base := by cases d <;> rfl
@[simp] theorem put_bbase (d : Option Tmp) (v : SV) : (S.put d v).bbase = S.bbase := by cases d <;> rfl
theorem get_put (d : Nat) (v : SV) (t : Nat) : (S.put (some d) v).get t = if t = d ∧ d < S.g.length then v else S.get t := by
  simp only [Sym.put, Sym.get, List.getD_eq_getElem?_getD, List.getElem?_set]
  by_cases h : d = t
  · subst h
    by_cases hl : d < S.g.length
    · simp [hl]
    · simp [hl]
  · have h' : ¬ t = d := fun e => h e.symm
    simp [h, h']
theorem Rel.put (h : Rel F S ρ ids s) (d : Option Tmp) {v : SV} {q : PV} (hv : RV F (S.env ρ ids) v q) : Rel F (S.put d v) ρ ids (s.put d q) := by
  refine ⟨by simpa using h.len, by simpa using h.kn, fun t => ?_, by simpa using h.boxn, by simpa using h.old, by simpa using h.box, by simpa using h.idlt, h.idinj, by simpa using h.arr, by simpa using h.a0, h.ent, by simpa using h.efc, by simpa using h.eff, by simpa using h.new, by simpa using h.keep, by simpa using h.bbase, by simpa using h.ba, by simpa using h.bb, by simpa using h.an, h.obd, by cases d <;> exact h.rc⟩
  rw [env_put]
  cases d with
  | none => exact h.slot t
  | some d =>
    rw [get_put, St.put_g]
    by_cases ht : t = d
    · subst ht
      rw [if_pos rfl]
      by_cases hl : t < S.g.length
      · simp [hl]; exact hv
      · have : S.get t = .junk := by simp [Sym.get, List.getD_eq_getElem?_getD, List.getElem?_eq_none (by omega : S.g.length ≤ t)]
        simp only [hl, and_false, if_false, this, RV]
    · simp only [ht, false_and, if_false]
      exact h.slot t
def Sym.bind (S : Sym) (kn : Bool) : Sym := { S with nv := S.nv + 1, kn := if kn then S.nv :: S.kn else S.kn }
theorem Env.le_bind (S : Sym) (ρ : List PV) (ids : Nat → Option Nat) (v : PV) (kn : Bool) : (S.env ρ ids).le ((S.bind kn).env (ρ ++ [v]) ids) :=
  ⟨List.prefix_append _ _, fun _ _ h => h, Nat.le_refl _, fun _ _ _ => rfl⟩
theorem rb_mono {E E' : Env} (h : E.le E') {b : BX} {c : BoxC} (hb : RB F E b c) : RB F E' b c := by
  cases b with
  | cells l =>
    obtain ⟨l', h1, h2⟩ := hb
    exact ⟨l', h1, RVL.mono h h2⟩
  | dice => exact hb
  | gone => exact hb
theorem Rel.bind (h : Rel F S ρ ids s) (v : PV) (kn : Bool) (hk : kn = true → v.one = true) : Rel F (S.bind kn) (ρ ++ [v]) ids s := by
  have hle := Env.le_bind S ρ ids v kn
  refine ⟨by simp [Sym.bind, h.len], fun i hi => ?_, fun t => RV.mono hle (h.slot t), h.boxn, h.old, fun i b hb => rb_mono hle (h.box i b hb), h.idlt, h.idinj, fun k a ha => ?_, h.a0, h.ent, h.efc, h.eff, h.new, h.keep, h.bbase, h.ba, h.bb, h.an, h.obd, h.rc.push⟩
  · have old : ∀ i, i ∈ S.kn → ((ρ ++ [v]).getD i .bad).one = true := fun i hi => by
      have h1 := h.kn i hi
      have : i < ρ.length := by
        rcases Nat.lt_or_ge i ρ.length with h2 | h2
        · exact h2
        · simp [List.getD_eq_getElem?_getD, List.getElem?_eq_none h2, PV.one] at h1
      simpa [List.getD_eq_getElem?_getD, List.getElem?_append_left this] using h1
    cases kn with
    | false => exact old i (by simpa [Sym.bind] using hi)
    | true =>
      simp only [Sym.bind, if_true, List.mem_cons] at hi
      rcases hi with rfl | hi
      · rw [← h.len]
        simpa [List.getD_eq_getElem?_getD] using hk rfl
      · exact old i hi
  · obtain ⟨cs, hc⟩ := h.arr k a ha
    exact ⟨cs, AR.rel.mono hle ha hc⟩
theorem var_ok (h : Rel F S ρ ids s) (v : PV) (hv : v.plain = true) : SE.ok (ρ ++ [v]) (.var S.nv) ∧ SE.den (ρ ++ [v]) (.var S.nv) = v := by
  have e : SE.den (ρ ++ [v]) (.var S.nv) = v := by simp [SE.den, ← h.len, List.getD_eq_getElem?_getD]
  exact ⟨by unfold SE.ok; unfold SE.den at e; rw [e]; exact hv, e⟩
theorem rv_svOf (E : Env) (v : PV) : RV F E (svOf v) v := by
  unfold svOf
  split
  · simp only [RV]
  · simp only [RV]
  · split
    · rename_i h; simp only [RV]; exact ⟨rfl, h⟩
    · simp only [RV]
theorem Rel.ev (h : Rel F S ρ ids s) (x : Operand) : RV F (S.env ρ ids) (S.ev x) (s.ev x) := by
  cases x with
  | tmp t => exact h.slot t
  | const v => exact rv_svOf _ _
  | func f => simp only [Sym.ev, St.ev, RV]; exact ⟨[], rfl, rfl⟩
  | global g => simp only [Sym.ev, RV]
theorem Rel.pe (h : Rel F S ρ ids s) {x : Operand} {p : PE} (hp : (S.ev x).pe = some p) : s.ev x = p.den ρ ∧ (s.ev x).plain = true := pe_den hp (h.ev x)
theorem Rel.evs (h : Rel F S ρ ids s) : ∀ l : List Operand, ∀ ps, peL (l.map S.ev) = some ps → l.map s.ev = denL ρ ps ∧ (∀ q ∈ l.map s.ev, q.plain = true)
  | [], ps, hp => by
    simp only [List.map_nil, peL, Option.some.injEq] at hp
    subst hp
    simp [denL]
  | x :: l, ps, hp => by
    simp only [List.map_cons, peL] at hp
    split at hp
    · rename_i p ps' h1 h2
      injection hp with hp
      subst hp
      obtain ⟨e1, e2⟩ := h.pe h1
      obtain ⟨e3, e4⟩ := Rel.evs h l ps' h2
      refine ⟨by simp only [List.map_cons, denL, e1, e3], fun q hq => ?_⟩
      simp only [List.map_cons, List.mem_cons] at hq
      rcases hq with rfl | hq
      · exact e2
      · exact e4 q hq
    · cases hp
def Run (P : Program) (C : Orc → FuncId → List PV → Option PV) (n : Nat) (t : Tree) (ρ : List PV) (R : Out → Prop) : Prop := ∀ ω, ∃ o, eval P C n t ω ρ = some o ∧ R o
def orc0 : Orc := fun _ => 0
variable {P : Program} {C : Orc → FuncId → List PV → Option PV} {n : Nat} {R : Out → Prop}
theorem Run.prim {p : Prim} {t : Tree} (h : Run P C n (.prim p t) ρ R) : ∃ v, p.run P ρ = some v ∧ Run P C n t (ρ ++ [v]) R := by
  obtain ⟨o, ho, _⟩ := h orc0
  simp only [eval] at ho
  split at ho
  · rename_i v hv
    refine ⟨v, hv, fun ω => ?_⟩
    obtain ⟨o, ho, hR⟩ := h ω
    simp only [eval, hv] at ho
    exact ⟨o, ho, hR⟩
  · cases ho
theorem run_die (h : Run P C n .die ρ R) : False := by
  obtain ⟨o, ho, _⟩ := h orc0
  simp [eval] at ho
theorem Run.ite {c : SE} {a b : Tree} (h : Run P C n (.ite c a b) ρ R) : (c.den ρ = .bool true ∧ Run P C n a ρ R) ∨ (c.den ρ = .bool false ∧ Run P C n b ρ R) := by
  obtain ⟨o, ho, _⟩ := h orc0
  simp only [eval] at ho
  split at ho
  · rename_i hc
    refine .inl ⟨hc, fun ω => ?_⟩
    obtain ⟨o, ho, hR⟩ := h ω
    simp only [eval, hc] at ho
    exact ⟨o, ho, hR⟩
  · rename_i hc
    refine .inr ⟨hc, fun ω => ?_⟩
    obtain ⟨o, ho, hR⟩ := h ω
    simp only [eval, hc] at ho
    exact ⟨o, ho, hR⟩
  · cases ho
theorem Run.call {g : FuncId} {args : List PE} {t : Tree} (h : Run P C n (.call g args t) ρ R) : (∀ ω, (C ω g (denL ρ args)).isSome) ∧ ∀ ω v, C ω g (denL ρ args) = some v → Run P C n t (ρ ++ [v]) R := by
  refine ⟨fun ω => ?_, fun ω v hv ω' => ?_⟩
  · obtain ⟨o, ho, _⟩ := h (Orc.mk ω ω)
    simp only [eval, Orc.mk_l] at ho
    split at ho
    · rename_i hv; rw [hv]; rfl
    · cases ho
  · obtain ⟨o, ho, hR⟩ := h (Orc.mk ω ω')
    simp only [eval, Orc.mk_l, Orc.mk_r, hv] at ho
    exact ⟨o, ho, hR⟩
theorem Run.pick {sz : Nat} {c : SE} {t : Tree} (h : Run P C n (.pick sz c t) ρ R) : ∃ cs, c.den ρ = .agg cs ∧ ∀ i, Run P C n t (ρ ++ [pickV sz cs i]) R := by
  obtain ⟨o, ho, _⟩ := h orc0
  simp only [eval] at ho
  split at ho
  · rename_i cs hc
    refine ⟨cs, hc, fun i ω => ?_⟩
    obtain ⟨o, ho, hR⟩ := h (Orc.mk (fun _ => i) ω)
    simp only [eval, hc, Orc.mk_l, Orc.mk_r] at ho
    exact ⟨o, ho, hR⟩
  · cases ho
theorem Run.callv {f : SE} {args : List PE} {t : Tree} (h : Run P C n (.callv f args t) ρ R) : ∃ g caps, f.den ρ = .fn g caps ∧ (∀ ω, (C ω g (denL ρ args ++ caps)).isSome) ∧ ∀ ω v, C ω g (denL ρ args ++ caps) = some v → Run P C n t (ρ ++ [v]) R := by
  obtain ⟨o, ho, _⟩ := h orc0
  simp only [eval] at ho
  split at ho
  · rename_i g caps hf
    refine ⟨g, caps, hf, fun ω => ?_, fun ω v hv ω' => ?_⟩
    · obtain ⟨o, ho, _⟩ := h (Orc.mk ω ω)
      simp only [eval, hf, Orc.mk_l] at ho
      split at ho
      · rename_i hv; rw [hv]; rfl
      · cases ho
    · obtain ⟨o, ho, hR⟩ := h (Orc.mk ω ω')
      simp only [eval, hf, Orc.mk_l, Orc.mk_r, hv] at ho
      exact ⟨o, ho, hR⟩
  · cases ho
theorem emit_ok {p : Prim} {kn : Bool} {k : SE → Sym → M} {t : Tree} (h : emit p kn S k = .ok t) : ∃ t', k (.var S.nv) (S.bind kn) = .ok t' ∧ t = .prim p t' := by
  simp only [emit, bind, Except.bind] at h
  split at h
  · cases h
  · rename_i t' ht
    injection h with h
    exact ⟨t', ht, h.symm⟩
end
end Go.Proofs.Ytlminnpaeaganaa
namespace Go.Proofs.Ytlminnpaeaganaa
open Go Go.RowKit
set_option linter.unusedVariables false
set_option linter.unusedSimpArgs false
section
variable {P : Program}
theorem aBin_plain {op : BinOp} {t : TypeId} {x y v : PV} (h : aBin P op t x y = some v) : v.plain = true ∧ v.one = true := by
  unfold aBin at h
  split at h
  · split at h
    · split at h <;> first | (cases h; done) | (injection h with h; subst h; exact ⟨rfl, rfl⟩)
    · split at h <;> first | (cases h; done) | (injection h with h; subst h; exact ⟨rfl, rfl⟩)
    · split at h
      · split at h <;> first | (cases h; done) | (injection h with h; subst h; exact ⟨rfl, rfl⟩) | (split at h <;> first | (cases h; done) | (injection h with h; subst h; exact ⟨rfl, rfl⟩))
      · cases h
  all_goals first | (cases h; done) | (split at h <;> first | (cases h; done) | (injection h with h; subst h; exact ⟨rfl, rfl⟩))
theorem aUn_plain {op : UnOp} {x v : PV} (h : aUn op x = some v) : v.plain = true ∧ v.one = true := by
  unfold aUn at h
  split at h <;> first | (cases h; done) | (injection h with h; subst h; exact ⟨rfl, rfl⟩)
theorem aConv_plain {s d : TypeId} {x v : PV} (h : aConv P s d x = some v) : v.plain = true ∧ v.one = true := by
  unfold aConv at h
  split at h <;> first | (cases h; done) | (injection h with h; subst h; exact ⟨rfl, rfl⟩)
theorem aLen_plain {t : TypeId} {x v : PV} (h : aLen P t x = some v) : v.plain = true ∧ v.one = true := by
  unfold aLen at h
  split at h <;> first | (cases h; done) | (injection h with h; subst h; exact ⟨rfl, rfl⟩)
theorem aMin_plain {l : List PV} {v : PV} (h : aMin l = some v) : v.plain = true ∧ v.one = true := by
  unfold aMin at h
  split at h <;> first | (cases h; done) | (split at h <;> first | (cases h; done) | (injection h with h; subst h; exact ⟨rfl, rfl⟩))
theorem aMax_plain {l : List PV} {v : PV} (h : aMax l = some v) : v.plain = true ∧ v.one = true := by
  unfold aMax at h
  split at h <;> first | (cases h; done) | (split at h <;> first | (cases h; done) | (injection h with h; subst h; exact ⟨rfl, rfl⟩))
theorem plainC_take {l : List PV} (h : plainC l = true) (k : Nat) : plainC (l.take k) = true := (plainC_iff _).2 fun p hp => (plainC_iff _).1 h p (List.mem_of_mem_take hp)
theorem plainC_drop {l : List PV} (h : plainC l = true) (k : Nat) : plainC (l.drop k) = true := (plainC_iff _).2 fun p hp => (plainC_iff _).1 h p (List.mem_of_mem_drop hp)
theorem plainC_append {l l' : List PV} (h : plainC l = true) (h' : plainC l' = true) : plainC (l ++ l') = true := (plainC_iff _).2 fun p hp => by
  rcases List.mem_append.1 hp with hp | hp
  · exact (plainC_iff _).1 h p hp
  · exact (plainC_iff _).1 h' p hp
theorem plainC_get {l : List PV} (h : plainC l = true) {k : Nat} {v : PV} (hv : l[k]? = some v) : v.plain = true ∧ v.one = true := (plainC_iff _).1 h v (List.mem_of_getElem? hv)
theorem aSlice_plain {t : TypeId} {x v : PV} {lo hi : Option PV} (hx : x.plain = true) (h : aSlice P t x lo hi = some v) : v.plain = true ∧ v.one = true := by
  unfold aSlice at h
  split at h
  · rename_i e id sz off len cs hu
    split at h
    · split at h
      · split at h
        · injection h with h; subst h; exact ⟨rfl, rfl⟩
        · injection h with h; subst h
          cases id with
          | none => exact ⟨by simp only [PV.plain] at hx ⊢; exact plainC_take (plainC_drop hx _) _, rfl⟩
          | some i => simp [PV.plain] at hx
      · cases h
    · cases h
  · split at h
    · split at h
      · injection h with h; subst h; exact ⟨rfl, rfl⟩
      · cases h
    · cases h
  · cases h
theorem aIndex_plain {t : TypeId} {x i v : PV} (hx : x.plain = true) (h : aIndex P t x i = some v) : v.plain = true ∧ v.one = true := by
  unfold aIndex at h
  split at h
  · split at h
    · exact plainC_get (by simpa only [PV.plain] using hx) h
    · cases h
  · cases h
end
def YS.core (y : YS) : YS := { y with pend := none, busy := false }
structure Ext (S : Sym) (ρ : List PV) (S' : Sym) (ρ' : List PV) : Prop where
  pre : ρ <+: ρ'
  base : S'.base = S.base
  bbase : S'.bbase = S.bbase
  site : S'.site = S.site
  lv : S'.site = S.site
  ys : S'.ys.map YS.core = S.ys.map YS.core
  bx : S.bx.length ≤ S'.bx.length
  g : S'.g.length = S.g.length
theorem Ext.refl (S : Sym) (ρ : List PV) : Ext S ρ S ρ := ⟨List.prefix_refl _, rfl, rfl, rfl, rfl, rfl, Nat.le_refl _, rfl⟩
theorem Ext.trans {S S1 S2 : Sym} {ρ ρ1 ρ2 : List PV} (h : Ext S ρ S1 ρ1) (k : Ext S1 ρ1 S2 ρ2) : Ext S ρ S2 ρ2 :=
  ⟨h.pre.trans k.pre, k.base.trans h.base, k.bbase.trans h.bbase, k.site.trans h.site, k.lv.trans h.lv, k.ys.trans h.ys, Nat.le_trans h.bx k.bx, k.g.trans h.g⟩
theorem Ext.put {S S' : Sym} {ρ ρ' : List PV} (h : Ext S ρ S' ρ') (d : Option Tmp) (v : SV) : Ext S ρ (S'.put d v) ρ' := by
  cases d with
  | none => exact h
  | some d => exact ⟨h.pre, h.base, h.bbase, h.site, h.lv, h.ys, h.bx, by simpa [Sym.put] using h.g⟩
theorem Ext.bind (S : Sym) (ρ : List PV) (v : PV) (kn : Bool) : Ext S ρ (S.bind kn) (ρ ++ [v]) := ⟨List.prefix_append _ _, rfl, rfl, rfl, rfl, rfl, Nat.le_refl _, rfl⟩
section
variable {X : Ctx} {F : Frm} {C : Orc → FuncId → List PV → Option PV} {n : Nat} {R : Out → Prop} {S : Sym} {ρ : List PV} {ids : Nat → Option Nat} {s : St} {K : Sym → M} {t : Tree} {o : Oper} {m0 : Mem} {inl yl : Inl} {lx : Option Nat} {key : Nat}
def Stp (X : Ctx) (F : Frm) (C : Orc → FuncId → List PV → Option PV) (n : Nat) (R : Out → Prop) (K : Sym → M) (S : Sym) (ρ : List PV) (s' : St) : Prop :=
  ∃ S' ρ' ids' t', K S' = .ok t' ∧ Rel F S' ρ' ids' s' ∧ Run X.P C n t' ρ' R ∧ Ext S ρ S' ρ'
theorem stp_emit {p : Prim} {kn : Bool} (h : emit p kn S (fun v S => K (S.put o.dst (.e v))) = .ok t) (hr : Rel F S ρ ids s) (hrun : Run X.P C n t ρ R)
    (hp : ∀ v, p.run X.P ρ = some v → v.plain = true ∧ v.one = true) : ∃ v, p.run X.P ρ = some v ∧ Stp X F C n R K S ρ (s.put o.dst v) := by
  obtain ⟨t', ht, rfl⟩ := emit_ok h
  obtain ⟨v, hv, hrun⟩ := hrun.prim
  obtain ⟨h1, h2⟩ := hp v hv
  have hb := hr.bind v kn fun _ => h2
  obtain ⟨g1, g2⟩ := var_ok hr v h1
  exact ⟨v, hv, _, _, ids, t', ht, hb.put o.dst (by simp only [RV]; exact ⟨g2.symm, g1⟩), hrun, (Ext.bind S ρ v kn).put _ _⟩
def NearX (F : Frm) (lx : Option Nat) (m0 : Mem) (s : St) : Prop := match lx with
  | none => m0 = s.m
  | some b => m0.n = F.n0 + b ∧ Near m0 s.m
theorem near_of (hn : NearX F lx m0 s) : Near m0 s.m := by
  cases lx with
  | none => simp only [NearX] at hn; subst hn; exact ⟨Nat.le_refl _, fun _ _ => rfl⟩
  | some b => exact hn.2
theorem loadS_ok (hr : Rel F S ρ ids s) (hn : NearX F lx m0 s) {ty : TypeId} {i off : Nat} {v : SV} (h : loadS X S lx ty i off = some v) :
    ∃ q, aLoad X.P m0 ty (.ptr (F.n0 + i) off) = some q ∧ RV F (S.env ρ ids) v q := by
  unfold loadS at h
  have key : ∀ l, S.bx[i]? = some (.cells l) → (lx.all fun b => decide (i < b)) = true → ∃ l', aSrc m0 (.ptr (F.n0 + i) off) = some (l'.drop off) ∧ RVL F (S.env ρ ids) l l' := fun l hl hx => by
    obtain ⟨l', h1, h2⟩ := hr.box i _ hl
    have hi : i < S.bx.length := (List.getElem?_eq_some_iff.1 hl).1
    refine ⟨l', ?_, h2⟩
    have hlt : F.n0 + i < m0.n ∧ m0.β (F.n0 + i) = s.m.β (F.n0 + i) := by
      cases lx with
      | none => simp only [NearX] at hn; subst hn; exact ⟨by rw [hr.boxn]; omega, rfl⟩
      | some b =>
        simp only [Option.all_some, decide_eq_true_eq] at hx
        have h3 : F.n0 + i < m0.n := by rw [hn.1]; omega
        exact ⟨h3, (hn.2.2 _ h3).symm⟩
    simp only [aSrc, hlt.1, if_true, hlt.2, h1]
  split at h
  · rename_i l hb hg
    split at h
    · rename_i hc
      obtain ⟨h1, h2, h3⟩ := hc
      injection h with h
      subst h
      obtain ⟨l', g1, g2⟩ := key l hb h3
      have hlen := rvl_length g2
      refine ⟨_, by simp only [aLoad, g1, hg]; rw [if_pos ⟨by simp; omega, h2⟩], ?_⟩
      simp only [RV]
      refine ⟨_, rfl, rvl_iff.2 ⟨by simp; omega, fun j v q hv hq => ?_⟩⟩
      rw [List.getElem?_take] at hv hq
      split at hv
      · rename_i hj
        rw [if_pos hj] at hq
        rw [List.getElem?_drop] at hv hq
        exact (rvl_iff.1 g2).2 _ v q hv hq
      · cases hv
    · cases h
  · rename_i l hb hg
    split at h
    · rename_i h3
      obtain ⟨l', g1, g2⟩ := key l hb h3
      have hlt : off < l'.length := by rw [← rvl_length g2]; exact (List.getElem?_eq_some_iff.1 h).1
      have hd : l'.drop off = l'[off] :: l'.drop (off + 1) := List.drop_eq_getElem_cons hlt
      refine ⟨l'[off], by simp only [aLoad, g1, hg, hd], ((rvl_iff.1 g2).2 off v l'[off] h (by simp [hlt])).1⟩
    · cases h
  · cases h
end
end Go.Proofs.Ytlminnpaeaganaa
namespace Go.Proofs.Ytlminnpaeaganaa
open Go Go.RowKit
set_option linter.unusedVariables false
set_option linter.unusedSimpArgs false
section
variable {X : Ctx} {F : Frm} {C : Orc → FuncId → List PV → Option PV} {n : Nat} {R : Out → Prop} {S : Sym} {ρ : List PV} {ids : Nat → Option Nat} {s : St} {K : Sym → M} {t : Tree} {o : Oper} {m0 : Mem} {inl yl : Inl} {lx : Option Nat} {key : Nat}
def PureOk (X : Ctx) (F : Frm) (C : Orc → FuncId → List PV → Option PV) (n : Nat) (R : Out → Prop) (K : Sym → M) (S : Sym) (ρ : List PV) (s : St) (m0 : Mem) (o : Oper) : Prop :=
  ∃ pv, pureV X.P m0 s.ev o = some pv ∧ Stp X F C n R K S ρ (s.put o.dst pv)
theorem pure_put {v : SV} {pv : PV} (h : K (S.put o.dst v) = .ok t) (hr : Rel F S ρ ids s) (hrun : Run X.P C n t ρ R) (hp : pureV X.P m0 s.ev o = some pv) (hv : RV F (S.env ρ ids) v pv) : PureOk X F C n R K S ρ s m0 o :=
  ⟨pv, hp, _, _, ids, t, h, hr.put o.dst hv, hrun, (Ext.refl S ρ).put _ _⟩
theorem stp_emit' {p : Prim} {kn : Bool} {f : SE → SV} (h : emit p kn S (fun v S => K (S.put o.dst (f v))) = .ok t) (hr : Rel F S ρ ids s) (hrun : Run X.P C n t ρ R)
    (hk : kn = true → ∀ v, p.run X.P ρ = some v → v.one = true) {Q : PV → PV → Prop}
    (hp : ∀ v, p.run X.P ρ = some v → ∃ pv, Q v pv ∧ (Rel F (S.bind kn) (ρ ++ [v]) ids s → RV F ((S.bind kn).env (ρ ++ [v]) ids) (f (.var S.nv)) pv)) : ∃ v pv, p.run X.P ρ = some v ∧ Q v pv ∧ Stp X F C n R K S ρ (s.put o.dst pv) := by
  obtain ⟨t', ht, rfl⟩ := emit_ok h
  obtain ⟨v, hv, hrun⟩ := hrun.prim
  have hb := hr.bind v kn fun e => hk e v hv
  obtain ⟨pv, hq, hrv⟩ := hp v hv
  exact ⟨v, pv, hv, hq, _, _, ids, t', ht, hb.put o.dst (hrv hb), hrun, (Ext.bind S ρ v kn).put _ _⟩
theorem ok_pick {c x y : Operand} (hop : o.op = .pick c x y) (h : compPick o c x y S K = .ok t) (hr : Rel F S ρ ids s) (hrun : Run X.P C n t ρ R) : PureOk X F C n R K S ρ s m0 o := by
  unfold compPick at h
  have hc := hr.ev c
  split at h
  · rename_i b hb
    rw [hb] at hc
    simp only [RV, SE.den] at hc
    refine pure_put h hr hrun (pv := if b = true then s.ev x else s.ev y) (by simp only [pureV, hop, hc.1]) ?_
    cases b
    · exact hr.ev y
    · exact hr.ev x
  · rename_i e _ hb
    rw [hb] at hc
    simp only [RV] at hc
    simp only [bind, Except.bind, pure, Except.pure] at h
    split at h
    · cases h
    · rename_i a ha
      split at h
      · cases h
      · rename_i b hb'
        injection h with h
        subst h
        rcases hrun.ite with ⟨h1, h2⟩ | ⟨h1, h2⟩
        · exact pure_put ha hr h2 (by simp only [pureV, hop, hc.1, Sym.env, h1]; rfl) (hr.ev x)
        · exact pure_put hb' hr h2 (by simp only [pureV, hop, hc.1, Sym.env, h1]; rfl) (hr.ev y)
  · cases h
theorem ok_nil {x : Operand} (hop : o.op = .nilCheck x) (h : compNil o x S K = .ok t) (hr : Rel F S ρ ids s) (hrun : Run X.P C n t ρ R) : PureOk X F C n R K S ρ s m0 o := by
  unfold compNil at h
  have hc := hr.ev x
  split at h
  · rename_i i off hb
    rw [hb] at hc
    have hc' := hc
    simp only [RV] at hc
    exact pure_put (pv := s.ev x) h hr hrun (by simp only [pureV, hop, hc.1]) hc'
  · rename_i f l hb
    rw [hb] at hc
    have hc' := hc
    simp only [RV] at hc
    obtain ⟨l', e, hl⟩ := hc
    exact pure_put (pv := s.ev x) h hr hrun (by simp only [pureV, hop, e]) hc'
  · cases h
theorem rvt_get {E : Env} : ∀ {l : List SV} {l' : List PV} {i : Nat} {v : SV}, RVT F E l l' → l[i]? = some v → ∃ q, l'[i]? = some q ∧ RV F E v q
  | [], l', i, v, h, hv => by simp at hv
  | u :: us, l', i, v, h, hv => by
    simp only [RVT] at h
    obtain ⟨q, r, rfl, h1, h2⟩ := h
    cases i with
    | zero => simp at hv; subst hv; exact ⟨q, rfl, h1⟩
    | succ i =>
      obtain ⟨p, h3, h4⟩ := rvt_get h2 (i := i) (v := v) (by simpa using hv)
      exact ⟨p, by simpa using h3, h4⟩
theorem ok_ext {x : Operand} {i : Nat} (hop : o.op = .extract x i) (h : compExt o x i S K = .ok t) (hr : Rel F S ρ ids s) (hrun : Run X.P C n t ρ R) : PureOk X F C n R K S ρ s m0 o := by
  unfold compExt at h
  have hc := hr.ev x
  split at h
  · rename_i l hb
    rw [hb] at hc
    simp only [RV] at hc
    obtain ⟨l', e, hl⟩ := hc
    split at h
    · rename_i v hv
      obtain ⟨q, h1, h2⟩ := rvt_get hl hv
      exact pure_put h hr hrun (by simp only [pureV, hop, e, h1]) h2
    · cases h
  · rename_i e hb
    rw [hb] at hc
    simp only [RV] at hc
    have hpl := SE.ok_plain hc.2
    obtain ⟨v, pv, h1, rfl, h3⟩ := stp_emit' (Q := fun v pv => pv = v) h hr hrun (by simp) fun v hv => ⟨v, rfl, fun hb => by
      simp only [Prim.run, extV, PE.den] at hv
      split at hv
      · rename_i vs hvs
        rw [show SE.den (S.env ρ ids).ρ e = SE.den ρ e from rfl, hvs] at hpl
        have : plainT vs = true := by simpa only [PV.plain] using hpl
        have hp := (plainT_iff _).1 this v (List.mem_of_getElem? hv)
        obtain ⟨g1, g2⟩ := var_ok hr v hp
        simp only [RV]
        exact ⟨g2.symm, g1⟩
      · cases hv⟩
    refine ⟨pv, ?_, h3⟩
    simp only [Prim.run, extV, PE.den] at h1
    simp only [pureV, hop, hc.1]
    exact h1
  · cases h
theorem field_ptr {P : Program} {ty : TypeId} {fs : Array Field} {f : Nat} {fd : Field} (hu : P.underlying ty = some (.struct fs)) (hf : fs[f]? = some fd) (hc : ¬ (P.cellsOf fd.type = 0 ∨ (P.info? fd.type).isNone)) (id off : Nat) :
    aField P ty (.ptr id off) f = some (.ptr id (off + fd.offset)) := by simp only [aField, hu, hf, if_neg hc]
theorem field_ref {P : Program} {ty : TypeId} {fs : Array Field} {f : Nat} {fd : Field} (hu : P.underlying ty = some (.struct fs)) (hf : fs[f]? = some fd) (hc : ¬ (P.cellsOf fd.type = 0 ∨ (P.info? fd.type).isNone)) (id : Option Nat) (off : Nat) (cs : List PV) :
    aField P ty (.eref id off cs) f = some (.eref id (off + fd.offset) (cs.drop fd.offset)) := by simp only [aField, hu, hf, if_neg hc]
theorem derefV_some {nn : Nat} {x v : PV} (hx : x.plain = true) (h : derefV nn x = some v) : ∃ off cs, x = .eref none off cs ∧ v = .agg (cs.take nn) ∧ (cs.take nn).length = nn ∧ plainC cs = true := by
  unfold derefV at h
  split at h
  · rename_i off cs
    split at h
    · rename_i hl
      injection h with h
      exact ⟨off, cs, rfl, h.symm, hl.symm, by simpa only [PV.plain] using hx⟩
    · cases h
  · cases h
theorem ok_field {ty : TypeId} {x : Operand} {f : Nat} (hop : o.op = .fieldAddr ty x f) (h : compField X o ty x f S K = .ok t) (hr : Rel F S ρ ids s) (hrun : Run X.P C n t ρ R) : PureOk X F C n R K S ρ s m0 o := by
  unfold compField at h
  have hc := hr.ev x
  split at h
  · rename_i fs hu
    split at h
    · rename_i fd hf
      split at h
      · cases h
      · rename_i hcd
        have hpv : pureV X.P m0 s.ev o = aField X.P ty (s.ev x) f := by simp only [pureV, hop]
        split at h
        · rename_i i off hb
          rw [hb] at hc
          simp only [RV] at hc
          exact pure_put h hr hrun (by rw [hpv, hc.1, field_ptr hu hf hcd]) (by unfold RV; exact ⟨rfl, hc.2⟩)
        · rename_i e sz fo hb
          rw [hb] at hc
          simp only [RV] at hc
          obtain ⟨cs, off, tl, h1, h2, h3, h4⟩ := hc
          refine pure_put h hr hrun (by rw [hpv, h4, field_ref hu hf hcd]) ?_
          simp only [RV]
          by_cases hle : fo + fd.offset ≤ cs.length
          · refine ⟨cs, off + fd.offset, tl, h1, h2, h3, ?_⟩
            rw [List.drop_append_of_le_length (by simp; omega), List.drop_drop]
          · refine ⟨cs, off + fd.offset, (cs.drop fo ++ tl).drop fd.offset, h1, h2, h3, ?_⟩
            rw [List.drop_of_length_le (by omega : cs.length ≤ fo + fd.offset)]
            rfl
        · rename_i l fo hb
          rw [hb] at hc
          simp only [RV] at hc
          obtain ⟨l', h1, h2, h3⟩ := hc
          refine pure_put h hr hrun (by rw [hpv, h3, field_ref hu hf hcd]) ?_
          simp only [RV]
          exact ⟨l', h1, h2, by rw [List.drop_drop]⟩
        · rename_i k e fo hb
          rw [hb] at hc
          simp only [RV] at hc
          obtain ⟨a, cs, id, nn, kk, h1, h2, h3, h4, h5, h6, h7, h8⟩ := hc
          refine pure_put h hr hrun (by rw [hpv, h8, field_ref hu hf hcd]) ?_
          simp only [RV]
          exact ⟨a, cs, id, nn, kk, h1, h2, h3, h4, h5, h6, h7, by rw [List.drop_drop, Nat.add_assoc]⟩
        · rename_i e hb
          rw [hb] at hc
          simp only [RV] at hc
          obtain ⟨v, pv, h1, h2, h3⟩ := stp_emit' (f := fun v => SV.erow v (X.P.cellsOf ty) fd.offset) (Q := fun v pv => aField X.P ty (s.ev x) f = some pv) h hr hrun (by simp) fun v hv => by
            simp only [Prim.run, PE.den] at hv
            obtain ⟨off, cs, e1, rfl, e3, e4⟩ := derefV_some (SE.ok_plain hc.2) hv
            refine ⟨_, by rw [hc.1, e1, field_ref hu hf hcd], fun hb => ?_⟩
            obtain ⟨g1, g2⟩ := var_ok hr (.agg (cs.take (X.P.cellsOf ty))) (by simp only [PV.plain]; exact plainC_take e4 _)
            simp only [RV]
            refine ⟨_, off + fd.offset, cs.drop (max fd.offset (X.P.cellsOf ty)), g2, g1, e3, ?_⟩
            congr 1
            conv => lhs; rw [← List.take_append_drop (X.P.cellsOf ty) cs]
            by_cases hle : fd.offset ≤ X.P.cellsOf ty
            · rw [List.drop_append_of_le_length (by omega), Nat.max_eq_right hle]
            · rw [List.drop_append, List.drop_of_length_le (by omega : (cs.take (X.P.cellsOf ty)).length ≤ fd.offset), e3, List.drop_drop, Nat.max_eq_left (by omega)]
              congr 2
              omega
          exact ⟨pv, by rw [hpv]; exact h2, h3⟩
        · cases h
    · cases h
  · cases h
end
end Go.Proofs.Ytlminnpaeaganaa
