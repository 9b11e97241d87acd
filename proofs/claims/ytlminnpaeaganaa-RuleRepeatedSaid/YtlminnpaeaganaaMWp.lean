/- Plain laws. No condition. -/
import Derived.Test.YtlminnpaeaganaaMPlainB
namespace Go.Proofs.Ytlminnpaeaganaa
open Go Go.RowKit
set_option linter.unusedVariables false
set_option linter.unusedSimpArgs false
set_option maxRecDepth 100000
def nth : List PV → Nat → PV
  | [], _ => .bad
  | a :: _, 0 => a
  | _ :: l, n + 1 => nth l n
theorem nth_eq : ∀ (l : List PV) (i : Nat), nth l i = l.getD i .bad
  | [], i => by simp [nth]
  | a :: l, 0 => rfl
  | a :: l, i + 1 => by simpa [nth] using nth_eq l i
def SE.dn (d : Nat) (st : List PV) : SE → PV
  | .var i => nth (.bad :: st) (d - i)
  | .proj e j => projV (e.dn d st) j
  | .cst v => v
mutual
def PE.dn (d : Nat) (st : List PV) : PE → PV
  | .e x => x.dn d st
  | .agg l => .agg (dnL d st l)
  | .tup l => .tup (dnL d st l)
  | .lit sz len l => .sl none sz 0 len (dnL d st l)
  | .fn f l => .fn f (dnL d st l)
  | .ref l => .eref none 0 (dnL d st l)
def dnL (d : Nat) (st : List PV) : List PE → List PV
  | [] => []
  | x :: l => x.dn d st :: dnL d st l
end
theorem SE.dn_eq {d : Nat} {st : List PV} (h : st.length = d) : ∀ x : SE, x.dn d st = x.den st.reverse
  | .var i => by
    simp only [SE.dn, SE.den, nth_eq]
    rcases Nat.lt_or_ge i d with hi | hi
    · rw [show d - i = (d - 1 - i) + 1 by omega, List.getD_cons_succ]
      simp only [List.getD_eq_getElem?_getD]
      rw [List.getElem?_reverse (by omega), h]
    · have e1 : d - i = 0 := by omega
      have e2 : st.reverse[i]? = none := List.getElem?_eq_none (by simp; omega)
      simp [e1, e2, List.getD_eq_getElem?_getD]
  | .proj e j => by simp only [SE.dn, SE.den, SE.dn_eq h e]
  | .cst v => rfl
mutual
theorem PE.dn_eq {d : Nat} {st : List PV} (h : st.length = d) : ∀ x : PE, x.dn d st = x.den st.reverse
  | .e x => by simp only [PE.dn, PE.den, SE.dn_eq h]
  | .agg l => by simp only [PE.dn, PE.den, dnL_eq h l]
  | .tup l => by simp only [PE.dn, PE.den, dnL_eq h l]
  | .lit sz len l => by simp only [PE.dn, PE.den, dnL_eq h l]
  | .fn f l => by simp only [PE.dn, PE.den, dnL_eq h l]
  | .ref l => by simp only [PE.dn, PE.den, dnL_eq h l]
theorem dnL_eq {d : Nat} {st : List PV} (h : st.length = d) : ∀ l : List PE, dnL d st l = denL st.reverse l
  | [] => rfl
  | x :: l => by simp only [dnL, denL, PE.dn_eq h x, dnL_eq h l]
end
def Prim.rn (P : Program) (d : Nat) (st : List PV) : Prim → Option PV
  | .bin op t x y => aBin P op t (x.dn d st) (y.dn d st)
  | .un op x => aUn op (x.dn d st)
  | .conv s t x => aConv P s t (x.dn d st)
  | .ext x i => extV (x.dn d st) i
  | .agg n x => aggV n (x.dn d st)
  | .one x => oneV (x.dn d st)
  | .row sz x i => rowV sz (x.dn d st) (i.dn d st)
  | .idx t x i => aIndex P t (x.dn d st) (i.dn d st)
  | .len t x => aLen P t (x.dn d st)
  | .slice t x lo hi => aSlice P t (x.dn d st) (lo.map (PE.dn d st)) (hi.map (PE.dn d st))
  | .mm mx l => mmV mx (dnL d st l)
  | .lst l => some (.agg (dnL d st l))
  | .mk z b n => mkV z b (n.dn d st)
  | .chk sz c i => chkV sz (c.dn d st) (i.dn d st)
  | .get sz fo n c i => getV sz fo n (c.dn d st) (i.dn d st)
  | .put sz fo c i l => putV sz fo (c.dn d st) (i.dn d st) (dnL d st l)
  | .push sz b c y => pushV sz b (c.dn d st) (y.dn d st)
  | .lenc sz c => lencV sz (c.dn d st)
  | .frz sz b c => frzV st.reverse sz b (c.dn d st)
  | .deref n x => derefV n (x.dn d st)
  | .cont r sz x => contV r sz (x.dn d st)
  | .isnil x => isnilV (x.dn d st)
  | .ints x => intsV (x.dn d st)
  | .ins kt sz c l => insV P kt sz (c.dn d st) (dnL d st l)
  | .keys sz x => keysV sz (x.dn d st)
  | .lk sz c => lkV sz (c.dn d st)
  | .tl c => tlV (c.dn d st)
  | .srt c => srtV (c.dn d st)
  | .cpt b c => cptV st.reverse b (c.dn d st)
theorem Prim.rn_eq {P : Program} {d : Nat} {st : List PV} (h : st.length = d) (p : Prim) : p.rn P d st = p.run P st.reverse := by
  have hf : PE.dn d st = PE.den st.reverse := funext fun x => PE.dn_eq h x
  cases p <;> simp only [Prim.rn, Prim.run, SE.dn_eq h, PE.dn_eq h, dnL_eq h, hf]
structure Rn (C : Orc → FuncId → List PV → Option PV) (n : Nat) (t : Tree) (d : Nat) (st : List PV) (R : Out → Prop) : Prop where
  run : st.length = d → Run Try.prog C n t st.reverse R
def pushL : List PV → List PV → List PV
  | [], st => st
  | v :: vs, st => pushL vs (v :: st)
theorem pushL_len : ∀ (vs st : List PV), (pushL vs st).length = st.length + vs.length
  | [], st => rfl
  | v :: vs, st => by simp only [pushL, pushL_len vs, List.length_cons]; omega
theorem pushL_rev : ∀ (vs st : List PV), (pushL vs st).reverse = st.reverse ++ vs
  | [], st => by simp [pushL]
  | v :: vs, st => by simp only [pushL, pushL_rev vs, List.reverse_cons, List.append_assoc, List.cons_append, List.nil_append]
theorem rn_of {k : Nat} {g : FuncId} {args : List PV} {t : Tree} {fn : Func} {Q : PV → Prop} (ht : tab g = some t) (hf : Try.prog.funcs[g]? = some fn) (hfit : fitArgs (flagsOf 31 fn) args = true) (h : Rn (E Try.prog k) 4096 t args.length (pushL args []) fun o => ∃ v, o = .val v ∧ v.plain = true ∧ Q v) : Ev (k + 1) g args Q := ev_of ht hf hfit (by have := h.run (by rw [pushL_len]; simp); rwa [pushL_rev] at this)
theorem rn_norm {C : Orc → FuncId → List PV → Option PV} {n : Nat} {t : Tree} {d d' : Nat} {st st' : List PV} {R : Out → Prop} (hd : d = d') (hs : st = st') (k : Rn C n t d' st' R) : Rn C n t d st R := by subst hd hs; exact k
section
variable {C : Orc → FuncId → List PV → Option PV} {n : Nat} {R : Out → Prop} {d : Nat} {st : List PV} {t : Tree}
theorem wp {p : Prim} (v : PV) (h : p.rn Try.prog d st = some v) (k : Rn C n t (d + 1) (v :: st) R) : Rn C n (.prim p t) d st R := ⟨fun hl => run_prim.2 ⟨v, by rw [← Prim.rn_eq hl, h], by have := k.run (by simp [hl]); rwa [List.reverse_cons] at this⟩⟩
theorem wp_ext {x : PE} {i : Nat} {v : PV} (h : extV (x.dn d st) i = some v) (k : Rn C n t (d + 1) (v :: st) R) : Rn C n (.prim (.ext x i) t) d st R := wp v h k
theorem wp_agg {x : PE} {m : Nat} {cs : List PV} (h : x.dn d st = .agg cs) (hl : cs.length = m) (k : Rn C n t (d + 1) (.agg cs :: st) R) : Rn C n (.prim (.agg m x) t) d st R := wp _ (by simp [Prim.rn, h, aggV, hl]) k
theorem wp_one {x : PE} {v : PV} (h : x.dn d st = v) (ho : v.one = true) (k : Rn C n t (d + 1) (v :: st) R) : Rn C n (.prim (.one x) t) d st R := wp _ (by simp [Prim.rn, h, oneV, ho]) k
theorem wp_addN {T : TypeId} {x y : PE} {a b : Nat} (hx : x.dn d st = iv a) (hy : y.dn d st = iv b) (hb : a + b < 9223372036854775807) (k : Rn C n t (d + 1) (iv ((a + b : Nat) : Int) :: st) R) : Rn C n (.prim (.bin .add T x y) t) d st R := wp _ (by simp [Prim.rn, hx, hy, wrap64 (n := (a : Int) + b) (by omega) (by omega)]) k
theorem wp_subN {T : TypeId} {x y : PE} {a b : Nat} (hx : x.dn d st = iv a) (hy : y.dn d st = iv b) (hb : b ≤ a ∧ a < 9223372036854775807) (k : Rn C n t (d + 1) (iv ((a - b : Nat) : Int) :: st) R) : Rn C n (.prim (.bin .sub T x y) t) d st R := wp _ (by
  have e : (a : Int) - b = ((a - b : Nat) : Int) := by omega
  simp only [Prim.rn, hx, hy, aBin_sub, e]
  rw [wrap64 (by omega) (by omega)]) k
theorem wp_sub {T : TypeId} {x y : PE} {a b : Int} (hx : x.dn d st = iv a) (hy : y.dn d st = iv b) (h1 : -9223372036854775808 ≤ a - b) (h2 : a - b ≤ 9223372036854775807) (k : Rn C n t (d + 1) (iv (a - b) :: st) R) : Rn C n (.prim (.bin .sub T x y) t) d st R := wp _ (by simp [Prim.rn, hx, hy, wrap64 h1 h2]) k
theorem wp_add1 {T : TypeId} {x y : PE} {a : Nat} (hx : x.dn d st = iv a) (hy : y.dn d st = iv 1) (hb : a < 9223372036854775806) (k : Rn C n t (d + 1) (iv ((a + 1 : Nat) : Int) :: st) R) : Rn C n (.prim (.bin .add T x y) t) d st R := wp_addN (a := a) (b := 1) hx hy (by omega) k
theorem wp_sub1 {T : TypeId} {x y : PE} {a : Nat} (hx : x.dn d st = iv a) (hy : y.dn d st = iv 1) (hb : 1 ≤ a ∧ a < 9223372036854775807) (k : Rn C n t (d + 1) (iv ((a - 1 : Nat) : Int) :: st) R) : Rn C n (.prim (.bin .sub T x y) t) d st R := wp_subN (a := a) (b := 1) hx hy (by omega) k
theorem wp_eql {T : TypeId} {x y : PE} {i : IntKind} {a b : Int} (hx : x.dn d st = .int i a) (hy : y.dn d st = .int i b) (k : Rn C n t (d + 1) (.bool (decide (a = b)) :: st) R) : Rn C n (.prim (.bin .eql T x y) t) d st R := wp _ (by simp [Prim.rn, hx, hy]) k
theorem wp_neq {T : TypeId} {x y : PE} {i : IntKind} {a b : Int} (hx : x.dn d st = .int i a) (hy : y.dn d st = .int i b) (k : Rn C n t (d + 1) (.bool (decide (a ≠ b)) :: st) R) : Rn C n (.prim (.bin .neq T x y) t) d st R := wp _ (by simp [Prim.rn, hx, hy]) k
theorem wp_lss {T : TypeId} {x y : PE} {i : IntKind} {a b : Int} (hx : x.dn d st = .int i a) (hy : y.dn d st = .int i b) (k : Rn C n t (d + 1) (.bool (decide (a < b)) :: st) R) : Rn C n (.prim (.bin .lss T x y) t) d st R := wp _ (by simp [Prim.rn, hx, hy]) k
theorem wp_gtr {T : TypeId} {x y : PE} {i : IntKind} {a b : Int} (hx : x.dn d st = .int i a) (hy : y.dn d st = .int i b) (k : Rn C n t (d + 1) (.bool (decide (b < a)) :: st) R) : Rn C n (.prim (.bin .gtr T x y) t) d st R := wp _ (by simp [Prim.rn, hx, hy]) k
theorem wp_geq {T : TypeId} {x y : PE} {i : IntKind} {a b : Int} (hx : x.dn d st = .int i a) (hy : y.dn d st = .int i b) (k : Rn C n t (d + 1) (.bool (decide (b ≤ a)) :: st) R) : Rn C n (.prim (.bin .geq T x y) t) d st R := wp _ (by simp [Prim.rn, hx, hy]) k
theorem wp_not {x : PE} {a : Bool} (hx : x.dn d st = .bool a) (k : Rn C n t (d + 1) (.bool (!a) :: st) R) : Rn C n (.prim (.un .not x) t) d st R := wp _ (by simp [Prim.rn, hx]) k
theorem wp_len25 {x : PE} {v : PV} {l : List Int} (hx : x.dn d st = v) (h : IL v l) (k : Rn C n t (d + 1) (iv l.length :: st) R) : Rn C n (.prim (.len 25 x) t) d st R := wp _ (by rw [← h.len, ← hx]; rfl) k
theorem wp_len45 {x : PE} {v : PV} {l : List (Nat × Bool)} (hx : x.dn d st = v) (h : SL v l) (k : Rn C n t (d + 1) (iv l.length :: st) R) : Rn C n (.prim (.len 45 x) t) d st R := wp _ (by rw [← h.len, ← hx]; rfl) k
theorem wp_row1 {x i : PE} {v : PV} {l : List Int} {m : Nat} (hx : x.dn d st = v) (h : IL v l) (hi : i.dn d st = iv m) (hm : m < l.length) (k : Rn C n t (d + 1) (.agg [iv (l.getD m 0)] :: st) R) : Rn C n (.prim (.row 1 x i) t) d st R := wp _ (by rw [← rowI h hm, ← hx, ← hi]; rfl) k
theorem wp_pushI {c : SE} {y : PE} {l : List Int} {a : Int} {b : Nat} (hc : c.dn d st = .agg (l.map iv)) (hy : y.dn d st = .sl none 1 0 1 [iv a]) (hb : b ≤ 64) (hl : l.length < 1000000) (k : Rn C n t (d + 1) (.agg ((l ++ [a]).map iv) :: st) R) : Rn C n (.prim (.push 1 b c y) t) d st R := wp _ (by simp only [Prim.rn, hc, hy]; exact push_int hb hl) k
theorem wp_frzN {c : SE} {l : List Int} (hc : c.dn d st = .agg (l.map iv)) (k : Rn C n t (d + 1) (ilOf l :: st) R) : Rn C n (.prim (.frz 1 .nil0 c) t) d st R := wp _ (by simp only [Prim.rn, hc, frz_nil0]) k
theorem wp_iteT {c : SE} {a b : Tree} (h : c.dn d st = .bool true) (k : Rn C n a d st R) : Rn C n (.ite c a b) d st R := ⟨fun hl => run_ite.2 (.inl ⟨by rw [← SE.dn_eq hl]; exact h, k.run hl⟩)⟩
theorem wp_iteF {c : SE} {a b : Tree} (h : c.dn d st = .bool false) (k : Rn C n b d st R) : Rn C n (.ite c a b) d st R := ⟨fun hl => run_ite.2 (.inr ⟨by rw [← SE.dn_eq hl]; exact h, k.run hl⟩)⟩
theorem wp_iteB {c : SE} {a b : Tree} {x : Bool} (h : c.dn d st = .bool x) (k1 : x = true → Rn C n a d st R) (k2 : x = false → Rn C n b d st R) : Rn C n (.ite c a b) d st R := by
  cases x
  · exact wp_iteF h (k2 rfl)
  · exact wp_iteT h (k1 rfl)
theorem wp_iteP {c : SE} {a b : Tree} {p : Prop} [inst : Decidable p] (h : c.dn d st = .bool (decide p)) (k1 : p → Rn C n a d st R) (k2 : ¬p → Rn C n b d st R) : Rn C n (.ite c a b) d st R := wp_iteB h (fun e => k1 (of_decide_eq_true e)) (fun e => k2 (of_decide_eq_false e))
theorem wp_itePF {c : SE} {a b : Tree} {p : Prop} [inst : Decidable p] (h : c.dn d st = .bool (decide p)) (hp : ¬p) (k : Rn C n b d st R) : Rn C n (.ite c a b) d st R := wp_iteF (by rw [h, decide_eq_false hp]) k
theorem wp_jump {L : Nat} {l : List PE} {J : List PV → Prop} (h : J (dnL d st l)) : Rn C n (.jump L l) d st (atL L J R) := ⟨fun hl => run_jump.2 (atL_same.2 (by rw [← dnL_eq hl]; exact h))⟩
theorem wp_jumpO {L L' : Nat} {l : List PE} {J : List PV → Prop} (hn : L' ≠ L) (h : Rn C n (.jump L' l) d st R) : Rn C n (.jump L' l) d st (atL L J R) := ⟨fun hl => run_jump.2 ((atL_other hn).2 (run_jump.1 (h.run hl)))⟩
theorem wp_retO {L : Nat} {v : PE} {J : List PV → Prop} (h : Rn C n (.ret v) d st R) : Rn C n (.ret v) d st (atL L J R) := ⟨fun hl => run_ret.2 (atL_val.2 (run_ret.1 (h.run hl)))⟩
end
theorem wp_ret {C : Orc → FuncId → List PV → Option PV} {n : Nat} {d : Nat} {st : List PV} {x : PE} {v : PV} {Q : PV → Prop} (h : x.dn d st = v) (hp : v.plain = true) (hq : Q v) : Rn C n (.ret x) d st fun o => ∃ v, o = .val v ∧ v.plain = true ∧ Q v := ⟨fun hl => run_ret.2 ⟨v, by rw [← PE.dn_eq hl, h], hp, hq⟩⟩
def jb : Tree → Tree
  | .join _ b _ => b
  | t => t
theorem wp_call {n k : Nat} {R : Out → Prop} {d : Nat} {st : List PV} {g : FuncId} {args : List PV} {es : List PE} {t : Tree} {Q : PV → Prop} (h : Ev k g args Q) (e : dnL d st es = args) (kk : ∀ v, Q v → Rn (E Try.prog k) n t (d + 1) (v :: st) R) : Rn (E Try.prog k) n (.call g es t) d st R := ⟨fun hl => mk_ev h (by rw [← dnL_eq hl]; exact e) fun v hv => by have := (kk v hv).run (by simp [hl]); rwa [List.reverse_cons] at this⟩
theorem wp_callE {n k : Nat} {R : Out → Prop} {d : Nat} {st : List PV} {g : FuncId} {args : List PV} {es : List PE} {t : Tree} {w : PV} (h : Ev k g args fun v => v = w) (e : dnL d st es = args) (kk : Rn (E Try.prog k) n t (d + 1) (w :: st) R) : Rn (E Try.prog k) n (.call g es t) d st R := wp_call h e fun v hv => by rw [hv]; exact kk
theorem wp_callv {n k : Nat} {R : Out → Prop} {d : Nat} {st : List PV} {f : SE} {g : FuncId} {caps args : List PV} {es : List PE} {t : Tree} {Q : PV → Prop} (hf : f.dn d st = .fn g caps) (h : Ev k g args Q) (e : dnL d st es ++ caps = args) (kk : ∀ v, Q v → Rn (E Try.prog k) n t (d + 1) (v :: st) R) : Rn (E Try.prog k) n (.callv f es t) d st R := ⟨fun hl => mk_callv (by rw [← SE.dn_eq hl]; exact hf) (Q := Q) (by rw [← dnL_eq hl, e]; exact h) fun v hv => by have := (kk v hv).run (by simp [hl]); rwa [List.reverse_cons] at this⟩
theorem wp_callvE {n k : Nat} {R : Out → Prop} {d : Nat} {st : List PV} {f : SE} {g : FuncId} {caps args : List PV} {es : List PE} {t : Tree} {w : PV} (hf : f.dn d st = .fn g caps) (h : Ev k g args fun v => v = w) (e : dnL d st es ++ caps = args) (kk : Rn (E Try.prog k) n t (d + 1) (w :: st) R) : Rn (E Try.prog k) n (.callv f es t) d st R := wp_callv hf h e fun v hv => by rw [hv]; exact kk
theorem wp_join {C : Orc → FuncId → List PV → Option PV} {n : Nat} {R : Out → Prop} {d : Nat} {st : List PV} {L : Nat} {b k : Tree} (J : List PV → Prop) (h : Rn C n b d st (atL L J R)) (hk : ∀ vs, J vs → Rn C n k (d + vs.length) (pushL vs st) R) : Rn C n (.join L b k) d st R := ⟨fun hl => mk_join J (h.run hl) fun vs hv => by have := (hk vs hv).run (by rw [pushL_len, hl]); rwa [pushL_rev] at this⟩
theorem wp_loop {C : Orc → FuncId → List PV → Option PV} {n : Nat} {R : Out → Prop} {d : Nat} {st : List PV} {L : Nat} {init : List PE} {b : Tree} (I : Nat → List PV → Prop) (N : Nat) (hN : N < n) (h0 : I N (dnL d st init)) (hs : ∀ j vs, I j vs → Rn C n b (d + vs.length) (pushL vs st) (atL L (fun vs' => ∃ j', j' < j ∧ I j' vs') R)) : Rn C n (.loop L init b) d st R := ⟨fun hl => mk_loop I N hN (by rw [← dnL_eq hl]; exact h0) fun j vs hv => by have := (hs j vs hv).run (by rw [pushL_len, hl]); rwa [pushL_rev] at this⟩
end Go.Proofs.Ytlminnpaeaganaa
