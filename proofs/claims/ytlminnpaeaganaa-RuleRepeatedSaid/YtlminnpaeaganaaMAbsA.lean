/- A plain machine over abstract values, and that the program follows it. No condition. -/
import Derived.WalkKit
import Derived.CallsIn
import Derived.Still
import Derived.Maps.RangeRun
import Derived.Maps.Keyed
import Derived.DeepKeys4
import Derived.WalkSpells
namespace Go.Proofs.Ytlminnpaeaganaa
open Go Go.RowKit
inductive PV where
  | int (k : IntKind) (n : Int)
  | bool (b : Bool)
  | str (s : ByteArray)
  | undef
  | bad
  | nilp
  | nilfn
  | snil
  | dead (len : Nat)
  | yld (l : Nat)
  | ptr (id off : Nat)
  | sl (id : Option Nat) (sz off len : Nat) (cs : List PV)
  | eref (id : Option Nat) (off : Nat) (cs : List PV)
  | fn (f : FuncId) (caps : List PV)
  | agg (cs : List PV)
  | tup (vs : List PV)
  | mp (it : Bool) (id : Option Nat) (sz : Nat) (cs : List PV)
  deriving Inhabited
inductive Eff where
  | wr (id p : Nat) (v : PV)
  | kill (id : Nat)
def Eff.id : Eff → Nat
  | .wr i _ _ => i
  | .kill i => i
def setAt (cs : List PV) (off p : Nat) (v : PV) : List PV := if off ≤ p then cs.set (p - off) v else cs
mutual
def PV.sub1 (e : Eff) : PV → PV
  | .sl (some i) sz off len cs => match e with
    | .kill j => if i = j then .dead len else .sl (some i) sz off len (subL1 e cs)
    | .wr j p v => if i = j then .sl (some i) sz off len (setAt (subL1 e cs) off p v) else .sl (some i) sz off len (subL1 e cs)
  | .sl none sz off len cs => .sl none sz off len (subL1 e cs)
  | .eref (some i) off cs => match e with
    | .kill j => if i = j then .bad else .eref (some i) off (subL1 e cs)
    | .wr j p v => if i = j then .eref (some i) off (setAt (subL1 e cs) off p v) else .eref (some i) off (subL1 e cs)
  | .eref none off cs => .eref none off (subL1 e cs)
  | .fn f caps => .fn f (subL1 e caps)
  | .agg cs => .agg (subL1 e cs)
  | .tup cs => .tup (subL1 e cs)
  | .int k n => .int k n
  | .bool b => .bool b
  | .str s => .str s
  | .undef => .undef
  | .bad => .bad
  | .nilp => .nilp
  | .nilfn => .nilfn
  | .snil => .snil
  | .dead n => .dead n
  | .yld k => .yld k
  | .ptr i o => .ptr i o
  | .mp it none sz cs => .mp it none sz cs
  | .mp it (some i) sz cs => match e with
    | .kill j => if i = j then .bad else .mp it (some i) sz cs
    | .wr j p v => if i = j then (match v with
      | .agg cs' => if p = sz then .mp it (some i) sz cs' else .bad
      | _ => .bad) else .mp it (some i) sz cs
def subL1 (e : Eff) : List PV → List PV
  | [] => []
  | p :: ps => p.sub1 e :: subL1 e ps
end
theorem subL1_eq (e : Eff) (l : List PV) : subL1 e l = l.map (PV.sub1 e) := by
  induction l with
  | nil => rfl
  | cons p ps ih => simp [subL1, ih]
def PV.sub : List Eff → PV → PV
  | [], p => p
  | e :: es, p => PV.sub es (p.sub1 e)
@[simp] theorem PV.sub_nil (p : PV) : PV.sub [] p = p := rfl
theorem PV.sub_append (a b : List Eff) (p : PV) : PV.sub (a ++ b) p = PV.sub b (PV.sub a p) := by
  induction a generalizing p with
  | nil => rfl
  | cons e es ih => exact ih _
mutual
def PV.bd (n an : Nat) : PV → Prop
  | .ptr i _ => i < n
  | .sl (some i) _ _ _ cs => i < an ∧ bdL n an cs
  | .sl none _ _ _ cs => bdL n an cs
  | .eref (some i) _ cs => i < an ∧ bdL n an cs
  | .eref none _ cs => bdL n an cs
  | .fn _ cs | .agg cs | .tup cs => bdL n an cs
  | .mp _ (some i) _ _ => i < an
  | .mp _ none _ _ => True
  | .int _ _ | .bool _ | .str _ | .undef | .bad | .nilp | .nilfn | .snil | .dead _ | .yld _ => True
def bdL (n an : Nat) : List PV → Prop
  | [] => True
  | p :: ps => p.bd n an ∧ bdL n an ps
end
theorem bdL_iff (n an : Nat) (l : List PV) : bdL n an l ↔ ∀ p ∈ l, p.bd n an := by
  induction l with
  | nil => simp [bdL]
  | cons p ps ih => simp [bdL, ih]
mutual
def PV.cutb (n : Nat) : PV → PV
  | .ptr i o => if i < n then .ptr i o else .bad
  | .sl id sz off len cs => .sl id sz off len (cutbL n cs)
  | .eref id off cs => .eref id off (cutbL n cs)
  | .fn f cs => .fn f (cutbL n cs)
  | .agg cs => .agg (cutbL n cs)
  | .tup cs => .tup (cutbL n cs)
  | .int k m => .int k m
  | .bool b => .bool b
  | .str s => .str s
  | .undef => .undef
  | .bad => .bad
  | .nilp => .nilp
  | .nilfn => .nilfn
  | .snil => .snil
  | .dead k => .dead k
  | .yld k => .yld k
  | .mp it id sz cs => .mp it id sz cs
def cutbL (n : Nat) : List PV → List PV
  | [] => []
  | p :: ps => p.cutb n :: cutbL n ps
end
theorem cutbL_eq (n : Nat) (l : List PV) : cutbL n l = l.map (PV.cutb n) := by
  induction l with
  | nil => rfl
  | cons p ps ih => simp [cutbL, ih]
structure Phi where
  box : Nat → Option Nat
  arr : Nat → Option Nat
def Phi.own (φ : Phi) (b : Nat) : Prop := (∃ i, φ.box i = some b) ∨ (∃ i, φ.arr i = some b)
def place (φ : Phi) (w : World) (id : Option Nat) (b sz off cap : Nat) : Prop :=
  match id with
  | none => ¬ φ.own b ∧ b < w.heap.size
  | some i => φ.arr i = some b ∧ ∃ cur e, w.heap[b]? = some (.cells cur e (0, 0)) ∧ off + cap * sz ≤ cur.size
def mapV (it : Bool) (b : Nat) : Value := if it then .pointer (some ⟨b, 0, none⟩) else .map (some b)
def scal : PV → Option Value
  | .int k n => some (.int k n)
  | .bool b => some (.bool b)
  | _ => none
def scalL : List PV → Option (List Value)
  | [] => some []
  | p :: ps => match scal p, scalL ps with
    | some v, some vs => some (v :: vs)
    | _, _ => none
def keyVal (cs : List PV) : Option Value := (scalL cs).map fun vs => .agg vs.toArray
def KRel (sz : Nat) : List PV → List MapEntry → Prop
  | cs, [] => cs = []
  | cs, e :: es => ∃ k r, cs = k ++ r ∧ k.length = sz ∧ keyVal k = some e.key ∧ KRel sz r es
def StampOk (es : Array MapEntry) (ck : Nat) : Prop := (∀ x ∈ es.toList, x.born < ck) ∧ (es.toList.map (·.born)).Nodup
def ItRel (sz : Nat) (cs : List PV) (es : Array MapEntry) (seen : Array Nat) : Prop :=
  ∃ lk rem, cs = lk ++ rem ∧ lk.length = sz ∧ KRel sz rem (leftOf es seen).toList ∧ ((seen = #[] ∧ keyVal lk = none) ∨ ∃ (e : MapEntry) (s0 : Array Nat), e ∈ es.toList ∧ seen = s0.push e.born ∧ keyVal lk = some e.key)
def mplace (φ : Phi) (_w : World) (id : Option Nat) (b : Nat) : Prop :=
  match id with
  | none => ¬ φ.own b
  | some i => φ.arr i = some b
def MapAt (φ : Phi) (w : World) (it : Bool) (id : Option Nat) (sz : Nat) (cs : List PV) (v : Value) : Prop :=
  ∃ b, v = mapV it b ∧ mplace φ w id b ∧ match it with
    | false => ∃ es ck, w.heap[b]? = some (.map es ck) ∧ StampOk es ck ∧ KRel sz cs es.toList
    | true => ∃ bm ck seen es, w.heap[b]? = some (.mapIter (some bm) ck seen ck) ∧ ¬ φ.own bm ∧ w.heap[bm]? = some (.map es ck) ∧ StampOk es ck ∧ ItRel sz cs es seen
theorem heap_lt {w : World} {b : Nat} {o : Obj} (h : w.heap[b]? = some o) : b < w.heap.size := (Array.getElem?_eq_some_iff.1 h).1
theorem MapAt.move {φ φ' : Phi} {w w' : World} {it : Bool} {id id' : Option Nat} {sz : Nat} {cs : List PV} {v : Value} (h : MapAt φ w it id sz cs v)
    (hid : ∀ b o, mplace φ w id b → w.heap[b]? = some o → (∀ cur e f, o ≠ .cells cur e f) → (∀ l, o ≠ .loop l) → (∀ d, o ≠ .deferred d) → mplace φ' w' id' b ∧ w'.heap[b]? = some o)
    (hr : ∀ b o, ¬ φ.own b → w.heap[b]? = some o → (∀ cur e f, o ≠ .cells cur e f) → (∀ l, o ≠ .loop l) → (∀ d, o ≠ .deferred d) → ¬ φ'.own b ∧ w'.heap[b]? = some o) : MapAt φ' w' it id' sz cs v := by
  obtain ⟨b, hv, hp, h⟩ := h
  cases it with
  | false =>
    obtain ⟨es, ck, h1, h2⟩ := h
    obtain ⟨g1, g2⟩ := hid b _ hp h1 (by simp) (by simp) (by simp)
    exact ⟨b, hv, g1, es, ck, g2, h2⟩
  | true =>
    obtain ⟨bm, ck, seen, es, h1, h2, h3, h4⟩ := h
    obtain ⟨g1, g2⟩ := hid b _ hp h1 (by simp) (by simp) (by simp)
    obtain ⟨k1, k2⟩ := hr bm _ h2 h3 (by simp) (by simp) (by simp)
    exact ⟨b, hv, g1, bm, ck, seen, es, g2, k1, k2, h4⟩
mutual
def VRel (φ : Phi) (w : World) : PV → Value → Prop
  | .int k n, v => v = .int k n
  | .bool b, v => v = .bool b
  | .str s, v => v = .string s
  | .undef, v => v = .tuple #[]
  | .bad, _ => True
  | .nilp, v => v = .pointer none
  | .nilfn, v => v = .nilFunc
  | .snil, v => v = .slice none 0 0
  | .dead len, v => ∃ a cap, v = .slice a len cap
  | .yld l, v => v = .func (.yield l) #[] #[]
  | .ptr i o, v => ∃ b, φ.box i = some b ∧ v = .pointer (some ⟨b, o, none⟩)
  | .sl id sz off len cs, v => cs.length = len * sz ∧ ∃ a cap, v = .slice a len cap ∧ len ≤ cap ∧
      ((id = none ∧ len = 0 ∧ a.isSome) ∨ ∃ b, a = some ⟨b, off, none⟩ ∧ place φ w id b sz off cap ∧ VRelAt φ w b cs off)
  | .eref id off cs, v => ∃ b, v = .pointer (some ⟨b, off, none⟩) ∧ place φ w id b 0 0 0 ∧ VRelAt φ w b cs off
  | .fn f caps, v => ∃ vs : List Value, v = .func (.func f) #[] vs.toArray ∧ VRelL φ w caps vs
  | .agg cs, v => ∃ vs : List Value, v = .agg vs.toArray ∧ VRelL φ w cs vs
  | .tup cs, v => ∃ vs : List Value, v = .tuple vs.toArray ∧ VRelL φ w cs vs
  | .mp it id sz cs, v => MapAt φ w it id sz cs v
def VRelL (φ : Phi) (w : World) : List PV → List Value → Prop
  | [], vs => vs = []
  | p :: ps, vs => ∃ v vs', vs = v :: vs' ∧ VRel φ w p v ∧ VRelL φ w ps vs'
def VRelAt (φ : Phi) (w : World) (b : Nat) : List PV → Nat → Prop
  | [], _ => True
  | p :: ps, off => (∃ c, w.cell? ⟨b, off, none⟩ = some c ∧ VRel φ w p c) ∧ VRelAt φ w b ps (off + 1)
end
theorem vrelAt_iff {φ : Phi} {w : World} {b : Nat} : ∀ {cs : List PV} {off : Nat},
    VRelAt φ w b cs off ↔ ∀ j p, cs[j]? = some p → ∃ c, w.cell? ⟨b, off + j, none⟩ = some c ∧ VRel φ w p c
  | [], off => by simp [VRelAt]
  | p :: ps, off => by
    rw [VRelAt, vrelAt_iff (cs := ps)]
    constructor
    · rintro ⟨h0, h1⟩ j q hj
      cases j with
      | zero => simp at hj; subst hj; simpa using h0
      | succ j =>
        simp at hj
        obtain ⟨c, hc, hv⟩ := h1 j q hj
        exact ⟨c, by rw [show off + (j + 1) = off + 1 + j by omega]; exact hc, hv⟩
    · intro h
      refine ⟨by simpa using h 0 p (by simp), fun j q hj => ?_⟩
      obtain ⟨c, hc, hv⟩ := h (j + 1) q (by simpa using hj)
      exact ⟨c, by rw [show off + 1 + j = off + (j + 1) by omega]; exact hc, hv⟩
theorem vrelL_iff {φ : Phi} {w : World} : ∀ {ps : List PV} {vs : List Value},
    VRelL φ w ps vs ↔ ps.length = vs.length ∧ ∀ (j : Nat) p v, ps[j]? = some p → vs[j]? = some v → VRel φ w p v
  | [], vs => by simp only [VRelL, List.length_nil]; constructor
                 · rintro rfl; simp
                 · rintro ⟨h, _⟩; exact List.length_eq_zero_iff.1 h.symm
  | p :: ps, [] => by simp [VRelL]
  | p :: ps, v :: vs => by
    simp only [VRelL, List.cons.injEq]
    constructor
    · rintro ⟨v', vs', ⟨rfl, rfl⟩, h0, h1⟩
      rw [vrelL_iff] at h1
      refine ⟨by simp [h1.1], fun j q u hj hu => ?_⟩
      cases j with
      | zero => simp at hj hu; subst hj; subst hu; exact h0
      | succ j => exact h1.2 j q u (by simpa using hj) (by simpa using hu)
    · rintro ⟨hl, h⟩
      refine ⟨v, vs, ⟨rfl, rfl⟩, h 0 p v (by simp) (by simp), vrelL_iff.2 ⟨by simpa using hl, fun j q u hj hu => h (j + 1) q u (by simpa using hj) (by simpa using hu)⟩⟩
theorem vrelL_length {φ : Phi} {w : World} {ps : List PV} {vs : List Value} (h : VRelL φ w ps vs) : ps.length = vs.length := (vrelL_iff.1 h).1
theorem vrelL_get {φ : Phi} {w : World} {ps : List PV} {vs : List Value} (h : VRelL φ w ps vs) {j : Nat} {p : PV} (hj : ps[j]? = some p) : ∃ v, vs[j]? = some v ∧ VRel φ w p v := by
  obtain ⟨hl, hg⟩ := vrelL_iff.1 h
  have hlt : j < vs.length := by rw [← hl]; exact (List.getElem?_eq_some_iff.1 hj).1
  exact ⟨vs[j], by simp [hlt], hg j p _ hj (by simp [hlt])⟩
theorem vrelL_append {φ : Phi} {w : World} {ps qs : List PV} {vs us : List Value} (h : VRelL φ w ps vs) (k : VRelL φ w qs us) : VRelL φ w (ps ++ qs) (vs ++ us) := by
  induction ps generalizing vs with
  | nil => simp only [VRelL] at h; subst h; simpa using k
  | cons p ps ih =>
    obtain ⟨v, vs', rfl, h0, h1⟩ := h
    exact ⟨v, vs' ++ us, rfl, h0, ih h1⟩
structure Keeps (φ : Phi) (w : World) (φ' : Phi) (w' : World) : Prop where
  box : ∀ i b, φ.box i = some b → φ'.box i = some b
  arr : ∀ i b, φ.arr i = some b → φ'.arr i = some b
  imm : ∀ b, b < w.heap.size → ¬ φ.own b → ¬ φ'.own b
  size : w.heap.size ≤ w'.heap.size
  arrs : ∀ i b, φ.arr i = some b → w'.heap[b]? = w.heap[b]?
  rest : ∀ b, b < w.heap.size → ¬ φ.own b → w'.heap[b]? = w.heap[b]?
theorem cell_eq {w w' : World} {b o : Nat} (h : w'.heap[b]? = w.heap[b]?) : w'.cell? ⟨b, o, none⟩ = w.cell? ⟨b, o, none⟩ := World.cell?_of_block (w := w) (a := ⟨b, o, none⟩) h
theorem place_keeps {φ φ' : Phi} {w w' : World} (k : Keeps φ w φ' w') {id : Option Nat} {b sz off cap : Nat} (h : place φ w id b sz off cap) :
    place φ' w' id b sz off cap ∧ w'.heap[b]? = w.heap[b]? := by
  cases id with
  | none => exact ⟨⟨k.imm b h.2 h.1, Nat.lt_of_lt_of_le h.2 k.size⟩, k.rest b h.2 h.1⟩
  | some i =>
    obtain ⟨ha, cur, e, hb, hc⟩ := h
    have hs := k.arrs i b ha
    exact ⟨⟨k.arr i b ha, cur, e, hs.trans hb, hc⟩, hs⟩
mutual
theorem VRel.keeps {φ φ' : Phi} {w w' : World} (k : Keeps φ w φ' w') : ∀ (p : PV) (v : Value), VRel φ w p v → VRel φ' w' p v
  | .int _ _, v, h => by simpa only [VRel] using h
  | .bool _, v, h => by simpa only [VRel] using h
  | .str _, v, h => by simpa only [VRel] using h
  | .undef, v, h => by simpa only [VRel] using h
  | .bad, v, h => by simp only [VRel]
  | .nilp, v, h => by simpa only [VRel] using h
  | .nilfn, v, h => by simpa only [VRel] using h
  | .snil, v, h => by simpa only [VRel] using h
  | .dead _, v, h | .yld _, v, h => by simpa only [VRel] using h
  | .ptr i o, v, h => by
    simp only [VRel] at h ⊢
    obtain ⟨b, hb, hv⟩ := h
    exact ⟨b, k.box i b hb, hv⟩
  | .sl id sz off len cs, v, h => by
    simp only [VRel] at h ⊢
    obtain ⟨hl, a, cap, hv, hc, h⟩ := h
    refine ⟨hl, a, cap, hv, hc, ?_⟩
    rcases h with h | ⟨b, ha, hp, hr⟩
    · exact .inl h
    · obtain ⟨hp', hs⟩ := place_keeps k hp
      exact .inr ⟨b, ha, hp', VRelAt.keeps k b hs cs off hr⟩
  | .eref id off cs, v, h => by
    simp only [VRel] at h ⊢
    obtain ⟨b, hv, hp, hr⟩ := h
    obtain ⟨hp', hs⟩ := place_keeps k hp
    exact ⟨b, hv, hp', VRelAt.keeps k b hs cs off hr⟩
  | .fn f caps, v, h => by
    simp only [VRel] at h ⊢
    obtain ⟨vs, hv, hr⟩ := h
    exact ⟨vs, hv, VRelL.keeps k caps vs hr⟩
  | .agg cs, v, h => by
    simp only [VRel] at h ⊢
    obtain ⟨vs, hv, hr⟩ := h
    exact ⟨vs, hv, VRelL.keeps k cs vs hr⟩
  | .tup cs, v, h => by
    simp only [VRel] at h ⊢
    obtain ⟨vs, hv, hr⟩ := h
    exact ⟨vs, hv, VRelL.keeps k cs vs hr⟩
  | .mp it id sz cs, v, h => by
    simp only [VRel] at h ⊢
    exact h.move (fun b o hp hb _ _ _ => by
      cases id with
      | none => exact ⟨k.imm b (heap_lt hb) hp, (k.rest b (heap_lt hb) hp).trans hb⟩
      | some i => exact ⟨k.arr i b hp, (k.arrs i b hp).trans hb⟩) fun b o hp hb _ _ _ => ⟨k.imm b (heap_lt hb) hp, (k.rest b (heap_lt hb) hp).trans hb⟩
theorem VRelL.keeps {φ φ' : Phi} {w w' : World} (k : Keeps φ w φ' w') : ∀ (ps : List PV) (vs : List Value), VRelL φ w ps vs → VRelL φ' w' ps vs
  | [], vs, h => by simp only [VRelL] at h ⊢; exact h
  | p :: ps, vs, h => by
    simp only [VRelL] at h ⊢
    obtain ⟨v, vs', e, h0, h1⟩ := h
    exact ⟨v, vs', e, VRel.keeps k p v h0, VRelL.keeps k ps vs' h1⟩
theorem VRelAt.keeps {φ φ' : Phi} {w w' : World} (k : Keeps φ w φ' w') (b : Nat) (hb : w'.heap[b]? = w.heap[b]?) : ∀ (ps : List PV) (off : Nat), VRelAt φ w b ps off → VRelAt φ' w' b ps off
  | [], _, _ => by simp only [VRelAt]
  | p :: ps, off, h => by
    simp only [VRelAt] at h ⊢
    obtain ⟨⟨c, hc, h0⟩, h1⟩ := h
    exact ⟨⟨c, (cell_eq hb).trans hc, VRel.keeps k p c h0⟩, VRelAt.keeps k b hb ps (off + 1) h1⟩
end
structure KeepsBut (j : Nat) (φ : Phi) (w : World) (φ' : Phi) (w' : World) : Prop where
  box : ∀ i b, φ.box i = some b → φ'.box i = some b
  arr : ∀ i b, i ≠ j → φ.arr i = some b → φ'.arr i = some b
  imm : ∀ b, b < w.heap.size → ¬ φ.own b → ¬ φ'.own b
  size : w.heap.size ≤ w'.heap.size
  arrs : ∀ i b, i ≠ j → φ.arr i = some b → w'.heap[b]? = w.heap[b]?
  rest : ∀ b, b < w.heap.size → ¬ φ.own b → w'.heap[b]? = w.heap[b]?
theorem place_but {φ φ' : Phi} {w w' : World} {j : Nat} (k : KeepsBut j φ w φ' w') {id : Option Nat} (hj : id ≠ some j) {b sz off cap : Nat} (h : place φ w id b sz off cap) :
    place φ' w' id b sz off cap ∧ w'.heap[b]? = w.heap[b]? := by
  cases id with
  | none => exact ⟨⟨k.imm b h.2 h.1, Nat.lt_of_lt_of_le h.2 k.size⟩, k.rest b h.2 h.1⟩
  | some i =>
    have hij : i ≠ j := fun e => hj (by rw [e])
    obtain ⟨ha, cur, e, hb, hc⟩ := h
    have hs := k.arrs i b hij ha
    exact ⟨⟨k.arr i b hij ha, cur, e, hs.trans hb, hc⟩, hs⟩
theorem length_subL1 (e : Eff) (cs : List PV) : (subL1 e cs).length = cs.length := by rw [subL1_eq]; simp
theorem length_setAt (cs : List PV) (off p : Nat) (v : PV) : (setAt cs off p v).length = cs.length := by unfold setAt; split <;> simp
mutual
theorem VRel.kill {φ φ' : Phi} {w w' : World} {j : Nat} (k : KeepsBut j φ w φ' w') : ∀ (p : PV) (v : Value), VRel φ w p v → VRel φ' w' (p.sub1 (.kill j)) v
  | .int _ _, v, h => by simpa only [VRel, PV.sub1] using h
  | .bool _, v, h => by simpa only [VRel, PV.sub1] using h
  | .str _, v, h => by simpa only [VRel, PV.sub1] using h
  | .undef, v, h => by simpa only [VRel, PV.sub1] using h
  | .bad, v, h => by simp only [VRel, PV.sub1]
  | .nilp, v, h => by simpa only [VRel, PV.sub1] using h
  | .nilfn, v, h => by simpa only [VRel, PV.sub1] using h
  | .snil, v, h => by simpa only [VRel, PV.sub1] using h
  | .dead _, v, h | .yld _, v, h => by simpa only [VRel, PV.sub1] using h
  | .ptr i o, v, h => by
    simp only [VRel, PV.sub1] at h ⊢
    obtain ⟨b, hb, hv⟩ := h
    exact ⟨b, k.box i b hb, hv⟩
  | .sl none sz off len cs, v, h => by
    simp only [VRel, PV.sub1, length_subL1] at h ⊢
    obtain ⟨hl, a, cap, hv, hc, h⟩ := h
    refine ⟨hl, a, cap, hv, hc, ?_⟩
    rcases h with h | ⟨b, ha, hp, hr⟩
    · exact .inl h
    · obtain ⟨hp', hs⟩ := place_but k (by simp) hp
      exact .inr ⟨b, ha, hp', VRelAt.kill k b hs cs off hr⟩
  | .sl (some i) sz off len cs, v, h => by
    simp only [PV.sub1]
    split
    · simp only [VRel] at h ⊢
      obtain ⟨_, a, cap, hv, _, _⟩ := h
      exact ⟨a, cap, hv⟩
    · rename_i hij
      simp only [VRel, length_subL1] at h ⊢
      obtain ⟨hl, a, cap, hv, hc, h⟩ := h
      refine ⟨hl, a, cap, hv, hc, ?_⟩
      rcases h with h | ⟨b, ha, hp, hr⟩
      · exact .inl h
      · obtain ⟨hp', hs⟩ := place_but k (by simpa using hij) hp
        exact .inr ⟨b, ha, hp', VRelAt.kill k b hs cs off hr⟩
  | .eref none off cs, v, h => by
    simp only [VRel, PV.sub1] at h ⊢
    obtain ⟨b, hv, hp, hr⟩ := h
    obtain ⟨hp', hs⟩ := place_but k (by simp) hp
    exact ⟨b, hv, hp', VRelAt.kill k b hs cs off hr⟩
  | .eref (some i) off cs, v, h => by
    simp only [PV.sub1]
    split
    · simp only [VRel]
    · rename_i hij
      simp only [VRel] at h ⊢
      obtain ⟨b, hv, hp, hr⟩ := h
      obtain ⟨hp', hs⟩ := place_but k (by simpa using hij) hp
      exact ⟨b, hv, hp', VRelAt.kill k b hs cs off hr⟩
  | .fn f caps, v, h => by
    simp only [VRel, PV.sub1] at h ⊢
    obtain ⟨vs, hv, hr⟩ := h
    exact ⟨vs, hv, VRelL.kill k caps vs hr⟩
  | .agg cs, v, h => by
    simp only [VRel, PV.sub1] at h ⊢
    obtain ⟨vs, hv, hr⟩ := h
    exact ⟨vs, hv, VRelL.kill k cs vs hr⟩
  | .tup cs, v, h => by
    simp only [VRel, PV.sub1] at h ⊢
    obtain ⟨vs, hv, hr⟩ := h
    exact ⟨vs, hv, VRelL.kill k cs vs hr⟩
  | .mp it none sz cs, v, h => by
    simp only [VRel, PV.sub1] at h ⊢
    exact h.move (fun b o hp hb _ _ _ => ⟨k.imm b (heap_lt hb) hp, (k.rest b (heap_lt hb) hp).trans hb⟩) fun b o hp hb _ _ _ => ⟨k.imm b (heap_lt hb) hp, (k.rest b (heap_lt hb) hp).trans hb⟩
  | .mp it (some i) sz cs, v, h => by
    by_cases hij : i = j
    · simp only [PV.sub1, hij, if_true, VRel]
    · simp only [PV.sub1, hij, if_false]
      simp only [VRel] at h ⊢
      exact h.move (fun b o hp hb _ _ _ => ⟨k.arr i b hij hp, (k.arrs i b hij hp).trans hb⟩) fun b o hp hb _ _ _ => ⟨k.imm b (heap_lt hb) hp, (k.rest b (heap_lt hb) hp).trans hb⟩
theorem VRelL.kill {φ φ' : Phi} {w w' : World} {j : Nat} (k : KeepsBut j φ w φ' w') : ∀ (ps : List PV) (vs : List Value), VRelL φ w ps vs → VRelL φ' w' (subL1 (.kill j) ps) vs
  | [], vs, h => by simp only [VRelL, subL1] at h ⊢; exact h
  | p :: ps, vs, h => by
    simp only [VRelL, subL1] at h ⊢
    obtain ⟨v, vs', e, h0, h1⟩ := h
    exact ⟨v, vs', e, VRel.kill k p v h0, VRelL.kill k ps vs' h1⟩
theorem VRelAt.kill {φ φ' : Phi} {w w' : World} {j : Nat} (k : KeepsBut j φ w φ' w') (b : Nat) (hb : w'.heap[b]? = w.heap[b]?) : ∀ (ps : List PV) (off : Nat), VRelAt φ w b ps off → VRelAt φ' w' b (subL1 (.kill j) ps) off
  | [], _, _ => by simp only [VRelAt, subL1]
  | p :: ps, off, h => by
    simp only [VRelAt, subL1] at h ⊢
    obtain ⟨⟨c, hc, h0⟩, h1⟩ := h
    exact ⟨⟨c, (cell_eq hb).trans hc, VRel.kill k p c h0⟩, VRelAt.kill k b hb ps (off + 1) h1⟩
end
structure Writes (j b p : Nat) (v : PV) (φ : Phi) (w w' : World) : Prop where
  arr : φ.arr j = some b
  inj : ∀ i, φ.arr i = some b → i = j
  size : w.heap.size ≤ w'.heap.size
  others : ∀ k, k ≠ b → k < w.heap.size → w'.heap[k]? = w.heap[k]?
  row : ∀ cur e, w.heap[b]? = some (.cells cur e (0, 0)) → ∃ cur', w'.heap[b]? = some (.cells cur' e (0, 0)) ∧ cur'.size = cur.size
  isrow : ∃ cur e, w.heap[b]? = some (.cells cur e (0, 0))
  cells : ∀ o, o ≠ p → w'.cell? ⟨b, o, none⟩ = w.cell? ⟨b, o, none⟩
  cell : ∃ c, w'.cell? ⟨b, p, none⟩ = some c ∧ VRel φ w' v c
theorem cell_lt {w : World} {b o : Nat} {c : Value} (h : w.cell? ⟨b, o, none⟩ = some c) : b < w.heap.size := World.block_lt_of_cell? w ⟨b, o, none⟩ h
theorem place_wr {φ : Phi} {w w' : World} {j b p : Nat} {v : PV} (k : Writes j b p v φ w w') {id : Option Nat} {b' sz off cap : Nat} (h : place φ w id b' sz off cap) :
    place φ w' id b' sz off cap ∧ (id ≠ some j → b' ≠ b) ∧ (id = some j → b' = b) := by
  cases id with
  | none => exact ⟨⟨h.1, Nat.lt_of_lt_of_le h.2 k.size⟩, fun _ e => h.1 (.inr ⟨j, by rw [e]; exact k.arr⟩), fun e => by cases e⟩
  | some i =>
    obtain ⟨ha, cur, e, hb, hc⟩ := h
    by_cases hij : i = j
    · subst hij
      have hbb : b' = b := by have := ha.symm.trans k.arr; simpa using this
      subst hbb
      obtain ⟨cur', h1, h2⟩ := k.row cur e hb
      exact ⟨⟨ha, cur', e, h1, by omega⟩, fun h => absurd rfl h, fun _ => rfl⟩
    · have hne : b' ≠ b := fun e => hij (k.inj i (by rw [← e]; exact ha))
      have hlt : b' < w.heap.size := by
        rcases Nat.lt_or_ge b' w.heap.size with h | h
        · exact h
        · rw [Array.getElem?_eq_none h] at hb; cases hb
      exact ⟨⟨ha, cur, e, (k.others b' hne hlt).trans hb, hc⟩, fun _ => hne, fun h => absurd (by simpa using h) hij⟩
theorem vrelAt_mk {φ : Phi} {w : World} {b : Nat} {cs : List PV} {off : Nat} (h : ∀ j p, cs[j]? = some p → ∃ c, w.cell? ⟨b, off + j, none⟩ = some c ∧ VRel φ w p c) : VRelAt φ w b cs off := vrelAt_iff.2 h
theorem vrelAt_wr_other {φ : Phi} {w w' : World} {j b p : Nat} {v : PV} (k : Writes j b p v φ w w') {b' : Nat} (hb : b' ≠ b) {cs : List PV} {off : Nat}
    (h : ∀ i q, cs[i]? = some q → ∃ c, w.cell? ⟨b', off + i, none⟩ = some c ∧ VRel φ w' (q.sub1 (.wr j p v)) c) : VRelAt φ w' b' (subL1 (.wr j p v) cs) off := by
  refine vrelAt_mk fun i q hq => ?_
  rw [subL1_eq, List.getElem?_map] at hq
  obtain ⟨q0, hq0, rfl⟩ := Option.map_eq_some_iff.1 hq
  obtain ⟨c, hc, hv⟩ := h i q0 hq0
  exact ⟨c, (cell_eq (k.others b' hb (cell_lt hc))).trans hc, hv⟩
theorem vrelAt_wr_same {φ : Phi} {w w' : World} {j b p : Nat} {v : PV} (k : Writes j b p v φ w w') {cs : List PV} {off : Nat}
    (h : ∀ i q, cs[i]? = some q → ∃ c, w.cell? ⟨b, off + i, none⟩ = some c ∧ VRel φ w' (q.sub1 (.wr j p v)) c) : VRelAt φ w' b (setAt (subL1 (.wr j p v) cs) off p v) off := by
  refine vrelAt_mk fun i q hq => ?_
  have hlen : i < cs.length := by
    have := (List.getElem?_eq_some_iff.1 hq).1
    rwa [length_setAt, length_subL1] at this
  by_cases hip : off + i = p
  · obtain ⟨c, hc, hv⟩ := k.cell
    have hqv : q = v := by
      unfold setAt at hq
      rw [if_pos (by omega), List.getElem?_set, if_pos (by omega), if_pos (by rw [length_subL1]; omega)] at hq
      exact (Option.some.inj hq).symm
    subst hqv
    exact ⟨c, by rw [hip]; exact hc, hv⟩
  · have hq' : (subL1 (.wr j p v) cs)[i]? = some q := by
      unfold setAt at hq
      split at hq
      · rwa [List.getElem?_set, if_neg (by omega)] at hq
      · exact hq
    rw [subL1_eq, List.getElem?_map] at hq'
    obtain ⟨q0, hq0, rfl⟩ := Option.map_eq_some_iff.1 hq'
    obtain ⟨c, hc, hv⟩ := h i q0 hq0
    exact ⟨c, (k.cells _ hip).trans hc, hv⟩
mutual
theorem VRel.wr {φ : Phi} {w w' : World} {j b p : Nat} {v : PV} (k : Writes j b p v φ w w') : ∀ (q : PV) (u : Value), VRel φ w q u → VRel φ w' (q.sub1 (.wr j p v)) u
  | .int _ _, u, h => by simpa only [VRel, PV.sub1] using h
  | .bool _, u, h => by simpa only [VRel, PV.sub1] using h
  | .str _, u, h => by simpa only [VRel, PV.sub1] using h
  | .undef, u, h => by simpa only [VRel, PV.sub1] using h
  | .bad, u, h => by simp only [VRel, PV.sub1]
  | .nilp, u, h => by simpa only [VRel, PV.sub1] using h
  | .nilfn, u, h => by simpa only [VRel, PV.sub1] using h
  | .snil, u, h => by simpa only [VRel, PV.sub1] using h
  | .dead _, u, h | .yld _, u, h => by simpa only [VRel, PV.sub1] using h
  | .ptr _ _, u, h => by simpa only [VRel, PV.sub1] using h
  | .sl none sz off len cs, u, h => by
    simp only [VRel, PV.sub1, length_subL1] at h ⊢
    obtain ⟨hl, a, cap, hv, hc, h⟩ := h
    refine ⟨hl, a, cap, hv, hc, ?_⟩
    rcases h with h | ⟨b', ha, hp, hr⟩
    · exact .inl h
    · obtain ⟨hp', hn, _⟩ := place_wr k hp
      exact .inr ⟨b', ha, hp', vrelAt_wr_other k (hn (by simp)) (VRelAt.wr k b' cs off hr)⟩
  | .sl (some i) sz off len cs, u, h => by
    simp only [PV.sub1]
    simp only [VRel] at h
    obtain ⟨hl, a, cap, hv, hc, h⟩ := h
    rcases h with h | ⟨b', ha, hp, hr⟩
    · exact absurd h.1 (by simp)
    · obtain ⟨hp', hn, hs⟩ := place_wr k hp
      have hat := VRelAt.wr k b' cs off hr
      split
      · rename_i hij
        have hbb : b' = b := hs (by rw [hij])
        subst hbb
        simp only [VRel, length_setAt, length_subL1]
        exact ⟨hl, a, cap, hv, hc, .inr ⟨b', ha, hp', vrelAt_wr_same k hat⟩⟩
      · rename_i hij
        simp only [VRel, length_subL1]
        exact ⟨hl, a, cap, hv, hc, .inr ⟨b', ha, hp', vrelAt_wr_other k (hn (by simpa using hij)) hat⟩⟩
  | .eref none off cs, u, h => by
    simp only [VRel, PV.sub1] at h ⊢
    obtain ⟨b', hv, hp, hr⟩ := h
    obtain ⟨hp', hn, _⟩ := place_wr k hp
    exact ⟨b', hv, hp', vrelAt_wr_other k (hn (by simp)) (VRelAt.wr k b' cs off hr)⟩
  | .eref (some i) off cs, u, h => by
    simp only [PV.sub1]
    simp only [VRel] at h
    obtain ⟨b', hv, hp, hr⟩ := h
    obtain ⟨hp', hn, hs⟩ := place_wr k hp
    have hat := VRelAt.wr k b' cs off hr
    split
    · rename_i hij
      have hbb : b' = b := hs (by rw [hij])
      subst hbb
      simp only [VRel]
      exact ⟨b', hv, hp', vrelAt_wr_same k hat⟩
    · rename_i hij
      simp only [VRel]
      exact ⟨b', hv, hp', vrelAt_wr_other k (hn (by simpa using hij)) hat⟩
  | .fn f caps, u, h => by
    simp only [VRel, PV.sub1] at h ⊢
    obtain ⟨vs, hv, hr⟩ := h
    exact ⟨vs, hv, VRelL.wr k caps vs hr⟩
  | .agg cs, u, h => by
    simp only [VRel, PV.sub1] at h ⊢
    obtain ⟨vs, hv, hr⟩ := h
    exact ⟨vs, hv, VRelL.wr k cs vs hr⟩
  | .tup cs, u, h => by
    simp only [VRel, PV.sub1] at h ⊢
    obtain ⟨vs, hv, hr⟩ := h
    exact ⟨vs, hv, VRelL.wr k cs vs hr⟩
  | .mp it none sz cs, u, h => by
    simp only [VRel, PV.sub1] at h ⊢
    have hrest : ∀ b' o, ¬ φ.own b' → w.heap[b']? = some o → ¬ φ.own b' ∧ w'.heap[b']? = some o := fun b' o hp hb => ⟨hp, (k.others b' (fun e => hp (.inr ⟨j, by rw [e]; exact k.arr⟩)) (heap_lt hb)).trans hb⟩
    exact h.move (fun b o hp hb _ _ _ => hrest b o hp hb) fun b o hp hb _ _ _ => hrest b o hp hb
  | .mp it (some i) sz cs, u, h => by
    by_cases hij : i = j
    · subst hij
      simp only [VRel] at h
      obtain ⟨b0, _, hp, h⟩ := h
      obtain ⟨cur, e, hc⟩ := k.isrow
      have : b0 = b := by have := hp.symm.trans k.arr; injection this
      subst this
      cases it with
      | false => obtain ⟨es, ck, h1, _⟩ := h; rw [hc] at h1; cases h1
      | true => obtain ⟨_, _, _, _, h1, _⟩ := h; rw [hc] at h1; cases h1
    · simp only [PV.sub1, hij, if_false]
      simp only [VRel] at h ⊢
      exact h.move (fun b' o hp hb _ _ _ => ⟨hp, (k.others b' (fun e => hij (k.inj i (by rw [← e]; exact hp))) (heap_lt hb)).trans hb⟩)
        fun b' o hp hb _ _ _ => ⟨hp, (k.others b' (fun e => hp (.inr ⟨j, by rw [e]; exact k.arr⟩)) (heap_lt hb)).trans hb⟩
theorem VRelL.wr {φ : Phi} {w w' : World} {j b p : Nat} {v : PV} (k : Writes j b p v φ w w') : ∀ (ps : List PV) (vs : List Value), VRelL φ w ps vs → VRelL φ w' (subL1 (.wr j p v) ps) vs
  | [], vs, h => by simp only [VRelL, subL1] at h ⊢; exact h
  | q :: ps, vs, h => by
    simp only [VRelL, subL1] at h ⊢
    obtain ⟨u, vs', e, h0, h1⟩ := h
    exact ⟨u, vs', e, VRel.wr k q u h0, VRelL.wr k ps vs' h1⟩
theorem VRelAt.wr {φ : Phi} {w w' : World} {j b p : Nat} {v : PV} (k : Writes j b p v φ w w') (b' : Nat) : ∀ (ps : List PV) (off : Nat), VRelAt φ w b' ps off →
    ∀ i q, ps[i]? = some q → ∃ c, w.cell? ⟨b', off + i, none⟩ = some c ∧ VRel φ w' (q.sub1 (.wr j p v)) c
  | [], _, _, i, q, hq => by simp at hq
  | p0 :: ps, off, h, i, q, hq => by
    simp only [VRelAt] at h
    obtain ⟨⟨c, hc, h0⟩, h1⟩ := h
    cases i with
    | zero =>
      simp at hq
      subst hq
      exact ⟨c, hc, VRel.wr k _ c h0⟩
    | succ i =>
      obtain ⟨c', hc', h'⟩ := VRelAt.wr k b' ps (off + 1) h1 i q (by simpa using hq)
      exact ⟨c', by rw [show off + (i + 1) = off + 1 + i by omega]; exact hc', h'⟩
end
end Go.Proofs.Ytlminnpaeaganaa
namespace Go.Proofs.Ytlminnpaeaganaa
open Go Go.RowKit
inductive BoxC where
  | cells (l : List PV)
  | inv (I : List PV → Prop)
  | hole
def BoxC.sub1 (e : Eff) : BoxC → BoxC
  | .cells l => .cells (l.map (PV.sub1 e))
  | .inv I => .inv I
  | .hole => .hole
def BRel (φ : Phi) (w : World) : BoxC → List Value → Prop
  | .cells l, vs => VRelL φ w l vs
  | .inv I, vs => ∃ l, I l ∧ (∀ e, subL1 e l = l) ∧ (∀ n, cutbL n l = l) ∧ VRelL φ w l vs
  | .hole, _ => False
structure Mem where
  β : Nat → BoxC
  n : Nat
  an : Nat
  rc : List (Nat × Loop)
def AO (w : World) (b : Nat) : Prop := (∃ cur e, w.heap[b]? = some (.cells cur e (0, 0))) ∨ (∃ es ck, w.heap[b]? = some (.map es ck)) ∨ ∃ m s x l, w.heap[b]? = some (.mapIter m s x l)
theorem AO.lt {w : World} {b : Nat} (h : AO w b) : b < w.heap.size := by
  rcases h with ⟨_, _, h⟩ | ⟨_, _, h⟩ | ⟨_, _, _, _, h⟩ <;> exact heap_lt h
theorem AO.of_eq {w w' : World} {b : Nat} (h : AO w b) (e : w'.heap[b]? = w.heap[b]?) : AO w' b := by
  unfold AO at h ⊢; rw [e]; exact h
theorem AO.cells {w : World} {b : Nat} {cur : Array Value} {e : TypeId} (h : w.heap[b]? = some (.cells cur e (0, 0))) : AO w b := .inl ⟨_, _, h⟩
theorem AO.noloop {w : World} {b : Nat} (h : AO w b) (o : Loop) : w.heap[b]? ≠ some (.loop o) := by
  rcases h with ⟨_, _, h⟩ | ⟨_, _, h⟩ | ⟨_, _, _, _, h⟩ <;> (rw [h]; intro k; cases k)
structure MRel (φ : Phi) (m : Mem) (w : World) : Prop where
  box : ∀ i, i < m.n → (m.β i = .hole ∧ φ.box i = none) ∨ ∃ b cs e, φ.box i = some b ∧ w.heap[b]? = some (.cells cs e (0, 0)) ∧ BRel φ w (m.β i) cs.toList
  boxn : ∀ i, m.n ≤ i → φ.box i = none
  arr : ∀ i b, φ.arr i = some b → i < m.an ∧ AO w b
  boxinj : ∀ i j b, φ.box i = some b → φ.box j = some b → i = j
  arrinj : ∀ i j b, φ.arr i = some b → φ.arr j = some b → i = j
  sep : ∀ i j b, φ.box i = some b → φ.arr j = some b → False
  rcs : ∀ l o, (l, o) ∈ m.rc → w.heap[l]? = some (.loop o)
theorem MRel.cells {φ : Phi} {m : Mem} {w : World} (hm : MRel φ m w) {i : Nat} (hi : i < m.n) (h : m.β i ≠ .hole) : ∃ b cs e, φ.box i = some b ∧ w.heap[b]? = some (.cells cs e (0, 0)) ∧ BRel φ w (m.β i) cs.toList :=
  (hm.box i hi).resolve_left fun k => h k.1
theorem MRel.has {φ : Phi} {m : Mem} {w : World} (hm : MRel φ m w) {i b : Nat} (h : φ.box i = some b) : ∃ cs e, w.heap[b]? = some (.cells cs e (0, 0)) ∧ BRel φ w (m.β i) cs.toList ∧ i < m.n := by
  have hi : i < m.n := Nat.lt_of_not_le fun hle => by rw [hm.boxn i hle] at h; cases h
  rcases hm.box i hi with ⟨_, hn⟩ | ⟨b', cs, e, hb, h1, h2⟩
  · rw [hn] at h; cases h
  · rw [h] at hb
    have := Option.some.inj hb
    subst this
    exact ⟨cs, e, h1, h2, hi⟩
def NoLoop (w : World) (b : Nat) : Prop := ∀ o, w.heap[b]? ≠ some (.loop o)
structure Step (φ : Phi) (w : World) (φ' : Phi) (w' : World) (E : List Eff) : Prop where
  tr : ∀ q c, VRel φ w q c → VRel φ' w' (q.sub E) c
  os : w'.os = w.os
  tape : w'.tape = w.tape
  output : w'.output = w.output
  size : w.heap.size ≤ w'.heap.size
  rest : ∀ b, b < w.heap.size → ¬ φ.own b → NoLoop w b → w'.heap[b]? = w.heap[b]? ∧ ¬ φ'.own b
theorem Step.refl (φ : Phi) (w : World) : Step φ w φ w [] := ⟨fun _ _ h => h, rfl, rfl, rfl, Nat.le_refl _, fun _ _ h _ => ⟨rfl, h⟩⟩
theorem Step.trans {φ φ1 φ2 : Phi} {w w1 w2 : World} {E F : List Eff} (h : Step φ w φ1 w1 E) (k : Step φ1 w1 φ2 w2 F) : Step φ w φ2 w2 (E ++ F) :=
  ⟨fun q c hq => by rw [PV.sub_append]; exact k.tr _ _ (h.tr q c hq), k.os.trans h.os, k.tape.trans h.tape, k.output.trans h.output, Nat.le_trans h.size k.size,
   fun b hb ho hl => by
    obtain ⟨h1, h2⟩ := h.rest b hb ho hl
    obtain ⟨k1, k2⟩ := k.rest b (Nat.lt_of_lt_of_le hb h.size) h2 (fun o => by rw [h1]; exact hl o)
    exact ⟨k1.trans h1, k2⟩⟩
def ECalls (P : Program) (f : FuncId) (args : List PV) (m : Mem) (Q : PV → List Eff → Mem → Prop) : Prop :=
  ∀ φ vs w, MRel φ m w → VRelL φ w args vs →
    Calls P f vs.toArray w fun e w' => ∃ v pv E m' φ', e = .returned v ∧ VRel φ' w' pv v ∧ MRel φ' m' w' ∧ Step φ w φ' w' E ∧ Q pv E m'
theorem ECalls.mono {P : Program} {f : FuncId} {args : List PV} {m : Mem} {Q Q' : PV → List Eff → Mem → Prop} (h : ECalls P f args m Q) (hq : ∀ pv E m', Q pv E m' → Q' pv E m') : ECalls P f args m Q' :=
  fun φ vs w hm hv => (h φ vs w hm hv).mono fun _ _ ⟨v, pv, E, m', φ', h1, h2, h3, h4, h5⟩ => ⟨v, pv, E, m', φ', h1, h2, h3, h4, hq _ _ _ h5⟩
structure YRec where
  l : Nat
  o : Loop
  g : Nat → PV
def ReadY (ys : List YRec) (φ : Phi) (w : World) : Prop := ∀ y ∈ ys, ∀ t, VRel φ w (y.g t) (y.o.tmps.getD t undef)
def ECallsY (P : Program) (ys : List YRec) (f : FuncId) (args : List PV) (m : Mem) (Q : PV → List Eff → Mem → Prop) : Prop :=
  ∀ φ vs w, MRel φ m w → VRelL φ w args vs → ReadY ys φ w →
    Calls P f vs.toArray w fun e w' => ∃ v pv E m' φ', e = .returned v ∧ VRel φ' w' pv v ∧ MRel φ' m' w' ∧ Step φ w φ' w' E ∧ Q pv E m'
theorem ECallsY.mono {P : Program} {ys : List YRec} {f : FuncId} {args : List PV} {m : Mem} {Q Q' : PV → List Eff → Mem → Prop} (h : ECallsY P ys f args m Q) (hq : ∀ pv E m', Q pv E m' → Q' pv E m') : ECallsY P ys f args m Q' :=
  fun φ vs w hm hv hy => (h φ vs w hm hv hy).mono fun _ _ ⟨v, pv, E, m', φ', h1, h2, h3, h4, h5⟩ => ⟨v, pv, E, m', φ', h1, h2, h3, h4, hq _ _ _ h5⟩
theorem ECalls.y {P : Program} {ys : List YRec} {f : FuncId} {args : List PV} {m : Mem} {Q : PV → List Eff → Mem → Prop} (h : ECalls P f args m Q) : ECallsY P ys f args m Q := fun φ vs w hm hv _ => h φ vs w hm hv
def EYield (P : Program) (ys : List YRec) (o : Loop) (l : Nat) (args : List PV) (m : Mem) (Q : PV → List Eff → Mem → Prop) : Prop :=
  ∀ φ vs w n, MRel φ m w → VRelL φ w args vs → ReadY ys φ w →
    RoundIn Fence.wide n P l o.fn ((o.params.zip vs.toArray).foldl (fun tmps (t, a) => tmps.setIfInBounds t a) o.tmps) o.assign o.body w fun e w' => ∃ v pv E m' φ', e = .returned v ∧ VRel φ' w' pv v ∧ MRel φ' m' w' ∧ Step φ w φ' w' E ∧ Q pv E m'
theorem EYield.mono {P : Program} {ys : List YRec} {o : Loop} {l : Nat} {args : List PV} {m : Mem} {Q Q' : PV → List Eff → Mem → Prop} (h : EYield P ys o l args m Q) (hq : ∀ pv E m', Q pv E m' → Q' pv E m') : EYield P ys o l args m Q' :=
  fun φ vs w n hm hv hy => (h φ vs w n hm hv hy).mono fun _ _ ⟨v, pv, E, m', φ', h1, h2, h3, h4, h5⟩ => ⟨v, pv, E, m', φ', h1, h2, h3, h4, hq _ _ _ h5⟩
structure Ent where
  a : Nat
  n : Nat
  ys : List YRec
structure St where
  g : Nat → PV
  m : Mem
  a0 : Ent
  eff : List Eff
def dropNew (a0 : Nat) : List Eff → List Eff
  | [] => []
  | e :: es => if a0 ≤ e.id then dropNew a0 es else e :: es
@[simp] theorem dropNew_nil (a0 : Nat) : dropNew a0 [] = [] := rfl
theorem dropNew_new (a0 : Nat) (e : Eff) (es : List Eff) (h : a0 ≤ e.id) : dropNew a0 (e :: es) = dropNew a0 es := by simp [dropNew, h]
def St.nowYof (s : St) (ys : List YRec) : List YRec := ys.map fun y => { y with g := fun t => (y.g t).sub s.eff }
def St.nowY (s : St) : List YRec := s.nowYof s.a0.ys
def addEff (a0 : Nat) (eff E : List Eff) : List Eff := match eff with
  | [] => dropNew a0 E
  | _ :: _ => eff ++ E
@[simp] theorem addEff_nil (a0 : Nat) (E : List Eff) : addEff a0 [] E = dropNew a0 E := rfl
def St.put (s : St) (d : Option Tmp) (v : PV) : St := match d with
  | some d => { s with g := fun t => if t = d then v else s.g t }
  | none => s
def BoxC.sub (E : List Eff) (c : BoxC) : BoxC := E.foldl (fun c e => c.sub1 e) c
@[simp] theorem BoxC.sub_nil (c : BoxC) : BoxC.sub [] c = c := rfl
def St.hit (s : St) (E : List Eff) : St := { s with g := fun t => (s.g t).sub E, m := { s.m with β := fun i => (s.m.β i).sub E }, eff := addEff s.a0.a s.eff E }
def St.after (s : St) (E : List Eff) (m' : Mem) : St := { s with g := fun t => (s.g t).sub E, m := m', eff := addEff s.a0.a s.eff E }
def updB (β : Nat → BoxC) (i : Nat) (c : BoxC) : Nat → BoxC := fun j => if j = i then c else β j
def St.newBox (s : St) (d : Option Tmp) (l : List PV) : St :=
  { s with m := { s.m with β := updB s.m.β s.m.n (.cells l), n := s.m.n + 1 } }.put d (.ptr s.m.n 0)
def St.setBox (s : St) (i : Nat) (l : List PV) : St := { s with m := { s.m with β := updB s.m.β i (.cells l) } }
def St.newArr (s : St) (d : Option Tmp) (sz len : Nat) (cs : List PV) : St :=
  { s with m := { s.m with an := s.m.an + 1 } }.put d (.sl (some s.m.an) sz 0 len cs)
section
variable (s : St) (d t : Nat) (v : PV) (E : List Eff) (m' : Mem) (i : Nat) (l : List PV) (sz len : Nat) (o : Option Tmp)
@[simp] theorem St.put_g : (s.put (some d) v).g t = if t = d then v else s.g t := rfl
@[simp] theorem St.put_none : s.put none v = s := rfl
@[simp] theorem St.put_m : (s.put o v).m = s.m := by cases o <;> rfl
@[simp] theorem St.put_a0 : (s.put o v).a0 = s.a0 := by cases o <;> rfl
@[simp] theorem St.put_eff : (s.put o v).eff = s.eff := by cases o <;> rfl
@[simp] theorem St.after_g : (s.after E m').g t = (s.g t).sub E := rfl
@[simp] theorem St.after_m : (s.after E m').m = m' := rfl
@[simp] theorem St.after_a0 : (s.after E m').a0 = s.a0 := rfl
@[simp] theorem St.after_eff : (s.after E m').eff = addEff s.a0.a s.eff E := rfl
@[simp] theorem St.hit_g : (s.hit E).g t = (s.g t).sub E := rfl
@[simp] theorem St.hit_β : (s.hit E).m.β i = (s.m.β i).sub E := rfl
@[simp] theorem St.hit_n : (s.hit E).m.n = s.m.n := rfl
@[simp] theorem St.hit_an : (s.hit E).m.an = s.m.an := rfl
@[simp] theorem St.hit_a0 : (s.hit E).a0 = s.a0 := rfl
@[simp] theorem St.hit_eff : (s.hit E).eff = addEff s.a0.a s.eff E := rfl
@[simp] theorem St.newBox_g : (s.newBox (some d) l).g t = if t = d then .ptr s.m.n 0 else s.g t := rfl
@[simp] theorem St.newBox_m : (s.newBox o l).m = ⟨updB s.m.β s.m.n (.cells l), s.m.n + 1, s.m.an, s.m.rc⟩ := by cases o <;> rfl
@[simp] theorem St.newBox_a0 : (s.newBox o l).a0 = s.a0 := by cases o <;> rfl
@[simp] theorem St.newBox_eff : (s.newBox o l).eff = s.eff := by cases o <;> rfl
@[simp] theorem St.setBox_g : (s.setBox i l).g t = s.g t := rfl
@[simp] theorem St.setBox_m : (s.setBox i l).m = ⟨updB s.m.β i (.cells l), s.m.n, s.m.an, s.m.rc⟩ := rfl
@[simp] theorem St.setBox_a0 : (s.setBox i l).a0 = s.a0 := rfl
@[simp] theorem St.setBox_eff : (s.setBox i l).eff = s.eff := rfl
@[simp] theorem St.newArr_g : (s.newArr (some d) sz len l).g t = if t = d then .sl (some s.m.an) sz 0 len l else s.g t := rfl
@[simp] theorem St.newArr_m : (s.newArr o sz len l).m = ⟨s.m.β, s.m.n, s.m.an + 1, s.m.rc⟩ := by cases o <;> rfl
@[simp] theorem St.newArr_a0 : (s.newArr o sz len l).a0 = s.a0 := by cases o <;> rfl
@[simp] theorem St.newArr_eff : (s.newArr o sz len l).eff = s.eff := by cases o <;> rfl
@[simp] theorem updB_same (β : Nat → BoxC) (c : BoxC) : updB β i c i = c := by simp [updB]
theorem updB_other (β : Nat → BoxC) (c : BoxC) (j : Nat) (h : j ≠ i) : updB β i c j = β j := by simp [updB, h]
end
def pvOf : Value → PV
  | .int k n => .int k n
  | .bool b => .bool b
  | .string s => .str s
  | .pointer none => .nilp
  | .nilFunc => .nilfn
  | .slice none 0 0 => .snil
  | .tuple ⟨[]⟩ => .undef
  | _ => .bad
def PV.cells : PV → List PV
  | .agg cs => cs
  | p => [p]
def PV.known : PV → Bool
  | .bad => false
  | _ => true
def PV.one : PV → Bool
  | .undef | .bad | .agg _ | .tup _ => false
  | _ => true
def St.ev (s : St) : Operand → PV
  | .tmp t => s.g t
  | .const v => pvOf v
  | .func f => .fn f []
  | .global _ => .bad
def aggT (P : Program) (t : TypeId) : Option Bool := match P.underlying t with
  | some (.struct _) | some (.array _ _) => some true
  | some _ => some false
  | none => none
def eqvT (P : Program) (t : TypeId) (x y : PV) : Option Bool := match P.underlying t, x, y with
  | some (.int _), .int k a, .int k' b => if k = k' then some (decide (a = b)) else none
  | some .bool, .bool a, .bool b => some (a == b)
  | some .string, .str a, .str b => some (a.toList == b.toList)
  | _, _, _ => none
def eqvF (P : Program) : List Field → Nat → List PV → List PV → Option Bool
  | [], _, [], [] => some true
  | f :: fs, i, p :: ps, q :: qs => if f.name ≠ "_" ∧ f.offset = i then match eqvT P f.type p q, eqvF P fs (i + 1) ps qs with
    | some a, some b => some (a && b)
    | _, _ => none
    else none
  | _, _, _, _ => none
def eqvS (P : Program) (t : TypeId) (xs ys : List PV) : Option Bool := match P.underlying t with
  | some (.struct fs) => if P.stoodInHeld t = false ∧ P.eqGuardType P.depth t = false then eqvF P fs.toList 0 xs ys else none
  | _ => none
def aBin (P : Program) (op : BinOp) (t : TypeId) (x y : PV) : Option PV :=
  match x, y with
  | .int k a, .int k' b => match op with
    | .shl => if 0 ≤ b then some (.int k (k.wrap (a * 2 ^ min b.toNat k.bits))) else none
    | .shr => if 0 ≤ b then some (.int k (a.fdiv (2 ^ min b.toNat k.bits))) else none
    | _ => if k = k' then match op with
      | .add => some (.int k (k.wrap (a + b)))
      | .sub => some (.int k (k.wrap (a - b)))
      | .mul => some (.int k (k.wrap (a * b)))
      | .quo => if b = 0 then none else some (.int k (k.wrap (a.tdiv b)))
      | .rem => if b = 0 then none else some (.int k (a.tmod b))
      | .and | .or | .xor | .andNot => some (.int k (bits op k a b))
      | .eql => some (.bool (decide (a = b)))
      | .neq => some (.bool (decide (a ≠ b)))
      | .lss => some (.bool (decide (a < b)))
      | .leq => some (.bool (decide (a ≤ b)))
      | .gtr => some (.bool (decide (b < a)))
      | .geq => some (.bool (decide (b ≤ a)))
      | _ => none
      else none
  | .bool a, .bool b => match P.underlying t, op with
    | some .bool, .eql => some (.bool (a == b))
    | some .bool, .neq => some (.bool (a != b))
    | _, _ => none
  | .agg xs, .agg ys => match op, eqvS P t xs ys with
    | .eql, some b => some (.bool b)
    | .neq, some b => some (.bool !b)
    | _, _ => none
  | .snil, .snil => match P.underlying t, op with
    | some (.slice _), .eql => some (.bool true)
    | some (.slice _), .neq => some (.bool false)
    | _, _ => none
  | .sl _ _ _ _ _, .snil => match P.underlying t, op with
    | some (.slice _), .eql => some (.bool false)
    | some (.slice _), .neq => some (.bool true)
    | _, _ => none
  | _, _ => none
def aUn (op : UnOp) (x : PV) : Option PV := match op, x with
  | .not, .bool b => some (.bool !b)
  | .neg, .int k n => some (.int k (k.wrap (0 - n)))
  | _, _ => none
def aConv (P : Program) (src dst : TypeId) (x : PV) : Option PV := match P.underlying src, P.underlying dst, x with
  | some _, some (.int k), .int _ n => some (.int k (k.wrap n))
  | _, _, _ => none
def aFieldV (P : Program) (t : TypeId) (x : PV) (f : Nat) : Option PV := match P.underlying t with
  | some (.struct fs) => match fs[f]? with
    | some fd => match aggT P fd.type, x with
      | some false, .agg cs => cs[fd.offset]?
      | _, _ => none
    | none => none
  | _ => none
def aField (P : Program) (t : TypeId) (x : PV) (f : Nat) : Option PV := match P.underlying t with
  | some (.struct fs) => match fs[f]? with
    | some fd => if P.cellsOf fd.type = 0 ∨ (P.info? fd.type).isNone then none else match x with
      | .ptr id off => some (.ptr id (off + fd.offset))
      | .eref id off cs => some (.eref id (off + fd.offset) (cs.drop fd.offset))
      | _ => none
    | none => none
  | _ => none
def aIndexAddr (P : Program) (t : TypeId) (x i : PV) : Option PV := match P.underlying t, x, i with
  | some (.slice e), .sl id sz off len cs, .int _ n =>
    if 0 ≤ n ∧ n < (len : Int) ∧ P.cellsOf e = sz ∧ (P.info? e).isSome then some (.eref id (off + n.toNat * sz) (cs.drop (n.toNat * sz))) else none
  | some (.array len e), .ptr id off, .int _ n => if 0 ≤ n ∧ n < (len : Int) ∧ (P.info? e).isSome then some (.ptr id (off + n.toNat * P.cellsOf e)) else none
  | _, _, _ => none
def aIndex (P : Program) (t : TypeId) (x i : PV) : Option PV := match P.underlying t, x, i with
  | some (.array len e), .agg cs, .int _ n =>
    if 0 ≤ n ∧ n < (len : Int) ∧ (P.info? e).isSome ∧ aggT P e = some false ∧ P.cellsOf e = 1 then cs[n.toNat]? else none
  | _, _, _ => none
def aSrc (m : Mem) (x : PV) : Option (List PV) := match x with
  | .ptr id off => if id < m.n then match m.β id with
    | .cells l => some (l.drop off)
    | .inv _ => none
    | .hole => none
    else none
  | .eref _ _ cs => some cs
  | _ => none
def aLoad (P : Program) (m : Mem) (t : TypeId) (x : PV) : Option PV := match aSrc m x, aggT P t with
  | some cs, some true => if P.cellsOf t ≤ cs.length ∧ (P.info? t).isSome then some (.agg (cs.take (P.cellsOf t))) else none
  | some (c :: _), some false => some c
  | _, _ => none
def wrs (id off : Nat) : List PV → List Eff
  | [] => []
  | v :: vs => .wr id off v :: wrs id (off + 1) vs
def splice (l : List PV) (off : Nat) (vs : List PV) : List PV := l.take off ++ vs ++ l.drop (off + vs.length)
def noId (id : Nat) (v : PV) : Prop := v.sub1 (.kill id) = v
def aStore (P : Program) (s : St) (t : TypeId) (x v : PV) (K : St → Prop) : Prop := match x with
  | .ptr id off => id < s.m.n ∧ (P.info? t).isSome ∧ v.cells.length = P.cellsOf t ∧ v.cells.all PV.one = true ∧ ∃ l, s.m.β id = .cells l ∧ off + v.cells.length ≤ l.length ∧ K (s.setBox id (splice l off v.cells))
  | .eref (some id) off cs => (P.info? t).isSome ∧ 0 < P.cellsOf t ∧ v.cells.length = P.cellsOf t ∧ v.cells.all PV.one = true ∧ v.cells.length ≤ cs.length ∧ (∀ c ∈ v.cells, noId id c) ∧ K (s.hit (wrs id off v.cells))
  | _ => False
def zeroOf (P : Program) (t : TypeId) : Option Value := (P.info? t).bind (·.zero)
def zeroCs (P : Program) (t : TypeId) : Option (List PV) := (zeroOf P t).map fun z => z.cells.toList.map pvOf
def aFill (place : Nat → Option (Nat × Nat)) (cells : List PV) : List (Nat × PV) → Option (List PV)
  | [] => some cells
  | (i, v) :: rest => match place i with
    | none => none
    | some (off, size) => if v.known = true ∧ v.cells.length = size ∧ off + size ≤ cells.length then aFill place (splice cells off v.cells) rest else none
def fieldPlaceOf (P : Program) (fs : Array Field) (i : Nat) : Option (Nat × Nat) := (fs[i]?).map fun f => (f.offset, P.cellsOf f.type)
def aBuild (P : Program) (t : TypeId) (parts : List (Nat × PV)) : Option PV := match P.underlying t, zeroCs P t with
  | some (.struct fs), some z => if fs.toList.all (fun f => (P.info? f.type).isSome) then (aFill (fieldPlaceOf P fs) z parts).map .agg else none
  | some (.array _ e), some z => if (P.info? e).isSome then (aFill (fun i => some (i * P.cellsOf e, P.cellsOf e)) z parts).map .agg else none
  | _, _ => none
def repl (z : List PV) : Nat → List PV
  | 0 => []
  | n + 1 => z ++ repl z n
def aLen (P : Program) (t : TypeId) (x : PV) : Option PV := match P.underlying t, x with
  | some (.slice _), .sl _ _ _ len _ => some (.int .i64 len)
  | some (.slice _), .snil => some (.int .i64 0)
  | some (.slice _), .dead len => some (.int .i64 len)
  | some .string, .str s => some (.int .i64 s.size)
  | some (.array n _), _ => some (.int .i64 n)
  | _, _ => none
def aMin (l : List PV) : Option PV := match l with
  | [.int k a, .int k' b] => if k = k' then some (.int k (if b < a then b else a)) else none
  | _ => none
def aMax (l : List PV) : Option PV := match l with
  | [.int k a, .int k' b] => if k = k' then some (.int k (if a < b then b else a)) else none
  | _ => none
def aTail (sz : Nat) (x : PV) : Option (Nat × List PV) := match x with
  | .snil => some (0, [])
  | .sl _ sz' _ len cs => if sz' = sz ∨ len = 0 then some (len, cs) else none
  | _ => none
def aAppend (P : Program) (s : St) (d : Option Tmp) (t : TypeId) (x y : PV) (K : St → Prop) : Prop := match P.underlying t with
  | some (.slice e) => (P.info? e).isSome ∧ 0 < P.cellsOf e ∧ (zeroOf P e).any (fun z => z.cells.size = P.cellsOf e) = true ∧
    match aTail (P.cellsOf e) y with
    | some (m, news) => news.all PV.one = true ∧ match x with
      | .snil => m * P.bytesOf e ≤ 140737488355328 ∧ m ≤ 9223372036854775807 ∧ K (if m = 0 then s.put d .snil else s.newArr d (P.cellsOf e) m news)
      | .sl (some id) sz off len cs => sz = P.cellsOf e ∧ off = 0 ∧ (len + m) * P.bytesOf e ≤ 140737488355328 ∧ len + m ≤ 9223372036854775807 ∧ (∀ c ∈ cs ++ news, noId id c) ∧
          K ((s.hit [.kill id]).put d (.sl (some id) sz 0 (len + m) (cs ++ news)))
      | _ => False
    | none => False
  | _ => False
def aBnd (d : Nat) : Option PV → Option Nat
  | none => some d
  | some (.int _ n) => if 0 ≤ n then some n.toNat else none
  | _ => none
def aSlice (P : Program) (t : TypeId) (x : PV) (lo hi : Option PV) : Option PV := match P.underlying t, x with
  | some (.slice e), .sl id sz off len cs => match aBnd 0 lo, aBnd len hi with
    | some l, some h => if l ≤ h ∧ h ≤ len ∧ P.cellsOf e = sz ∧ (P.info? e).isSome then
        (if l = h then some (.sl none sz 0 0 []) else some (.sl id sz (off + l * sz) (h - l) ((cs.drop (l * sz)).take ((h - l) * sz)))) else none
    | _, _ => none
  | some (.slice e), .snil => match aBnd 0 lo, aBnd 0 hi with
    | some l, some h => if l = 0 ∧ h = 0 ∧ (P.info? e).isSome then some .snil else none
    | _, _ => none
  | _, _ => none
end Go.Proofs.Ytlminnpaeaganaa
namespace Go.Proofs.Ytlminnpaeaganaa
open Go Go.RowKit
def scB : PV → PV → Bool
  | .int k a, .int k' b => decide (k = k') && decide (a = b)
  | .bool a, .bool b => a == b
  | _, _ => false
def scLB : List PV → List PV → Bool
  | [], [] => true
  | x :: xs, y :: ys => scB x y && scLB xs ys
  | _, _ => false
def chunk (sz : Nat) (cs : List PV) (i : Nat) : List PV := (cs.drop (i * sz)).take sz
def dropK (sz : Nat) (cs : List PV) (i : Nat) : List PV := cs.take (i * sz) ++ cs.drop ((i + 1) * sz)
def hasC (sz : Nat) (cs key : List PV) : Bool := (List.range (cs.length / sz)).any fun i => scLB (chunk sz cs i) key
def insC (sz : Nat) (cs key : List PV) : List PV := if hasC sz cs key = true then cs else cs ++ key
def fitKey (P : Program) (kt : TypeId) (key : List PV) : Bool := match keyVal key with
  | some v => (keyOf P kt v).isSome
  | none => false
def fitKeys (P : Program) (kt : TypeId) (sz : Nat) (cs : List PV) : Bool := (List.range (cs.length / sz)).all fun i => fitKey P kt (chunk sz cs i)
def St.newMp (s : St) (d : Option Tmp) (it : Bool) (sz : Nat) (cs : List PV) : St :=
  { s with m := { s.m with an := s.m.an + 1 } }.put d (.mp it (some s.m.an) sz cs)
def St.setMp (s : St) (id sz : Nat) (cs : List PV) : St := s.hit [.wr id sz (.agg cs)]
def opW (P : Program) (s : St) (o : Oper) (K : St → Prop) : Prop := match o.op with
  | .move x | .assign x => K (s.put o.dst (s.ev x))
  | .pick c x y => ∃ t, s.ev c = .bool t ∧ K (s.put o.dst (if t then s.ev x else s.ev y))
  | .binOp op t x y _ => ∃ v, aBin P op t (s.ev x) (s.ev y) = some v ∧ K (s.put o.dst v)
  | .unOp op _ x => ∃ v, aUn op (s.ev x) = some v ∧ K (s.put o.dst v)
  | .convert src dst x => ∃ v, aConv P src dst (s.ev x) = some v ∧ K (s.put o.dst v)
  | .nilCheck x => match s.ev x with
    | .ptr i off => K (s.put o.dst (.ptr i off))
    | .fn f caps => K (s.put o.dst (.fn f caps))
    | _ => False
  | .extract x i => match s.ev x with
    | .tup vs => ∃ v, vs[i]? = some v ∧ K (s.put o.dst v)
    | _ => False
  | .fieldAddr t x f => ∃ v, aField P t (s.ev x) f = some v ∧ K (s.put o.dst v)
  | .field t x f => ∃ v, aFieldV P t (s.ev x) f = some v ∧ K (s.put o.dst v)
  | .indexAddr t x i => ∃ v, aIndexAddr P t (s.ev x) (s.ev i) = some v ∧ K (s.put o.dst v)
  | .index t x i => ∃ v, aIndex P t (s.ev x) (s.ev i) = some v ∧ K (s.put o.dst v)
  | .load t x => ∃ v, aLoad P s.m t (s.ev x) = some v ∧ K (s.put o.dst v)
  | .store t x y => o.dst = none ∧ aStore P s t (s.ev x) (s.ev y) K
  | .makeMap t r => r = none ∧ match P.underlying t with
    | some (.map kt _) => K (s.newMp o.dst false (P.cellsOf kt) [])
    | _ => False
  | .mapUpdate t m k _ => o.dst = none ∧ match P.underlying t, s.ev m, s.ev k with
    | some (.map kt _), .mp false (some id) sz cs, .agg key => Maps.Keyed P kt ∧ 0 < sz ∧ key.length = sz ∧ fitKeys P kt sz cs = true ∧ fitKey P kt key = true ∧ K (s.setMp id sz (insC sz cs key))
    | _, _, _ => False
  | .range t x => match P.underlying t, s.ev x with
    | some (.map _ _), .mp false none sz cs => 0 < sz ∧ K (s.newMp o.dst true sz (repl [.nilp] sz ++ cs))
    | _, _ => False
  | .next it str => str = false ∧ match s.ev it with
    | .mp true (some id) sz cs => 0 < sz ∧ ((cs.drop sz).length / sz = 0 → K (s.put o.dst (.tup [.bool false]))) ∧
        ∀ i, i < (cs.drop sz).length / sz → K ((s.setMp id sz (chunk sz (cs.drop sz) i ++ dropK sz (cs.drop sz) i)).put o.dst (.tup [.bool true, .agg (chunk sz (cs.drop sz) i), .bad]))
    | _ => False
  | .entry it => match s.ev it with
    | .mp true (some _) sz cs => 0 < sz ∧ (keyVal (cs.take sz)).isSome = true ∧ K (s.put o.dst (.tup [.agg (cs.take sz), .bad]))
    | _ => False
  | .box _ x => (s.ev x).known = true ∧ K (s.newBox o.dst (s.ev x).cells)
  | .alloc t => ∃ z, zeroCs P t = some z ∧ K (s.newBox o.dst z)
  | .build t parts => ∃ v, aBuild P t (parts.toList.map fun p => (p.1, s.ev p.2)) = some v ∧ K (s.put o.dst v)
  | .buildSlice t len parts => match P.underlying t, zeroCs P ((P.underlying t).elim 0 fun | .slice e => e | _ => 0) with
    | some (.slice e), some z => (P.info? e).isSome ∧ z.length = P.cellsOf e ∧ 0 < z.length ∧ len * P.cellsOf e ≤ 16777216 ∧ ∃ cs, aFill (fun i => some (i * P.cellsOf e, P.cellsOf e)) (repl z len) (parts.toList.map fun p => (p.1, s.ev p.2)) = some cs ∧ (K (s.newArr o.dst (P.cellsOf e) len cs) ∨ K (s.put o.dst (.sl none (P.cellsOf e) 0 len cs)))
    | _, _ => False
  | .makeSlice t l c => match P.underlying t, s.ev l, s.ev c with
    | some (.slice e), .int .i64 ln, .int .i64 cn => ∃ z, zeroCs P e = some z ∧ z.length = P.cellsOf e ∧ 0 < z.length ∧ (P.info? e).isSome ∧ 0 ≤ ln ∧ ln ≤ cn ∧ cn * P.bytesOf e ≤ 140737488355328 ∧ cn ≤ 9223372036854775807 ∧ K (s.newArr o.dst (P.cellsOf e) ln.toNat (repl z ln.toNat))
    | _, _, _ => False
  | .slice t x lo hi none => ∃ v, aSlice P t (s.ev x) (lo.map s.ev) (hi.map s.ev) = some v ∧ K (s.put o.dst v)
  | .makeFunc (.func f) first caps => first = #[] ∧ K (s.put o.dst (.fn f (caps.toList.map s.ev)))
  | .call c => match c.callee with
    | .value f => match s.ev f with
      | .fn g caps => (∃ fn, P.funcs[g]? = some fn ∧ fn.name ≠ "runtime.NumGoroutine" ∧ fn.body.isSome) ∧ ECallsY P s.nowY g (c.args.toList.map s.ev ++ caps) s.m fun v E m' => K ((s.after E m').put o.dst v)
      | .yld l => ∃ y st pd, y ∈ s.nowY ∧ y.l = l ∧ (l, { y.o with state := st, pending := pd }) ∈ s.m.rc ∧ c.args.size = y.o.params.size ∧ EYield P s.nowY y.o l (c.args.toList.map s.ev) s.m fun v E m' => K ((s.after E m').put o.dst v)
      | _ => False
    | .builtin .len => match c.argTypes[0]?, c.args.toList with
      | some t, [x] => ∃ v, aLen P t (s.ev x) = some v ∧ K (s.put o.dst v)
      | _, _ => False
    | .builtin .min => ∃ v, aMin (c.args.toList.map s.ev) = some v ∧ K (s.put o.dst v)
    | .builtin .max => ∃ v, aMax (c.args.toList.map s.ev) = some v ∧ K (s.put o.dst v)
    | .builtin .append => match c.argTypes, c.args.toList with
      | ⟨[t, t']⟩, [x, y] => t = t' ∧ aAppend P s o.dst t (s.ev x) (s.ev y) K
      | _, _ => False
    | _ => False
  | _ => False
structure SRel (φ : Phi) (w : World) (N : Nat) (s : St) (a : Act) : Prop where
  tmp : ∀ t, VRel φ w (s.g t) (a.tmps.getD t undef)
  size : a.tmps.size = N
  mem : MRel φ s.m w
structure Anchor where
  φ0 : Phi
  w0 : World
  φ1 : Phi
  w1 : World
structure Rest (φ : Phi) (w : World) (φ' : Phi) (w' : World) : Prop where
  size : w.heap.size ≤ w'.heap.size
  rest : ∀ b, b < w.heap.size → ¬ φ.own b → NoLoop w b → w'.heap[b]? = w.heap[b]? ∧ ¬ φ'.own b
theorem Rest.refl (φ : Phi) (w : World) : Rest φ w φ w := ⟨Nat.le_refl _, fun _ _ h _ => ⟨rfl, h⟩⟩
theorem Rest.trans {φ φ1 φ2 : Phi} {w w1 w2 : World} (h : Rest φ w φ1 w1) (k : Rest φ1 w1 φ2 w2) : Rest φ w φ2 w2 :=
  ⟨Nat.le_trans h.size k.size, fun b hb ho hl => by
    obtain ⟨h1, h2⟩ := h.rest b hb ho hl
    obtain ⟨k1, k2⟩ := k.rest b (Nat.lt_of_lt_of_le hb h.size) h2 (fun o => by rw [h1]; exact hl o)
    exact ⟨k1.trans h1, k2⟩⟩
theorem Step.toRest {φ φ' : Phi} {w w' : World} {E : List Eff} (h : Step φ w φ' w' E) : Rest φ w φ' w' := ⟨h.size, h.rest⟩
structure Anch (A : Anchor) (φ : Phi) (w : World) (E : List Eff) : Prop where
  st : Step A.φ0 A.w0 φ w E
  re : Rest A.φ1 A.w1 φ w
theorem Anch.trans {A : Anchor} {φ φ' : Phi} {w w' : World} {E F : List Eff} (h : Anch A φ w E) (k : Step φ w φ' w' F) : Anch A φ' w' (E ++ F) := ⟨h.st.trans k, h.re.trans k.toRest⟩
def Good (A : Anchor) (N : Nat) (D : List Deferred) (K : St → Prop) (a' : Act) (w' : World) : Prop :=
  ∃ s' φ', SRel φ' w' N s' a' ∧ Anch A φ' w' s'.eff ∧ a'.defers = D ∧ K s'
def Fr (r : Option Nat) : Fence := { Fence.wide with round := r }
section
variable {P : Program} {φ : Phi} {w : World} {A : Anchor} {N n : Nat} {s : St} {a : Act} {K : St → Prop} {Q : Exit → Act → World → Prop} {r : Option Nat}
theorem vrel_pvOf (φ : Phi) (w : World) (v : Value) : VRel φ w (pvOf v) v := by
  unfold pvOf
  split <;> simp [VRel]
theorem SRel.ev (h : SRel φ w N s a) (x : Operand) : VRel φ w (s.ev x) (a.eval x) := by
  cases x with
  | tmp t => exact h.tmp t
  | const v => exact vrel_pvOf φ w v
  | global g => simp [St.ev, VRel]
  | func f => exact ⟨[], rfl, rfl⟩
theorem SRel.evs (h : SRel φ w N s a) (l : List Operand) : VRelL φ w (l.map s.ev) (l.map a.eval) := by
  induction l with
  | nil => rfl
  | cons x l ih => exact ⟨_, _, rfl, h.ev x, ih⟩
theorem put_defers (a : Act) (d : Option Tmp) (v : Value) : (a.put d v).defers = a.defers := by cases d <;> rfl
theorem tmp_put {g : Nat → PV} (h : ∀ t, VRel φ w (g t) (a.tmps.getD t undef)) (hs : a.tmps.size = N) {d : Nat} (hd : d < N) {pv : PV} {v : Value} (hv : VRel φ w pv v) (t : Nat) :
    VRel φ w (if t = d then pv else g t) ((a.tmps.setIfInBounds d v).getD t undef) := by
  by_cases ht : t = d
  · subst ht
    rw [if_pos rfl]
    have : t < a.tmps.size := by omega
    simpa [this] using hv
  · rw [if_neg ht]
    have := h t
    simpa [Array.getElem?_setIfInBounds_ne (Ne.symm ht)] using this
theorem SRel.put (h : SRel φ w N s a) {d : Option Tmp} (hd : ∀ t, d = some t → t < N) {pv : PV} {v : Value} (hv : VRel φ w pv v) : SRel φ w N (s.put d pv) (a.put d v) := by
  cases d with
  | none => exact h
  | some d => exact ⟨fun t => tmp_put h.tmp h.size (hd d rfl) hv t, by simpa [Act.put] using h.size, h.mem⟩
theorem wpIn_of_run {o : Oper} {next : Act → World → Prop} (ho : ∀ c, o.op ≠ .defer c) (h : o.uponIn (Fr r) n P a next Q ((execOp a.eval o).run P w)) : o.wpIn (Fr r) n P a w next Q := by
  refine ⟨fun _ _ => trivial, ?_⟩
  rw [Oper.semAt_eq _ _ _ ho]
  exact h
theorem good_val {o : Oper} (ho : ∀ c, o.op ≠ .defer c) (h : SRel φ w N s a) (hst : Anch A φ w s.eff) (hd : ∀ t, o.dst = some t → t < N) {v : Value} {pv : PV}
    (hr : (execOp a.eval o).run P w = .ok (.value v) w) (hv : VRel φ w pv v) (hK : K (s.put o.dst pv)) : o.wpIn (Fr r) n P a w (Good A N a.defers K) Q := by
  refine wpIn_of_run ho ?_
  rw [hr]
  exact ⟨s.put o.dst pv, φ, h.put hd hv, by rw [St.put_eff]; exact hst, put_defers _ _ _, hK⟩
theorem rel_int {k : IntKind} {m : Int} {v : Value} (h : VRel φ w (.int k m) v) : v = .int k m := h
theorem rel_bool {b : Bool} {v : Value} (h : VRel φ w (.bool b) v) : v = .bool b := h
theorem eqvT_run {t : TypeId} {x y : PV} {b : Bool} (h : eqvT P t x y = some b) {vx vy : Value} (hx : VRel φ w x vx) (hy : VRel φ w y vy) (d : Nat) :
    (Op.equalIn (d + 1) t vx vy).run P w = .ok b w := by
  unfold eqvT at h
  split at h
  · rename_i k0 k a k' b' hu
    split at h
    · rename_i hkk
      subst hkk
      injection h with h
      rw [rel_int hx, rel_int hy, run_equalIn_int w d t k k0 a b' hu, ← h]
      simp [BEq.beq]
    · cases h
  · rename_i c c' hu
    injection h with h
    rw [rel_bool hx, rel_bool hy, run_equalIn_bool' w d t c c' hu, ← h]
  · rename_i c c' hu
    injection h with h
    simp only [VRel] at hx hy
    subst hx; subst hy
    rw [run_equalIn_string w d t c c' hu, ← h]
  · cases h
theorem eqvT_plain {t : TypeId} {x y : PV} {b : Bool} (h : eqvT P t x y = some b) : (isAgg t).run P w = .ok false w := by
  unfold eqvT at h
  split at h <;> first | (rename_i hu; simp [isAgg, run_underlying hu]) | cases h
theorem eqvF_run (d : Nat) : ∀ (fs : List Field) (i : Nat) (xs ys : List PV) (b : Bool), eqvF P fs i xs ys = some b → ∀ (vx vy : Array Value), VRelL φ w xs (vx.toList.drop i) → VRelL φ w ys (vy.toList.drop i) →
    (Op.eqFields (d + 1) vx vy fs).run P w = .ok b w
  | [], i, xs, ys, b, h, vx, vy, hx, hy => by
    cases xs <;> cases ys <;> simp [eqvF] at h
    subst h
    simp [Op.eqFields]
  | f :: fs, i, [], ys, b, h, _, _, _, _ => by simp [eqvF] at h
  | f :: fs, i, x :: xs, [], b, h, _, _, _, _ => by simp [eqvF] at h
  | f :: fs, i, x :: xs, y :: ys, b, h, vx, vy, hx, hy => by
    simp only [eqvF] at h
    split at h
    · rename_i hc
      obtain ⟨hn, ho⟩ := hc
      cases h1 : eqvT P f.type x y with
      | none => rw [h1] at h; simp at h
      | some a =>
        cases h2 : eqvF P fs (i + 1) xs ys with
        | none => rw [h1, h2] at h; simp at h
        | some c =>
          rw [h1, h2] at h
          injection h with h
          obtain ⟨v, vs, ev, hv, hvs⟩ := hx
          obtain ⟨u, us, eu, hu, hus⟩ := hy
          have gx : vx[i]? = some v := by
            have : (vx.toList.drop i)[0]? = some v := by rw [ev]; rfl
            simpa using this
          have gy : vy[i]? = some u := by
            have : (vy.toList.drop i)[0]? = some u := by rw [eu]; rfl
            simpa using this
          have dx : vx.toList.drop (i + 1) = vs := by rw [← List.drop_drop, ev]; rfl
          have dy : vy.toList.drop (i + 1) = us := by rw [← List.drop_drop, eu]; rfl
          have hp := eqvT_plain (w := w) h1
          have he := eqvT_run h1 hv hu d
          have ih := eqvF_run d fs (i + 1) xs ys c h2 vx vy (by rw [dx]; exact hvs) (by rw [dy]; exact hus)
          simp only [Op.eqFields, hn, ne_eq, not_false_eq_true, if_true, part, Sem.run_bind, hp, Result.andThen_ok, Bool.false_eq_true, if_false, ho, gx, gy, Sem.run_pure, he]
          cases a
          · simp [← h]
          · simp [ih, ← h]
    · cases h
theorem eqvS_run {t : TypeId} {xs ys : List PV} {b : Bool} (h : eqvS P t xs ys = some b) {vx vy : List Value} (hx : VRelL φ w xs vx) (hy : VRelL φ w ys vy) :
    (Op.equal t (.agg vx.toArray) (.agg vy.toArray)).run P w = .ok b w ∧ P.eqGuardType P.depth t = false := by
  unfold eqvS at h
  split at h
  · rename_i fs hu
    split at h
    · rename_i hc
      have hf : P.fieldsOf t = fs := by simp [Program.fieldsOf, hu]
      refine ⟨?_, hc.2⟩
      show (Op.equalIn 10000 t _ _).run P w = _
      rw [show (10000 : Nat) = 9998 + 1 + 1 from rfl, run_equalIn_struct w (9998 + 1) t _ _ (by rw [hf]; exact hu) hc.1, hf]
      exact eqvF_run 9998 fs.toList 0 xs ys b h _ _ (by simpa using hx) (by simpa using hy)
    · cases h
  · cases h
theorem eqGuard_none (op : BinOp) (t : TypeId) (x y : Operand) (va vb : Value) (h : va ≠ .nilIface) (h2 : (∀ xs, va ≠ .agg xs) ∨ P.eqGuardType P.depth t = false) :
    (eqGuard op t x y va vb).run P w = .ok () w := by
  unfold eqGuard
  cases va with
  | nilIface => exact absurd rfl h
  | agg xs =>
    have h2' : P.eqGuardType P.depth t = false := h2.resolve_left (fun k => k xs rfl)
    cases vb <;> (split <;> simp [run_program, h2'])
  | _ => split <;> simp
theorem bin_ok {op : BinOp} {t : TypeId} {x y : PV} {pv : PV} (h : aBin P op t x y = some pv) {vx vy : Value} (hx : VRel φ w x vx) (hy : VRel φ w y vy) (ox oy : Operand) :
    ∃ v, (do eqGuard op t ox oy vx vy; binOp op t vx vy : Sem Value).run P w = .ok v w ∧ VRel φ w pv v := by
  unfold aBin at h
  split at h
  · rename_i k a k' b
    have e1 := rel_int hx
    have e2 := rel_int hy
    subst e1; subst e2
    rw [Sem.run_bind, eqGuard_none op t ox oy _ _ (by simp) (.inl (by simp)), Result.andThen_ok]
    cases op <;> simp only at h
    all_goals first
      | (split at h
         · rename_i hk
           subst hk
           first
             | (injection h with h; subst h; refine ⟨_, ?_, rfl⟩; simp [binOp, Op.intArith, Op.intCmp, Op.intBits, bits, BEq.beq, bne]; done)
             | (injection h with h; subst h; refine ⟨_, ?_, rfl⟩; simp [binOp, Op.intArith, Op.intCmp, Op.intBits, bits]; done)
             | (split at h
                · cases h
                · rename_i hb; injection h with h; subst h; refine ⟨_, ?_, rfl⟩; simp [binOp, Op.intDiv, hb]; done)
             | cases h
         · cases h)
      | (split at h
         · rename_i hb
           injection h with h; subst h
           refine ⟨_, ?_, rfl⟩
           simp [binOp, Op.shift, Int.not_lt.2 hb]; done
         · cases h)
  · rename_i a b
    have e1 := rel_bool hx
    have e2 := rel_bool hy
    subst e1; subst e2
    rw [Sem.run_bind, eqGuard_none op t ox oy _ _ (by simp) (.inl (by simp)), Result.andThen_ok]
    split at h
    · rename_i hu
      injection h with h; subst h
      refine ⟨.bool (a == b), ?_, rfl⟩
      have := run_equalIn_bool' (P := P) w 9999 t a b hu
      simp [binOp, Op.equal, Op.maxDepth, this]
    · rename_i hu
      injection h with h; subst h
      refine ⟨.bool (a != b), ?_, rfl⟩
      have := run_equalIn_bool' (P := P) w 9999 t a b hu
      simp [binOp, Op.equal, Op.maxDepth, this, bne]
    · cases h
  · rename_i xs ys
    obtain ⟨vx', e1, hx'⟩ := hx
    obtain ⟨vy', e2, hy'⟩ := hy
    subst e1; subst e2
    split at h
    · rename_i b hb
      injection h with h; subst h
      obtain ⟨hr, hg⟩ := eqvS_run hb hx' hy'
      rw [Sem.run_bind, eqGuard_none _ t ox oy _ _ (by simp) (.inr hg), Result.andThen_ok]
      exact ⟨.bool b, by simp [binOp, hr], rfl⟩
    · rename_i b hb
      injection h with h; subst h
      obtain ⟨hr, hg⟩ := eqvS_run hb hx' hy'
      rw [Sem.run_bind, eqGuard_none _ t ox oy _ _ (by simp) (.inr hg), Result.andThen_ok]
      exact ⟨.bool !b, by simp [binOp, hr], rfl⟩
    · cases h
  · simp only [VRel] at hx hy
    subst hx; subst hy
    rw [Sem.run_bind, eqGuard_none op t ox oy _ _ (by simp) (.inl (by simp)), Result.andThen_ok]
    split at h
    · rename_i e hu
      injection h with h; subst h
      have := run_equalIn_nil_slice (P := P) w 9999 t e none 0 0 0 0 hu
      exact ⟨.bool true, by simp [binOp, Op.equal, Op.maxDepth, this], rfl⟩
    · rename_i e hu
      injection h with h; subst h
      have := run_equalIn_nil_slice (P := P) w 9999 t e none 0 0 0 0 hu
      exact ⟨.bool false, by simp [binOp, Op.equal, Op.maxDepth, this], rfl⟩
    · cases h
  · obtain ⟨_, a, cap, rfl, _, hp⟩ := hx
    have ha : a.isSome := by
      rcases hp with hp | ⟨b, rfl, _, _⟩
      · exact hp.2.2
      · rfl
    obtain ⟨a, rfl⟩ := Option.isSome_iff_exists.1 ha
    simp only [VRel] at hy
    subst hy
    rw [Sem.run_bind, eqGuard_none op t ox oy _ _ (by simp) (.inl (by simp)), Result.andThen_ok]
    have heq : ∀ e, P.underlying t = some (.slice e) → ∀ n c d, (Op.equalIn (d + 1) t (.slice (some a) n c) (.slice none 0 0)).run P w = .ok false w := fun e hu n c d => by
      simp [Op.equalIn, run_underlying hu]
    split at h
    · rename_i e hu
      injection h with h; subst h
      exact ⟨.bool false, by simp [binOp, Op.equal, Op.maxDepth, heq e hu], rfl⟩
    · rename_i e hu
      injection h with h; subst h
      exact ⟨.bool true, by simp [binOp, Op.equal, Op.maxDepth, heq e hu], rfl⟩
    · cases h
  · cases h
end
end Go.Proofs.Ytlminnpaeaganaa
namespace Go.Proofs.Ytlminnpaeaganaa
open Go Go.RowKit
section
variable {P : Program} {φ : Phi} {w : World} {A : Anchor} {N n : Nat} {s : St} {a : Act} {K : St → Prop} {Q : Exit → Act → World → Prop} {r : Option Nat} {m : Mem}
theorem add_mk (b o k : Nat) : (⟨b, o, none⟩ : Addr).add k = ⟨b, o + k, none⟩ := by unfold Addr.add; split <;> simp_all
theorem info_of_isSome {t : TypeId} (h : (P.info? t).isSome) : ∃ i, P.info? t = some i ∧ P.cellsOf t = i.size ∧ P.bytesOf t = i.bytes := by
  obtain ⟨i, hi⟩ := Option.isSome_iff_exists.1 h
  exact ⟨i, hi, by simp [Program.cellsOf, hi], by simp [Program.bytesOf, hi]⟩
theorem run_sizeOf {t : TypeId} (h : (P.info? t).isSome) : (sizeOf t).run P w = .ok (P.cellsOf t) w := by
  obtain ⟨i, hi, hs, _⟩ := info_of_isSome h
  simp [sizeOf, typeInfo, hi, hs]
theorem run_isAgg {t : TypeId} {b : Bool} (h : aggT P t = some b) : (isAgg t).run P w = .ok b w := by
  unfold aggT at h
  split at h <;> rename_i hu
  · injection h with h; subst h; simp [isAgg, run_underlying hu]
  · injection h with h; subst h; simp [isAgg, run_underlying hu]
  · rename_i h1 h2
    injection h with h; subst h
    rename_i d
    cases d <;> first | exact absurd rfl (h1 _) | exact absurd rfl (h2 _ _) | simp [isAgg, run_underlying hu]
  · cases h
theorem un_ok {op : UnOp} {x pv : PV} (h : aUn op x = some pv) {vx : Value} (hx : VRel φ w x vx) : ∃ v, (Op.unary op vx).run P w = .ok v w ∧ VRel φ w pv v := by
  unfold aUn at h
  split at h
  · injection h with h; subst h
    rw [rel_bool hx]
    exact ⟨_, by simp [Op.unary], rfl⟩
  · injection h with h; subst h
    rw [rel_int hx]
    exact ⟨_, by simp [Op.unary, Op.intArith], rfl⟩
  · cases h
theorem conv_ok {src dst : TypeId} {x pv : PV} (h : aConv P src dst x = some pv) {vx : Value} (hx : VRel φ w x vx) : ∃ v, (convert src dst vx).run P w = .ok v w ∧ VRel φ w pv v := by
  unfold aConv at h
  split at h
  · rename_i d k k' n hs hd
    injection h with h; subst h
    rw [rel_int hx]
    refine ⟨.int k (k.wrap n), ?_, rfl⟩
    simp only [convert, Sem.run_bind, run_underlying hs, run_underlying hd, Result.andThen_ok]
    cases d <;> simp [Conv.intToInt]
  · cases h
theorem vrelAt_drop {b off : Nat} {cs : List PV} (h : VRelAt φ w b cs off) (k : Nat) : VRelAt φ w b (cs.drop k) (off + k) := by
  rw [vrelAt_iff] at h ⊢
  intro j p hj
  obtain ⟨c, hc, hv⟩ := h (k + j) p (by rw [← hj, List.getElem?_drop])
  exact ⟨c, by rw [show off + k + j = off + (k + j) by omega]; exact hc, hv⟩
theorem vrelAt_take {b off : Nat} {cs : List PV} (h : VRelAt φ w b cs off) (k : Nat) : VRelAt φ w b (cs.take k) off := by
  rw [vrelAt_iff] at h ⊢
  intro j p hj
  rw [List.getElem?_take] at hj
  split at hj
  · exact h j p hj
  · cases hj
theorem place_any {id : Option Nat} {b sz off cap sz' off' cap' : Nat} (h : place φ w id b sz off cap) (ho : off' + cap' * sz' ≤ off + cap * sz) : place φ w id b sz' off' cap' := by
  cases id with
  | none => exact h
  | some i => obtain ⟨ha, cur, e, hb, hc⟩ := h; exact ⟨ha, cur, e, hb, by omega⟩
theorem field_ok {t : TypeId} {x pv : PV} {f : Nat} (h : aField P t x f = some pv) {vx : Value} (hx : VRel φ w x vx) : ∃ v, (Instr.fieldAt t vx f).run P w = .ok v w ∧ VRel φ w pv v := by
  unfold aField at h
  split at h
  · rename_i fs hu
    split at h
    · rename_i fd hf
      split at h
      · cases h
      · rename_i hc
        simp only [not_or, Option.isNone_iff_eq_none] at hc
        have hi : (P.info? fd.type).isSome := Option.isSome_iff_ne_none.2 hc.2
        have hs := run_sizeOf (w := w) hi
        split at h
        · injection h with h; subst h
          obtain ⟨b, hb, rfl⟩ := hx
          exact ⟨_, by simp [Instr.fieldAt, run_underlying hu, hf, Instr.sureAddr, fieldPlace, hs, hc.1, add_mk], b, hb, rfl⟩
        · injection h with h; subst h
          obtain ⟨b, rfl, hp, hat⟩ := hx
          exact ⟨_, by simp [Instr.fieldAt, run_underlying hu, hf, Instr.sureAddr, fieldPlace, hs, hc.1, add_mk], b, rfl, hp, vrelAt_drop hat _⟩
        · cases h
    · cases h
  · cases h
theorem indexAddr_ok {t : TypeId} {x i pv : PV} (h : aIndexAddr P t x i = some pv) {vx vi : Value} (hx : VRel φ w x vx) (hi : VRel φ w i vi) : ∃ v, (Instr.indexAt t vx vi).run P w = .ok v w ∧ VRel φ w pv v := by
  unfold aIndexAddr at h
  split at h
  · rename_i e id sz off len cs k n hu
    split at h
    · rename_i hc
      obtain ⟨h0, h1, hsz, hin⟩ := hc
      injection h with h; subst h
      have hs := run_sizeOf (w := w) hin
      rw [rel_int hi]
      obtain ⟨hl, a, cap, rfl, hcap, hp⟩ := hx
      rcases hp with hp | ⟨b, rfl, hp, hat⟩
      · omega
      · exact ⟨.pointer (some ⟨b, off + n.toNat * sz, none⟩), by simp [Instr.indexAt, run_underlying hu, asIntOf, h0, h1, hs, add_mk, hsz], b, rfl, place_any hp (by omega), vrelAt_drop hat _⟩
    · cases h
  · rename_i len e id off k n hu
    split at h
    · rename_i hc
      obtain ⟨h0, h1, hin⟩ := hc
      injection h with h; subst h
      have hs := run_sizeOf (w := w) hin
      rw [rel_int hi]
      obtain ⟨b, hb, rfl⟩ := hx
      exact ⟨_, by simp [Instr.indexAt, run_underlying hu, asIntOf, Instr.sureAddr, h0, h1, hs, add_mk], b, hb, rfl⟩
    · cases h
  · cases h
theorem index_ok {t : TypeId} {x i pv : PV} (h : aIndex P t x i = some pv) {vx vi : Value} (hx : VRel φ w x vx) (hi : VRel φ w i vi) : ∃ v, (Instr.index t vx vi).run P w = .ok v w ∧ VRel φ w pv v := by
  unfold aIndex at h
  split at h
  · rename_i len e cs k n hu
    split at h
    · rename_i hc
      obtain ⟨h0, h1, hin, hag, hce⟩ := hc
      have hs := run_sizeOf (w := w) hin
      rw [rel_int hi]
      obtain ⟨vs, rfl, hvs⟩ := hx
      obtain ⟨v, hv, hr⟩ := vrelL_get hvs h
      refine ⟨v, ?_, hr⟩
      have ha := run_isAgg (w := w) hag
      simp [Instr.index, run_underlying hu, asIntOf, h0, h1, hs, part, ha, hce, hv]
    · cases h
  · cases h
theorem fieldV_ok {t : TypeId} {x pv : PV} {f : Nat} (h : aFieldV P t x f = some pv) {vx : Value} (hx : VRel φ w x vx) : ∃ v, (Instr.field t vx f).run P w = .ok v w ∧ VRel φ w pv v := by
  unfold aFieldV at h
  split at h
  · rename_i fs hu
    split at h
    · rename_i fd hf
      split at h
      · rename_i cs hag
        obtain ⟨vs, rfl, hvs⟩ := hx
        obtain ⟨v, hv, hr⟩ := vrelL_get hvs h
        refine ⟨v, ?_, hr⟩
        have ha := run_isAgg (w := w) hag
        simp [Instr.field, run_underlying hu, hf, part, ha, hv, asAgg]
      · cases h
    · cases h
  · cases h
theorem src_cells {x : PV} {cs : List PV} (h : aSrc m x = some cs) (hm : MRel φ m w) {vx : Value} (hx : VRel φ w x vx) : ∃ b off, vx = .pointer (some ⟨b, off, none⟩) ∧ VRelAt φ w b cs off := by
  unfold aSrc at h
  split at h
  · rename_i id off
    split at h
    · rename_i hid
      split at h
      · rename_i l hl
        injection h with h; subst h
        obtain ⟨b, hb, rfl⟩ := hx
        obtain ⟨b', cur, e, hb', hh, hr⟩ := hm.cells hid (by rw [hl]; simp)
        have : b' = b := by rw [hb] at hb'; exact (Option.some.inj hb').symm
        subst this
        rw [hl] at hr
        refine ⟨b', off, rfl, vrelAt_mk fun j p hj => ?_⟩
        rw [List.getElem?_drop] at hj
        obtain ⟨v, hv, hpv⟩ := vrelL_get hr hj
        exact ⟨v, by simp only [World.cell?, hh]; simpa using hv, hpv⟩
      · cases h
      · cases h
    · cases h
  · injection h with h; subst h
    obtain ⟨b, rfl, _, hat⟩ := hx
    exact ⟨b, _, rfl, hat⟩
  · cases h
theorem vals_of_at {b off : Nat} {cs : List PV} (h : VRelAt φ w b cs off) : ∃ vs : List Value, VRelL φ w cs vs ∧ ∀ j v, vs[j]? = some v → w.cell? ⟨b, off + j, none⟩ = some v := by
  induction cs generalizing off with
  | nil => exact ⟨[], rfl, fun j v hv => by simp at hv⟩
  | cons p cs ih =>
    obtain ⟨⟨c, hc, hp⟩, h1⟩ := h
    obtain ⟨vs, hr, hg⟩ := ih h1
    refine ⟨c :: vs, ⟨c, vs, rfl, hp, hr⟩, fun j v hv => ?_⟩
    cases j with
    | zero => simp at hv; subst hv; simpa using hc
    | succ j => rw [show off + (j + 1) = off + 1 + j by omega]; exact hg j v (by simpa using hv)
theorem load_ok {t : TypeId} {x pv : PV} (h : aLoad P m t x = some pv) (hm : MRel φ m w) {vx : Value} (hx : VRel φ w x vx) : ∃ v, (Instr.loadAt t vx).run P w = .ok v w ∧ VRel φ w pv v := by
  unfold aLoad at h
  split at h
  · rename_i cs hs ha
    split at h
    · rename_i hc
      injection h with h; subst h
      obtain ⟨b, off, rfl, hat⟩ := src_cells hs hm hx
      obtain ⟨vs, hvs, hg⟩ := vals_of_at (vrelAt_take hat (P.cellsOf t))
      have hlen : vs.length = P.cellsOf t := by rw [← vrelL_length hvs, List.length_take]; omega
      have hl := run_loadCells_list (P := P) w ⟨b, off, none⟩ vs (fun j v hv => by rw [add_mk]; exact hg j v hv)
      rw [hlen] at hl
      exact ⟨.agg vs.toArray, by simp [Instr.loadAt, Instr.sureAddr, loadVar, run_isAgg ha, run_sizeOf hc.2, hl], vs, rfl, hvs⟩
    · cases h
  · rename_i c cs hs ha
    injection h with h; subst h
    obtain ⟨b, off, rfl, hat⟩ := src_cells hs hm hx
    obtain ⟨⟨v, hv, hp⟩, _⟩ := hat
    exact ⟨v, by simp [Instr.loadAt, Instr.sureAddr, loadVar, run_isAgg ha, hv], hp⟩
  · cases h
theorem len_ok {t : TypeId} {ts : Array TypeId} {x pv : PV} (ht : ts[0]? = some t) (h : aLen P t x = some pv) {vx : Value} (hx : VRel φ w x vx) (ty : TypeId) : ∃ v, (Builtin.len_ ts ty #[vx]).run P w = .ok v w ∧ VRel φ w pv v := by
  unfold aLen at h
  split at h
  · rename_i e id sz off len cs hu
    injection h with h; subst h
    obtain ⟨_, a, cap, rfl, _⟩ := hx
    exact ⟨_, by simp [Builtin.len_, ht, run_underlying hu, goInt], rfl⟩
  · rename_i e hu
    injection h with h; subst h
    simp only [VRel] at hx
    subst hx
    exact ⟨_, by simp [Builtin.len_, ht, run_underlying hu, goInt], rfl⟩
  · rename_i e len hu
    injection h with h; subst h
    obtain ⟨a, cap, rfl⟩ := hx
    exact ⟨_, by simp [Builtin.len_, ht, run_underlying hu, goInt], rfl⟩
  · rename_i b hu
    injection h with h; subst h
    simp only [VRel] at hx
    subst hx
    exact ⟨_, by simp [Builtin.len_, ht, run_underlying hu, goInt], rfl⟩
  · rename_i nn e hu
    injection h with h; subst h
    exact ⟨_, by simp [Builtin.len_, ht, run_underlying hu, goInt], rfl⟩
  · cases h
theorem mm_ok {l : List PV} {pv : PV} {vs : List Value} (hv : VRelL φ w l vs) (ts : Array TypeId) (ty : TypeId) :
    (aMin l = some pv → ∃ v, (Builtin.min_ ts ty vs.toArray).run P w = .ok v w ∧ VRel φ w pv v) ∧ (aMax l = some pv → ∃ v, (Builtin.max_ ts ty vs.toArray).run P w = .ok v w ∧ VRel φ w pv v) := by
  constructor
  · intro h
    unfold aMin at h
    split at h
    · split at h
      · rename_i k a k' b hk
        subst hk
        injection h with h; subst h
        obtain ⟨v1, vs1, rfl, h1, v2, vs2, rfl, h2, h3⟩ := hv
        simp only [VRelL] at h3; subst h3
        rw [rel_int h1, rel_int h2]
        exact ⟨_, by simp [Builtin.min_, Builtin.min2], rfl⟩
      · cases h
    · cases h
  · intro h
    unfold aMax at h
    split at h
    · split at h
      · rename_i k a k' b hk
        subst hk
        injection h with h; subst h
        obtain ⟨v1, vs1, rfl, h1, v2, vs2, rfl, h2, h3⟩ := hv
        simp only [VRelL] at h3; subst h3
        rw [rel_int h1, rel_int h2]
        exact ⟨_, by simp [Builtin.max_, Builtin.max2], rfl⟩
      · cases h
    · cases h
theorem heap_alloc_lt (w : World) (o : Obj) (b : Nat) (h : b < w.heap.size) : (w.alloc o).heap[b]? = w.heap[b]? := Below.heap_alloc w o b h
def Phi.withBox (φ : Phi) (i b : Nat) : Phi := { φ with box := fun j => if j = i then some b else φ.box j }
def Phi.withArr (φ : Phi) (i b : Nat) : Phi := { φ with arr := fun j => if j = i then some b else φ.arr j }
theorem arr_lt (hm : MRel φ m w) {i b : Nat} (h : φ.arr i = some b) : b < w.heap.size := by
  exact (hm.arr i b h).2.lt
theorem box_lt (hm : MRel φ m w) {i b : Nat} (h : φ.box i = some b) : b < w.heap.size := by
  obtain ⟨cs, e, hh, _⟩ := hm.has h
  exact (Array.getElem?_eq_some_iff.1 hh).1
structure Grows (w w' : World) : Prop where
  os : w'.os = w.os
  tape : w'.tape = w.tape
  output : w'.output = w.output
  size : w'.heap.size = w.heap.size + 1
  old : ∀ b, b < w.heap.size → w'.heap[b]? = w.heap[b]?
theorem Grows.alloc (w : World) (o : Obj) : Grows w (w.alloc o) := ⟨rfl, rfl, rfl, by simp, fun b hb => heap_alloc_lt w o b hb⟩
theorem Grows.drew_alloc (w : World) (o : Obj) : Grows w (w.drew.alloc o) := ⟨rfl, rfl, rfl, by simp, fun b hb => heap_alloc_lt w.drew o b hb⟩
theorem keeps_grow {φ' : Phi} {w' : World} (hg : Grows w w') (hm : MRel φ m w) (hb : ∀ i b, φ.box i = some b → φ'.box i = some b) (ha : ∀ i b, φ.arr i = some b → φ'.arr i = some b)
    (hn : ∀ b, φ'.own b → φ.own b ∨ b = w.heap.size) : Keeps φ w φ' w' :=
  ⟨hb, ha, fun b hlt ho h => by
    rcases hn b h with h | h
    · exact ho h
    · omega, by have := hg.size; omega, fun i b h => hg.old b (arr_lt hm h), fun b hlt _ => hg.old b hlt⟩
theorem step_of_keeps {φ' : Phi} {w' : World} (hg : Grows w w') (k : Keeps φ w φ' w') : Step φ w φ' w' [] :=
  ⟨fun q c h => VRel.keeps k q c h, hg.os, hg.tape, hg.output, by have := hg.size; omega, fun b hlt ho _ => ⟨k.rest b hlt ho, k.imm b hlt ho⟩⟩
theorem rcs_grow {w' : World} (hg : Grows w w') (hm : MRel φ m w) : ∀ l o, (l, o) ∈ m.rc → w'.heap[l]? = some (.loop o) := fun l o h =>
  (hg.old l (Array.getElem?_eq_some_iff.1 (hm.rcs l o h)).1).trans (hm.rcs l o h)
theorem brel_keeps {φ' : Phi} {w' : World} (k : Keeps φ w φ' w') {c : BoxC} {vs : List Value} (h : BRel φ w c vs) : BRel φ' w' c vs := by
  cases c with
  | cells l => exact VRelL.keeps k l vs h
  | inv I => obtain ⟨l, h1, h2, h4, h3⟩ := h; exact ⟨l, h1, h2, h4, VRelL.keeps k l vs h3⟩
  | hole => exact h.elim
theorem own_withBox {i b c : Nat} (h : (φ.withBox i b).own c) : φ.own c ∨ c = b := by
  rcases h with ⟨j, hj⟩ | h
  · simp only [Phi.withBox] at hj
    split at hj
    · exact .inr (Option.some.inj hj).symm
    · exact .inl (.inl ⟨j, hj⟩)
  · exact .inl (.inr h)
theorem own_withArr {i b c : Nat} (h : (φ.withArr i b).own c) : φ.own c ∨ c = b := by
  rcases h with h | ⟨j, hj⟩
  · exact .inl (.inl h)
  · simp only [Phi.withArr] at hj
    split at hj
    · exact .inr (Option.some.inj hj).symm
    · exact .inl (.inr ⟨j, hj⟩)
theorem box_new (hm : MRel φ m w) {w' : World} (hg : Grows w w') {l : List PV} {cs : List Value} {e : TypeId} (hnew : w'.heap[w.heap.size]? = some (.cells cs.toArray e (0, 0))) (hl : VRelL φ w l cs) :
    Keeps φ w (φ.withBox m.n w.heap.size) w' ∧ MRel (φ.withBox m.n w.heap.size) ⟨updB m.β m.n (.cells l), m.n + 1, m.an, m.rc⟩ w' := by
  have k : Keeps φ w (φ.withBox m.n w.heap.size) w' := by
    refine keeps_grow hg hm (fun i b h => ?_) (fun i b h => h) (fun b h => own_withBox h)
    simp only [Phi.withBox]
    split
    · rename_i hi
      subst hi
      rw [hm.boxn m.n (Nat.le_refl _)] at h; cases h
    · exact h
  refine ⟨k, ⟨fun i hi => ?_, fun i hi => ?_, fun i b h => ?_, fun i j b h1 h2 => ?_, fun i j b h1 h2 => hm.arrinj i j b h1 h2, fun i j b h1 h2 => ?_, rcs_grow (m := m) hg hm⟩⟩
  · by_cases hin : i = m.n
    · subst hin
      exact .inr ⟨w.heap.size, cs.toArray, e, by simp [Phi.withBox], hnew, by simp only [updB, if_true]; exact VRelL.keeps k l cs hl⟩
    · rcases hm.box i (by simp only at hi; omega) with ⟨h1, h2⟩ | ⟨b, cur, e', hb, hh, hr⟩
      · exact .inl ⟨by simpa [updB, hin] using h1, by simpa [Phi.withBox, hin] using h2⟩
      exact .inr ⟨b, cur, e', by simp [Phi.withBox, hin, hb], (hg.old b (box_lt hm hb)).trans hh, by simpa [updB, hin] using brel_keeps k hr⟩
  · simp only at hi
    simp only [Phi.withBox]
    rw [if_neg (by omega)]
    exact hm.boxn i (by omega)
  · obtain ⟨h1, h2⟩ := hm.arr i b h
    exact ⟨h1, h2.of_eq (hg.old b (arr_lt hm h))⟩
  · simp only [Phi.withBox] at h1 h2
    split at h1 <;> split at h2
    · omega
    · have hb := Option.some.inj h1; subst hb; exact absurd (box_lt hm h2) (by omega)
    · have hb := Option.some.inj h2; subst hb; exact absurd (box_lt hm h1) (by omega)
    · exact hm.boxinj i j b h1 h2
  · simp only [Phi.withBox] at h1
    split at h1
    · have hb := Option.some.inj h1; subst hb; exact absurd (arr_lt hm h2) (by omega)
    · exact hm.sep i j b h1 h2
theorem arr_new (hm : MRel φ m w) {w' : World} (hg : Grows w w') {l : List PV} {cur : Array Value} {e : TypeId} {sz len cap : Nat} (hnew : w'.heap[w.heap.size]? = some (.cells cur e (0, 0)))
    (hlen : l.length = len * sz) (hcap : len ≤ cap) (hsz : cur.size = cap * sz) {vs : List Value} (hl : VRelL φ w l vs) (hvs : ∀ (j : Nat) v, vs[j]? = some v → cur[j]? = some v) :
    Keeps φ w (φ.withArr m.an w.heap.size) w' ∧ MRel (φ.withArr m.an w.heap.size) ⟨m.β, m.n, m.an + 1, m.rc⟩ w' ∧
      VRel (φ.withArr m.an w.heap.size) w' (.sl (some m.an) sz 0 len l) (.slice (some ⟨w.heap.size, 0, none⟩) len cap) := by
  have hold : ∀ i b, φ.arr i = some b → i ≠ m.an := fun i b h e => by have := (hm.arr i b h).1; omega
  have k : Keeps φ w (φ.withArr m.an w.heap.size) w' := by
    refine keeps_grow hg hm (fun i b h => h) (fun i b h => ?_) (fun b h => own_withArr h)
    simp only [Phi.withArr]
    rw [if_neg (hold i b h)]
    exact h
  refine ⟨k, ⟨fun i hi => ?_, fun i hi => hm.boxn i hi, fun i b h => ?_, fun i j b h1 h2 => hm.boxinj i j b h1 h2, fun i j b h1 h2 => ?_, fun i j b h1 h2 => ?_, rcs_grow (m := m) hg hm⟩, ?_⟩
  · rcases hm.box i hi with h | ⟨b, cur, e', hb, hh, hr⟩
    · exact .inl h
    exact .inr ⟨b, cur, e', hb, (hg.old b (box_lt hm hb)).trans hh, brel_keeps k hr⟩
  · simp only [Phi.withArr] at h
    split at h
    · have hb := Option.some.inj h
      subst hb
      exact ⟨by simp only; omega, AO.cells hnew⟩
    · obtain ⟨h1, h2⟩ := hm.arr i b h
      exact ⟨by simp only; omega, h2.of_eq (hg.old b (arr_lt hm h))⟩
  · simp only [Phi.withArr] at h1 h2
    split at h1 <;> split at h2
    · omega
    · have hb := Option.some.inj h1; subst hb; exact absurd (arr_lt hm h2) (by omega)
    · have hb := Option.some.inj h2; subst hb; exact absurd (arr_lt hm h1) (by omega)
    · exact hm.arrinj i j b h1 h2
  · simp only [Phi.withArr] at h2
    split at h2
    · have hb := Option.some.inj h2; subst hb; exact absurd (box_lt hm h1) (by omega)
    · exact hm.sep i j b h1 h2
  · refine ⟨hlen, _, cap, rfl, hcap, .inr ⟨w.heap.size, rfl, ⟨by simp [Phi.withArr], cur, e, hnew, by omega⟩, vrelAt_mk fun j p hj => ?_⟩⟩
    obtain ⟨v, hv, hp⟩ := vrelL_get hl hj
    exact ⟨v, by simp only [World.cell?, hnew]; simpa using hvs j v hv, VRel.keeps k p v hp⟩
theorem rel_cells {pv : PV} {v : Value} (h : VRel φ w pv v) (hk : pv.known = true) : VRelL φ w pv.cells v.cells.toList := by
  have one : ∀ u : Value, v = u → u.cells = #[u] → pv.cells = [pv] → VRelL φ w pv.cells v.cells.toList := fun u e hu hp => by
    subst e
    rw [hu, hp]
    exact ⟨_, [], rfl, h, rfl⟩
  cases pv with
  | bad => cases hk
  | agg cs =>
    obtain ⟨vs, rfl, hvs⟩ := h
    simpa [PV.cells, Value.cells] using hvs
  | sl id sz off len cs => obtain ⟨_, a, cap, e, _⟩ := h; exact one _ e rfl rfl
  | eref id off cs => obtain ⟨b, e, _⟩ := h; exact one _ e rfl rfl
  | fn f caps => obtain ⟨vs, e, _⟩ := h; exact one _ e rfl rfl
  | tup cs => obtain ⟨vs, e, _⟩ := h; exact one _ e rfl rfl
  | dead len => obtain ⟨a, cap, e⟩ := h; exact one _ e rfl rfl
  | ptr i o => obtain ⟨b, _, e⟩ := h; exact one _ e rfl rfl
  | mp it id sz cs => obtain ⟨b, e, _⟩ := h; cases it <;> exact one _ e rfl rfl
  | _ => exact one _ h rfl rfl
theorem rel_one {pv : PV} {v : Value} (h : VRel φ w pv v) (hk : pv.one = true) : v.oneCell' = true := by
  cases pv with
  | bad | undef | agg | tup => cases hk
  | sl id sz off len cs => obtain ⟨_, a, cap, rfl, _⟩ := h; rfl
  | eref id off cs => obtain ⟨b, rfl, _⟩ := h; rfl
  | fn f caps => obtain ⟨vs, rfl, _⟩ := h; rfl
  | dead len => obtain ⟨a, cap, rfl⟩ := h; rfl
  | ptr i o => obtain ⟨b, _, rfl⟩ := h; rfl
  | mp it id sz cs => obtain ⟨b, rfl, _⟩ := h; cases it <;> rfl
  | _ => (simp only [VRel] at h; subst h; rfl)
theorem relL_one {l : List PV} {vs : List Value} (h : VRelL φ w l vs) (hk : l.all PV.one = true) : ∀ v ∈ vs, v.oneCell' = true := by
  intro v hv
  obtain ⟨j, hj, rfl⟩ := List.getElem_of_mem hv
  obtain ⟨hl, hg⟩ := vrelL_iff.1 h
  have hjl : j < l.length := by omega
  exact rel_one (hg j l[j] vs[j] (by simp) (by simp)) (List.all_eq_true.1 hk _ (List.getElem_mem hjl))
theorem good_box {o : Oper} (ho : ∀ c, o.op ≠ .defer c) (h : SRel φ w N s a) (hst : Anch A φ w s.eff) (hd : ∀ t, o.dst = some t → t < N) {e : TypeId} {cs : List Value} {l : List PV}
    (hr : (execOp a.eval o).run P w = .ok (.value (.pointer (some ⟨w.heap.size, 0, none⟩))) (w.alloc (.cells cs.toArray e))) (hl : VRelL φ w l cs) (hK : K (s.newBox o.dst l)) :
    o.wpIn (Fr r) n P a w (Good A N a.defers K) Q := by
  refine wpIn_of_run ho ?_
  rw [hr]
  have hg := Grows.alloc w (.cells cs.toArray e)
  obtain ⟨k, hm⟩ := box_new h.mem hg (e := e) (heap_alloc_new w _) hl
  refine ⟨s.newBox o.dst l, φ.withBox s.m.n w.heap.size, ?_, ?_, put_defers _ _ _, hK⟩
  · have h1 : SRel (φ.withBox s.m.n w.heap.size) (w.alloc (.cells cs.toArray e)) N { s with m := ⟨updB s.m.β s.m.n (.cells l), s.m.n + 1, s.m.an, s.m.rc⟩ } a :=
      ⟨fun t => VRel.keeps k _ _ (h.tmp t), h.size, hm⟩
    exact h1.put hd ⟨w.heap.size, by simp [Phi.withBox], rfl⟩
  · rw [St.newBox_eff]
    have := hst.trans (step_of_keeps hg k)
    simpa using this
theorem good_arr {o : Oper} (ho : ∀ c, o.op ≠ .defer c) (h : SRel φ w N s a) (hst : Anch A φ w s.eff) (hd : ∀ t, o.dst = some t → t < N) {w' : World} (hg : Grows w w') {e : TypeId} {cur : Array Value} {l : List PV}
    {sz len cap : Nat} (hr : (execOp a.eval o).run P w = .ok (.value (.slice (some ⟨w.heap.size, 0, none⟩) len cap)) w') (hnew : w'.heap[w.heap.size]? = some (.cells cur e (0, 0)))
    (hlen : l.length = len * sz) (hcap : len ≤ cap) (hsz : cur.size = cap * sz) {vs : List Value} (hl : VRelL φ w l vs) (hvs : ∀ (j : Nat) v, vs[j]? = some v → cur[j]? = some v)
    (hK : K (s.newArr o.dst sz len l)) : o.wpIn (Fr r) n P a w (Good A N a.defers K) Q := by
  refine wpIn_of_run ho ?_
  rw [hr]
  obtain ⟨k, hm, hv⟩ := arr_new h.mem hg hnew hlen hcap hsz hl hvs
  refine ⟨s.newArr o.dst sz len l, φ.withArr s.m.an w.heap.size, ?_, ?_, put_defers _ _ _, hK⟩
  · have h1 : SRel (φ.withArr s.m.an w.heap.size) w' N { s with m := ⟨s.m.β, s.m.n, s.m.an + 1, s.m.rc⟩ } a := ⟨fun t => VRel.keeps k _ _ (h.tmp t), h.size, hm⟩
    exact h1.put hd hv
  · rw [St.newArr_eff]
    have := hst.trans (step_of_keeps hg k)
    simpa using this
theorem vrelL_splice {l vsp : List PV} {cs vs : List Value} (h : VRelL φ w l cs) (k : VRelL φ w vsp vs) (off : Nat) :
    VRelL φ w (splice l off vsp) (cs.take off ++ vs ++ cs.drop (off + vs.length)) := by
  have htake : VRelL φ w (l.take off) (cs.take off) := by
    rw [vrelL_iff] at h ⊢
    refine ⟨by simp [h.1], fun j p v hj hv => ?_⟩
    rw [List.getElem?_take] at hj hv
    split at hj
    · rename_i hlt; rw [if_pos hlt] at hv; exact h.2 j p v hj hv
    · cases hj
  have hdrop : VRelL φ w (l.drop (off + vsp.length)) (cs.drop (off + vs.length)) := by
    rw [← vrelL_length k]
    rw [vrelL_iff] at h ⊢
    refine ⟨by simp [h.1], fun j p v hj hv => ?_⟩
    rw [List.getElem?_drop] at hj hv
    exact h.2 _ p v hj hv
  exact vrelL_append (vrelL_append htake k) hdrop
theorem setRow_size (w : World) (g : Nat) (cs : Array Value) : (w.setRow g cs).heap.size = w.heap.size := by simp [World.setRow]
theorem store_box {t : TypeId} {id off : Nat} {l : List PV} {pv : PV} {v vx : Value} (hi : (P.info? t).isSome) (hc : pv.cells.length = P.cellsOf t) (h1 : pv.cells.all PV.one = true)
    (hm : MRel φ m w) (hid : id < m.n) (hβ : m.β id = .cells l) (hf : off + pv.cells.length ≤ l.length) (hx : VRel φ w (.ptr id off) vx) (hv : VRel φ w pv v) (hk : pv.known = true) :
    ∃ w', (Instr.storeAt t vx v).run P w = .ok () w' ∧ MRel φ ⟨updB m.β id (.cells (splice l off pv.cells)), m.n, m.an, m.rc⟩ w' ∧ Step φ w φ w' [] := by
  obtain ⟨b, hb, rfl⟩ := hx
  obtain ⟨b', cur, e, hb', hh, hr⟩ := hm.cells hid (by rw [hβ]; simp)
  have : b' = b := by rw [hb] at hb'; exact (Option.some.inj hb').symm
  subst this
  rw [hβ] at hr
  have hvc := rel_cells hv hk
  have hlen := vrelL_length hvc
  have hcur : l.length = cur.size := by simpa using vrelL_length hr
  have hst := run_storeCells_at P b' off e v.cells.toList 0 cur w hh (by rw [← hlen]; omega) (relL_one hvc h1)
  have hlt := box_lt hm hb
  have hsz : v.cells.size = P.cellsOf t := by rw [← hc, hlen]; simp
  obtain ⟨w', hw'⟩ : ∃ w', w' = w.setRow b' (cur.toList.take (off + 0) ++ v.cells.toList ++ cur.toList.drop (off + 0 + v.cells.toList.length)).toArray := ⟨_, rfl⟩
  rw [← hw'] at hst
  have hother : ∀ k, k ≠ b' → w'.heap[k]? = w.heap[k]? := fun k hk => by rw [hw']; exact setRow_other w b' k _ hk
  have k : Keeps φ w φ w' := by
    refine ⟨fun _ _ h => h, fun _ _ h => h, fun _ _ h => h, by rw [hw', setRow_size]; exact Nat.le_refl _, fun i c hc => hother c (fun e => hm.sep id i c (by rw [e]; exact hb) hc), fun c _ ho => hother c (fun e => ho (.inl ⟨id, by rw [e]; exact hb⟩))⟩
  refine ⟨w', ?_, ⟨fun i hi => ?_, hm.boxn, fun i c hc => ?_, hm.boxinj, hm.arrinj, hm.sep, fun l o h => (hother l (fun e => by have := hm.rcs l o h; rw [e, hh] at this; cases this)).trans (hm.rcs l o h)⟩, ?_⟩
  · simp [Instr.storeAt, Instr.sureAddr, storeVar, hsz, run_sizeOf hi, hst]
  · by_cases hii : i = id
    · subst hii
      refine .inr ⟨b', _, e, hb, by rw [hw']; exact setRow_heap w b' cur _ e _ hh, ?_⟩
      simp only [updB, if_true, BRel, Nat.add_zero]
      have := vrelL_splice (VRelL.keeps k _ _ hr) (VRelL.keeps k _ _ hvc) off
      simpa using this
    · rcases hm.box i hi with ⟨g1, g2⟩ | ⟨c, cur', e', hc', hh', hr'⟩
      · exact .inl ⟨by simpa [updB, hii] using g1, g2⟩
      refine .inr ⟨c, cur', e', hc', (hother c (fun e => hii (hm.boxinj i id c hc' (by rw [e]; exact hb)))).trans hh', ?_⟩
      simp only [updB, hii, if_false]
      exact brel_keeps k hr'
  · obtain ⟨h1, h2⟩ := hm.arr i c hc
    exact ⟨h1, h2.of_eq (hother c (fun e => hm.sep id i c (by rw [e]; exact hb) hc))⟩
  · exact ⟨fun q c h => VRel.keeps k q c h, by rw [hw']; rfl, by rw [hw']; rfl, by rw [hw']; rfl, by rw [hw', setRow_size]; exact Nat.le_refl _, fun c hlt ho _ => ⟨k.rest c hlt ho, ho⟩⟩
end
end Go.Proofs.Ytlminnpaeaganaa
