/- Plain laws of rulings. No condition. -/
import Derived.Test.YtlminnpaeaganaaMTab
namespace Go.Proofs.Ytlminnpaeaganaa
open Go Go.RowKit
set_option linter.unusedVariables false
set_option linter.unusedSimpArgs false
set_option maxRecDepth 100000
section
variable {P : Program} {C : Orc → FuncId → List PV → Option PV} {n : Nat} {R : Out → Prop} {ρ : List PV}
@[simp] theorem run_prim {p : Prim} {t : Tree} : Run P C n (.prim p t) ρ R ↔ ∃ v, p.run P ρ = some v ∧ Run P C n t (ρ ++ [v]) R := by
  refine ⟨fun h => h.prim, fun ⟨v, h, k⟩ ω => ?_⟩
  obtain ⟨o, ho, hR⟩ := k ω
  exact ⟨o, by simp only [eval, h]; exact ho, hR⟩
@[simp] theorem run_ret {v : PE} : Run P C n (.ret v) ρ R ↔ R (.val (v.den ρ)) := by
  refine ⟨fun h => ?_, fun h ω => ⟨_, rfl, h⟩⟩
  obtain ⟨o, ho, hR⟩ := h orc0
  simp only [eval, Option.some.injEq] at ho
  subst ho; exact hR
@[simp] theorem run_jump {L : Nat} {l : List PE} : Run P C n (.jump L l) ρ R ↔ R (.jump L (denL ρ l)) := by
  refine ⟨fun h => ?_, fun h ω => ⟨_, rfl, h⟩⟩
  obtain ⟨o, ho, hR⟩ := h orc0
  simp only [eval, Option.some.injEq] at ho
  subst ho; exact hR
def PIf (x : Bool) (A B : Prop) : Prop := (x = true → A) ∧ (x = false → B)
theorem pif {x : Bool} {A B : Prop} (h : x = true → A) (k : x = false → B) : PIf x A B := ⟨h, k⟩
@[simp] theorem pif_true {A B : Prop} : PIf true A B ↔ A := by simp [PIf]
@[simp] theorem pif_false {A B : Prop} : PIf false A B ↔ B := by simp [PIf]
def PIfV (v : PV) (A B : Prop) : Prop := (v = .bool true ∧ A) ∨ (v = .bool false ∧ B)
@[simp] theorem pifv_bool {b : Bool} {A B : Prop} : PIfV (.bool b) A B ↔ PIf b A B := by cases b <;> simp [PIfV, PIf]
@[simp] theorem run_ite {c : SE} {a b : Tree} : Run P C n (.ite c a b) ρ R ↔ PIfV (c.den ρ) (Run P C n a ρ R) (Run P C n b ρ R) := by
  refine ⟨fun h => h.ite, fun h ω => ?_⟩
  rcases h with ⟨h, k⟩ | ⟨h, k⟩
  · obtain ⟨o, ho, hR⟩ := k ω
    exact ⟨o, by simp only [eval, h]; exact ho, hR⟩
  · obtain ⟨o, ho, hR⟩ := k ω
    exact ⟨o, by simp only [eval, h]; exact ho, hR⟩
theorem mk_call {g : FuncId} {args : List PE} {t : Tree} {Q : PV → Prop} (h : ∀ ω, ∃ v, C ω g (denL ρ args) = some v ∧ Q v) (k : ∀ v, Q v → Run P C n t (ρ ++ [v]) R) : Run P C n (.call g args t) ρ R := by
  intro ω
  obtain ⟨v, h1, h2⟩ := h ω.l
  obtain ⟨o, ho, hR⟩ := k v h2 ω.r
  exact ⟨o, by simp only [eval, h1]; exact ho, hR⟩
theorem mk_callv {f : SE} {g : FuncId} {caps : List PV} {args : List PE} {t : Tree} {Q : PV → Prop} (hf : f.den ρ = .fn g caps) (h : ∀ ω, ∃ v, C ω g (denL ρ args ++ caps) = some v ∧ Q v) (k : ∀ v, Q v → Run P C n t (ρ ++ [v]) R) : Run P C n (.callv f args t) ρ R := by
  intro ω
  obtain ⟨v, h1, h2⟩ := h ω.l
  obtain ⟨o, ho, hR⟩ := k v h2 ω.r
  exact ⟨o, by simp only [eval, hf, h1]; exact ho, hR⟩
theorem mk_join {L : Nat} {b k : Tree} (J : List PV → Prop) (h : Run P C n b ρ (atL L J R)) (hk : ∀ vs, J vs → Run P C n k (ρ ++ vs) R) : Run P C n (.join L b k) ρ R := by
  intro ω
  obtain ⟨o, ho, hR⟩ := h ω.l
  cases o with
  | val v => exact ⟨_, by simp only [eval, ho], hR⟩
  | jump L' vs =>
    by_cases e : L' = L
    · subst e
      simp only [atL, if_true] at hR
      obtain ⟨o', ho', hR'⟩ := hk vs hR ω.r
      exact ⟨o', by simp only [eval, ho, if_true]; exact ho', hR'⟩
    · simp only [atL, if_neg e] at hR
      exact ⟨_, by simp only [eval, ho, if_neg e], hR⟩
theorem mk_loop {L : Nat} {init : List PE} {b : Tree} (I : Nat → List PV → Prop) (N : Nat) (hN : N < n) (h0 : I N (denL ρ init)) (hs : ∀ j vs, I j vs → Run P C n b (ρ ++ vs) (atL L (fun vs' => ∃ j', j' < j ∧ I j' vs') R)) : Run P C n (.loop L init b) ρ R := by
  have key : ∀ k j vs, j < k → I j vs → ∀ ω, ∃ o, iter (fun ω vs => eval P C n b ω (ρ ++ vs)) L k ω vs = some o ∧ R o := by
    intro k
    induction k with
    | zero => intro j vs h; omega
    | succ k ih =>
      intro j vs hj hI ω
      obtain ⟨o, ho, hR⟩ := hs j vs hI ω.l
      cases o with
      | val v => exact ⟨_, by simp only [iter, ho], hR⟩
      | jump L' vs' =>
        by_cases e : L' = L
        · subst e
          simp only [atL, if_true] at hR
          obtain ⟨j', hlt, hI'⟩ := hR
          obtain ⟨o', ho', hR'⟩ := ih j' vs' (by omega) hI' ω.r
          exact ⟨o', by simp only [iter, ho, if_true]; exact ho', hR'⟩
        · simp only [atL, if_neg e] at hR
          exact ⟨_, by simp only [iter, ho, if_neg e], hR⟩
  intro ω
  obtain ⟨o, ho, hR⟩ := key n N _ hN h0 ω
  exact ⟨o, by simp only [eval]; exact ho, hR⟩
@[simp] theorem atL_same {L : Nat} {J : List PV → Prop} {vs : List PV} : atL L J R (.jump L vs) ↔ J vs := by simp [atL]
theorem atL_other {L L' : Nat} {J : List PV → Prop} {vs : List PV} (h : L' ≠ L) : atL L J R (.jump L' vs) ↔ R (.jump L' vs) := by simp [atL, h]
@[simp] theorem atL_val {L : Nat} {J : List PV → Prop} {v : PV} : atL L J R (.val v) ↔ R (.val v) := by simp [atL]
end
def Ev (k : Nat) (g : FuncId) (args : List PV) (Q : PV → Prop) : Prop := ∀ ω, ∃ v, E Try.prog k ω g args = some v ∧ Q v
theorem Ev.mono {k : Nat} {g : FuncId} {args : List PV} {Q Q' : PV → Prop} (h : Ev k g args Q) (hq : ∀ v, Q v → Q' v) : Ev k g args Q' := fun ω => by
  obtain ⟨v, h1, h2⟩ := h ω
  exact ⟨v, h1, hq v h2⟩
theorem ev_of {k : Nat} {g : FuncId} {args : List PV} {t : Tree} {fn : Func} {Q : PV → Prop} (ht : tab g = some t) (hf : Try.prog.funcs[g]? = some fn) (hfit : fitArgs (flagsOf 31 fn) args = true) (h : Run Try.prog (E Try.prog k) 4096 t args fun o => ∃ v, o = .val v ∧ v.plain = true ∧ Q v) : Ev (k + 1) g args Q := by
  intro ω
  obtain ⟨o, ho, v, rfl, hp, hQ⟩ := h ω
  refine ⟨v, ?_, hQ⟩
  unfold E
  simp only [evalF, ht, hf, hfit, if_true]
  have h' : eval Try.prog (evalF Try.prog 31 tab rollC 4096 k) 4096 t ω args = some (.val v) := ho
  rw [h']
  simp [hp]
attribute [simp] Prim.run PE.den SE.den denL projV extV aggV oneV lencV chkV getV putV pushV mkV mmV derefV aTail List.getD_cons_succ List.getD_cons_zero
@[simp] theorem one_int {k : IntKind} {x : Int} : (PV.int k x).one = true := rfl
@[simp] theorem one_bool {b : Bool} : (PV.bool b).one = true := rfl
@[simp] theorem one_snil : PV.snil.one = true := rfl
@[simp] theorem one_sl {id : Option Nat} {a b c : Nat} {l : List PV} : (PV.sl id a b c l).one = true := rfl
@[simp] theorem one_fn {f : FuncId} {l : List PV} : (PV.fn f l).one = true := rfl
@[simp] theorem one_agg {l : List PV} : (PV.agg l).one = false := rfl
@[simp] theorem plain_int {k : IntKind} {x : Int} : (PV.int k x).plain = true := by simp [PV.plain]
@[simp] theorem plain_bool {b : Bool} : (PV.bool b).plain = true := by simp [PV.plain]
@[simp] theorem plain_snil : PV.snil.plain = true := by simp [PV.plain]
@[simp] theorem plain_sl {a b c : Nat} {l : List PV} : (PV.sl none a b c l).plain = plainC l := by simp [PV.plain]
@[simp] theorem plain_agg {l : List PV} : (PV.agg l).plain = plainC l := by simp [PV.plain]
@[simp] theorem plain_tup {l : List PV} : (PV.tup l).plain = plainT l := by simp [PV.plain]
@[simp] theorem plain_fn {f : FuncId} {l : List PV} : (PV.fn f l).plain = plainC l := by simp [PV.plain]
@[simp] theorem plain_eref {o : Nat} {l : List PV} : (PV.eref none o l).plain = plainC l := by simp [PV.plain]
attribute [simp] plainC plainT
abbrev iv (n : Int) : PV := .int .i64 n
abbrev bv (b : Bool) : PV := .bool b
section
variable {P : Program} {t : TypeId} {k : IntKind} {a b : Int}
@[simp] theorem aBin_add : aBin P .add t (.int k a) (.int k b) = some (.int k (k.wrap (a + b))) := by simp [aBin]
@[simp] theorem aBin_sub : aBin P .sub t (.int k a) (.int k b) = some (.int k (k.wrap (a - b))) := by simp [aBin]
@[simp] theorem aBin_mul : aBin P .mul t (.int k a) (.int k b) = some (.int k (k.wrap (a * b))) := by simp [aBin]
@[simp] theorem aBin_eql : aBin P .eql t (.int k a) (.int k b) = some (.bool (decide (a = b))) := by simp [aBin]
@[simp] theorem aBin_neq : aBin P .neq t (.int k a) (.int k b) = some (.bool (decide (a ≠ b))) := by simp [aBin]
@[simp] theorem aBin_lss : aBin P .lss t (.int k a) (.int k b) = some (.bool (decide (a < b))) := by simp [aBin]
@[simp] theorem aBin_leq : aBin P .leq t (.int k a) (.int k b) = some (.bool (decide (a ≤ b))) := by simp [aBin]
@[simp] theorem aBin_gtr : aBin P .gtr t (.int k a) (.int k b) = some (.bool (decide (b < a))) := by simp [aBin]
@[simp] theorem aBin_geq : aBin P .geq t (.int k a) (.int k b) = some (.bool (decide (b ≤ a))) := by simp [aBin]
theorem aBin_rem (h : b ≠ 0) : aBin P .rem t (.int k a) (.int k b) = some (.int k (a.tmod b)) := by simp [aBin, h]
theorem aBin_quo (h : b ≠ 0) : aBin P .quo t (.int k a) (.int k b) = some (.int k (k.wrap (a.tdiv b))) := by simp [aBin, h]
@[simp] theorem aUn_not {x : Bool} : aUn .not (.bool x) = some (.bool !x) := rfl
end
theorem wrap64 {n : Int} (h1 : -9223372036854775808 ≤ n) (h2 : n ≤ 9223372036854775807) : IntKind.i64.wrap n = n := by
  simp [IntKind.wrap, IntKind.bits, IntKind.signed]
  omega
theorem wrapU64 {n : Int} (h1 : 0 ≤ n) (h2 : n < 18446744073709551616) : IntKind.u64.wrap n = n := by
  simp [IntKind.wrap, IntKind.bits, IntKind.signed]
  omega
def IL (x : PV) (l : List Int) : Prop := (x = .snil ∧ l = []) ∨ ∃ off, x = .sl none 1 off l.length (l.map iv)
theorem ints_plain (l : List Int) : plainC (l.map iv) = true := by
  induction l with
  | nil => rfl
  | cons a l ih => simp [plainC, PV.plain, ih]
theorem IL.plain {x : PV} {l : List Int} (h : IL x l) : x.plain = true ∧ x.one = true := by
  rcases h with ⟨rfl, _⟩ | ⟨off, rfl⟩
  · exact ⟨rfl, rfl⟩
  · exact ⟨by simp only [PV.plain]; exact ints_plain l, rfl⟩
theorem unL' : Try.prog.underlying 25 = some (.slice 3) := by kernel_rfl
theorem IL.len {x : PV} {l : List Int} (h : IL x l) : aLen Try.prog 25 x = some (iv l.length) := by
  rcases h with ⟨rfl, rfl⟩ | ⟨off, rfl⟩ <;> simp [aLen, unL']
theorem row1 {x : PV} {l : List Int} (h : IL x l) {i : Int} {k : IntKind} (h0 : 0 ≤ i) (h1 : i < l.length) : rowV 1 x (.int k i) = some (.agg [iv (l.getD i.toNat 0)]) := by
  rcases h with ⟨rfl, rfl⟩ | ⟨off, rfl⟩
  · simp at h1; omega
  · have hlt : i.toNat < l.length := by omega
    have e : ((l.map iv).drop (i.toNat * 1)).take 1 = [iv (l.getD i.toNat 0)] := by
      rw [Nat.mul_one, List.drop_eq_getElem_cons (by simpa using hlt)]
      simp [List.getD_eq_getElem?_getD, hlt]
    simp only [rowV]
    rw [if_pos ⟨h0, h1, trivial, by rw [e]; rfl⟩, e]
end Go.Proofs.Ytlminnpaeaganaa
namespace Go.Proofs.Ytlminnpaeaganaa
open Go Go.RowKit
set_option linter.unusedVariables false
set_option linter.unusedSimpArgs false
set_option maxRecDepth 100000
theorem unU64 : Try.prog.underlying 87 = some (.int .u64) := by kernel_rfl
theorem unInt : Try.prog.underlying 3 = some (.int .i64) := by kernel_rfl
abbrev dv : PV := .ptr 0 0
theorem ev66 (k : Nat) : Ev (k + 1) 66 [dv] fun v => ∃ x : Int, v = .int .u64 x ∧ 0 ≤ x ∧ x < 4294967296 := by
  intro ω
  refine ⟨.int .u64 ((ω [] % 4294967296 : Nat) : Int), by simp [E, evalF, show tab 66 = none from rfl, rollC], _, rfl, by omega, by omega⟩
theorem ev21 (k : Nat) (n : Int) (hn : n < 4294967295) (hn' : -9223372036854775808 ≤ n) : Ev (k + 2) 21 [dv, iv n] fun v => ∃ x, v = iv x ∧ 0 ≤ x ∧ x ≤ max n 0 := by
  refine ev_of (t := t21) rfl (fn := Try.f21) (by kernel_rfl) rfl ?_
  simp [t21, tv, tp, tn]
  refine pif (fun h => ?_) (fun h => ?_) <;> simp at h
  · omega
  · refine mk_call (ev66 k) ?_
    rintro v ⟨x, rfl, hx1, hx2⟩
    have e1 : IntKind.i64.wrap (n + 1) = n + 1 := wrap64 (by omega) (by omega)
    have e2 : IntKind.u64.wrap (n + 1) = n + 1 := wrapU64 (by omega) (by omega)
    have hb : x * (n + 1) < 4294967296 * (n + 1) := Int.mul_lt_mul_of_pos_right hx2 (by omega)
    have hb0 : 0 ≤ x * (n + 1) := Int.mul_nonneg hx1 (by omega)
    have e3 : IntKind.u64.wrap (x * (n + 1)) = x * (n + 1) := wrapU64 hb0 (by omega)
    have hq : 0 ≤ (x * (n + 1)).fdiv 4294967296 ∧ (x * (n + 1)).fdiv 4294967296 ≤ n := by
      rw [Int.fdiv_eq_ediv_of_nonneg _ (by decide)]
      omega
    have e4 : IntKind.i64.wrap ((x * (n + 1)).fdiv 4294967296) = (x * (n + 1)).fdiv 4294967296 := wrap64 (by omega) (by omega)
    simp [aConv, unU64, unInt, e1, e2, e3, aBin, IntKind.bits, e4, PV.plain]
    exact ⟨hq.1, by omega⟩
theorem ev44 (k : Nat) (lo hi : Int) (h0 : 0 ≤ hi - lo) (h1 : hi - lo < 4294967295) (h2 : -1000000 ≤ lo) (h3 : lo ≤ 1000000) : Ev (k + 3) 44 [dv, iv lo, iv hi] fun v => ∃ x, v = iv x ∧ lo ≤ x ∧ x ≤ hi := by
  refine ev_of (t := t44) rfl (fn := Try.f44) (by kernel_rfl) rfl ?_
  simp [t44, tv, tp, tn, wrap64 (n := hi - lo) (by omega) (by omega)]
  refine mk_call (ev21 k (hi - lo) (by omega) (by omega)) ?_
  rintro v ⟨x, rfl, hx1, hx2⟩
  simp [wrap64 (n := lo + x) (by omega) (by omega), PV.plain]
  omega
def IsB (v : PV) : Prop := ∃ b, v = .bool b
@[simp] theorem isB_bool {b : Bool} : IsB (.bool b) := ⟨b, rfl⟩
theorem ev45 (k : Nat) (n : Int) (h0 : 0 ≤ n) (h1 : n < 1000000) : Ev (k + 3) 45 [dv, iv n] IsB := by
  refine ev_of (t := t45) rfl (fn := Try.f45) (by kernel_rfl) rfl ?_
  simp [t45, tv, tp, tn, wrap64 (n := n - 1) (by omega) (by omega)]
  refine mk_call (ev21 k (n - 1) (by omega) (by omega)) ?_
  rintro v ⟨x, rfl, hx1, hx2⟩
  simp [aBin_quo, PV.plain]
theorem ev65 (k : Nat) {x : PV} {l : List Int} (h : IL x l) (hl : 0 < l.length) (hl' : l.length < 1000000) : Ev (k + 3) 65 [dv, x] fun v => ∃ a, v = iv a ∧ a ∈ l := by
  refine ev_of (t := t65) rfl (fn := Try.f65) (by kernel_rfl) (by simp [fitArgs, flagsOf, h.plain]) ?_
  simp [t65, tv, tp, tn, h.len, wrap64 (n := (l.length : Int) - 1) (by omega) (by omega)]
  refine mk_call (ev21 k ((l.length : Int) - 1) (by omega) (by omega)) ?_
  rintro v ⟨i, rfl, hi1, hi2⟩
  have hlt : i.toNat < l.length := by omega
  simp [row1 h hi1 (by omega), PV.plain, List.getD_eq_getElem?_getD, hlt]
end Go.Proofs.Ytlminnpaeaganaa
namespace Go.Proofs.Ytlminnpaeaganaa
open Go Go.RowKit
set_option linter.unusedVariables false
set_option linter.unusedSimpArgs false
set_option maxRecDepth 100000
def ilOf (l : List Int) : PV := match l with
  | [] => .snil
  | a :: l => .sl none 1 0 (l.length + 1) ((a :: l).map iv)
theorem il_of (l : List Int) : IL (ilOf l) l := by
  cases l with
  | nil => exact .inl ⟨rfl, rfl⟩
  | cons a l => exact .inr ⟨0, rfl⟩
@[simp] theorem frz_nil0 (ρ : List PV) (l : List Int) : frzV ρ 1 .nil0 (.agg (l.map iv)) = some (ilOf l) := by
  cases l with
  | nil => rfl
  | cons a l => simp [frzV, isNil, ilOf]
@[simp] theorem frz_real (ρ : List PV) (l : List Int) : frzV ρ 1 .real (.agg (l.map iv)) = some (.sl none 1 0 l.length (l.map iv)) := by simp [frzV, isNil]
theorem push_int {l : List Int} {bytes : Nat} {a : Int} (hb : bytes ≤ 64) (hl : l.length < 1000000) : pushV 1 bytes (.agg (l.map iv)) (.sl none 1 0 1 [iv a]) = some (.agg ((l ++ [a]).map iv)) := by
  simp
  have : (l.length + 1) * bytes ≤ (l.length + 1) * 64 := Nat.mul_le_mul_left _ hb
  omega
structure Rg where
  sp : PV
  st : List Int
  lines : Int
  width : Int
def Rg.cells (r : Rg) : List PV := [r.sp, iv r.lines, iv r.width]
structure Rg.ok (r : Rg) : Prop where
  il : IL r.sp r.st
  l1 : 1 ≤ r.st.length
  l2 : r.st.length ≤ 3
  st : ∀ s ∈ r.st, 2 ≤ s ∧ s ≤ 20
  n1 : 2 ≤ r.lines
  n2 : r.lines ≤ 12
  w1 : 1 ≤ r.width
  w2 : r.width ≤ 60
theorem ev84 (k : Nat) : Ev (k + 4) 84 [dv] fun v => ∃ r : Rg, v = .agg r.cells ∧ r.ok := by
  refine ev_of (t := t84) rfl (fn := Try.f84) (by kernel_rfl) rfl ?_
  simp only [t84, tv, tp, tn]
  refine mk_call (ev65 k (l := [6, 9, 12]) (.inr ⟨0, rfl⟩) (by decide) (by decide)) ?_
  rintro v ⟨x1, rfl, h1⟩
  have h1' : 6 ≤ x1 ∧ x1 ≤ 12 := by simp at h1; omega
  refine mk_call (ev44 k 2 x1 (by omega) (by omega) (by omega) (by omega)) ?_
  rintro v ⟨x2, rfl, h2, h2'⟩
  refine mk_call (ev44 k 1 60 (by omega) (by omega) (by omega) (by omega)) ?_
  rintro v ⟨x3, rfl, h3, h3'⟩
  simp only [run_prim]
  refine ⟨iv x3, by simp [oneV], ?_⟩
  refine mk_call (ev65 k (l := [30, 32, 40, x3]) (.inr ⟨0, rfl⟩) (by simp) (by simp)) ?_
  rintro v ⟨x5, rfl, h5⟩
  have h5' : 1 ≤ x5 ∧ x5 ≤ 60 := by simp at h5; omega
  simp only [run_prim]
  refine ⟨iv x2, by simp [oneV], iv x5, by simp [oneV], ?_⟩
  refine mk_call (ev44 k 1 3 (by omega) (by omega) (by omega) (by omega)) ?_
  rintro v ⟨x8, rfl, h8, h8'⟩
  refine mk_join (fun vs => ∃ l : List Int, vs = [.agg (l.map iv)] ∧ 1 ≤ l.length ∧ l.length ≤ 3 ∧ ∀ s ∈ l, 2 ≤ s ∧ s ≤ 20) ?_ ?_
  · refine mk_loop (fun j vs => ∃ l : List Int, vs = [iv j, .agg (l.map iv)] ∧ (l.length : Int) + j = x8 ∧ ∀ s ∈ l, 2 ≤ s ∧ s ≤ 20) x8.toNat (by omega) ⟨[], by simp; omega, by simp; omega, by simp⟩ ?_
    rintro j vs ⟨l, rfl, hl, hs⟩
    simp
    refine pif (fun h => ?_) (fun h => ?_) <;> simp at h
    · refine mk_call (ev44 k 5 9 (by omega) (by omega) (by omega) (by omega)) ?_
      rintro v ⟨a, rfl, ha, ha'⟩
      refine mk_call (ev44 k 5 9 (by omega) (by omega) (by omega) (by omega)) ?_
      rintro v ⟨b, rfl, hb, hb'⟩
      refine mk_call (ev44 k 2 20 (by omega) (by omega) (by omega) (by omega)) ?_
      rintro v ⟨c, rfl, hc, hc'⟩
      simp only [run_prim]
      refine ⟨iv a, by simp [oneV], iv b, by simp [oneV], iv c, by simp [oneV], ?_⟩
      refine mk_call (ev65 k (l := [a, b, c]) (.inr ⟨0, rfl⟩) (by simp) (by simp)) ?_
      rintro v ⟨d, rfl, hd⟩
      simp only [run_prim]
      refine ⟨iv d, by simp [oneV], _, push_int (by decide) (by omega), ?_⟩
      simp [wrap64 (n := (j : Int) - 1) (by omega) (by omega)]
      refine ⟨j - 1, by omega, l ++ [d], by simp; omega, by simp; omega, ?_⟩
      intro s hs'
      rcases List.mem_append.1 hs' with h' | h'
      · exact hs s h'
      · simp at h' hd; omega
    · simp [atL]
      exact ⟨l, rfl, by omega, by omega, hs⟩
  · rintro vs ⟨l, rfl, hl1, hl2, hs⟩
    simp
    exact ⟨(il_of l).plain, ⟨ilOf l, l, x2, x5⟩, rfl, il_of l, hl1, hl2, hs, h2, by show x2 ≤ 12; omega, h5'.1, h5'.2⟩
def rcells (l : List Rg) : List PV := l.flatMap Rg.cells
@[simp] theorem rcells_nil : rcells [] = [] := rfl
@[simp] theorem rcells_cons (r : Rg) (l : List Rg) : rcells (r :: l) = r.cells ++ rcells l := by simp [rcells]
@[simp] theorem rcells_append (k l : List Rg) : rcells (k ++ l) = rcells k ++ rcells l := by simp [rcells]
@[simp] theorem rcells_len (l : List Rg) : (rcells l).length = l.length * 3 := by
  induction l with
  | nil => rfl
  | cons r l ih => rw [rcells_cons, List.length_append, ih]; simp [Rg.cells]; omega
def RL (x : PV) (l : List Rg) : Prop := (x = .snil ∧ l = []) ∨ ∃ off, x = .sl none 3 off l.length (rcells l)
theorem rcells_plain {l : List Rg} (h : ∀ r ∈ l, r.ok) : plainC (rcells l) = true := by
  induction l with
  | nil => rfl
  | cons r l ih => simp [Rg.cells, (h r (by simp)).il.plain, ih fun x hx => h x (by simp [hx])]
theorem RL.plain {x : PV} {l : List Rg} (h : RL x l) (hl : ∀ r ∈ l, r.ok) : x.plain = true ∧ x.one = true := by
  rcases h with ⟨rfl, _⟩ | ⟨off, rfl⟩
  · simp
  · simp [rcells_plain hl]
theorem unR : Try.prog.underlying 22 = some (.slice 57) := by kernel_rfl
theorem RL.len {x : PV} {l : List Rg} (h : RL x l) : aLen Try.prog 22 x = some (iv l.length) := by
  rcases h with ⟨rfl, rfl⟩ | ⟨off, rfl⟩ <;> simp [aLen, unR]
instance : Inhabited Rg := ⟨⟨.snil, [], 0, 0⟩⟩
theorem row3 {x : PV} {l : List Rg} (h : RL x l) {i : Int} {k : IntKind} (h0 : 0 ≤ i) (h1 : i < l.length) : rowV 3 x (.int k i) = some (.agg (l.getD i.toNat default).cells) := by
  rcases h with ⟨rfl, rfl⟩ | ⟨off, rfl⟩
  · simp at h1; omega
  · have hlt : i.toNat < l.length := by omega
    have key : ∀ (l : List Rg) (j : Nat), j < l.length → ((rcells l).drop (j * 3)).take 3 = (l.getD j default).cells := by
      intro l
      induction l with
      | nil => intro j hj; simp at hj
      | cons r l ih =>
        intro j hj
        cases j with
        | zero => simp [Rg.cells]
        | succ j =>
          rw [rcells_cons, show (j + 1) * 3 = r.cells.length + j * 3 by simp [Rg.cells]; omega, List.drop_length_add_append]
          simpa using ih j (by simpa using hj)
    have e := key l i.toNat hlt
    simp only [rowV]
    rw [if_pos ⟨h0, h1, trivial, by rw [e]; rfl⟩, e]
def rlOf (l : List Rg) : PV := match l with
  | [] => .snil
  | a :: l => .sl none 3 0 (l.length + 1) (rcells (a :: l))
theorem rl_of (l : List Rg) : RL (rlOf l) l := by
  cases l with
  | nil => exact .inl ⟨rfl, rfl⟩
  | cons a l => exact .inr ⟨0, rfl⟩
@[simp] theorem frz_nil0R (ρ : List PV) (l : List Rg) : frzV ρ 3 .nil0 (.agg (rcells l)) = some (rlOf l) := by
  cases l with
  | nil => rfl
  | cons a l =>
    have : (rcells (a :: l)).length / 3 = l.length + 1 := by rw [rcells_len]; simp
    have hne : rcells (a :: l) = a.sp :: (iv a.lines :: iv a.width :: rcells l) := by simp [Rg.cells]
    simp only [frzV, isNil]
    rw [hne] at this ⊢
    simp only [rlOf, this, hne]
theorem push_rg {l : List Rg} {bytes : Nat} {r : Rg} (hb : bytes ≤ 64) (hl : l.length < 1000000) : pushV 3 bytes (.agg (rcells l)) (.sl none 3 0 1 r.cells) = some (.agg (rcells (l ++ [r]))) := by
  have : (l.length + 1) * bytes ≤ (l.length + 1) * 64 := Nat.mul_le_mul_left _ hb
  simp [Rg.cells]
  omega
theorem ev38 (k : Nat) (most : Int) (hm : 1 ≤ most) (hm' : most ≤ 4) : Ev (k + 5) 38 [dv, iv most] fun v => ∃ slip lp l, v = .agg [iv slip, lp] ∧ 0 ≤ slip ∧ slip ≤ 3 ∧ RL lp l ∧ 1 ≤ l.length ∧ (l.length : Int) ≤ most ∧ ∀ r ∈ l, r.ok := by
  refine ev_of (t := t38) rfl (fn := Try.f38) (by kernel_rfl) rfl ?_
  simp only [t38, tv, tp, tn]
  refine mk_call (ev21 (k + 2) 3 (by omega) (by omega)) ?_
  rintro v ⟨x2, rfl, h2, h2'⟩
  simp only [run_prim]
  refine ⟨iv x2, by simp [oneV], ?_⟩
  refine mk_call (ev65 (k + 1) (l := [0, 1, 1, x2]) (.inr ⟨0, rfl⟩) (by simp) (by simp)) ?_
  rintro v ⟨x4, rfl, h4⟩
  have h4' : 0 ≤ x4 ∧ x4 ≤ 3 := by simp at h4; omega
  simp only [run_prim]
  refine ⟨iv x4, by simp [oneV], ?_⟩
  refine mk_call (ev44 (k + 1) 1 most (by omega) (by omega) (by omega) (by omega)) ?_
  rintro v ⟨x6, rfl, h6, h6'⟩
  refine mk_join (fun vs => ∃ l : List Rg, vs = [.agg (rcells l)] ∧ 1 ≤ l.length ∧ (l.length : Int) ≤ most ∧ ∀ r ∈ l, r.ok) ?_ ?_
  · refine mk_loop (fun j vs => ∃ l : List Rg, vs = [iv j, .agg (rcells l)] ∧ (l.length : Int) + j = x6 ∧ ∀ r ∈ l, r.ok) x6.toNat (by omega) ⟨[], by simp; omega, by simp; omega, by simp⟩ ?_
    rintro j vs ⟨l, rfl, hl, hs⟩
    simp
    refine pif (fun h => ?_) (fun h => ?_) <;> simp at h
    · refine mk_call (ev84 k) ?_
      rintro v ⟨r, rfl, hr⟩
      simp only [run_prim]
      refine ⟨.agg r.cells, by simp [Rg.cells], .agg (rcells (l ++ [r])), push_rg (by decide) (by omega), ?_⟩
      refine ⟨iv ((j : Int) - 1), by simp [wrap64 (n := (j : Int) - 1) (by omega) (by omega)], ?_⟩
      simp only [run_jump, atL_same]
      refine ⟨j - 1, by omega, l ++ [r], by simp; omega, by simp; omega, ?_⟩
      intro s hs'
      rcases List.mem_append.1 hs' with h' | h'
      · exact hs s h'
      · simp at h'; subst h'; exact hr
    · simp [atL]
      exact ⟨l, rfl, by omega, by omega, hs⟩
  · rintro vs ⟨l, rfl, hl1, hl2, hs⟩
    simp
    exact ⟨(rl_of l).plain hs, x4, rlOf l, ⟨rfl, rfl⟩, h4'.1, h4'.2, l, rl_of l, hl1, hl2, hs⟩
end Go.Proofs.Ytlminnpaeaganaa
namespace Go.Proofs.Ytlminnpaeaganaa
open Go Go.RowKit
set_option linter.unusedVariables false
set_option linter.unusedSimpArgs false
set_option maxRecDepth 100000
theorem chk_int {l : List Int} {i : Int} (h0 : 0 ≤ i) (h1 : i < l.length) : chkV 1 (.agg (l.map iv)) (iv i) = some (iv i) := by
  simp; omega
theorem get_int {l : List Int} {i : Int} (h0 : 0 ≤ i) (h1 : i < l.length) : getV 1 0 1 (.agg (l.map iv)) (iv i) = some (.agg [iv (l.getD i.toNat 0)]) := by
  have hlt : i.toNat < l.length := by omega
  have e : ((l.map iv).drop (i.toNat * 1 + 0)).take 1 = [iv (l.getD i.toNat 0)] := by
    rw [Nat.mul_one, Nat.add_zero, List.drop_eq_getElem_cons (by simpa using hlt)]
    simp [List.getD_eq_getElem?_getD, hlt]
  simp only [getV]
  rw [e]; simp
theorem ev71 (k : Nat) (x lo hi : Int) : Ev (k + 1) 71 [iv x, iv lo, iv hi] fun v => v = .bool (decide (lo ≤ x) && decide (x ≤ hi)) := by
  refine ev_of (t := t71) rfl (fn := Try.f71) (by kernel_rfl) rfl ?_
  simp only [t71, tv, tp, tn]
  refine mk_join (fun vs => vs = [.bool (decide (lo ≤ x) && decide (x ≤ hi))]) ?_ ?_
  · simp
    refine pif (fun h => ?_) (fun h => ?_) <;> simp at h
    · simp [h]
    · intro h'; omega
  · rintro vs rfl
    simp
theorem ev72 (k : Nat) (x m : Int) : Ev (k + 1) 72 [iv x, iv m] fun v => v = iv (if x < 1 then 7 else if m < x then 6 else 0) := by
  refine ev_of (t := t72) rfl (fn := Try.f72) (by kernel_rfl) rfl ?_
  simp [t72, tv, tp, tn]
  refine pif (fun h => ?_) (fun h => ?_) <;> simp at h
  · intro h'; omega
  · refine pif (fun h' => ?_) (fun h' => ?_) <;> simp at h'
    · simp [h']; omega
    · omega
theorem ev73 (k : Nat) {r : Rg} (hr : r.ok) : Ev (k + 2) 73 [.agg r.cells] fun v => v = iv 0 := by
  refine ev_of (t := t73) rfl (fn := Try.f73) (by kernel_rfl) (by simp [fitArgs, flagsOf, Rg.cells, hr.il.plain]) ?_
  have h1 := hr.l1
  have h2 := hr.l2
  simp [t73, tv, tp, tn, Rg.cells, hr.il.len]
  refine mk_call (ev72 k _ _) ?_
  rintro v rfl
  rw [if_neg (by omega), if_neg (by omega)]
  simp [hr.il.len]
  refine mk_join (fun vs => vs = []) ?_ ?_
  · refine mk_loop (fun j vs => ∃ i : Nat, vs = [iv i] ∧ i + j = r.st.length) r.st.length (by omega) ⟨0, rfl, by omega⟩ ?_
    rintro j vs ⟨i, rfl, hi⟩
    simp
    refine pif (fun h => ?_) (fun h => ?_) <;> simp at h
    · have hlt : i < r.st.length := by omega
      have hs := hr.st (r.st.getD i 0) (by simp [List.getD_eq_getElem?_getD, hlt])
      simp [row1 hr.il (i := (i : Int)) (by omega) (by omega), List.getD_eq_getElem?_getD, hlt]
      refine mk_call (ev71 k _ _ _) ?_
      rintro v rfl
      simp [List.getD_eq_getElem?_getD, hlt] at hs
      simp [hs, wrap64 (n := (i : Int) + 1) (by omega) (by omega)]
      exact ⟨j - 1, by omega, i + 1, by simp, by omega⟩
    · simp [atL]
  · rintro vs rfl
    simp
    refine mk_join (fun vs => vs = [.bool false]) ?_ ?_
    · refine mk_call (ev71 k _ _ _) ?_
      rintro v rfl
      have := hr.n1; have := hr.n2; have := hr.w1; have := hr.w2
      simp [*]
      refine mk_call (ev71 k _ _ _) ?_
      rintro v rfl
      simp [*]
    · rintro vs rfl
      simp
end Go.Proofs.Ytlminnpaeaganaa
namespace Go.Proofs.Ytlminnpaeaganaa
open Go Go.RowKit
set_option linter.unusedVariables false
set_option linter.unusedSimpArgs false
set_option maxRecDepth 100000
structure Hand (slip : Int) (lp : PV) (l : List Rg) : Prop where
  s0 : 0 ≤ slip
  s1 : slip ≤ 3
  rl : RL lp l
  l0 : 1 ≤ l.length
  l1 : l.length ≤ 4
  ok : ∀ r ∈ l, r.ok
theorem Hand.plain {slip : Int} {lp : PV} {l : List Rg} (h : Hand slip lp l) : lp.plain = true ∧ lp.one = true := h.rl.plain h.ok
theorem Hand.get {slip : Int} {lp : PV} {l : List Rg} (h : Hand slip lp l) {i : Nat} (hi : i < l.length) : (l.getD i default).ok := h.ok _ (by simp [List.getD_eq_getElem?_getD, hi])
theorem ev26 (k : Nat) {slip : Int} {lp : PV} {l : List Rg} (h : Hand slip lp l) : Ev (k + 3) 26 [.agg [iv slip, lp]] fun v => v = iv 0 := by
  refine ev_of (t := t26) rfl (fn := Try.f26) (by kernel_rfl) (by simp [fitArgs, flagsOf, h.plain]) ?_
  have h1 := h.s0
  have h2 := h.s1
  have h3 := h.l0
  have h4 := h.l1
  simp [t26, tv, tp, tn]
  refine mk_call (ev71 (k + 1) _ _ _) ?_
  rintro v rfl
  simp [h1, h2, h.rl.len]
  refine mk_call (ev72 (k + 1) _ _) ?_
  rintro v rfl
  rw [if_neg (by omega), if_neg (by omega)]
  simp [h.rl.len]
  refine mk_join (fun vs => vs = []) ?_ ?_
  · refine mk_loop (fun j vs => ∃ i : Nat, vs = [iv i] ∧ i + j = l.length) l.length (by omega) ⟨0, rfl, by omega⟩ ?_
    rintro j vs ⟨i, rfl, hi⟩
    simp
    refine pif (fun h => ?_) (fun h => ?_) <;> simp at h
    · rename_i hh
      have hlt : i < l.length := by omega
      have hr := hh.get hlt
      refine ⟨_, row3 hh.rl (i := (i : Int)) (by omega) (by omega), ?_⟩
      simp [Rg.cells]
      refine mk_call (ev73 k hr) ?_
      rintro v rfl
      simp [wrap64 (n := (i : Int) + 1) (by omega) (by omega)]
      exact ⟨j - 1, by omega, i + 1, by simp, by omega⟩
    · simp [atL]
  · rintro vs rfl
    simp
theorem un29 : ∃ e, Try.prog.underlying 29 = some (.slice e) := by
  have h : (match Try.prog.underlying 29 with | some (.slice _) => true | _ => false) = true := by kernel_rfl
  split at h
  · exact ⟨_, by assumption⟩
  · cases h
theorem ev67 (k : Nat) {slip : Int} {lp : PV} {l : List Rg} (h : Hand slip lp l) {x : PV} {ns : List Int} (hx : IL x ns) (hn : ∀ n ∈ ns, 0 ≤ n ∧ n < l.length) (hl : ns.length < 4000) : Ev (k + 4) 67 [.agg [iv slip, lp], x, .snil] fun v => v = .tup [.agg [iv slip, lp], iv 0] := by
  refine ev_of (t := t67) rfl (fn := Try.f67) (by kernel_rfl) (by simp [fitArgs, flagsOf, h.plain, hx.plain]) ?_
  have h3 := h.l0
  have h4 := h.l1
  simp [t67, tv, tp, tn]
  refine mk_call (ev26 k h) ?_
  rintro v rfl
  simp [hx.len]
  refine mk_join (fun vs => vs = []) ?_ ?_
  · refine mk_loop (fun j vs => ∃ i : Nat, vs = [iv i] ∧ i + j = ns.length) ns.length (by omega) ⟨0, rfl, by omega⟩ ?_
    rintro j vs ⟨i, rfl, hi⟩
    simp
    refine pif (fun h => ?_) (fun h => ?_) <;> simp at h
    · rename_i hh
      have hlt : i < ns.length := by omega
      have hs := hn (ns.getD i 0) (by simp [List.getD_eq_getElem?_getD, hlt])
      refine ⟨_, row1 hx (i := (i : Int)) (by omega) (by omega), ?_⟩
      simp [hh.rl.len, wrap64 (n := (l.length : Int) - 1) (by omega) (by omega)]
      refine mk_call (ev71 (k + 2) _ _ _) ?_
      rintro v rfl
      simp [List.getD_eq_getElem?_getD, hlt] at hs
      have e1 : ns[i] ≤ (l.length : Int) - 1 := by omega
      simp [List.getD_eq_getElem?_getD, hlt, hs, e1, wrap64 (n := (i : Int) + 1) (by omega) (by omega)]
      exact ⟨j - 1, by omega, i + 1, by simp, by omega⟩
    · simp [atL]
  · rintro vs rfl
    have e29 : aLen Try.prog 29 .snil = some (iv 0) := by obtain ⟨e, he⟩ := un29; simp [aLen, he]
    simp [e29]
    refine mk_join (fun vs => vs = []) ?_ ?_
    · refine mk_loop (fun j vs => vs = [iv 0]) 0 (by omega) rfl ?_
      rintro j vs rfl
      simp [atL]
    · rintro vs rfl
      simp [h.plain]
@[simp] theorem tn_mod (i n : Nat) : ((i : Int) % (n : Int)).toNat = i % n := by rw [← Int.natCast_emod]; rfl
def stp (r : Rg) (i : Nat) : Int := r.st.getD (i % r.st.length) 0
theorem stp_ok {r : Rg} (h : r.ok) (i : Nat) : 2 ≤ stp r i ∧ stp r i ≤ 20 := by
  have : i % r.st.length < r.st.length := Nat.mod_lt _ h.l1
  exact h.st _ (by unfold stp; simp [List.getD_eq_getElem?_getD, this])
theorem ev81 (k : Nat) {r : Rg} (h : r.ok) (i : Nat) : Ev (k + 1) 81 [.agg r.cells, iv i] fun v => v = iv (stp r i) := by
  refine ev_of (t := t81) rfl (fn := Try.f81) (by kernel_rfl) (by simp [fitArgs, flagsOf, Rg.cells, h.il.plain]) ?_
  have h1 := h.l1
  have h2 := h.l2
  have hlt : i % r.st.length < r.st.length := Nat.mod_lt _ h.l1
  have e : Int.tmod (i : Int) (r.st.length : Int) = ((i % r.st.length : Nat) : Int) := by
    rw [Int.tmod_eq_emod_of_nonneg (by omega)]; simp
  simp [t81, tv, tp, tn, Rg.cells, h.il.len]
  refine ⟨_, aBin_rem (by omega), _, by rw [e]; exact row1 h.il (i := ((i % r.st.length : Nat) : Int)) (by omega) (by omega), ?_⟩
  simp [stp]
theorem ev93 (k : Nat) (i m : Nat) (hm : 0 < m) (hb : m < 1000000) : Ev (k + 1) 93 [iv i, iv m] fun v => v = iv ((i % m : Nat) : Int) := by
  refine ev_of (t := t93) rfl (fn := Try.f93) (by kernel_rfl) rfl ?_
  have hlt : i % m < m := Nat.mod_lt _ hm
  have e : ∀ i : Nat, Int.tmod (i : Int) (m : Int) = ((i % m : Nat) : Int) := by
    intro i
    rw [Int.tmod_eq_emod_of_nonneg (by omega)]; simp
  simp only [t93, tv, tp, tn, run_prim]
  refine ⟨iv ((i % m : Nat) : Int), by simp [aBin_rem (show (m : Int) ≠ 0 by omega), e], iv ((i % m + m : Nat) : Int), by simp [wrap64 (n := (i : Int) % m + m) (by omega) (by omega)], iv ((i % m : Nat) : Int), ?_, ?_⟩
  · have := e (i % m + m)
    rw [Nat.add_mod_right, Nat.mod_mod] at this
    simp only [Prim.run, PE.den, SE.den]
    simp [aBin_rem (show (m : Int) ≠ 0 by omega)]
    simpa using this
  · simp
theorem ev51 (k : Nat) {r : Rg} (h : r.ok) (i : Nat) : Ev (k + 2) 51 [.agg r.cells, iv i] fun v => v = iv (stp r i) := by
  refine ev_of (t := t51) rfl (fn := Try.f51) (by kernel_rfl) (by simp [fitArgs, flagsOf, Rg.cells, h.il.plain]) ?_
  have h1 := h.l1
  have h2 := h.l2
  have hlt : i % r.st.length < r.st.length := Nat.mod_lt _ h.l1
  simp [t51, tv, tp, tn, Rg.cells, h.il.len]
  refine mk_call (ev93 k i r.st.length (by omega) (by omega)) ?_
  rintro v rfl
  simp only [run_prim]
  refine ⟨_, row1 h.il (i := ((i % r.st.length : Nat) : Int)) (by omega) (by omega), ?_⟩
  simp [stp]
def ht (r : Rg) : Nat → Int
  | 0 => 0
  | i + 1 => ht r i + stp r i
theorem ht_ok {r : Rg} (h : r.ok) (i : Nat) : 2 * (i : Int) ≤ ht r i ∧ ht r i ≤ 20 * i := by
  induction i with
  | zero => simp [ht]
  | succ i ih => have := stp_ok h i; simp only [ht]; omega
def htl (r : Rg) (n : Nat) : List Int := (List.range n).map (ht r)
@[simp] theorem htl_len (r : Rg) (n : Nat) : (htl r n).length = n := by simp [htl]
theorem htl_succ (r : Rg) (n : Nat) : htl r (n + 1) = htl r n ++ [ht r n] := by simp [htl, List.range_succ]
theorem ev68 (k : Nat) {r : Rg} (h : r.ok) : Ev (k + 2) 68 [.agg r.cells] fun v => IL v (htl r r.lines.toNat) := by
  refine ev_of (t := t68) rfl (fn := Try.f68) (by kernel_rfl) (by simp [fitArgs, flagsOf, Rg.cells, h.il.plain]) ?_
  have h1 := h.n1
  have h2 := h.n2
  simp [t68, tv, tp, tn, Rg.cells, wrap64 (n := r.lines - 1) (by omega) (by omega)]
  refine mk_loop (fun j vs => ∃ i : Nat, vs = [iv i, .agg ((htl r (i + 1)).map iv)] ∧ (i : Int) + 1 + j = r.lines) (r.lines - 1).toNat (by omega) ⟨0, rfl, by omega⟩ ?_
  rintro j vs ⟨i, rfl, hi⟩
  simp
  refine pif (fun h => ?_) (fun h => ?_) <;> simp at h
  · rename_i hh
    have hk := ht_ok hh i
    have hs := stp_ok hh i
    have e1 : List.take 1 (List.drop i (List.map iv (htl r (i + 1)))) = [iv (ht r i)] := by
      have := get_int (l := htl r (i + 1)) (i := (i : Int)) (by omega) (by rw [htl_len]; omega)
      simp [htl] at this
      simpa [htl] using this
    rw [e1]
    refine mk_call (ev81 k hh i) ?_
    rintro v rfl
    simp only [run_prim]
    refine ⟨iv (ht r (i + 1)), ?_, .agg ((htl r (i + 2)).map iv), ?_, iv ((i + 1 : Nat) : Int), ?_, ?_⟩
    · simp [ht, wrap64 (n := ht r i + stp r i) (by omega) (by omega)]
    · simp only [Prim.run, PE.den, SE.den, denL]
      have := push_int (l := htl r (i + 1)) (bytes := 8) (a := ht r (i + 1)) (by decide) (by simp; omega)
      rw [← htl_succ] at this
      simpa using this
    · simp [wrap64 (n := (i : Int) + 1) (by omega) (by omega)]
    · simp only [run_jump, atL_same]
      exact ⟨j - 1, by omega, i + 1, by simp, by omega⟩
  · have e : r.lines.toNat = i + 1 := by omega
    simp [e]
    exact ⟨by simpa using ints_plain _, .inr ⟨0, by simp⟩⟩
end Go.Proofs.Ytlminnpaeaganaa
namespace Go.Proofs.Ytlminnpaeaganaa
open Go Go.RowKit
set_option linter.unusedVariables false
set_option linter.unusedSimpArgs false
set_option maxRecDepth 100000
theorem ev24 (k : Nat) {slip : Int} {lp : PV} {l : List Rg} (h : Hand slip lp l) {n : Nat} (hn : n < l.length) : Ev (k + 5) 24 [.agg [iv slip, lp], iv n] fun v => ∃ x, v = .tup [x, iv 0] ∧ IL x (htl (l.getD n default) (l.getD n default).lines.toNat) := by
  refine ev_of (t := t24) rfl (fn := Try.f24) (by kernel_rfl) (by simp [fitArgs, flagsOf, h.plain]) ?_
  simp [t24, tv, tp, tn]
  refine mk_call (ev67 k h (ns := [(n : Int)]) (.inr ⟨0, rfl⟩) (by simp; omega) (by simp)) ?_
  rintro v rfl
  simp
  refine ⟨_, row3 h.rl (i := (n : Int)) (by omega) (by omega), ?_⟩
  simp [Rg.cells]
  refine mk_call (ev68 (k + 2) (h.get hn)) ?_
  intro x hx
  simp [hx.plain]
  simpa using hx
structure Pr (l : List Int) : Prop where
  len : l.length ≤ 16
  rng : ∀ p ∈ l, 0 ≤ p ∧ p ≤ 300
  asc : ∀ i, i + 1 < l.length → l.getD i 0 < l.getD (i + 1) 0
theorem Pr.get {l : List Int} (h : Pr l) {i : Nat} (hi : i < l.length) : 0 ≤ l.getD i 0 ∧ l.getD i 0 ≤ 300 := h.rng _ (by simp [List.getD_eq_getElem?_getD, hi])
abbrev rf (l : List PV) : PV := .eref none 0 l
@[simp] theorem one_eref {id : Option Nat} {o : Nat} {l : List PV} : (PV.eref id o l).one = true := rfl
abbrev gv (slip : Int) : List PV := [.fn 104 [rf [iv slip]], .fn 105 [rf [iv slip]]]
theorem ev80 (k : Nat) (slip : Int) : Ev (k + 1) 80 [iv slip] fun v => v = .agg (gv slip) := by
  refine ev_of (t := t80) rfl (fn := Try.f80) (by kernel_rfl) rfl ?_
  simp [t80, tv, tp, tn]
theorem ev104 (k : Nat) {slip m r : Int} (h : -1000000 ≤ m ∧ m ≤ 1000000 ∧ -1000000 ≤ r ∧ r ≤ 1000000) : Ev (k + 1) 104 [iv m, iv r, rf [iv slip]] fun v => v = .bool (decide (m - r ≤ slip) && decide (r - m ≤ slip)) := by
  refine ev_of (t := t104) rfl (fn := Try.f104) (by kernel_rfl) rfl ?_
  simp only [t104, tv, tp, tn]
  refine mk_join (fun vs => vs = [.bool (decide (m - r ≤ slip) && decide (r - m ≤ slip))]) ?_ ?_
  · simp [wrap64 (n := m - r) (by omega) (by omega), wrap64 (n := r - m) (by omega) (by omega)]
    refine pif (fun h => ?_) (fun h => ?_) <;> simp at h
    · simp [h]
    · intro h'; omega
  · rintro vs rfl
    simp
def near (slip a h p : Int) : Bool := decide (p - (a + h) ≤ slip) && decide (a + h - p ≤ slip)
def blk (slip : Int) (l : List Int) (a : Int) (r : Rg) : Nat → List Int
  | 0 => []
  | i + 1 => blk slip l a r i ++ if l.any (near slip a (ht r i)) then [] else [(i : Int)]
end Go.Proofs.Ytlminnpaeaganaa
namespace Go.Proofs.Ytlminnpaeaganaa
open Go Go.RowKit
set_option linter.unusedVariables false
set_option linter.unusedSimpArgs false
set_option maxRecDepth 100000
theorem rowR {lp : PV} {l : List Rg} (h : RL lp l) {n : Nat} (hn : n < l.length) : rowV 3 lp (iv n) = some (.agg (l.getD n default).cells) := by
  have := row3 h (i := (n : Int)) (k := .i64) (by omega) (by omega)
  simpa only [Int.toNat_natCast] using this
theorem rowI {x : PV} {l : List Int} (h : IL x l) {n : Nat} (hn : n < l.length) : rowV 1 x (iv n) = some (.agg [iv (l.getD n 0)]) := by
  have := row1 h (i := (n : Int)) (k := .i64) (by omega) (by omega)
  simpa only [Int.toNat_natCast] using this
def flw (slip : Int) (ps : List Int) (r : Rg) : Nat → List Int
  | 0 => []
  | i + 1 => flw slip ps r i ++ if (blk slip ps (ps.getD i 0) r r.lines.toNat).length = 0 then [(i : Int)] else []
structure PI (l : List Int) (a : Int) : Prop where
  len : l.length ≤ 16
  rng : ∀ p ∈ l, 0 ≤ p ∧ p < a
  asc : ∀ i, i + 1 < l.length → l.getD i 0 < l.getD (i + 1) 0
theorem PI.up {l : List Int} {a b : Int} (h : PI l a) (hb : a ≤ b) : PI l b := ⟨h.len, fun p hp => by have := h.rng p hp; omega, h.asc⟩
theorem PI.push {l : List Int} {a b : Int} (h : PI l a) (h0 : 0 ≤ a) (hl : l.length < 16) (hb : a < b) : PI (l ++ [a]) b := by
  refine ⟨by simp; omega, fun p hp => ?_, fun i hi => ?_⟩
  · rcases List.mem_append.1 hp with h' | h'
    · have := h.rng p h'; omega
    · simp at h'; omega
  · simp at hi
    have g0 : ∀ i, i < l.length → (l ++ [a]).getD i 0 = l.getD i 0 := fun i hi => by simp [List.getD_eq_getElem?_getD, List.getElem?_append_left hi]
    rw [g0 i (by omega)]
    by_cases hh : i + 1 < l.length
    · rw [g0 _ hh]
      exact h.asc i hh
    · have e : i + 1 = l.length := by omega
      have e2 : (l ++ [a]).getD (i + 1) 0 = a := by simp [e]
      rw [e2]
      exact (h.rng _ (by have : i < l.length := by omega
                         simp [List.getD_eq_getElem?_getD, this])).2
end Go.Proofs.Ytlminnpaeaganaa
