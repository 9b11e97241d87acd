/- Plain laws. No condition. -/
import Derived.Test.YtlminnpaeaganaaMRawS
import Derived.Test.YtlminnpaeaganaaMWp
namespace Go.Proofs.Ytlminnpaeaganaa
open Go Go.RowKit
set_option linter.unusedVariables false
set_option linter.unusedSimpArgs false
set_option maxRecDepth 100000
theorem spot_neqv (a c : Int) (b d : Bool) : aBin Try.prog .neq 62 (.agg [iv a, .bool b]) (.agg [iv c, .bool d]) = some (.bool (decide (¬(a = c ∧ b = d)))) := by
  simp [aBin, spot_eq]
  by_cases h : a = c <;> cases b <;> cases d <;> simp [h]
theorem list_ext {α : Type} [Inhabited α] {A B : List α} (hl : A.length = B.length) (h : ∀ m, m < A.length → A.getD m default = B.getD m default) : A = B := List.ext_getElem hl fun k h1 h2 => by
  have := h k h1
  simpa [List.getD_eq_getElem?_getD, h1, h2] using this
theorem ev33 (k : Nat) {x y : PV} {A B : List (Nat × Bool)} (hx : SL x A) (hy : SL y B) (hl : A.length < 4000) : Ev (k + 1) 33 [x, y] fun v => v = .bool (decide (A = B)) := by
  refine rn_of (t := t33) rfl (fn := Try.f33) (by kernel_rfl) (by simp [fitArgs, flagsOf, hx.plain, hy.plain]) ?_
  try refine rn_norm (by (try simp only [List.length_cons, List.length_nil, Nat.reduceAdd, Nat.zero_add]); rfl) (by (try simp only [pushL]); rfl) ?_
  refine wp_len45 rfl hx ?_
  refine wp_len45 rfl hy ?_
  try refine rn_norm (by (try simp only [List.length_cons, List.length_nil, Nat.reduceAdd, Nat.zero_add]); rfl) (by (try simp only [pushL]); rfl) ?_
  refine wp_neq rfl rfl ?_
  refine wp_iteP rfl (fun h => ?_) (fun h => ?_)
  · refine wp_ret rfl rfl ?_
    have : A ≠ B := fun e => h (by rw [e])
    rw [decide_eq_false this]; rfl
  · have hAB : A.length = B.length := by omega
    refine wp_join (fun vs => vs = [] ∧ A = B) ?_ ?_
    · refine wp_loop (fun j vs => ∃ i : Nat, vs = [iv i] ∧ i + j = A.length ∧ ∀ m, m < i → A.getD m default = B.getD m default) A.length (by omega) ⟨0, rfl, by omega, fun m hm => by omega⟩ ?_
      rintro j vs ⟨i, rfl, hi, hb⟩
      refine wp_len45 rfl hx ?_
      try refine rn_norm (by (try simp only [List.length_cons, List.length_nil, Nat.reduceAdd, Nat.zero_add]); rfl) (by (try simp only [pushL]); rfl) ?_
      refine wp_lss rfl rfl ?_
      refine wp_iteP rfl (fun h => ?_) (fun h => ?_)
      · have hra := rowS hx (n := i) (by omega)
        have hrb := rowS hy (n := i) (by omega)
        have hne : A.getD i default ≠ B.getD i default → A ≠ B := fun h e => h (by rw [e])
        have hst : A.getD i default = B.getD i default → ∀ m, m < i + 1 → A.getD m default = B.getD m default := fun h m hm => by
          by_cases e : m = i
          · subst e; exact h
          · exact hb m (by omega)
        generalize A.getD i default = s at hra hne hst
        generalize B.getD i default = u at hrb hne hst
        refine wp _ hra ?_
        refine wp _ hrb ?_
        refine wp _ (spot_neqv s.1 u.1 s.2 u.2) ?_
        refine wp_iteP rfl (fun h2 => ?_) (fun h2 => ?_)
        · try refine rn_norm (by (try simp only [List.length_cons, List.length_nil, Nat.reduceAdd, Nat.zero_add]); rfl) (by (try simp only [pushL]); rfl) ?_
          refine wp_retO ?_
          refine wp_retO ?_
          refine wp_ret rfl rfl ?_
          have : A ≠ B := hne fun e => h2 (by rw [e]; exact ⟨rfl, rfl⟩)
          rw [decide_eq_false this]; rfl
        · try refine rn_norm (by (try simp only [List.length_cons, List.length_nil, Nat.reduceAdd, Nat.zero_add]); rfl) (by (try simp only [pushL]); rfl) ?_
          refine wp_add1 rfl rfl (by omega) ?_
          have e : s = u := by
            have h3 := Decidable.not_not.1 h2
            exact Prod.ext (by omega) h3.2
          exact wp_jump ⟨j - 1, by omega, i + 1, rfl, by omega, hst e⟩
      · try refine rn_norm (by (try simp only [List.length_cons, List.length_nil, Nat.reduceAdd, Nat.zero_add]); rfl) (by (try simp only [pushL]); rfl) ?_
        refine wp_jumpO (by decide) ?_
        exact wp_jump ⟨rfl, list_ext hAB fun m hm => hb m (by omega)⟩
    · rintro vs ⟨rfl, e⟩
      refine wp_ret rfl rfl ?_
      rw [decide_eq_true e]; rfl
structure Sp (A B C : List (Nat × Bool)) : Prop where
  lb : A.length = B.length
  lc : C.length ≤ A.length
  c : A.take C.length = C
  mem : ∀ s ∈ A, (s.1, !s.2) ∈ B
  flag : ∀ k, k < A.length → (A.getD k default).2 = decide (C.length ≤ k)
  asc : ∀ k, k + 1 < A.length → (A.getD (k + 1) default).2 = (A.getD k default).2 → (A.getD k default).1 < (A.getD (k + 1) default).1
end Go.Proofs.Ytlminnpaeaganaa
