/- Lies: the law is proved. No condition. -/
import Derived.Test.YtlminnpaeaganaaGreatMLiesA
namespace Go.Proofs.YtlminnpaeaganaaGreat
open Go Go.RowKit
set_option linter.unusedVariables false
set_option linter.unusedSimpArgs false
set_option maxRecDepth 100000
/-- The least and the greatest number of lines that are lost, or which error. -/
def LoV (slip : Int) (l : List Rg) (a b : Pc) (v : PV) : Prop :=
  (eop slip l [] [a, b] ≠ 0 ∧ v = .tup [.agg [iv 0, iv 0], iv (eop slip l [] [a, b])]) ∨
  (eop slip l [] [a, b] = 0 ∧ ((v = .tup [.agg [iv 0, iv 0], iv 11] ∧ lostR slip a b l = []) ∨ ∃ m M, v = .tup [.agg [iv m, iv M], iv 0] ∧ (m ∈ lostR slip a b l ∧ ∀ y ∈ lostR slip a b l, m ≤ y) ∧ M ∈ lostR slip a b l ∧ ∀ y ∈ lostR slip a b l, y ≤ M))
theorem LoV.shape {slip : Int} {l : List Rg} {a b : Pc} {v : PV} (h : LoV slip l a b v) : ∃ m M e, v = .tup [.agg [iv m, iv M], iv e] := by
  rcases h with ⟨_, h⟩ | ⟨_, ⟨h, _⟩ | ⟨m, M, h, _⟩⟩
  · exact ⟨_, _, _, h⟩
  · exact ⟨_, _, _, h⟩
  · exact ⟨_, _, _, h⟩
theorem LoV.uniq {slip : Int} {l : List Rg} {a b : Pc} {v w : PV} (h : LoV slip l a b v) (k : LoV slip l a b w) : v = w := by
  rcases h with ⟨h1, rfl⟩ | ⟨h1, h⟩
  · rcases k with ⟨_, rfl⟩ | ⟨k1, _⟩
    · rfl
    · exact absurd k1 h1
  · rcases k with ⟨k1, _⟩ | ⟨_, k⟩
    · exact absurd h1 k1
    · rcases h with ⟨rfl, h2⟩ | ⟨m, M, rfl, ⟨h2, h3⟩, h4, h5⟩
      · rcases k with ⟨rfl, _⟩ | ⟨m, M, rfl, ⟨k2, _⟩, _⟩
        · rfl
        · rw [h2] at k2; simp at k2
      · rcases k with ⟨rfl, k2⟩ | ⟨m', M', rfl, ⟨k2, k3⟩, k4, k5⟩
        · rw [k2] at h2; simp at h2
        · have e1 : m = m' := by have := h3 m' k2; have := k3 m h2; omega
          have e2 : M = M' := by have := h5 M' k4; have := k5 M h4; omega
          rw [e1, e2]
theorem ev35R2 (k : Nat) {slip : Int} {lp : PV} {l : List Rg} (h : RawH lp l) {a b : Pc} (ha : RawP a) (hb : RawP b) : Ev (k + 5) 35 [.agg [iv slip, lp], .agg a.cells, .agg b.cells] (LoV slip l a b) := by
  by_cases he : eop slip l [] [a, b] = 0
  · obtain ⟨hH, hao, hbo⟩ := eop2_ok h ha hb he
    exact (ev46 k hH hao hbo).mono fun v hv => .inr ⟨he, hv⟩
  · refine rn_of (t := t35) rfl (fn := Tryz.f35) (by kernel_rfl) (by simp [fitArgs, flagsOf, h.plain, Pc.cells, ha.il.plain, hb.il.plain]) ?_
    refine wp_agg (by simp only [tv, tp, tn, PE.dn, SE.dn, dnL, nth, projV, List.getD_cons_succ, List.getD_cons_zero, Rg.cells, Pc.cells]; rfl) rfl ?_
    refine wp_agg (by simp only [tv, tp, tn, PE.dn, SE.dn, dnL, nth, projV, List.getD_cons_succ, List.getD_cons_zero, Rg.cells, Pc.cells]; rfl) rfl ?_
    refine wp_agg (by simp only [tv, tp, tn, PE.dn, SE.dn, dnL, nth, projV, List.getD_cons_succ, List.getD_cons_zero, Rg.cells, Pc.cells]; rfl) rfl ?_
    refine wp_call (ev67R k (slip := slip) (x := .snil) (ns := []) (y := .sl none 5 0 2 (a.cells ++ b.cells)) (ps := [a, b]) h snil1 (by simp) two5 (two_raw ha hb) (by simp)) rfl ?_
    rintro v ⟨p, q, rfl, hpq, hpl⟩
    refine wp_ext (by simp only [tv, tp, tn, PE.dn, SE.dn, dnL, nth, projV, List.getD_cons_succ, List.getD_cons_zero, Rg.cells, Pc.cells, extV]; rfl) ?_
    refine wp_ext (by simp only [tv, tp, tn, PE.dn, SE.dn, dnL, nth, projV, List.getD_cons_succ, List.getD_cons_zero, Rg.cells, Pc.cells, extV]; rfl) ?_
    refine wp_agg (by simp only [tv, tp, tn, PE.dn, SE.dn, dnL, nth, projV, List.getD_cons_succ, List.getD_cons_zero, Rg.cells, Pc.cells]; rfl) rfl ?_
    refine wp_neq rfl rfl ?_
    refine wp_itePT rfl (by omega) ?_
    exact wp_ret (v := .tup [.agg [iv 0, iv 0], iv (eop slip l [] [a, b])]) rfl rfl (.inl ⟨he, rfl⟩)
theorem ev84Y (k : Nat) {p : Pc} (hp : p.ok) (i : Int) (t : Bool) : Ev (k + 2) 84 [.agg p.cells, .agg [iv i, .bool t]] fun v => ∃ g, v = .agg [g, iv (above p t), iv (below p t), iv p.wd, .bool p.fr] := by
  refine rn_of (t := t84) rfl (fn := Tryz.f84) (by kernel_rfl) (by simp [fitArgs, flagsOf, Pc.cells, hp.il.plain]) ?_
  refine wp_agg (by simp only [tv, tp, tn, PE.dn, SE.dn, dnL, nth, projV, List.getD_cons_succ, List.getD_cons_zero, Rg.cells, Pc.cells]; rfl) rfl ?_
  refine wp_agg (by simp only [tv, tp, tn, PE.dn, SE.dn, dnL, nth, projV, List.getD_cons_succ, List.getD_cons_zero, Rg.cells, Pc.cells]; rfl) rfl ?_
  cases t
  · refine wp_iteF rfl ?_
    exact wp_ret (v := .agg p.cells) rfl (by simp [Pc.cells, hp.il.plain]) ⟨p.gp, rfl⟩
  · refine wp_iteT rfl ?_
    refine wp_callE (ev102 k hp) rfl ?_
    refine wp_agg (by simp only [tv, tp, tn, PE.dn, SE.dn, dnL, nth, projV, List.getD_cons_succ, List.getD_cons_zero, Rg.cells, Pc.cells]; rfl) rfl ?_
    have hq := (il_of p.g.reverse).plain
    exact wp_ret (v := .agg [ilOf p.g.reverse, iv p.dn, iv p.up, iv p.wd, .bool p.fr]) rfl (by simp [hq]) ⟨ilOf p.g.reverse, rfl⟩
/-! ### The least and the greatest so far -/
def loS (m n : Int) : Int := if m < 0 ∨ n < m then n else m
def hiS (m n : Int) : Int := if m < n then n else m
def lo (P : List Int) : Int := P.foldl loS (-1)
def hiL (P : List Int) : Int := P.foldl hiS 0
theorem lo_snoc (P Q T : List Int) (n : Int) : lo (P ++ (Q ++ (T ++ [n]))) = loS (lo (P ++ (Q ++ T))) n := by simp [lo, List.foldl_append]
theorem hi_snoc (P Q T : List Int) (n : Int) : hiL (P ++ (Q ++ (T ++ [n]))) = hiS (hiL (P ++ (Q ++ T))) n := by simp [hiL, List.foldl_append]
def LoI (P : List Int) (m M : Int) : Prop := (P = [] ∧ m = -1 ∧ M = 0) ∨ (0 ≤ m ∧ (m ∈ P ∧ ∀ y ∈ P, m ≤ y) ∧ M ∈ P ∧ ∀ y ∈ P, y ≤ M)
theorem loI_step {P : List Int} {m M n : Int} (h : LoI P m M) (hn : 0 ≤ n) : LoI (P ++ [n]) (loS m n) (hiS M n) := by
  right
  rcases h with ⟨rfl, rfl, rfl⟩ | ⟨h0, ⟨h1, h2⟩, h3, h4⟩
  · have e1 : loS (-1) n = n := by unfold loS; rw [if_pos (.inl (by omega))]
    have e2 : hiS 0 n = n := by unfold hiS; split <;> omega
    rw [e1, e2]
    simp [hn]
  · unfold loS hiS
    refine ⟨by split <;> omega, ⟨?_, fun y hy => ?_⟩, ?_, fun y hy => ?_⟩
    · split <;> simp [h1]
    · rcases List.mem_append.1 hy with hy | hy
      · have := h2 y hy; split <;> omega
      · have : y = n := by simpa using hy
        split <;> omega
    · split <;> simp [h3]
    · rcases List.mem_append.1 hy with hy | hy
      · have := h4 y hy; split <;> omega
      · have : y = n := by simpa using hy
        split <;> omega
theorem loI_all {L : List Int} (h : ∀ y ∈ L, 0 ≤ y) : LoI L (lo L) (hiL L) := by
  have key : ∀ (Q P : List Int) (m M : Int), LoI P m M → (∀ y ∈ Q, 0 ≤ y) → LoI (P ++ Q) (Q.foldl loS m) (Q.foldl hiS M) := by
    intro Q
    induction Q with
    | nil => intro P m M h _; simpa using h
    | cons q Q ih =>
      intro P m M h hq
      have := ih (P ++ [q]) _ _ (loI_step h (hq q (by simp))) fun y hy => hq y (by simp [hy])
      simpa using this
  have := key L [] (-1) 0 (.inl ⟨rfl, rfl, rfl⟩) h
  simpa [lo, hiL] using this
theorem lostR_nn {slip : Int} {a b : Pc} {l : List Rg} : ∀ y ∈ lostR slip a b l, 0 ≤ y := by
  refine flat_mem fun r hr => flat_mem fun x hx => flat_mem fun y hy z hz => ?_
  unfold lostOf at hz
  split at hz
  · simp at hz
  · split at hz
    · simp at hz; omega
    · simp at hz
theorem ev36R2 (k : Nat) {slip : Int} {lp : PV} {l : List Rg} (h : RawH lp l) {a b : Pc} (ha : RawP a) (hb : RawP b) : Ev (k + 5) 36 [.agg [iv slip, lp], .agg a.cells, .agg b.cells] (LoV slip l a b) := by
  refine rn_of (t := t36) rfl (fn := Tryz.f36) (by kernel_rfl) (by simp [fitArgs, flagsOf, h.plain, Pc.cells, ha.il.plain, hb.il.plain]) ?_
  refine wp_agg (by simp only [tv, tp, tn, PE.dn, SE.dn, dnL, nth, projV, List.getD_cons_succ, List.getD_cons_zero, Rg.cells, Pc.cells]; rfl) rfl ?_
  refine wp_agg (by simp only [tv, tp, tn, PE.dn, SE.dn, dnL, nth, projV, List.getD_cons_succ, List.getD_cons_zero, Rg.cells, Pc.cells]; rfl) rfl ?_
  refine wp_agg (by simp only [tv, tp, tn, PE.dn, SE.dn, dnL, nth, projV, List.getD_cons_succ, List.getD_cons_zero, Rg.cells, Pc.cells]; rfl) rfl ?_
  refine wp_callE (ev69R k (slip := slip) (x := .snil) (ns := []) (y := .sl none 5 0 2 (a.cells ++ b.cells)) (ps := [a, b]) h snil1 (by simp) two5 (two_raw ha hb) (by simp)) rfl ?_
  refine wp_neq rfl rfl ?_
  refine wp_iteP rfl (fun he => ?_) (fun he => ?_)
  · exact wp_ret (v := .tup [.agg [iv 0, iv 0], iv (eop slip l [] [a, b])]) rfl rfl (.inl ⟨he, rfl⟩)
  replace he := Decidable.not_not.1 he
  obtain ⟨hH, hao, hbo⟩ := eop2_ok h ha hb he
  have s0 := hH.s0
  have s1 := hH.s1
  have l1 := hH.l1
  have hrl := hH.rl
  have hal := ha.il
  have ag := hao.gl
  have a1 := hao.u0; have a2 := hao.u1; have a3 := hao.d0; have a4 := hao.d1
  have b1 := hbo.u0; have b2 := hbo.u1; have b3 := hbo.d0; have b4 := hbo.d1
  have hbel : ∀ t, 0 ≤ below a t ∧ below a t ≤ 30 := fun t => by cases t <;> simp [below] <;> omega
  have habv : ∀ t, 0 ≤ above b t ∧ above b t ≤ 30 := fun t => by cases t <;> simp [above] <;> omega
  refine wp_join (fun vs => vs = [iv (lo (lostR slip a b l)), iv (hiL (lostR slip a b l))]) ?_ ?_
  · refine wp_loop (fun j vs => ∃ i : Nat, vs = [iv (lo (lostR slip a b (l.take i))), iv (hiL (lostR slip a b (l.take i))), iv i] ∧ i + j = l.length) l.length (by omega) ⟨0, rfl, by omega⟩ ?_
    rintro j vs ⟨i, rfl, hij⟩
    refine wp_len22 rfl (by assumption) ?_
    refine wp_lss rfl rfl ?_
    refine wp_iteP rfl (fun h2 => ?_) (fun h2 => ?_)
    · have hlt : i < l.length := by omega
      have hr := hH.get hlt
      have hrow := rowR h.rl hlt
      have hnext : lostR slip a b (l.take (i + 1)) = lostR slip a b (l.take i) ++ lostX slip (l.getD i default) a b (spots slip (l.getD i default) a) (spots slip (l.getD i default) b) := flat_take hlt
      generalize l.getD i default = r at hr hrow hnext
      have n2 := hr.n2
      refine wp _ hrow ?_
      refine wp_callE (ev78 (k + 3) hao) rfl ?_
      refine wp_call (ev77s (k + 1) s0 s1 hr hao) rfl ?_
      intro xa hxa
      refine wp _ hrow ?_
      refine wp_callE (ev78 (k + 3) hbo) rfl ?_
      refine wp_call (ev77s (k + 1) s0 s1 hr hbo) rfl ?_
      intro xb hxb
      refine wp _ hrow ?_
      refine wp_call (ev70 (k + 2) hr) rfl ?_
      intro hs hhs
      have hla := spots_len slip hr a
      have hlb := spots_len slip hr b
      have hia := fun y hy => spots_in (slip := slip) (r := r) (p := a) (y := y) hy
      have hib := fun y hy => spots_in (slip := slip) (r := r) (p := b) (y := y) hy
      generalize spots slip r a = A at *
      generalize spots slip r b = B at *
      generalize lostR slip a b (l.take i) = P at *
      clear hrow
      refine wp_join (fun vs => vs = [iv (lo (P ++ lostX slip r a b A B)), iv (hiL (P ++ lostX slip r a b A B))]) ?_ ?_
      · refine wp_loop (fun j vs => ∃ n : Nat, vs = [iv (lo (P ++ lostX slip r a b (A.take n) B)), iv (hiL (P ++ lostX slip r a b (A.take n) B)), iv n] ∧ n + j = A.length) A.length (by omega) ⟨0, by rw [show lostX slip r a b (A.take 0) B = [] from rfl, List.append_nil]; rfl, by omega⟩ ?_
        rintro jx vs ⟨n, rfl, hn⟩
        try refine rn_norm (by (try simp only [List.length_cons, List.length_nil, Nat.reduceAdd, Nat.zero_add]); rfl) (by (try simp only [pushL]); rfl) ?_
        refine wp_len45 rfl hxa ?_
        refine wp_lss rfl rfl ?_
        refine wp_iteP rfl (fun h3 => ?_) (fun h3 => ?_)
        · have hnl : n < A.length := by omega
          have hrx := rowS hxa hnl
          have hxm := gmemA hnl
          have hnx : lostX slip r a b (A.take (n + 1)) B = lostX slip r a b (A.take n) B ++ lostY slip r a b (A.getD n default) B := flat_take hnl
          generalize A.getD n default = x at hrx hxm hnx
          have hx2 := hia x hxm
          generalize lostX slip r a b (A.take n) B = Q at *
          refine wp_join (fun vs => vs = [iv (lo (P ++ (Q ++ lostY slip r a b x B))), iv (hiL (P ++ (Q ++ lostY slip r a b x B)))]) ?_ ?_
          · refine wp_loop (fun j vs => ∃ m : Nat, vs = [iv m, iv (lo (P ++ (Q ++ lostY slip r a b x (B.take m)))), iv (hiL (P ++ (Q ++ lostY slip r a b x (B.take m))))] ∧ m + j = B.length) B.length (by omega) ⟨0, by rw [show lostY slip r a b x (B.take 0) = [] from rfl, List.append_nil]; rfl, by omega⟩ ?_
            rintro jy vs ⟨m, rfl, hm⟩
            try refine rn_norm (by (try simp only [List.length_cons, List.length_nil, Nat.reduceAdd, Nat.zero_add]); rfl) (by (try simp only [pushL]); rfl) ?_
            refine wp_len45 rfl hxb ?_
            refine wp_lss rfl rfl ?_
            refine wp_iteP rfl (fun h4 => ?_) (fun h4 => ?_)
            · have hml : m < B.length := by omega
              have hry := rowS hxb hml
              have hym := gmemA hml
              have hny : lostY slip r a b x (B.take (m + 1)) = lostY slip r a b x (B.take m) ++ lostOf slip r a b x (B.getD m default) := flat_take hml
              generalize B.getD m default = y at hry hym hny
              have hy2 := hib y hym
              generalize lostY slip r a b x (B.take m) = T at *
              have hb1 := hbel x.2
              have hb2 := habv y.2
              have hq1 := ht_ok hr y.1
              have hq2 := ht_ok hr (x.1 + a.g.length)
              have g1 := rowI hhs (n := y.1) (by rw [htl_len]; omega)
              have g2 := rowI hhs (n := x.1 + a.g.length) (by rw [htl_len]; omega)
              rw [htl_get r (by omega)] at g1 g2
              obtain ⟨G, hG⟩ : ∃ G, G = lo (P ++ (Q ++ T)) := ⟨_, rfl⟩
              obtain ⟨U, hU⟩ : ∃ U, U = hiL (P ++ (Q ++ T)) := ⟨_, rfl⟩
              rw [← hG, ← hU]
              refine wp _ hrx ?_
              refine wp_len25 rfl (by assumption) ?_
              refine wp_addN rfl rfl (by omega) ?_
              refine wp_join (fun vs => vs = [.bool (decide (y.1 ≤ x.1 + a.g.length ∨ ht r y.1 - ht r (x.1 + a.g.length) < below a x.2 + above b y.2 - 2 * slip))]) ?_ ?_
              · refine wp _ hry ?_
                refine wp_leq rfl rfl ?_
                refine wp_iteP rfl (fun h5 => ?_) (fun h5 => ?_)
                · exact wp_jump (jb_t (.inl (by omega)))
                · refine wp _ hry ?_
                  refine wp _ g1 ?_
                  refine wp _ g2 ?_
                  try refine rn_norm (by (try simp only [List.length_cons, List.length_nil, Nat.reduceAdd, Nat.zero_add]); rfl) (by (try simp only [pushL]); rfl) ?_
                  refine wp_sub rfl rfl (by omega) (by omega) ?_
                  refine wp _ hrx ?_
                  refine wp_call (ev84Y (k + 2) hao x.1 x.2) rfl ?_
                  rintro v ⟨ga, rfl⟩
                  refine wp_agg (cs := [ga, iv (above a x.2), iv (below a x.2), iv a.wd, .bool a.fr]) rfl rfl ?_
                  refine wp _ hry ?_
                  refine wp_call (ev84Y (k + 2) hbo y.1 y.2) rfl ?_
                  rintro v ⟨gb, rfl⟩
                  refine wp_agg (cs := [gb, iv (above b y.2), iv (below b y.2), iv b.wd, .bool b.fr]) rfl rfl ?_
                  try refine rn_norm (by (try simp only [List.length_cons, List.length_nil, Nat.reduceAdd, Nat.zero_add]); rfl) (by (try simp only [pushL]); rfl) ?_
                  refine wp_add rfl rfl (by omega) (by omega) ?_
                  refine wp_mul rfl rfl (by omega) (by omega) ?_
                  refine wp_sub rfl rfl (by omega) (by omega) ?_
                  refine wp_lss rfl rfl ?_
                  exact wp_jump (jb_eq (by omega))
              rintro vs rfl
              try refine rn_norm (by (try simp only [List.length_cons, List.length_nil, Nat.reduceAdd, Nat.zero_add]); rfl) (by (try simp only [pushL]); rfl) ?_
              refine wp_iteP rfl (fun h5 => ?_) (fun h5 => ?_)
              · have hz : lostOf slip r a b x y = [] := by
                  unfold lostOf
                  rcases h5 with h5 | h5
                  · rw [if_pos h5]
                  · split
                    · rfl
                    · rw [if_neg (by omega)]
                rw [hz, List.append_nil] at hny
                refine wp_add1 rfl rfl (by omega) ?_
                exact wp_jump ⟨jy - 1, by omega, m + 1, by rw [hny, ← hG, ← hU]; rfl, by omega⟩
              · have hz : lostOf slip r a b x y = [(y.1 : Int) - (x.1 + a.g.length : Nat) - 1] := by
                  unfold lostOf
                  rw [if_neg (fun e => h5 (.inl e)), if_pos (by omega)]
                rw [hz] at hny
                refine wp _ hry ?_
                refine wp_sub rfl rfl (by omega) (by omega) ?_
                refine wp_sub rfl rfl (by omega) (by omega) ?_
                generalize (y.1 : Int) - (x.1 + a.g.length : Nat) - 1 = z at *
                refine wp_join (fun vs => vs = [.bool (decide (G < 0 ∨ z < G))]) ?_ ?_
                · refine wp_lss rfl rfl ?_
                  refine wp_iteP rfl (fun h6 => ?_) (fun h6 => ?_)
                  · exact wp_jump (jb_t (.inl h6))
                  · refine wp_lss rfl rfl ?_
                    exact wp_jump (jb_eq (by omega))
                rintro vs rfl
                try refine rn_norm (by (try simp only [List.length_cons, List.length_nil, Nat.reduceAdd, Nat.zero_add]); rfl) (by (try simp only [pushL]); rfl) ?_
                refine wp_join (fun vs => vs = [iv (loS G z)]) ?_ ?_
                · refine wp_iteP rfl (fun h6 => ?_) (fun h6 => ?_)
                  · unfold loS; rw [if_pos h6]; exact wp_jump rfl
                  · unfold loS; rw [if_neg h6]; exact wp_jump rfl
                rintro vs rfl
                try refine rn_norm (by (try simp only [List.length_cons, List.length_nil, Nat.reduceAdd, Nat.zero_add]); rfl) (by (try simp only [pushL]); rfl) ?_
                refine wp_max rfl rfl ?_
                refine wp_add1 rfl rfl (by omega) ?_
                exact wp_jump ⟨jy - 1, by omega, m + 1, by rw [hny, lo_snoc, hi_snoc, ← hG, ← hU]; rfl, by omega⟩
            · refine wp_jumpO (by decide) ?_
              have e : B.take m = B := List.take_of_length_le (by omega)
              rw [e]
              exact wp_jump rfl
          rintro vs rfl
          refine wp_add1 rfl rfl (by omega) ?_
          exact wp_jump ⟨jx - 1, by omega, n + 1, by rw [hnx]; rfl, by omega⟩
        · refine wp_jumpO (by decide) ?_
          have e : A.take n = A := List.take_of_length_le (by omega)
          rw [e]
          exact wp_jump rfl
      rintro vs rfl
      refine wp_add1 rfl rfl (by omega) ?_
      exact wp_jump ⟨j - 1, by omega, i + 1, by rw [hnext]; rfl, by omega⟩
    · refine wp_jumpO (by decide) ?_
      have e : l.take i = l := List.take_of_length_le (by omega)
      rw [e]
      exact wp_jump rfl
  rintro vs rfl
  have hL := loI_all (lostR_nn (slip := slip) (a := a) (b := b) (l := l))
  generalize lo (lostR slip a b l) = G at *
  generalize hiL (lostR slip a b l) = U at *
  refine wp_lss rfl rfl ?_
  refine wp_iteP rfl (fun h6 => ?_) (fun h6 => ?_)
  · refine wp_ret (v := .tup [.agg [iv 0, iv 0], iv 11]) rfl rfl (.inr ⟨he, .inl ⟨rfl, ?_⟩⟩)
    rcases hL with ⟨hL, _⟩ | ⟨hL, _⟩
    · exact hL
    · omega
  · rcases hL with ⟨_, hL, _⟩ | ⟨_, h7⟩
    · omega
    · refine wp_one (by simp only [tv, tp, tn, PE.dn, SE.dn, dnL, nth, projV, List.getD_cons_succ, List.getD_cons_zero, Rg.cells, Pc.cells]; rfl) rfl ?_
      refine wp_one (by simp only [tv, tp, tn, PE.dn, SE.dn, dnL, nth, projV, List.getD_cons_succ, List.getD_cons_zero, Rg.cells, Pc.cells]; rfl) rfl ?_
      exact wp_ret (v := .tup [.agg [iv G, iv U], iv 0]) rfl rfl (.inr ⟨he, .inr ⟨G, U, rfl, h7⟩⟩)
end Go.Proofs.YtlminnpaeaganaaGreat
