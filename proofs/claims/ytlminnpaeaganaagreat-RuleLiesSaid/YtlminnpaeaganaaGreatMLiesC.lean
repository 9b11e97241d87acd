/- Lies: the law is proved. No condition. -/
import Derived.Test.YtlminnpaeaganaaGreatMLiesA
namespace Go.Proofs.YtlminnpaeaganaaGreat
open Go Go.RowKit
set_option linter.unusedVariables false
set_option linter.unusedSimpArgs false
set_option maxRecDepth 100000
/-! ### The keys of a map of spots -/
abbrev Sp := Nat × Bool
def insP (L : List Sp) (x : Sp) : List Sp := if x ∈ L then L else L ++ [x]
theorem insP_mem {L : List Sp} {x z : Sp} : z ∈ insP L x ↔ z ∈ L ∨ z = x := by
  unfold insP
  split
  · rename_i h
    exact ⟨.inl, fun k => k.elim id fun e => by rw [e]; exact h⟩
  · simp
theorem fits_all : ((List.range 16).all fun i => [true, false].all fun b => fitKey Tryz.prog 43 [PV.int .i64 (i : Nat), .bool b]) = true := by kernel_rfl
theorem fit_spot {x : Sp} (h : x.1 < 16) : fitKey Tryz.prog 43 [iv x.1, .bool x.2] = true := by
  have := List.all_eq_true.1 (List.all_eq_true.1 fits_all x.1 (by simpa using h)) x.2 (by cases x.2 <;> simp)
  exact this
theorem sc_cons (x : Sp) (L : List Sp) : scells (x :: L) = iv x.1 :: .bool x.2 :: scells L := by simp [scells]
theorem sc_drop : ∀ (L : List Sp) (i : Nat), (scells L).drop (i * 2) = scells (L.drop i)
  | L, 0 => by simp
  | [], i + 1 => by simp [scells]
  | x :: L, i + 1 => by
    rw [sc_cons, show (i + 1) * 2 = i * 2 + 2 by omega, List.drop_succ_cons, List.drop_succ_cons, sc_drop L i]
    rfl
theorem sc_take : ∀ (L : List Sp) (i : Nat), (scells L).take (i * 2) = scells (L.take i)
  | L, 0 => by simp [scells]
  | [], i + 1 => by simp [scells]
  | x :: L, i + 1 => by
    rw [sc_cons, show (i + 1) * 2 = i * 2 + 2 by omega, List.take_succ_cons, List.take_succ_cons, sc_take L i, List.take_succ_cons, sc_cons]
theorem sc_chunk {L : List Sp} {i : Nat} (h : i < L.length) : chunk 2 (scells L) i = [iv (L.getD i default).1, .bool (L.getD i default).2] := by
  unfold chunk
  rw [sc_drop, List.drop_eq_getElem_cons h, sc_cons]
  simp [List.getD_eq_getElem?_getD, h]
theorem sc_dropK {L : List Sp} {i : Nat} : dropK 2 (scells L) i = scells (L.eraseIdx i) := by
  unfold dropK
  rw [sc_take, sc_drop, ← scells_append, List.eraseIdx_eq_take_drop_succ]
theorem sc_num (L : List Sp) : (scells L).length / 2 = L.length := by rw [scells_len]; omega
theorem sc_has {L : List Sp} {x : Sp} : hasC 2 (scells L) [iv x.1, .bool x.2] = decide (x ∈ L) := by
  unfold hasC
  rw [sc_num]
  have key : ∀ i, i < L.length → scLB (chunk 2 (scells L) i) [iv x.1, .bool x.2] = decide (L.getD i default = x) := fun i hi => by
    rw [sc_chunk hi]
    generalize L.getD i default = y
    obtain ⟨a, b⟩ := y
    obtain ⟨c, d⟩ := x
    have e : scLB [iv a, .bool b] [iv c, .bool d] = (decide ((a : Int) = c) && (b == d)) := by simp [scLB, scB]
    show scLB [iv a, .bool b] [iv c, .bool d] = _
    rw [e]
    by_cases h1 : a = c
    · subst h1; cases b <;> cases d <;> simp
    · have h2 : ¬ (a : Int) = c := by omega
      simp [h1, h2]
  rw [Bool.eq_iff_iff, List.any_eq_true]
  simp only [List.mem_range, decide_eq_true_eq]
  refine ⟨fun ⟨i, hi, h⟩ => ?_, fun h => ?_⟩
  · rw [key i hi, decide_eq_true_eq] at h
    rw [← h]; exact gmemA hi
  · obtain ⟨i, hi, e⟩ := List.getElem_of_mem h
    exact ⟨i, hi, by rw [key i hi, decide_eq_true_eq]; simp [List.getD_eq_getElem?_getD, hi, e]⟩
theorem ins_spot {L : List Sp} {x : Sp} (hL : ∀ z ∈ L, z.1 < 16) (hx : x.1 < 16) : insV Tryz.prog 43 2 (.agg (scells L)) [iv x.1, .bool x.2] = some (.agg (scells (insP L x))) := by
  have hf : fitKeys Tryz.prog 43 2 (scells L) = true := by
    refine List.all_eq_true.2 fun i hi => ?_
    rw [List.mem_range, sc_num] at hi
    rw [sc_chunk hi]
    exact fit_spot (hL _ (gmemA hi))
  simp only [insV]
  rw [if_pos ⟨by omega, rfl, hf, fit_spot hx⟩]
  simp only [insC, sc_has, decide_eq_true_eq, insP]
  split
  · rfl
  · rw [scells_append]; simp [scells]
def keysP (L : List Sp) : List Sp := L.foldl insP []
theorem keysP_mem {z : Sp} : ∀ {L : List Sp}, z ∈ keysP L ↔ z ∈ L := by
  have key : ∀ (L K : List Sp), z ∈ L.foldl insP K ↔ z ∈ K ∨ z ∈ L := by
    intro L
    induction L with
    | nil => simp
    | cons x L ih => intro K; rw [List.foldl_cons, ih, insP_mem]; simp [or_assoc]
  intro L
  unfold keysP
  rw [key]
  simp
theorem keysP_succ {L : List Sp} {i : Nat} (h : i < L.length) : keysP (L.take (i + 1)) = insP (keysP (L.take i)) (L.getD i default) := by
  unfold keysP
  rw [take_one h, List.foldl_append]
  rfl
theorem insP_len (L : List Sp) (x : Sp) : (insP L x).length ≤ L.length + 1 := by
  unfold insP
  split
  · omega
  · simp
theorem keysP_len : ∀ (L : List Sp), (keysP L).length ≤ L.length := by
  have key : ∀ (L K : List Sp), (L.foldl insP K).length ≤ K.length + L.length := by
    intro L
    induction L with
    | nil => simp
    | cons x L ih =>
      intro K
      have := ih (insP K x)
      have := insP_len K x
      simp only [List.foldl_cons, List.length_cons]
      omega
  intro L
  have := key L []
  simpa [keysP] using this
theorem pick_none {lk : List PV} (h : lk.length = 2) (i : Nat) : pickV 2 (lk ++ scells []) i = .agg [.bool false] := by
  have : (lk ++ scells []).drop 2 = [] := by simp [scells, h]
  simp [pickV, pickN, this]
theorem pick_some {lk : List PV} {L : List Sp} (h : lk.length = 2) (hL : 0 < L.length) (i : Nat) : ∃ j, j < L.length ∧ pickV 2 (lk ++ scells L) i = .agg (.bool true :: ([iv (L.getD j default).1, .bool (L.getD j default).2] ++ scells (L.eraseIdx j))) := by
  have hd : (lk ++ scells L).drop 2 = scells L := by rw [← h]; exact List.drop_left' rfl
  have hn : pickN 2 (lk ++ scells L) = L.length := by unfold pickN; rw [hd, sc_num]
  have hj : i % L.length < L.length := Nat.mod_lt _ hL
  refine ⟨i % L.length, hj, ?_⟩
  unfold pickV
  rw [hn, if_neg (by omega), hd, sc_chunk hj, sc_dropK]
theorem erase_mem (z : Sp) : ∀ {L : List Sp} {j : Nat}, j < L.length → (z ∈ L ↔ z = L.getD j default ∨ z ∈ L.eraseIdx j)
  | [], j, h => by simp at h
  | x :: L, 0, h => by simp
  | x :: L, j + 1, h => by
    have := erase_mem z (L := L) (j := j) (by simpa using h)
    simp only [List.mem_cons, List.getD_cons_succ, List.eraseIdx_cons_succ]
    rw [this]
    exact or_left_comm
theorem spot_eqv (a c : Int) (b d : Bool) : aBin Tryz.prog .eql 43 (.agg [iv a, .bool b]) (.agg [iv c, .bool d]) = some (.bool (decide (a = c) && ((b == d) && true))) := by
  simp only [aBin, spot_eq]
theorem spot_dec (x y : Sp) : (decide ((x.1 : Int) = (y.1 : Int)) && ((x.2 == y.2) && true)) = decide (y = x) := by
  obtain ⟨a, b⟩ := x
  obtain ⟨c, d⟩ := y
  simp only [Bool.and_true, Prod.mk.injEq, Bool.decide_and]
  congr 1
  · exact decide_eq_decide.2 (by omega)
  · cases b <;> cases d <;> rfl
/-! ### Rulings with a common spot -/
def anyIn (B A : List Sp) : Bool := B.any fun y => decide (y ∈ A)
theorem anyIn_succ {B A : List Sp} {m : Nat} (h : m < B.length) : anyIn (B.take (m + 1)) A = (anyIn (B.take m) A || decide (B.getD m default ∈ A)) := by
  unfold anyIn
  rw [take_one h, List.any_append]
  simp
def hit (slip : Int) (a b : Pc) (r : Rg) : Bool := anyIn (spots slip r b) (spots slip r a)
def bckL (slip : Int) (l : List Rg) (a b : Pc) (n : Nat) : List Int := ((List.range n).filter fun i => hit slip a b (l.getD i default)).map fun (i : Nat) => (i : Int)
theorem bckL_succ (slip : Int) (l : List Rg) (a b : Pc) (n : Nat) : bckL slip l a b (n + 1) = bckL slip l a b n ++ (if hit slip a b (l.getD n default) = true then [(n : Int)] else []) := by
  simp only [bckL, List.range_succ, List.filter_append, List.map_append]
  congr 1
  cases h : hit slip a b (l.getD n default) <;> simp only [List.filter, h, List.map_cons, List.map_nil] <;> rfl
theorem bckL_len (slip : Int) (l : List Rg) (a b : Pc) (n : Nat) : (bckL slip l a b n).length ≤ n := by
  unfold bckL
  rw [List.length_map]
  refine Nat.le_trans (List.length_filter_le _ _) ?_
  simp
def bckV (slip : Int) (l : List Rg) (a b : Pc) : List Int := if eop slip l [] [a, b] = 0 then bckL slip l a b l.length else []
theorem ev14R (k : Nat) {slip : Int} {lp : PV} {l : List Rg} (h : RawH lp l) {a b : Pc} (ha : RawP a) (hb : RawP b) : Ev (k + 5) 14 [.agg [iv slip, lp], .agg a.cells, .agg b.cells] fun v => ∃ y, v = .tup [y, iv (eop slip l [] [a, b])] ∧ IL y (bckV slip l a b) := by
  refine rn_of (t := t14) rfl (fn := Tryz.f14) (by kernel_rfl) (by simp [fitArgs, flagsOf, h.plain, Pc.cells, ha.il.plain, hb.il.plain]) ?_
  refine wp_agg (by simp only [tv, tp, tn, PE.dn, SE.dn, dnL, nth, projV, List.getD_cons_succ, List.getD_cons_zero, Rg.cells, Pc.cells]; rfl) rfl ?_
  refine wp_agg (by simp only [tv, tp, tn, PE.dn, SE.dn, dnL, nth, projV, List.getD_cons_succ, List.getD_cons_zero, Rg.cells, Pc.cells]; rfl) rfl ?_
  refine wp_agg (by simp only [tv, tp, tn, PE.dn, SE.dn, dnL, nth, projV, List.getD_cons_succ, List.getD_cons_zero, Rg.cells, Pc.cells]; rfl) rfl ?_
  refine wp_call (ev67R k (slip := slip) (x := .snil) (ns := []) (y := .sl none 5 0 2 (a.cells ++ b.cells)) (ps := [a, b]) h snil1 (by simp) two5 (two_raw ha hb) (by simp)) rfl ?_
  rintro v ⟨p, q, rfl, hpq, hpl⟩
  refine wp_ext (by simp only [tv, tp, tn, PE.dn, SE.dn, dnL, nth, projV, List.getD_cons_succ, List.getD_cons_zero, Rg.cells, Pc.cells, extV]; rfl) ?_
  refine wp_ext (by simp only [tv, tp, tn, PE.dn, SE.dn, dnL, nth, projV, List.getD_cons_succ, List.getD_cons_zero, Rg.cells, Pc.cells, extV]; rfl) ?_
  refine wp_agg (by simp only [tv, tp, tn, PE.dn, SE.dn, dnL, nth, projV, List.getD_cons_succ, List.getD_cons_zero, Rg.cells, Pc.cells]; rfl) rfl ?_
  refine wp_neq rfl rfl ?_
  refine wp_iteP rfl (fun he => ?_) (fun he => ?_)
  · exact wp_ret (v := .tup [.snil, iv (eop slip l [] [a, b])]) rfl rfl ⟨.snil, rfl, by unfold bckV; rw [if_neg he]; exact snil1⟩
  replace he := Decidable.not_not.1 he
  obtain ⟨rfl, rfl⟩ := hpq he
  obtain ⟨hH, hao, hbo⟩ := eop2_ok h ha hb he
  have l1 := hH.l1
  have hrl := hH.rl
  refine wp_len22 rfl (by assumption) ?_
  refine wp_join (fun vs => vs = [.agg ((bckL slip l a b l.length).map iv)]) ?_ ?_
  · refine wp_loop (fun j vs => ∃ i : Nat, vs = [.agg ((bckL slip l a b i).map iv), iv i] ∧ i + j = l.length) l.length (by omega) ⟨0, rfl, by omega⟩ ?_
    rintro j vs ⟨i, rfl, hi⟩
    refine wp_lss rfl rfl ?_
    refine wp_iteP rfl (fun h2 => ?_) (fun h2 => ?_)
    · have hlt : i < l.length := by omega
      have hr := hH.get hlt
      have hP := bckL_len slip l a b i
      have hnext := bckL_succ slip l a b i
      have h76 := fun (p : Pc) (hp : p.ok) => ev76 k hH hlt hp
      unfold hit at hnext
      generalize l.getD i default = r at hr hnext h76
      have n2 := hr.n2
      generalize bckL slip l a b i = P at *
      obtain ⟨P2, hP2⟩ : ∃ P2, P2 = bckL slip l a b (i + 1) := ⟨_, rfl⟩
      rw [← hP2] at hnext
      refine wp_lst ?_
      refine wp_call (h76 a hao) rfl ?_
      intro xa hxa
      have hla := spots_len slip hr a
      have hlb := spots_len slip hr b
      have hia := fun y hy => (spots_in (slip := slip) (r := r) (p := a) (y := y) hy).1
      generalize spots slip r a = A at *
      refine wp_len45 rfl hxa ?_
      refine wp_join (fun vs => vs = [.agg (P.map iv), .agg (scells (keysP A))]) ?_ ?_
      · refine wp_loop (fun j vs => ∃ n : Nat, vs = [iv n, .agg (P.map iv), .agg (scells (keysP (A.take n)))] ∧ n + j = A.length) A.length (by omega) ⟨0, rfl, by omega⟩ ?_
        rintro jx vs ⟨n, rfl, hn⟩
        refine wp_lss rfl rfl ?_
        refine wp_iteP rfl (fun h3 => ?_) (fun h3 => ?_)
        · have hnl : n < A.length := by omega
          have hrx := rowS hxa hnl
          have hx2 := hia _ (gmemA hnl)
          have hks := keysP_succ hnl
          have hKs : ∀ z ∈ keysP (A.take n), z.1 < 16 := fun z hz => by
            have := hia z (List.mem_of_mem_take (keysP_mem.1 hz))
            omega
          generalize A.getD n default = x at hrx hx2 hks
          refine wp _ hrx ?_
          refine wp _ (ins_spot hKs (x := x) (by omega)) ?_
          refine wp_add1 rfl rfl (by omega) ?_
          exact wp_jump ⟨jx - 1, by omega, n + 1, by rw [hks]; rfl, by omega⟩
        · refine wp_jumpO (by decide) ?_
          have e : A.take n = A := List.take_of_length_le (by omega)
          rw [e]
          exact wp_jump rfl
      rintro vs rfl
      try refine rn_norm (by (try simp only [List.length_cons, List.length_nil, Nat.reduceAdd, Nat.zero_add]); rfl) (by (try simp only [pushL]); rfl) ?_
      refine wp_call (h76 b hbo) rfl ?_
      intro xb hxb
      generalize spots slip r b = B at *
      have hK : ∀ z, z ∈ keysP A ↔ z ∈ A := fun z => keysP_mem
      have hKl := keysP_len A
      generalize keysP A = K at *
      refine wp_len45 rfl hxb ?_
      refine wp_join (fun vs => vs = [.bool (anyIn B A)]) ?_ ?_
      · refine wp (.mp false none 2 (scells K)) (by rfl) ?_
        refine wp_loop (fun j vs => ∃ m : Nat, vs = [.mp false none 2 (scells K), .bool (anyIn (B.take m) A), iv m] ∧ m + j = B.length) B.length (by omega) ⟨0, rfl, by omega⟩ ?_
        rintro jy vs ⟨m, rfl, hm⟩
        refine wp_lss rfl rfl ?_
        refine wp_iteP rfl (fun h4 => ?_) (fun h4 => ?_)
        · have hml : m < B.length := by omega
          have hry := rowS hxb hml
          have hnx : anyIn (B.take (m + 1)) A = (anyIn (B.take m) A || decide (B.getD m default ∈ K)) := by rw [anyIn_succ hml, decide_eq_decide.2 (hK _)]
          generalize B.getD m default = y at hry hnx
          generalize anyIn (B.take m) A = c at *
          have hc2 : ∃ c2, c2 = anyIn (B.take (m + 1)) A := ⟨_, rfl⟩
          obtain ⟨c2, hc2⟩ := hc2
          rw [← hc2] at hnx
          refine wp _ hry ?_
          refine wp (.agg ([.nilp, .nilp] ++ scells K)) (by
            show keysV 2 (.mp false none 2 (scells K)) = _
            simp only [keysV]
            rw [if_pos ⟨trivial, by omega, scells_plain K, by rw [sc_num, scells_len]⟩]; rfl) ?_
          refine wp_join (fun vs => vs = [.bool c2]) ?_ ?_
          · refine wp_loop (fun j vs => ∃ (e : Bool) (lk : List PV) (L : List Sp), vs = [.bool e, .agg (lk ++ scells L)] ∧ lk.length = 2 ∧ L.length = j ∧ (e || decide (y ∈ L)) = c2) K.length (by omega) ⟨c, [.nilp, .nilp], K, rfl, rfl, rfl, hnx.symm⟩ ?_
            rintro jz vs ⟨e, lk, L, rfl, hlk, hLl, hinv⟩
            try refine rn_norm (by (try simp only [List.length_cons, List.length_nil, Nat.reduceAdd, Nat.zero_add]); rfl) (by (try simp only [pushL]); rfl) ?_
            refine wp_pick rfl fun ix => ?_
            rcases Nat.eq_zero_or_pos jz with hz | hz
            · have : L = [] := List.eq_nil_of_length_eq_zero (by omega)
              subst this
              rw [pick_none hlk]
              refine wp_iteF rfl ?_
              refine wp_jumpO (by decide) ?_
              refine wp_jump ?_
              rw [← hinv]
              simp [dnL, PE.dn, SE.dn, nth, tv]
            · obtain ⟨jj, hjj, hpv⟩ := pick_some (L := L) hlk (by omega) ix
              rw [hpv]
              have hem := erase_mem y hjj
              have hel : (L.eraseIdx jj).length = jz - 1 := by rw [List.length_eraseIdx_of_lt hjj]; omega
              generalize L.getD jj default = z at *
              generalize L.eraseIdx jj = L2 at *
              refine wp_iteT rfl ?_
              refine wp (.agg ([iv z.1, .bool z.2] ++ scells L2)) rfl ?_
              refine wp (.agg [iv z.1, .bool z.2]) rfl ?_
              refine wp_join (fun vs => vs = [.bool (e || decide (y = z))]) ?_ ?_
              · refine wp_iteB rfl (fun h5 => ?_) (fun h5 => ?_)
                · subst h5
                  exact wp_jump rfl
                · subst h5
                  refine wp _ (spot_eqv z.1 y.1 z.2 y.2) ?_
                  rw [spot_dec]
                  exact wp_jump rfl
              rintro vs rfl
              try refine rn_norm (by (try simp only [List.length_cons, List.length_nil, Nat.reduceAdd, Nat.zero_add]); rfl) (by (try simp only [pushL]); rfl) ?_
              refine wp_jump ⟨jz - 1, by omega, e || decide (y = z), [iv z.1, .bool z.2], L2, rfl, rfl, by omega, ?_⟩
              rw [← hinv, Bool.or_assoc]
              congr 1
              rw [← Bool.decide_or]
              exact decide_eq_decide.2 hem.symm
          rintro vs rfl
          refine wp_add1 rfl rfl (by omega) ?_
          exact wp_jump ⟨jy - 1, by omega, m + 1, by rw [← hc2]; rfl, by omega⟩
        · refine wp_jumpO (by decide) ?_
          have e : B.take m = B := List.take_of_length_le (by omega)
          rw [e]
          exact wp_jump rfl
      rintro vs rfl
      try refine rn_norm (by (try simp only [List.length_cons, List.length_nil, Nat.reduceAdd, Nat.zero_add]); rfl) (by (try simp only [pushL]); rfl) ?_
      refine wp_join (fun vs => vs = [.agg (P2.map iv)]) ?_ ?_
      · refine wp_iteB rfl (fun h3 => ?_) (fun h3 => ?_)
        · rw [if_pos h3] at hnext
          refine wp_one (by simp only [tv, tp, tn, PE.dn, SE.dn, dnL, nth, projV, List.getD_cons_succ, List.getD_cons_zero, Rg.cells, Pc.cells]; rfl) rfl ?_
          refine wp_pushI rfl rfl (by decide) (by first | omega | (simp; omega)) ?_
          refine wp_jump ?_
          rw [hnext]
          simp [dnL, PE.dn, SE.dn, nth, tv]
        · rw [if_neg (by rw [h3]; simp), List.append_nil] at hnext
          refine wp_jump ?_
          rw [hnext]; rfl
      rintro vs rfl
      refine wp_add1 rfl rfl (by omega) ?_
      exact wp_jump ⟨j - 1, by omega, i + 1, by rw [← hP2]; rfl, by omega⟩
    · refine wp_jumpO (by decide) ?_
      have e : i = l.length := by omega
      rw [e]
      exact wp_jump rfl
  rintro vs rfl
  refine wp_frzN rfl ?_
  have hq := (il_of (bckL slip l a b l.length)).plain
  refine wp_ret (v := .tup [ilOf (bckL slip l a b l.length), iv 0]) rfl (by simp [hq]) ⟨_, by rw [he], ?_⟩
  unfold bckV
  rw [if_pos he]
  exact il_of _
end Go.Proofs.YtlminnpaeaganaaGreat
namespace Go.Proofs.YtlminnpaeaganaaGreat
open Go Go.RowKit
set_option linter.unusedVariables false
set_option linter.unusedSimpArgs false
set_option maxRecDepth 100000
/-- Some spot of A, all of B tried. -/
def meet (A B : List Sp) : Bool := A.any fun x => B.any fun y => decide (y = x)
theorem any_succ {f : Sp → Bool} {B : List Sp} {m : Nat} (h : m < B.length) : (B.take (m + 1)).any f = ((B.take m).any f || f (B.getD m default)) := by
  rw [take_one h, List.any_append]
  simp
theorem meet_eq (A B : List Sp) : meet A B = anyIn B A := by
  unfold meet anyIn
  rw [Bool.eq_iff_iff]
  simp only [List.any_eq_true, decide_eq_true_eq]
  constructor
  · rintro ⟨x, hx, y, hy, rfl⟩; exact ⟨y, hy, hx⟩
  · rintro ⟨y, hy, hx⟩; exact ⟨y, hx, y, hy, rfl⟩
theorem ev39R (k : Nat) {slip : Int} {lp : PV} {l : List Rg} (h : RawH lp l) {a b : Pc} (ha : RawP a) (hb : RawP b) : Ev (k + 5) 39 [.agg [iv slip, lp], .agg a.cells, .agg b.cells] fun v => ∃ y, v = .tup [y, iv (eop slip l [] [a, b])] ∧ IL y (bckV slip l a b) := by
  refine rn_of (t := t39) rfl (fn := Tryz.f39) (by kernel_rfl) (by simp [fitArgs, flagsOf, h.plain, Pc.cells, ha.il.plain, hb.il.plain]) ?_
  refine wp_agg (by simp only [tv, tp, tn, PE.dn, SE.dn, dnL, nth, projV, List.getD_cons_succ, List.getD_cons_zero, Rg.cells, Pc.cells]; rfl) rfl ?_
  refine wp_agg (by simp only [tv, tp, tn, PE.dn, SE.dn, dnL, nth, projV, List.getD_cons_succ, List.getD_cons_zero, Rg.cells, Pc.cells]; rfl) rfl ?_
  refine wp_agg (by simp only [tv, tp, tn, PE.dn, SE.dn, dnL, nth, projV, List.getD_cons_succ, List.getD_cons_zero, Rg.cells, Pc.cells]; rfl) rfl ?_
  refine wp_callE (ev69R k (slip := slip) (x := .snil) (ns := []) (y := .sl none 5 0 2 (a.cells ++ b.cells)) (ps := [a, b]) h snil1 (by simp) two5 (two_raw ha hb) (by simp)) rfl ?_
  refine wp_neq rfl rfl ?_
  refine wp_iteP rfl (fun he => ?_) (fun he => ?_)
  · exact wp_ret (v := .tup [.snil, iv (eop slip l [] [a, b])]) rfl rfl ⟨.snil, rfl, by unfold bckV; rw [if_neg he]; exact snil1⟩
  replace he := Decidable.not_not.1 he
  obtain ⟨hH, hao, hbo⟩ := eop2_ok h ha hb he
  have s0 := hH.s0
  have s1 := hH.s1
  have l1 := hH.l1
  have hrl := hH.rl
  refine wp_join (fun vs => vs = [.agg ((bckL slip l a b l.length).map iv)]) ?_ ?_
  · refine wp_loop (fun j vs => ∃ i : Nat, vs = [.agg ((bckL slip l a b i).map iv), iv i] ∧ i + j = l.length) l.length (by omega) ⟨0, rfl, by omega⟩ ?_
    rintro j vs ⟨i, rfl, hi⟩
    refine wp_len22 rfl (by assumption) ?_
    refine wp_lss rfl rfl ?_
    refine wp_iteP rfl (fun h2 => ?_) (fun h2 => ?_)
    · have hlt : i < l.length := by omega
      have hr := hH.get hlt
      have hrow := rowR h.rl hlt
      have hP := bckL_len slip l a b i
      have hnext := bckL_succ slip l a b i
      unfold hit at hnext
      generalize l.getD i default = r at hr hrow hnext
      have n2 := hr.n2
      generalize bckL slip l a b i = P at *
      obtain ⟨P2, hP2⟩ : ∃ P2, P2 = bckL slip l a b (i + 1) := ⟨_, rfl⟩
      rw [← hP2] at hnext
      refine wp _ hrow ?_
      refine wp_callE (ev78 (k + 3) hao) rfl ?_
      refine wp_call (ev77s (k + 1) s0 s1 hr hao) rfl ?_
      intro xa hxa
      refine wp _ hrow ?_
      refine wp_callE (ev78 (k + 3) hbo) rfl ?_
      refine wp_call (ev77s (k + 1) s0 s1 hr hbo) rfl ?_
      intro xb hxb
      have hla := spots_len slip hr a
      have hlb := spots_len slip hr b
      generalize spots slip r a = A at *
      generalize spots slip r b = B at *
      clear hr hrow
      rw [← meet_eq] at hnext
      refine wp_join (fun vs => vs = [.bool (meet A B)]) ?_ ?_
      · refine wp_loop (fun j vs => ∃ n : Nat, vs = [.bool (meet (A.take n) B), iv n] ∧ n + j = A.length) A.length (by omega) ⟨0, rfl, by omega⟩ ?_
        rintro jx vs ⟨n, rfl, hn⟩
        try refine rn_norm (by (try simp only [List.length_cons, List.length_nil, Nat.reduceAdd, Nat.zero_add]); rfl) (by (try simp only [pushL]); rfl) ?_
        refine wp_len45 rfl hxa ?_
        refine wp_lss rfl rfl ?_
        refine wp_iteP rfl (fun h3 => ?_) (fun h3 => ?_)
        · have hnl : n < A.length := by omega
          have hrx := rowS hxa hnl
          have hnx : meet (A.take (n + 1)) B = (meet (A.take n) B || B.any fun y => decide (y = A.getD n default)) := any_succ hnl
          generalize A.getD n default = x at hrx hnx
          generalize meet (A.take n) B = c at *
          obtain ⟨c2, hc2⟩ : ∃ c2, c2 = meet (A.take (n + 1)) B := ⟨_, rfl⟩
          rw [← hc2] at hnx
          refine wp_join (fun vs => vs = [.bool c2]) ?_ ?_
          · refine wp_loop (fun j vs => ∃ m : Nat, vs = [.bool (c || (B.take m).any fun y => decide (y = x)), iv m] ∧ m + j = B.length) B.length (by omega) ⟨0, by simp [dnL, PE.dn, SE.dn, nth, tv, tn], by omega⟩ ?_
            rintro jy vs ⟨m, rfl, hm⟩
            try refine rn_norm (by (try simp only [List.length_cons, List.length_nil, Nat.reduceAdd, Nat.zero_add]); rfl) (by (try simp only [pushL]); rfl) ?_
            refine wp_len45 rfl hxb ?_
            refine wp_lss rfl rfl ?_
            refine wp_iteP rfl (fun h4 => ?_) (fun h4 => ?_)
            · have hml : m < B.length := by omega
              have hry := rowS hxb hml
              have hny : (c || (B.take (m + 1)).any fun y => decide (y = x)) = ((c || (B.take m).any fun y => decide (y = x)) || decide (B.getD m default = x)) := by rw [any_succ hml, Bool.or_assoc]
              generalize B.getD m default = y at hry hny
              generalize (c || (B.take m).any fun y => decide (y = x)) = e at *
              obtain ⟨e2, he2⟩ : ∃ e2, e2 = (c || (B.take (m + 1)).any fun y => decide (y = x)) := ⟨_, rfl⟩
              rw [← he2] at hny
              refine wp_join (fun vs => vs = [.bool e2]) ?_ ?_
              · refine wp_iteB rfl (fun h5 => ?_) (fun h5 => ?_)
                · subst h5
                  refine wp_jump ?_
                  rw [hny, Bool.true_or]; rfl
                · subst h5
                  refine wp _ hrx ?_
                  refine wp _ hry ?_
                  refine wp _ (spot_eqv x.1 y.1 x.2 y.2) ?_
                  rw [spot_dec]
                  refine wp_jump ?_
                  rw [hny, Bool.false_or]; rfl
              rintro vs rfl
              refine wp_add1 rfl rfl (by omega) ?_
              exact wp_jump ⟨jy - 1, by omega, m + 1, by rw [← he2]; rfl, by omega⟩
            · refine wp_jumpO (by decide) ?_
              have e : B.take m = B := List.take_of_length_le (by omega)
              rw [e, ← hnx]
              exact wp_jump rfl
          rintro vs rfl
          refine wp_add1 rfl rfl (by omega) ?_
          exact wp_jump ⟨jx - 1, by omega, n + 1, by rw [← hc2]; rfl, by omega⟩
        · refine wp_jumpO (by decide) ?_
          have e : A.take n = A := List.take_of_length_le (by omega)
          rw [e]
          exact wp_jump rfl
      rintro vs rfl
      try refine rn_norm (by (try simp only [List.length_cons, List.length_nil, Nat.reduceAdd, Nat.zero_add]); rfl) (by (try simp only [pushL]); rfl) ?_
      refine wp_join (fun vs => vs = [.agg (P2.map iv)]) ?_ ?_
      · refine wp_iteB rfl (fun h3 => ?_) (fun h3 => ?_)
        · rw [if_pos h3] at hnext
          refine wp_one (by simp only [tv, tp, tn, PE.dn, SE.dn, dnL, nth, projV, List.getD_cons_succ, List.getD_cons_zero, Rg.cells, Pc.cells]; rfl) rfl ?_
          refine wp_pushI rfl rfl (by decide) (by first | omega | (simp; omega)) ?_
          refine wp_jump ?_
          rw [hnext]
          simp [dnL, PE.dn, SE.dn, nth, tv]
        · rw [if_neg (by rw [h3]; simp), List.append_nil] at hnext
          refine wp_jump ?_
          rw [hnext]; rfl
      rintro vs rfl
      refine wp_add1 rfl rfl (by omega) ?_
      exact wp_jump ⟨j - 1, by omega, i + 1, by rw [← hP2]; rfl, by omega⟩
    · refine wp_jumpO (by decide) ?_
      have e : i = l.length := by omega
      rw [e]
      exact wp_jump rfl
  rintro vs rfl
  refine wp_frzN rfl ?_
  have hq := (il_of (bckL slip l a b l.length)).plain
  refine wp_ret (v := .tup [ilOf (bckL slip l a b l.length), iv 0]) rfl (by simp [hq]) ⟨_, by rw [he], ?_⟩
  unfold bckV
  rw [if_pos he]
  exact il_of _
end Go.Proofs.YtlminnpaeaganaaGreat
