/- The dice. No condition. -/
import Derived.Test.YtlminnpaeaganaaMSemC
import Derived.Test.YtlminnpaeaganaaProg
namespace Go.Proofs.Ytlminnpaeaganaa
open Go Go.RowKit
set_option linter.unusedVariables false
set_option linter.unusedSimpArgs false
set_option maxRecDepth 100000
def IntsV (r : PV) : Prop := intsB r = true
def IntsV' (r : PV) : Prop := r = .snil ∨ ∃ off len cs, r = .sl none 1 off len cs ∧ cs.length = len ∧ ∀ c ∈ cs, ∃ n, c = .int .i64 n
def DiceI (l : List PV) : Prop := ∃ r x, l = [r, .int .u64 x] ∧ IntsV r
theorem intsV_iff {r : PV} : IntsV r ↔ IntsV' r := by
  unfold IntsV IntsV' intsB
  constructor
  · intro h
    split at h
    · exact .inl rfl
    · rename_i off len cs
      simp only [Bool.and_eq_true, decide_eq_true_eq, List.all_eq_true] at h
      refine .inr ⟨off, len, cs, rfl, h.1, fun c hc => ?_⟩
      have := h.2 c hc
      unfold intB at this
      split at this
      · exact ⟨_, rfl⟩
      · cases this
    · cases h
  · rintro (rfl | ⟨off, len, cs, rfl, h1, h2⟩)
    · rfl
    · simp only [Bool.and_eq_true, decide_eq_true_eq, List.all_eq_true]
      refine ⟨h1, fun c hc => ?_⟩
      obtain ⟨n, rfl⟩ := h2 c hc
      rfl
theorem intsV_plain {r : PV} (h : IntsV' r) : r.plain = true ∧ r.one = true := by
  rcases h with rfl | ⟨off, len, cs, rfl, _, hc⟩
  · exact ⟨rfl, rfl⟩
  · refine ⟨?_, rfl⟩
    simp only [PV.plain]
    refine (plainC_iff cs).2 fun q hq => ?_
    obtain ⟨n, rfl⟩ := hc q hq
    exact ⟨rfl, rfl⟩
section
variable {P : Program} {ops : Array Oper} {o : Oper} {rest : List Oper} {s : St} {K : St → Prop}
def notBuild (o : Oper) : Bool := match o.op with
  | .buildSlice _ _ _ => false
  | _ => true
theorem ops_cons (v : PV) (hg : o.guard = none) (hb : notBuild o = true) (hv : pureV P s.m s.ev o = some v) (h : opsW P ops rest (s.put o.dst v) K) : opsW P ops (o :: rest) s K := by
  simp only [opsW, guardW, hg]
  refine ⟨s, Silent.refl s, pure_opW (m0 := s.m) ⟨Nat.le_refl _, fun _ _ => rfl⟩ hv (fun t l p e => ?_) h⟩
  unfold notBuild at hb
  rw [e] at hb
  cases hb
theorem ops_store {t : TypeId} {x y : Operand} {dt : TypeId} {ps : String} {af : Array Edge} {id off : Nat} {v : PV} {l : List PV} (hx : s.ev x = .ptr id off) (hv : s.ev y = v) (hid : id < s.m.n) (hi : (P.info? t).isSome) (hc : P.cellsOf t = 1) (h1 : v.one = true) (hcl : v.cells = [v]) (hβ : s.m.β id = .cells l) (hl : off + 1 ≤ l.length)
    (h : opsW P ops rest (s.setBox id (splice l off [v])) K) : opsW P ops (⟨none, .store t x y, dt, ps, af, none⟩ :: rest) s K := by
  simp only [opsW, guardW]
  refine ⟨s, Silent.refl s, ?_⟩
  show _ = none ∧ aStore P s t (s.ev x) (s.ev y) _
  refine ⟨rfl, ?_⟩
  rw [hx, hv]
  simp only [aStore, hcl]
  exact ⟨hid, hi, by rw [hc]; rfl, by simp [h1], l, hβ, hl, h⟩
theorem ops_box {t : TypeId} {x : Operand} {d : Option Tmp} {dt : TypeId} {ps : String} {af : Array Edge} {l : List PV} (hk : (s.ev x).known = true) (hl : (s.ev x).cells = l)
    (h : opsW P ops rest (s.newBox d l) K) : opsW P ops (⟨d, .box t x, dt, ps, af, none⟩ :: rest) s K := by
  simp only [opsW, guardW]
  refine ⟨s, Silent.refl s, ?_⟩
  show (s.ev x).known = true ∧ opsW P ops rest (s.newBox d (s.ev x).cells) K
  rw [hl]
  exact ⟨hk, h⟩
theorem lex_cons (v : PV) (m0 : Mem) (T : Tab) (hg : o.guard = none) (hb : pureKind o = true) (hv : pureV P m0 s.ev o = some v) (h : lexW P m0 T ops rest (s.put o.dst v) K) : lexW P m0 T ops (o :: rest) s K := by
  simp only [lexW, guardW, hg]
  unfold lexOp
  unfold pureKind at hb
  split at hb
  · cases hb
  · cases hb
  · cases hb
  · rename_i c hop
    simp only [hop]
    split at hb
    · cases hb
    · rename_i hno
      split
      · rename_i f hf; exact absurd hf (hno f)
      · exact ⟨v, hv, h⟩
  · rename_i g1 g2 g3 g4
    split
    · rename_i hop; exact absurd hop (g1 _)
    · rename_i hop; exact absurd hop (g2 _ _)
    · rename_i hop; exact absurd hop (g3 _ _ _)
    · rename_i hop; exact absurd hop (g4 _)
    · exact ⟨v, hv, h⟩
end
section
theorem aF0 (i : Nat) : aField Try.prog 89 (.ptr i 0) 0 = some (.ptr i 0) := by kernel_rfl
theorem aF1 (i : Nat) : aField Try.prog 89 (.ptr i 0) 1 = some (.ptr i 1) := by kernel_rfl
theorem agL : aggT Try.prog 25 = some false := by kernel_rfl
theorem agU : aggT Try.prog 87 = some false := by kernel_rfl
theorem ceL : Try.prog.cellsOf 25 = 1 := by kernel_rfl
theorem ceU : Try.prog.cellsOf 87 = 1 := by kernel_rfl
theorem ceI : Try.prog.cellsOf 3 = 1 := by kernel_rfl
theorem inL : (Try.prog.info? 25).isSome = true := by kernel_rfl
theorem inU : (Try.prog.info? 87).isSome = true := by kernel_rfl
theorem inI : (Try.prog.info? 3).isSome = true := by kernel_rfl
theorem unL : Try.prog.underlying 25 = some (.slice 3) := by kernel_rfl
theorem unU : Try.prog.underlying 87 = some (.int .u64) := by kernel_rfl
theorem unI : Try.prog.underlying 3 = some (.int .i64) := by kernel_rfl
variable {i : Nat} {m : Mem} {r : PV} {x : Int}
theorem ldR (hm : i < m.n) : aLoad Try.prog { m with β := updB m.β i (.cells [r, .int .u64 x]) } 25 (.ptr i 0) = some r := by
  simp [aLoad, aSrc, hm, agL]
theorem ldX (hm : i < m.n) : aLoad Try.prog { m with β := updB m.β i (.cells [r, .int .u64 x]) } 87 (.ptr i 1) = some (.int .u64 x) := by
  simp [aLoad, aSrc, hm, agU]
theorem gen {P : Program} {c : Code} {s : St} {Q : Ex → St → Prop} (F : St → Prop) (hF : F s) (h : ∀ s', F s' → CodeSem P c s' Q) : CodeSem P c s Q := h s hF
theorem sem_norm {P : Program} {c : Code} {s : St} {Q : Ex → St → Prop} (F : St → Prop) (h : CodeSem P c s fun e s' => e = .normal ∧ F s') (hQ : ∀ s', F s' → Q .normal s') : CodeSem P c s Q := codeSem_mono h fun e s' ⟨he, hs⟩ => by subst he; exact hQ s' hs
theorem wrap_u64 (n : Int) : 0 ≤ IntKind.u64.wrap n ∧ IntKind.u64.wrap n < 18446744073709551616 := by
  simp [IntKind.wrap, IntKind.bits, IntKind.signed]
  omega
theorem updB_updB (β : Nat → BoxC) (i : Nat) (c d : BoxC) : updB (updB β i c) i d = updB β i d := by
  funext j; simp only [updB]; split <;> rfl
theorem roll_ok (hi : i < m.n) (hr : IntsV' r) : ECalls Try.prog 66 [.ptr i 0] { m with β := updB m.β i (.cells [r, .int .u64 x]) } fun v E m' => (∃ n, v = .int .u64 n ∧ 0 ≤ n ∧ n < 4294967296) ∧ E = [] ∧ ∃ r' x', IntsV' r' ∧ m' = { m with β := updB m.β i (.cells [r', .int .u64 x']) } := by
  refine ecalls_of_sem (fn := Try.f66) (by kernel_rfl) rfl (Nat.le_of_ble_eq_true rfl) (by kernel_rfl) ?_
  have hp : (entry [.ptr i 0] { m with β := updB m.β i (.cells [r, .int .u64 x]) }).g 0 = .ptr i 0 := rfl
  have hm : (entry [.ptr i 0] { m with β := updB m.β i (.cells [r, .int .u64 x]) }).m = { m with β := updB m.β i (.cells [r, .int .u64 x]) } := rfl
  have he : (entry [.ptr i 0] { m with β := updB m.β i (.cells [r, .int .u64 x]) }).eff = [] := rfl
  generalize entry [.ptr i 0] { m with β := updB m.β i (.cells [r, .int .u64 x]) } = s at hp hm he
  refine sem_seq (sem_region ?_)
  refine ops_cons (.int .u64 0) rfl rfl (by simp [pureV, St.ev, pvOf]) ?_
  refine sem_seq (sem_region ?_)
  refine ops_cons (.int .u64 0) rfl rfl (by simp [pureV, St.ev, pvOf]) ?_
  refine sem_seq (sem_seq (sem_region ?_))
  refine ops_cons (.ptr i 0) rfl rfl (by simp [pureV, St.ev, hp]) ?_
  refine ops_cons (.ptr i 0) rfl rfl (by simp [pureV, St.ev, hp]) ?_
  refine ops_cons (.ptr i 0) rfl rfl (by simp [pureV, St.ev, aF0]) ?_
  refine ops_cons r rfl rfl (by simp [pureV, St.ev, hm, ldR hi]) ?_
  have hlen : ∃ len : Nat, aLen Try.prog 25 r = some (.int .i64 len) ∧ (0 < len → ∃ off cs, r = .sl none 1 off len cs ∧ cs.length = len ∧ ∀ c ∈ cs, ∃ n, c = .int .i64 n) := by
    rcases hr with rfl | ⟨off, len, cs, rfl, h1, h2⟩
    · exact ⟨0, by simp [aLen, unL], fun h => absurd h (by omega)⟩
    · exact ⟨len, by simp [aLen, unL], fun _ => ⟨off, cs, rfl, h1, h2⟩⟩
  obtain ⟨len, hlen, hsl⟩ := hlen
  refine ops_cons (.int .i64 len) rfl rfl (by simp [pureV, St.ev, hlen]) ?_
  refine ops_cons (.bool (decide (0 < (len : Int)))) rfl rfl (by simp [pureV, St.ev, pvOf, aBin]) ?_
  refine gen (fun s' => s'.g 0 = .ptr i 0 ∧ s'.m = { m with β := updB m.β i (.cells [r, .int .u64 x]) } ∧ s'.eff = [] ∧ s'.g 3 = .int .u64 0 ∧ s'.g 10 = .bool (decide (0 < (len : Int)))) (by simp [hp, hm, he]) ?_
  clear hp hm he s
  rintro s ⟨hp, hm, he, h3, h10⟩
  refine sem_norm (fun s' => ∃ r' x3, IntsV' r' ∧ s'.g 0 = .ptr i 0 ∧ s'.g 3 = .int .u64 x3 ∧ s'.m = { m with β := updB m.β i (.cells [r', .int .u64 x]) } ∧ s'.eff = []) ?_ ?_
  · refine sem_cond (decide (0 < (len : Int))) (by simp [St.ev, h10]) ?_
    by_cases hlt : 0 < len
    · rw [if_pos (by simp; omega)]
      obtain ⟨off, cs, rfl, hcl, hcs⟩ := hsl hlt
      cases cs with
      | nil => simp at hcl; omega
      | cons c cs =>
        obtain ⟨n, rfl⟩ := hcs c (by simp)
        refine sem_seq (sem_region ?_)
        refine ops_cons (.ptr i 0) rfl rfl (by simp [pureV, St.ev, hp]) ?_
        refine ops_cons (.ptr i 0) rfl rfl (by simp [pureV, St.ev]) ?_
        refine ops_cons (.ptr i 0) rfl rfl (by simp [pureV, St.ev, aF0]) ?_
        refine ops_cons (.sl none 1 off len (.int .i64 n :: cs)) rfl rfl (by simp [pureV, St.ev, hm, ldR hi]) ?_
        refine ops_cons (.eref none off (.int .i64 n :: cs)) rfl rfl (by simp [pureV, St.ev, pvOf, aIndexAddr, unL, ceI, inI, hlt]) ?_
        refine ops_cons (.int .i64 n) rfl rfl (by simp [pureV, St.ev, aLoad, aSrc, show aggT Try.prog 3 = some false by kernel_rfl]) ?_
        refine ops_cons (.int .u64 (IntKind.u64.wrap n)) rfl rfl (by simp [pureV, St.ev, aConv, unU, unI]) ?_
        refine ops_cons (.int .u64 (IntKind.u64.wrap n)) rfl rfl (by simp [pureV, St.ev]) ?_
        refine gen (fun s' => s'.g 0 = .ptr i 0 ∧ s'.m = { m with β := updB m.β i (.cells [.sl none 1 off len (.int .i64 n :: cs), .int .u64 x]) } ∧ s'.eff = [] ∧ s'.g 3 = .int .u64 (IntKind.u64.wrap n)) (by simp [hp, hm, he]) ?_
        clear hp hm he h3 h10 s
        rintro s ⟨hp, hm, he, h3⟩
        have hsl2 : ∃ r', aSlice Try.prog 25 (.sl none 1 off len (.int .i64 n :: cs)) (some (.int .i64 1)) none = some r' ∧ IntsV' r' := by
          by_cases h1 : 1 = len
          · refine ⟨.sl none 1 0 0 [], by simp [aSlice, unL, aBnd, ceI, inI, ← h1], .inr ⟨0, 0, [], rfl, rfl, by simp⟩⟩
          · refine ⟨.sl none 1 (off + 1) (len - 1) cs, ?_, .inr ⟨off + 1, len - 1, cs, rfl, by simp at hcl; omega, fun c hc => hcs c (by simp [hc])⟩⟩
            have : cs.take (len - 1) = cs := List.take_of_length_le (by simp at hcl; omega)
            simp [aSlice, unL, aBnd, ceI, inI, h1, this]
            omega
        obtain ⟨r', hr1, hr2⟩ := hsl2
        refine sem_region ?_
        refine ops_cons (.ptr i 0) rfl rfl (by simp [pureV, St.ev, hp]) ?_
        refine ops_cons (.ptr i 0) rfl rfl (by simp [pureV, St.ev, hp]) ?_
        refine ops_cons (.ptr i 0) rfl rfl (by simp [pureV, St.ev]) ?_
        refine ops_cons (.ptr i 0) rfl rfl (by simp [pureV, St.ev, aF0]) ?_
        refine ops_cons (.sl none 1 off len (.int .i64 n :: cs)) rfl rfl (by simp [pureV, St.ev, hm, ldR hi]) ?_
        refine ops_cons r' rfl rfl (by simp [pureV, St.ev, pvOf, hr1]) ?_
        refine ops_cons (.ptr i 0) rfl rfl (by simp [pureV, St.ev]) ?_
        refine ops_cons (.ptr i 0) rfl rfl (by simp [pureV, St.ev, aF0]) ?_
        refine ops_store (id := i) (off := 0) (v := r') (l := [.sl none 1 off len (.int .i64 n :: cs), .int .u64 x]) (by simp [St.ev]) (by simp [St.ev]) (by simp [hm, hi]) inL ceL (intsV_plain hr2).2 (by rcases hr2 with rfl | ⟨_, _, _, rfl, _⟩ <;> rfl) (by simp [hm]) (by simp) ?_
        exact ⟨rfl, r', _, hr2, by simp [hp], by simp [h3]; rfl, by simp [hm, splice, updB_updB], by simp [he]⟩
    · rw [if_neg (by simp; omega)]
      exact sem_skip ⟨rfl, r, 0, hr, hp, h3, hm, he⟩
  clear hp hm he h3 h10 hlen hsl len s
  rintro s ⟨r', x3, hr', hp, h3, hm, he⟩
  refine sem_seq (sem_region ?_)
  refine ops_cons (.ptr i 0) rfl rfl (by simp [pureV, St.ev, hp]) ?_
  refine ops_cons (.ptr i 0) rfl rfl (by simp [pureV, St.ev, hp]) ?_
  refine ops_cons (.ptr i 0) rfl rfl (by simp [pureV, St.ev]) ?_
  refine ops_cons (.ptr i 1) rfl rfl (by simp [pureV, St.ev, aF1]) ?_
  refine ops_cons (.int .u64 x) rfl rfl (by simp [pureV, St.ev, hm, ldX hi]) ?_
  refine ops_cons (.int .u64 x3) rfl rfl (by simp [pureV, St.ev, h3]) ?_
  refine ops_cons (.int .u64 (IntKind.u64.wrap (x + x3))) rfl rfl (by simp [pureV, St.ev, aBin]) ?_
  refine ops_cons (.int .u64 (IntKind.u64.wrap (IntKind.u64.wrap (x + x3) + 6364136223846793005))) rfl rfl (by simp [pureV, St.ev, pvOf, aBin]) ?_
  generalize IntKind.u64.wrap (IntKind.u64.wrap (x + x3) + 6364136223846793005) = y0
  refine ops_cons (.int .u64 (IntKind.u64.wrap (y0 * 15074714826142052245))) rfl rfl (by simp [pureV, St.ev, pvOf, aBin]) ?_
  generalize IntKind.u64.wrap (y0 * 15074714826142052245) = y1
  refine ops_cons (.ptr i 0) rfl rfl (by simp [pureV, St.ev]) ?_
  refine ops_cons (.ptr i 1) rfl rfl (by simp [pureV, St.ev, aF1]) ?_
  refine ops_store (id := i) (off := 1) (v := .int .u64 y1) (l := [r', .int .u64 x]) (by simp [St.ev]) (by simp [St.ev]) (by simp [hm, hi]) inU ceU rfl rfl (by simp [hm]) (by simp) ?_
  refine gen (fun s' => s'.g 0 = .ptr i 0 ∧ s'.m = { m with β := updB m.β i (.cells [r', .int .u64 y1]) } ∧ s'.eff = []) (by simp [hp, hm, he, splice, updB_updB]) ?_
  clear hp hm he h3 s
  rintro s ⟨hp, hm, he⟩
  refine sem_seq (sem_draw (by kernel_rfl) 11 (by kernel_rfl) (fun _ _ _ _ _ => False) ?_)
  refine lex_cons (.ptr i 0) _ _ rfl rfl (by simp [pureV, St.ev, hp]) ?_
  refine lex_cons (.ptr i 0) _ _ rfl rfl (by simp [pureV, St.ev, hp]) ?_
  refine lex_cons (.ptr i 0) _ _ rfl rfl (by simp [pureV, St.ev]) ?_
  refine lex_cons (.ptr i 1) _ _ rfl rfl (by simp [pureV, St.ev, aF1]) ?_
  refine lex_cons (.int .u64 y1) _ _ rfl rfl (by simp [pureV, St.ev, hm, ldX hi]) ?_
  refine lex_cons (.ptr i 0) _ _ rfl rfl (by simp [pureV, St.ev, hp]) ?_
  refine lex_cons (.ptr i 0) _ _ rfl rfl (by simp [pureV, St.ev]) ?_
  refine lex_cons (.ptr i 1) _ _ rfl rfl (by simp [pureV, St.ev, aF1]) ?_
  refine lex_cons (.int .u64 y1) _ _ rfl rfl (by simp [pureV, St.ev, hm, ldX hi]) ?_
  refine lex_cons (.int .u64 (y1.fdiv (2 ^ 29))) _ _ rfl rfl (by simp [pureV, St.ev, pvOf, aBin, IntKind.bits]) ?_
  generalize y1.fdiv (2 ^ 29) = y2
  refine lex_cons (.int .u64 (bits .xor .u64 y1 y2)) _ _ rfl rfl (by simp [pureV, St.ev, aBin]) ?_
  generalize bits .xor .u64 y1 y2 = y3
  refine ops_cons (.ptr i 0) rfl rfl (by simp [pureV, St.ev]) ?_
  refine ops_cons (.ptr i 1) rfl rfl (by simp [pureV, St.ev, aF1]) ?_
  refine ops_store (id := i) (off := 1) (v := .int .u64 y3) (l := [r', .int .u64 y1]) (by simp [St.ev]) (by simp [St.ev]) (by simp [hm, hi]) inU ceU rfl rfl (by simp [hm]) (by simp) ?_
  refine gen (fun s' => s'.g 0 = .ptr i 0 ∧ s'.m = { m with β := updB m.β i (.cells [r', .int .u64 y3]) } ∧ s'.eff = []) (by simp [hp, hm, he, splice, updB_updB]) ?_
  clear hp hm he s
  rintro s ⟨hp, hm, he⟩
  refine sem_seq (sem_draw (by kernel_rfl) 11 (by kernel_rfl) (fun _ _ _ _ _ => False) ?_)
  refine lex_cons (.ptr i 0) _ _ rfl rfl (by simp [pureV, St.ev, hp]) ?_
  refine lex_cons (.ptr i 0) _ _ rfl rfl (by simp [pureV, St.ev]) ?_
  refine lex_cons (.ptr i 1) _ _ rfl rfl (by simp [pureV, St.ev, aF1]) ?_
  refine lex_cons (.int .u64 y3) _ _ rfl rfl (by simp [pureV, St.ev, hm, ldX hi]) ?_
  refine lex_cons (.ptr i 0) _ _ rfl rfl (by simp [pureV, St.ev, hp]) ?_
  refine lex_cons (.ptr i 0) _ _ rfl rfl (by simp [pureV, St.ev]) ?_
  refine lex_cons (.ptr i 1) _ _ rfl rfl (by simp [pureV, St.ev, aF1]) ?_
  refine lex_cons (.int .u64 y3) _ _ rfl rfl (by simp [pureV, St.ev, hm, ldX hi]) ?_
  refine lex_cons (.int .u64 (y3.fdiv (2 ^ 33))) _ _ rfl rfl (by simp [pureV, St.ev, pvOf, aBin, IntKind.bits]) ?_
  generalize y3.fdiv (2 ^ 33) = y4
  refine lex_cons (.int .u64 (bits .xor .u64 y3 y4)) _ _ rfl rfl (by simp [pureV, St.ev, aBin]) ?_
  generalize bits .xor .u64 y3 y4 = y5
  refine lex_cons (.int .u64 (IntKind.u64.wrap (y5 * 18397679294719823053))) _ _ rfl rfl (by simp [pureV, St.ev, pvOf, aBin]) ?_
  have hb := wrap_u64 (y5 * 18397679294719823053)
  generalize IntKind.u64.wrap (y5 * 18397679294719823053) = y6 at hb
  refine ops_cons (.int .u64 y6) rfl rfl (by simp [pureV, St.ev]) ?_
  refine gen (fun s' => s'.g 4 = .int .u64 y6 ∧ s'.m = { m with β := updB m.β i (.cells [r', .int .u64 y3]) } ∧ s'.eff = []) (by simp [hm, he]) ?_
  clear hp hm he s
  rintro s ⟨hp, hm, he⟩
  refine sem_seq (sem_region ?_)
  refine ops_cons (.int .u64 y6) rfl rfl (by simp [pureV, St.ev, hp]) ?_
  refine ops_cons (.int .u64 (y6.fdiv (2 ^ 32))) rfl rfl (by simp [pureV, St.ev, pvOf, aBin, IntKind.bits]) ?_
  refine ops_cons (.int .u64 (y6.fdiv (2 ^ 32))) rfl rfl (by simp [pureV, St.ev]) ?_
  refine sem_ret ⟨.inr rfl, .int .u64 (y6.fdiv (2 ^ 32)), ?_, _, _, .inl ⟨rfl, rfl⟩, ⟨_, rfl, ?_, ?_⟩, by simp [he], r', y3, hr', by simp [hm]⟩
  · show aRes _ _ [.tmp 2] = _
    simp [aRes, aResL, aRes1]
  · rw [Int.fdiv_eq_ediv_of_nonneg _ (by decide)]; omega
  · rw [Int.fdiv_eq_ediv_of_nonneg _ (by decide)]; omega
theorem mrel_shutBox {φ : Phi} {m : Mem} {w : World} {j : Nat} {l : List PV} {DI : List PV → Prop} (h : MRel φ m w) (hj : m.β j = .cells l) (hD : DI l) (hp : plainC l = true) : MRel φ { m with β := updB m.β j (.inv DI) } w := by
  refine ⟨fun k hk => ?_, h.boxn, h.arr, h.boxinj, h.arrinj, h.sep, h.rcs⟩
  by_cases e : k = j
  · subst e
    obtain ⟨b, cs, e, h1, h2, h3⟩ := h.cells hk (by rw [hj]; simp)
    rw [hj] at h3
    exact .inr ⟨b, cs, e, h1, h2, by simp only [updB_same]; exact ⟨l, hD, fun e => plainC_sub1 e l hp, fun n => plainC_cutb n l hp, h3⟩⟩
  · simp only [updB_other _ _ _ _ e]
    exact h.box k hk
theorem mrel_openBox {φ : Phi} {m : Mem} {w : World} {j : Nat} {DI : List PV → Prop} (h : MRel φ m w) (hj : j < m.n) (hb : m.β j = .inv DI) : ∃ l, DI l ∧ MRel φ { m with β := updB m.β j (.cells l) } w := by
  obtain ⟨b, cs, e, h1, h2, h3⟩ := h.cells hj (by rw [hb]; simp)
  rw [hb] at h3
  obtain ⟨l, hD, _, _, h4⟩ := h3
  refine ⟨l, hD, fun k hk => ?_, h.boxn, h.arr, h.boxinj, h.arrinj, h.sep, h.rcs⟩
  by_cases e' : k = j
  · subst e'
    exact .inr ⟨b, cs, e, h1, h2, by simp only [updB_same]; exact h4⟩
  · simp only [updB_other _ _ _ _ e']
    exact h.box k hk
theorem updB_eq (β : Nat → BoxC) (i : Nat) (c : BoxC) (h : β i = c) : updB β i c = β := by
  funext j; simp only [updB]; split
  · rename_i e; rw [e, h]
  · rfl
def rollC : Orc → FuncId → List PV → Option PV := fun ω g args => if g = 66 then match args with
  | [.ptr 0 0] => some (.int .u64 ((ω [] % 4294967296 : Nat) : Int))
  | _ => none
  else none
theorem rollC_some {ω : Orc} {g : FuncId} {args : List PV} {v : PV} (h : rollC ω g args = some v) : g = 66 ∧ args = [.ptr 0 0] ∧ v = .int .u64 ((ω [] % 4294967296 : Nat) : Int) := by
  unfold rollC at h
  split at h
  · rename_i hg
    split at h
    · injection h with h
      exact ⟨hg, rfl, h.symm⟩
    · cases h
  · cases h
theorem roll_sound : CSound Try.prog DiceI rollC := by
  refine ⟨fun g args hs args' m ha => ?_, fun ω g args v h => ?_, fun ω g args v h => ?_⟩
  · obtain ⟨v0, h0⟩ := Option.isSome_iff_exists.1 (hs orc0)
    obtain ⟨rfl, rfl, _⟩ := rollC_some h0
    obtain ⟨q, l', rfl, h1, h2⟩ := ha
    simp only [ArgL] at h2
    subst h2
    rcases h1 with ⟨rfl, hp⟩ | ⟨_, i, rfl, hi, hb⟩
    · simp [PV.plain] at hp
    · intro φ vs w hm hv
      obtain ⟨l, ⟨r, x, rfl, hr⟩, hm1⟩ := mrel_openBox hm hi hb
      refine (roll_ok hi (intsV_iff.1 hr) φ vs w hm1 hv).mono ?_
      rintro e w' ⟨v, pv, E, m', φ', rfl, hpv, hm', hstep, ⟨n, rfl, hn1, hn2⟩, rfl, r', x', hr', rfl⟩
      have hpl := intsV_plain hr'
      have hm2 := mrel_shutBox (DI := DiceI) (j := i) (l := [r', .int .u64 x']) hm' (by simp) ⟨r', x', rfl, intsV_iff.2 hr'⟩ (by simp only [plainC, hpl.1, hpl.2]; rfl)
      simp only [updB_updB] at hm2
      rw [updB_eq _ _ _ hb] at hm2
      refine ⟨v, _, [], m, φ', rfl, hpv, hm2, hstep, ⟨fun _ => n.toNat, ?_⟩, rfl, rfl, rfl⟩
      simp only [rollC, if_true]
      congr 2
      omega
  · obtain ⟨_, _, rfl⟩ := rollC_some h
    rfl
  · obtain ⟨rfl, _, _⟩ := rollC_some h
    exact ⟨Try.f66, by kernel_rfl, by decide, rfl⟩
theorem build2 (x : PV) (h : x.known = true) (hc : x.cells = [x]) : aBuild Try.prog 89 [(0, x), (1, .int .u64 1)] = some (.agg [x, .int .u64 1]) := by
  have hz : zeroCs Try.prog 89 = some [.snil, .int .u64 0] := by kernel_rfl
  obtain ⟨fs, hu, ha, h0, h1⟩ : ∃ fs : Array Field, Try.prog.underlying 89 = some (.struct fs) ∧ fs.toList.all (fun f => (Try.prog.info? f.type).isSome) = true ∧ fieldPlaceOf Try.prog fs 0 = some (0, 1) ∧ fieldPlaceOf Try.prog fs 1 = some (1, 1) :=
    ⟨(match Try.prog.underlying 89 with | some (.struct fs) => fs | _ => #[]), by kernel_rfl, by kernel_rfl, by kernel_rfl, by kernel_rfl⟩
  simp only [aBuild, hu, hz, ha, if_true]
  have e1 : (PV.int .u64 1).cells = [.int .u64 1] := rfl
  have e2 : (PV.int .u64 1).known = true := rfl
  simp [aFill, h0, h1, h, hc, e1, e2, splice]
theorem new_ok0 : DiceNew Try.prog DiceI 18 := by
  intro x m hx
  have hx' := intsV_plain (intsV_iff.1 hx)
  have hc : x.cells = [x] := by rcases intsV_iff.1 hx with rfl | ⟨_, _, _, rfl, _⟩ <;> rfl
  have hk : x.known = true := by rcases intsV_iff.1 hx with rfl | ⟨_, _, _, rfl, _⟩ <;> rfl
  have key : ECalls Try.prog 18 [x] m fun v E m' => v = .ptr m.n 0 ∧ E = [] ∧ m' = ⟨updB m.β m.n (.cells [x, .int .u64 1]), m.n + 1, m.an, m.rc⟩ := by
    refine ecalls_of_sem (fn := Try.f18) (by kernel_rfl) rfl (Nat.le_of_ble_eq_true rfl) (by kernel_rfl) ?_
    have hp : (entry [x] m).g 0 = x := rfl
    have hm : (entry [x] m).m = m := rfl
    have he : (entry [x] m).eff = [] := rfl
    generalize entry [x] m = s at hp hm he
    refine sem_seq (sem_region ?_)
    refine ops_cons .nilp rfl rfl (by simp [pureV, St.ev, pvOf]) ?_
    refine sem_seq (sem_region ?_)
    refine ops_cons x rfl rfl (by simp [pureV, St.ev, hp]) ?_
    refine ops_cons (.agg [x, .int .u64 1]) rfl rfl (by simp [pureV, St.ev, pvOf, build2 x hk hc]) ?_
    refine ops_box (l := [x, .int .u64 1]) (by simp [St.ev, PV.known]) (by simp [St.ev, PV.cells]) ?_
    refine ops_cons (.ptr m.n 0) rfl rfl (by simp [pureV, St.ev, hm]) ?_
    refine sem_ret ⟨.inr rfl, .ptr m.n 0, ?_, _, _, .inl ⟨rfl, rfl⟩, rfl, by simp [he], ?_⟩
    · show aRes _ _ [.tmp 2] = _
      simp [aRes, aResL, aRes1, St.ev, hm]
    · simp [St.ev, hm, PV.cells]
  intro φ vs w hm hv
  refine (key φ vs w hm hv).mono ?_
  rintro e w' ⟨v, pv, E, m', φ', rfl, hpv, hm', hstep, rfl, rfl, rfl⟩
  have hm2 := mrel_shutBox (DI := DiceI) (j := m.n) (l := [x, .int .u64 1]) hm' (by simp) ⟨x, 1, rfl, hx⟩ (by simp only [plainC, hx'.1, hx'.2]; rfl)
  simp only [updB_updB] at hm2
  exact ⟨v, _, [], _, φ', rfl, hpv, hm2, hstep, rfl, rfl, rfl⟩
end
end Go.Proofs.Ytlminnpaeaganaa
