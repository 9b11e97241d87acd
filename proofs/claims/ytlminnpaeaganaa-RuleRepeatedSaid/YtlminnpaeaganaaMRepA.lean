/- Plain laws. No condition. -/
import Derived.Test.YtlminnpaeaganaaMRawF
import Derived.Test.YtlminnpaeaganaaMPlainT
import Derived.Test.YtlminnpaeaganaaMRead
import Derived.Test.YtlminnpaeaganaaMWrongA
namespace Go.Proofs.Ytlminnpaeaganaa
open Go Go.RowKit
set_option linter.unusedVariables false
set_option linter.unusedSimpArgs false
set_option maxRecDepth 100000
section
variable {P : Program} {ops : Array Oper} {o : Oper} {rest : List Oper} {s : St} {K : St → Prop}
theorem ops_op (hg : o.guard = none) (h : opW P s o fun s' => opsW P ops rest s' K) : opsW P ops (o :: rest) s K := by
  simp only [opsW, guardW, hg]
  exact ⟨s, Silent.refl s, h⟩
theorem ops_gen (F : St → Prop) (hF : F s) (h : ∀ s', F s' → opsW P ops rest s' K) : opsW P ops rest s K := h s hF
theorem ops_call {g : FuncId} {x : Operand} {d : Tmp} {ats : Array TypeId} {dt : TypeId} {ps : String} {af : Array Edge} {v : PV} {Q : PV → List Eff → Mem → Prop} (hf : ∃ fn, P.funcs[g]? = some fn ∧ fn.name ≠ "runtime.NumGoroutine" ∧ fn.body.isSome) (hx : s.ev x = v) (hc : ECalls P g [v] s.m Q)
    (h : ∀ v E m', Q v E m' → opsW P ops rest ((s.after E m').put (some d) v) K) : opsW P ops (⟨some d, .call ⟨.value (.func g), #[x], ats⟩, dt, ps, af, none⟩ :: rest) s K := by
  refine ops_op rfl ⟨hf, ?_⟩
  show ECallsY P s.nowY g [s.ev x] s.m _
  rw [hx]
  exact hc.y.mono h
end
theorem fa24 (i : Nat) : aField Try.prog 24 (.ptr i 0) 1 = some (.ptr i 1) := by kernel_rfl
theorem ag24 : aggT Try.prog 24 = some true := by kernel_rfl
theorem ag22 : aggT Try.prog 22 = some false := by kernel_rfl
theorem ag57 : aggT Try.prog 57 = some true := by kernel_rfl
theorem ce24 : Try.prog.cellsOf 24 = 2 := by kernel_rfl
theorem ce22 : Try.prog.cellsOf 22 = 1 := by kernel_rfl
theorem ce57 : Try.prog.cellsOf 57 = 3 := by kernel_rfl
theorem in24 : (Try.prog.info? 24).isSome = true := by kernel_rfl
theorem in22 : (Try.prog.info? 22).isSome = true := by kernel_rfl
theorem in57 : (Try.prog.info? 57).isSome = true := by kernel_rfl
theorem un22 : Try.prog.underlying 22 = some (.slice 57) := by kernel_rfl
theorem by57 : Try.prog.bytesOf 57 = 40 := by kernel_rfl
theorem ze57 : zeroCs Try.prog 57 = some [.snil, iv 0, iv 0] := by kernel_rfl
theorem ze24 : zeroCs Try.prog 24 = some [iv 0, .snil] := by kernel_rfl
theorem e_own (k : Nat) (g : FuncId) (r : Option (Nat × Nat)) (h : ownT g = some r) : OwnSound Try.prog DiceI (E Try.prog k) g r := (evalF_sound (by kernel_rfl) tab_ok roll_sound new_ok k).2 g r h
theorem own64 {r : Rg} (hr : IL r.sp r.st) (hl : r.st.length ≤ 20) (m : Mem) : ECalls Try.prog 64 [.agg r.cells] m fun v E m' => E = [] ∧ m' = { m with an := m'.an } ∧ ∃ id, m.an ≤ id ∧ id < m'.an ∧ v = .agg [.sl (some id) 1 0 r.st.length (r.st.map iv), iv r.lines, iv r.width] := by
  have hp : (PV.agg r.cells).plain = true := by simp [Rg.cells, hr.plain]
  refine (e_own 20 64 (some (3, 0)) rfl [.agg r.cells] (fun ω => by obtain ⟨v, h, _⟩ := ev64R 18 hr hl ω; rw [h]; rfl) _ m (argL_self (by simpa [plainC] using hp))).mono ?_
  rintro v E m' ⟨p, ω, h1, _, h2, h3, h4, ps, x, y, rfl, h5, rfl, h6⟩
  obtain ⟨v, h7, rfl⟩ := ev64R 18 hr hl ω
  rw [h7] at h1
  injection h1 with h1
  injection h1 with h1
  subst h1
  simp only [dupR, Rg.cells, List.getElem?_cons_zero, Option.some.injEq] at h5
  subst h5
  refine ⟨h2, h3, ?_⟩
  rcases h6 with ⟨sz, len, cs, id, e1, rfl, k1, k2⟩ | ⟨e1, _⟩
  · injection e1 with _ e2 _ e3 e4
    subst e2; subst e3; subst e4
    exact ⟨id, k1, k2, by simp [dupR, Rg.cells]⟩
  · cases e1
def own3 (id : Nat) (r : Rg) : List PV := [.sl (some id) 1 0 r.st.length (r.st.map iv), iv r.lines, iv r.width]
def z3 : List PV := [.snil, iv 0, iv 0]
def cellsI (id : Nat) (r : Rg) (l : List Rg) (i : Nat) : List PV := match i with
  | 0 => repl z3 (l.length + 1)
  | i + 1 => own3 id r ++ rcells ((l.take i).map dupR) ++ repl z3 (l.length - i)
theorem cellsI_len (id : Nat) (r : Rg) (l : List Rg) (i : Nat) (h : i ≤ l.length + 1) : (cellsI id r l i).length = (l.length + 1) * 3 := by
  cases i with
  | zero => simp [cellsI, repl_length, z3]
  | succ i =>
    simp only [cellsI, List.length_append, repl_length, rcells_len, List.length_map, List.length_take, own3, z3, List.length_cons, List.length_nil]
    omega
def Off (id : Nat) (cs : List PV) : Prop := ∀ c ∈ cs, (∀ e : Eff, e.id = id → c.sub1 e = c) ∧ c.frz id = c
theorem Off.plain {id : Nat} {cs : List PV} (h : plainC cs = true) : Off id cs := fun c hc => by
  have := ((plainC_iff cs).1 h c hc).1
  exact ⟨fun e _ => plain_sub1 e c this, plain_frz id c this⟩
theorem Off.append {id : Nat} {a b : List PV} (h : Off id a) (k : Off id b) : Off id (a ++ b) := fun c hc => (List.mem_append.1 hc).elim (h c) (k c)
theorem Off.sl {id i : Nat} {l : List PV} (hne : i ≠ id) (h : plainC l = true) {sz len : Nat} : Off id [.sl (some i) sz 0 len l] := fun c hc => by
  simp only [List.mem_singleton] at hc
  subst hc
  refine ⟨fun e he => ?_, by simp [PV.frz, hne, plainC_frz id l h]⟩
  cases e with
  | wr j p v => simp only [Eff.id] at he; subst he; simp [PV.sub1, hne, plainC_sub1 _ l h]
  | kill j => simp only [Eff.id] at he; subst he; simp [PV.sub1, hne, plainC_sub1 _ l h]
theorem Off.own3 {id i : Nat} (hne : i ≠ id) (r : Rg) : Off id (own3 i r) := (Off.sl hne (ints_plain r.st)).append (Off.plain rfl)
theorem Off.mem {id : Nat} {cs ds : List PV} (h : Off id cs) (hs : ∀ c ∈ ds, c ∈ cs) : Off id ds := fun c hc => h c (hs c hc)
theorem z3_plain : ∀ n, plainC (repl z3 n) = true
  | 0 => rfl
  | n + 1 => plainC_append (l := z3) rfl (z3_plain n)
theorem Off.cellsI {id i2 : Nat} (hne : i2 ≠ id) (r : Rg) (l : List Rg) (i : Nat) : Off id (cellsI i2 r l i) := by
  cases i with
  | zero => exact Off.plain (z3_plain _)
  | succ i => exact ((Off.own3 hne r).append (Off.plain (rcells_plainR rawDup))).append (Off.plain (z3_plain _))
theorem subL1_off {id : Nat} {cs : List PV} (h : Off id cs) {e : Eff} (he : e.id = id) : subL1 e cs = cs := by
  rw [subL1_eq]
  conv => rhs; rw [← List.map_id cs]
  exact List.map_congr_left fun c hc => (h c hc).1 e he
theorem frzL_off {id : Nat} {cs : List PV} (h : Off id cs) : frzL id cs = cs := by
  rw [frzL_eq]
  conv => rhs; rw [← List.map_id cs]
  exact List.map_congr_left fun c hc => (h c hc).2
theorem sub_off {id : Nat} {p : PV} (h : Off id [p]) : ∀ {vs : List PV} {off : Nat}, PV.sub (wrs id off vs) p = p
  | [], _ => rfl
  | v :: vs, off => by
    simp only [wrs, PV.sub]
    rw [(h p (by simp)).1 _ rfl]
    exact sub_off h
theorem sub_wrsO (id sz len : Nat) : ∀ (vs : List PV) (off : Nat) (cs : List PV), Off id cs → Off id vs → off + vs.length ≤ cs.length → PV.sub (wrs id off vs) (.sl (some id) sz 0 len cs) = .sl (some id) sz 0 len (splice cs off vs)
  | [], off, cs, _, _, h => by simp [wrs, splice]
  | v :: vs, off, cs, h1, h2, h => by
    have hlt : off < cs.length := by simp at h; omega
    simp only [wrs, PV.sub, PV.sub1, if_true, setAt, Nat.zero_le, Nat.sub_zero]
    rw [subL1_off h1 rfl, sub_wrsO id sz len vs (off + 1) (cs.set off v) (fun c hc => ?_) (h2.mem fun c hc => by simp [hc]) (by simp at h ⊢; omega)]
    · congr 1
      simp only [splice, List.length_cons]
      have e1 : (cs.set off v).take (off + 1) = cs.take off ++ [v] := by
        rw [List.take_set, List.take_succ_eq_append_getElem hlt, List.set_append_right _ _ (by simp; omega)]
        simp [Nat.min_eq_left (Nat.le_of_lt hlt)]
      have e2 : (cs.set off v).drop (off + 1 + vs.length) = cs.drop (off + (vs.length + 1)) := by
        rw [List.drop_set_of_lt (by omega)]
        congr 1; omega
      rw [e1, e2]
      simp
    · rcases List.mem_or_eq_of_mem_set hc with hc | rfl
      · exact h1 c hc
      · exact h2 c (by simp)
theorem repl_succ' (z : List PV) (n : Nat) : repl z (n + 1) = z ++ repl z n := rfl
theorem cells_step {i2 : Nat} {r : Rg} {l : List Rg} {i : Nat} (hi : i < l.length) (j : Nat) : splice (cellsI i2 r l (i + 1)) ((i + 1) * 3) (own3 j (l.getD i default)) = own3 i2 r ++ rcells ((l.take i).map dupR) ++ own3 j (l.getD i default) ++ repl z3 (l.length - (i + 1)) := by
  have e : l.length - i = (l.length - (i + 1)) + 1 := by omega
  have hA : (own3 i2 r ++ rcells ((l.take i).map dupR)).length = (i + 1) * 3 := by
    simp only [List.length_append, rcells_len, List.length_map, List.length_take, own3, List.length_cons, List.length_nil]; omega
  simp only [cellsI, e, repl_succ', splice]
  generalize own3 i2 r ++ rcells ((l.take i).map dupR) = A at hA
  rw [List.take_left' hA]
  have h3 : (own3 j (l.getD i default)).length = z3.length := rfl
  rw [h3, ← hA, ← List.append_assoc, ← List.length_append, List.drop_left']
  rfl
theorem cells_frz {i2 j : Nat} (hne : i2 ≠ j) {r : Rg} {l : List Rg} {i : Nat} (hi : i < l.length) : frzL j (own3 i2 r ++ rcells ((l.take i).map dupR) ++ own3 j (l.getD i default) ++ repl z3 (l.length - (i + 1))) = cellsI i2 r l (i + 2) := by
  have e : (l.take (i + 1)).map dupR = (l.take i).map dupR ++ [dupR (l.getD i default)] := by rw [take_one hi]; simp
  have h1 : frzL j (own3 i2 r ++ rcells ((l.take i).map dupR)) = own3 i2 r ++ rcells ((l.take i).map dupR) := frzL_off ((Off.own3 hne r).append (Off.plain (rcells_plainR rawDup)))
  have h2 : frzL j (repl z3 (l.length - (i + 1))) = repl z3 (l.length - (i + 1)) := frzL_off (Off.plain (z3_plain _))
  have h3 : frzL j (own3 j (l.getD i default)) = (dupR (l.getD i default)).cells := by
    generalize l.getD i default = q
    have := plainC_frz j _ (ints_plain q.st)
    simp [own3, frzL, PV.frz, Rg.cells, dupR, this]
  rw [frzL_eq] at h1 h2 h3 ⊢
  rw [List.map_append, List.map_append, h1, h2, h3]
  simp only [cellsI, e, rcells_append, List.append_assoc]
  simp [rcells]
theorem row22 {c n : Nat} {cs : List PV} (i : Nat) : aIndexAddr Try.prog 22 (.sl none 3 c n cs) (iv i) = if i < n then some (.eref none (c + i * 3) (cs.drop (i * 3))) else none := by
  simp only [aIndexAddr, un22, ce57, in57]
  by_cases h : i < n
  · rw [if_pos ⟨by omega, by omega, trivial, trivial⟩, if_pos h]; simp
  · rw [if_neg (by omega), if_neg h]
theorem row22o {j n : Nat} {cs : List PV} {i : Nat} (h : i < n) : aIndexAddr Try.prog 22 (.sl (some j) 3 0 n cs) (iv i) = some (.eref (some j) (i * 3) (cs.drop (i * 3))) := by
  simp only [aIndexAddr, un22, ce57, in57]
  rw [if_pos ⟨by omega, by omega, trivial, trivial⟩]; simp
theorem box_hit {c : BoxC} {n a : Nat} (hc : ∀ l, c = .cells l → bdL n a l) : ∀ {EE : List Eff}, (∀ e ∈ EE, a ≤ e.id) → c.sub EE = c
  | [], _ => rfl
  | e :: EE, he => by
    have h1 : c.sub1 e = c := by
      cases c with
      | cells l => simp only [BoxC.sub1]; rw [← subL1_eq, bdL_sub_id (he e (by simp)) l (hc l rfl)]
      | inv I => rfl
      | hole => rfl
    show BoxC.sub EE (c.sub1 e) = c
    rw [h1]
    exact box_hit hc fun e' h' => he e' (by simp [h'])
theorem box_frz {c : BoxC} {n a id : Nat} (hc : ∀ l, c = .cells l → bdL n a l) (h : a ≤ id) : c.frz id = c := by
  cases c with
  | cells l => simp only [BoxC.frz]; rw [← frzL_eq, bdL_frz_id h l (hc l rfl)]
  | inv I => rfl
  | hole => rfl
theorem box_plain {l : List PV} (h : plainC l = true) : ∀ {EE : List Eff}, (BoxC.cells l).sub EE = .cells l
  | [] => rfl
  | e :: EE => by
    show BoxC.sub EE ((BoxC.cells l).sub1 e) = _
    simp only [BoxC.sub1]
    rw [← subL1_eq, plainC_sub1 e l h]
    exact box_plain h
theorem ecalls_bd {P : Program} {f : FuncId} {args : List PV} {m : Mem} {Q : PV → List Eff → Mem → Prop} (h : (∀ i l, i < m.n → m.β i = .cells l → bdL m.n m.an l) → ECalls P f args m Q) : ECalls P f args m Q := by
  intro φ vs w hmr hv
  refine h (fun i l hi hb => ?_) φ vs w hmr hv
  obtain ⟨b, cs, e, _, _, hr⟩ := hmr.cells hi (by rw [hb]; simp)
  rw [hb] at hr
  exact bdL_of_rel (fun i b hib => Nat.lt_of_not_le fun hle => by rw [hmr.boxn i hle] at hib; cases hib) (fun i b hib => (hmr.arr i b hib).1) l _ hr
structure Mm (m : Mem) (x y : List PV) (an : Nat) (M : Mem) : Prop where
  n : M.n = m.n + 2
  an : M.an = an
  rc : M.rc = m.rc
  old : ∀ i, i < m.n → M.β i = m.β i
  b1 : M.β m.n = .cells x
  b2 : M.β (m.n + 1) = .cells y
section
variable {m M : Mem} {x y : List PV} {an : Nat}
theorem Mm.hit (hb : ∀ i l, i < m.n → m.β i = .cells l → bdL m.n m.an l) (h : Mm m x y an M) (hx : plainC x = true) (hy : plainC y = true) {EE : List Eff} (he : ∀ e ∈ EE, m.an ≤ e.id) : Mm m x y an { M with β := fun i => (M.β i).sub EE } :=
  ⟨h.n, h.an, h.rc, fun i hi => by show (M.β i).sub EE = _; rw [h.old i hi]; exact box_hit (fun l hl => hb i l hi hl) he, by show (M.β m.n).sub EE = _; rw [h.b1]; exact box_plain hx, by show (M.β (m.n + 1)).sub EE = _; rw [h.b2]; exact box_plain hy⟩
theorem Mm.frz (hb : ∀ i l, i < m.n → m.β i = .cells l → bdL m.n m.an l) (h : Mm m x y an M) (hx : plainC x = true) (hy : plainC y = true) {id : Nat} (he : m.an ≤ id) : Mm m x y an { M with β := fun i => (M.β i).frz id } :=
  ⟨h.n, h.an, h.rc, fun i hi => by show (M.β i).frz id = _; rw [h.old i hi]; exact box_frz (fun l hl => hb i l hi hl) he,
   by show (M.β m.n).frz id = _; rw [h.b1]; simp only [BoxC.frz]; rw [← frzL_eq, plainC_frz id x hx], by show (M.β (m.n + 1)).frz id = _; rw [h.b2]; simp only [BoxC.frz]; rw [← frzL_eq, plainC_frz id y hy]⟩
end
theorem rc_row : ∀ {l : List Rg} {i : Nat}, i < l.length → ((rcells l).drop (i * 3)).take 3 = (l.getD i default).cells
  | r :: l, 0, _ => by simp [rcells, Rg.cells]
  | r :: l, i + 1, h => by
    have := rc_row (l := l) (i := i) (by simpa using h)
    have e : rcells (r :: l) = r.cells ++ rcells l := by simp [rcells]
    have e2 : (i + 1) * 3 = r.cells.length + i * 3 := by simp [Rg.cells]; omega
    rw [e, e2, List.drop_append, List.drop_eq_nil_of_le (by omega)]
    simpa using this
theorem own22 {slip : Int} {lp : PV} {r0 : Rg} {l : List Rg} (h : RawH lp (r0 :: l)) (m : Mem) : ECalls Try.prog 22 [.agg [iv slip, lp]] m fun v E m' => E = [] ∧ m' = { m with an := m'.an } ∧ ∃ id1 id2, m.an ≤ id1 ∧ id1 < id2 ∧ id2 < m'.an ∧ v = .agg [iv slip, .sl (some id1) 3 0 (l.length + 1) (own3 id2 r0 ++ rcells (l.map dupR))] := by
  obtain ⟨c, rfl⟩ : ∃ c, lp = .sl none 3 c (l.length + 1) (rcells (r0 :: l)) := by
    rcases h.rl with ⟨_, h⟩ | ⟨c, h⟩
    · cases h
    · exact ⟨c, h⟩
  have hlen := h.len
  simp only [List.length_cons] at hlen
  refine ecalls_bd fun hbd => ?_
  refine ecalls_of_sem (fn := Try.f22) (by kernel_rfl) rfl (Nat.le_of_ble_eq_true rfl) (by kernel_rfl) ?_
  have hp : (entry [.agg [iv slip, .sl none 3 c (l.length + 1) (rcells (r0 :: l))]] m).g 0 = .agg [iv slip, .sl none 3 c (l.length + 1) (rcells (r0 :: l))] := rfl
  have hm : (entry [.agg [iv slip, .sl none 3 c (l.length + 1) (rcells (r0 :: l))]] m).m = m := rfl
  have he : (entry [.agg [iv slip, .sl none 3 c (l.length + 1) (rcells (r0 :: l))]] m).eff = [] := rfl
  have ha : (entry [.agg [iv slip, .sl none 3 c (l.length + 1) (rcells (r0 :: l))]] m).a0 = ⟨m.an, m.n, []⟩ := rfl
  generalize entry [.agg [iv slip, .sl none 3 c (l.length + 1) (rcells (r0 :: l))]] m = s at hp hm he ha
  generalize hlp : PV.sl none 3 c (l.length + 1) (rcells (r0 :: l)) = lp at hp
  refine sem_seq (sem_region ?_)
  refine ops_box (l := [iv slip, lp]) (by simp [St.ev, hp, PV.known]) (by simp [St.ev, hp, PV.cells]) ?_
  refine ops_op rfl ⟨_, ze24, ?_⟩
  refine gen (fun s' => s'.g 1 = .ptr m.n 0 ∧ s'.g 2 = .ptr (m.n + 1) 0 ∧ s'.m = ⟨updB (updB m.β m.n (.cells [iv slip, lp])) (m.n + 1) (.cells [iv 0, .snil]), m.n + 2, m.an, m.rc⟩ ∧ s'.eff = [] ∧ s'.a0 = ⟨m.an, m.n, []⟩) (by simp [hm, he, ha]) ?_
  clear hp hm he ha s
  rintro s ⟨h1, h2, hm, he, ha⟩
  have hβ : s.m.β m.n = .cells [iv slip, lp] := by rw [hm]; simp [updB]
  have hn : m.n < s.m.n := by rw [hm]; simp
  refine sem_seq (sem_region ?_)
  refine ops_cons (.ptr m.n 1) rfl rfl (by simp [pureV, St.ev, h1, fa24]) ?_
  refine ops_cons lp rfl rfl (by simp [pureV, St.ev, aLoad, aSrc, hn, hβ, ag22]) ?_
  refine ops_cons (iv (l.length + 1 : Nat)) rfl rfl (by simp [pureV, St.ev, aLen, un22, ← hlp]) ?_
  refine ops_op rfl ?_
  simp only [opW, St.ev, un22, St.put_g, if_true]
  refine ⟨z3, ze57, by rw [ce57]; rfl, by decide, in57, by omega, by omega, by rw [by57]; omega, by omega, ?_⟩
  refine ops_cons (.sl (some m.an) 3 0 (l.length + 1) (repl z3 (l.length + 1))) rfl rfl (by simp [pureV, St.ev, hm, ce57]) ?_
  have hpl : lp.plain = true ∧ lp.one = true := hlp ▸ h.plain
  have hx : plainC [iv slip, lp] = true := by simp [plainC, hpl]
  have hrd := h.rd
  have hsh := h.sh
  refine gen (fun s' => s'.g 1 = .ptr m.n 0 ∧ s'.g 2 = .ptr (m.n + 1) 0 ∧ s'.g 3 = .sl (some m.an) 3 0 (l.length + 1) (cellsI 0 r0 l 0) ∧ Mm m [iv slip, lp] [iv 0, .snil] (m.an + 1) s'.m ∧ s'.eff = [] ∧ s'.a0 = ⟨m.an, m.n, []⟩) ⟨by simp [h1], by simp [h2], by simp [cellsI], ⟨by simp [hm], by simp [hm], by simp [hm], fun i hi => by rw [St.put_m, St.newArr_m, St.put_m, St.put_m, St.put_m, hm]; simp only [updB]; rw [if_neg (by omega), if_neg (by omega)], by simp [hm, updB], by simp [hm, updB]⟩, by simp [he], by simp [ha]⟩ ?_
  clear h1 h2 hm he ha hβ hn s
  rintro s ⟨h1, h2, h3, hm, he, ha⟩
  refine sem_seq (sem_seq (sem_region ?_))
  refine ops_cons (iv 0) rfl rfl rfl ?_
  refine gen (fun s' => s'.g 1 = .ptr m.n 0 ∧ s'.g 2 = .ptr (m.n + 1) 0 ∧ s'.g 3 = .sl (some m.an) 3 0 (l.length + 1) (cellsI 0 r0 l 0) ∧ s'.g 4 = iv (0 : Nat) ∧ Mm m [iv slip, lp] [iv 0, .snil] (m.an + 1) s'.m ∧ s'.eff = [] ∧ s'.a0 = ⟨m.an, m.n, []⟩) (by simp [h1, h2, h3, hm, he, ha]) ?_
  clear h1 h2 h3 hm he ha s
  rintro s ⟨h1, h2, h3, h4, hm, he, ha⟩
  refine sem_norm (fun s' => ∃ i2 an, m.an < i2 ∧ i2 < an ∧ s'.g 1 = .ptr m.n 0 ∧ s'.g 2 = .ptr (m.n + 1) 0 ∧ s'.g 3 = .sl (some m.an) 3 0 (l.length + 1) (own3 i2 r0 ++ rcells (l.map dupR)) ∧ Mm m [iv slip, lp] [iv 0, .snil] an s'.m ∧ s'.eff = [] ∧ s'.a0 = ⟨m.an, m.n, []⟩) (sem_block ?_) ?_
  · refine sem_loop (fun s => ∃ i i2 an, i ≤ l.length + 1 ∧ m.an < an ∧ (0 < i → m.an < i2 ∧ i2 < an) ∧ s.g 1 = .ptr m.n 0 ∧ s.g 2 = .ptr (m.n + 1) 0 ∧ s.g 3 = .sl (some m.an) 3 0 (l.length + 1) (cellsI i2 r0 l i) ∧ s.g 4 = iv (i : Nat) ∧ Mm m [iv slip, lp] [iv 0, .snil] an s.m ∧ s.eff = [] ∧ s.a0 = ⟨m.an, m.n, []⟩)
      (fun s => match s.g 4 with | .int _ n => (l.length + 1 - n).toNat | _ => 0) ⟨0, 0, m.an + 1, by omega, by omega, fun h => by omega, h1, h2, h3, h4, hm, he, ha⟩ ?_
    clear h1 h2 h3 h4 hm he ha s
    rintro s ⟨i, i2, an, hi, han, h0, h1, h2, h3, h4, hm, he, ha⟩
    refine sem_seq (sem_seq (sem_region ?_))
    refine ops_cons (iv i) rfl rfl (by simp [pureV, St.ev, h4]) ?_
    refine ops_cons (.sl (some m.an) 3 0 (l.length + 1) (cellsI i2 r0 l i)) rfl rfl (by simp [pureV, St.ev, h3]) ?_
    refine ops_cons (iv (l.length + 1 : Nat)) rfl rfl (by simp [pureV, St.ev, aLen, un22]) ?_
    refine ops_cons (.bool (decide ((i : Int) < (l.length + 1 : Nat)))) rfl rfl (by simp [pureV, St.ev, aBin]) ?_
    refine gen (fun s' => s'.g 12 = .bool (decide ((i : Int) < (l.length + 1 : Nat))) ∧ s'.g 1 = .ptr m.n 0 ∧ s'.g 2 = .ptr (m.n + 1) 0 ∧ s'.g 3 = .sl (some m.an) 3 0 (l.length + 1) (cellsI i2 r0 l i) ∧ s'.g 4 = iv (i : Nat) ∧ Mm m [iv slip, lp] [iv 0, .snil] an s'.m ∧ s'.eff = [] ∧ s'.a0 = ⟨m.an, m.n, []⟩) (by simp [h1, h2, h3, h4, hm, he, ha]) ?_
    have hs4 := h4
    clear h1 h2 h3 hm he ha
    rintro s' ⟨h12, h1, h2, h3, h4, hm, he, ha⟩
    refine sem_cond (decide ((i : Int) < (l.length + 1 : Nat))) (by simp [St.ev, h12]) ?_
    by_cases hlt : i < l.length + 1
    · rw [if_pos (by simp; omega)]
      refine sem_skip ?_
      refine sem_seq (sem_block (sem_region ?_))
      have hn : m.n < s'.m.n := by rw [hm.n]; omega
      refine ops_cons (.sl (some m.an) 3 0 (l.length + 1) (cellsI i2 r0 l i)) rfl rfl (by simp [pureV, St.ev, h3]) ?_
      refine ops_cons (iv i) rfl rfl (by simp [pureV, St.ev, h4]) ?_
      refine ops_cons (.ptr m.n 1) rfl rfl (by simp [pureV, St.ev, h1, fa24]) ?_
      refine ops_cons lp rfl rfl (by simp [pureV, St.ev, aLoad, aSrc, hn, hm.b1, ag22]) ?_
      refine ops_cons (iv i) rfl rfl (by simp [pureV, St.ev, h4]) ?_
      refine ops_cons (.eref none (c + i * 3) ((rcells (r0 :: l)).drop (i * 3))) rfl rfl (by simp only [pureV, St.ev, St.put_g]; simp only [Nat.reduceEqDiff, if_true, if_false, ← hlp]; rw [row22, if_pos hlt]) ?_
      have hlt' : i < (r0 :: l).length := hlt
      have hrow := rc_row hlt'
      have hri := hrd _ (gmR hlt')
      have hrs := hsh _ (gmR hlt')
      have hcl : (rcells (r0 :: l)).length = (l.length + 1) * 3 := by rw [rcells_len]; rfl
      have hst0 : i = 0 → ∀ j, splice (cellsI i2 r0 l i) (i * 3) (own3 j ((r0 :: l).getD i default)) = cellsI j r0 l 1 := by
        rintro rfl j
        simp [cellsI, splice, own3, z3, repl_succ', rcells]
      have hst1 : 0 < i → ∀ j, i2 ≠ j → frzL j (splice (cellsI i2 r0 l i) (i * 3) (own3 j ((r0 :: l).getD i default))) = cellsI i2 r0 l (i + 1) := by
        intro h0 j hne
        obtain ⟨i, rfl⟩ : ∃ k, i = k + 1 := ⟨i - 1, by omega⟩
        have hi' : i < l.length := by omega
        have e : (r0 :: l).getD (i + 1) default = l.getD i default := rfl
        rw [e, cells_step hi', cells_frz hne hi']
      generalize (r0 :: l).getD i default = r at hrow hri hrs hst0 hst1
      refine ops_cons (.agg r.cells) rfl rfl (by simp only [pureV, St.ev, St.put_g, Nat.reduceEqDiff, if_true, if_false]; simp only [aLoad, aSrc, ag57, ce57]; rw [if_pos ⟨by rw [List.length_drop, hcl]; omega, in57⟩, hrow]) ?_
      refine ops_gen (fun s' => s'.g 15 = .sl (some m.an) 3 0 (l.length + 1) (cellsI i2 r0 l i) ∧ s'.g 16 = iv i ∧ s'.g 21 = .agg r.cells ∧ s'.g 1 = .ptr m.n 0 ∧ s'.g 2 = .ptr (m.n + 1) 0 ∧ s'.g 3 = .sl (some m.an) 3 0 (l.length + 1) (cellsI i2 r0 l i) ∧ s'.g 4 = iv (i : Nat) ∧ Mm m [iv slip, lp] [iv 0, .snil] an s'.m ∧ s'.eff = [] ∧ s'.a0 = ⟨m.an, m.n, []⟩) (by simp [h1, h2, h3, h4, hm, he, ha]) ?_
      clear h1 h2 h3 h4 hm he ha hn h12 s'
      rintro s' ⟨h15, h16, h21, h1, h2, h3, h4, hm, he, ha⟩
      refine ops_call ⟨Try.f64, by kernel_rfl, by decide, rfl⟩ (by simp [St.ev, h21]) (own64 hri hrs _) ?_
      rintro v E M ⟨rfl, hM, id, k1, k2, rfl⟩
      rw [hm.an] at k1
      have hm' : Mm m [iv slip, lp] [iv 0, .snil] M.an M := by rw [hM]; exact ⟨hm.n, rfl, hm.rc, hm.old, hm.b1, hm.b2⟩
      refine ops_cons (.eref (some m.an) (i * 3) ((cellsI i2 r0 l i).drop (i * 3))) rfl rfl (by simp only [pureV, St.ev, St.put_g, St.after_g, PV.sub_nil, Nat.reduceEqDiff, if_false]; rw [h15, h16, row22o hlt]) ?_
      have hcI := cellsI_len i2 r0 l i hi
      have hoff : Off m.an (cellsI i2 r0 l i) := by
        rcases Nat.eq_zero_or_pos i with rfl | hp
        · exact Off.plain (z3_plain _)
        · exact Off.cellsI (by have := (h0 hp).1; omega) r0 l i
      have hofo : Off m.an (own3 id r) := Off.own3 (by omega) r
      refine ops_op rfl ⟨rfl, ?_⟩
      simp only [St.ev, St.put_g, St.after_g, PV.sub_nil, Nat.reduceEqDiff, if_true, if_false]
      simp only [aStore]
      refine ⟨in57, by rw [ce57]; omega, by rw [ce57]; rfl, rfl, by show (own3 id r).length ≤ _; rw [List.length_drop, hcI]; simp [own3]; omega, fun c hc => (hofo c hc).1 _ rfl, ?_⟩
      have hE : ∀ e ∈ wrs m.an (i * 3) (own3 id r), m.an ≤ e.id := fun e he => by rw [(mem_wrs he).1]; exact Nat.le_refl _
      have hptr : ∀ j, Off m.an [PV.ptr j 0] := fun j c hc => by
        simp only [List.mem_singleton] at hc
        subst hc
        exact ⟨fun e _ => by simp only [PV.sub1], by simp only [PV.frz]⟩
      have hfit : i * 3 + (own3 id r).length ≤ (cellsI i2 r0 l i).length := by rw [hcI]; simp [own3]; omega
      refine gen (fun s' => s'.g 1 = .ptr m.n 0 ∧ s'.g 2 = .ptr (m.n + 1) 0 ∧ s'.g 3 = .sl (some m.an) 3 0 (l.length + 1) (splice (cellsI i2 r0 l i) (i * 3) (own3 id r)) ∧ s'.g 4 = iv (i : Nat) ∧ Mm m [iv slip, lp] [iv 0, .snil] M.an s'.m ∧ s'.eff = [] ∧ s'.a0 = ⟨m.an, m.n, []⟩) ⟨?_, ?_, ?_, ?_, ?_, ?_, ?_⟩ ?_
      · simp [h1]; exact sub_off (hptr _)
      · simp only [St.hit_g, St.put_g, St.after_g, PV.sub_nil, Nat.reduceEqDiff, if_false, h2]; exact sub_off (hptr _)
      · simp only [St.hit_g, St.put_g, St.after_g, PV.sub_nil, Nat.reduceEqDiff, if_false, h3]; exact sub_wrsO _ _ _ _ _ _ hoff hofo hfit
      · simp only [St.hit_g, St.put_g, St.after_g, PV.sub_nil, Nat.reduceEqDiff, if_false, h4]
        exact sub_off (Off.plain (cs := [iv i]) rfl)
      · have := hm'.hit hbd hx rfl hE
        simpa [St.hit, own3, PV.cells] using this
      · simp only [St.hit_eff, St.put_eff, St.after_eff, St.put_a0, St.after_a0, he, ha, addEff_nil, dropNew_nil]
        exact dropNew_all hE
      · simp [ha]
      have k2' := k2
      have hmid : m.an < id := by omega
      clear h15 h16 h21 h1 h2 h3 h4 hm he ha hm' hE hM s'
      rintro s' ⟨h1, h2, h3, h4, hm, he, ha⟩
      obtain ⟨s1, i3, hs1, h1', h2', h3', h4', hm', he', ha', hi3⟩ : ∃ s1 i3, Silent s' s1 ∧ s1.g 1 = .ptr m.n 0 ∧ s1.g 2 = .ptr (m.n + 1) 0 ∧ s1.g 3 = .sl (some m.an) 3 0 (l.length + 1) (cellsI i3 r0 l (i + 1)) ∧ s1.g 4 = iv (i : Nat) ∧ Mm m [iv slip, lp] [iv 0, .snil] M.an s1.m ∧ s1.eff = [] ∧ s1.a0 = ⟨m.an, m.n, []⟩ ∧ m.an < i3 ∧ i3 < M.an := by
        rcases Nat.eq_zero_or_pos i with hz | hp
        · refine ⟨s', id, Silent.refl _, h1, h2, ?_, h4, hm, he, ha, hmid, k2⟩
          rw [h3, hst0 hz, hz]
        · obtain ⟨h5, h6⟩ := h0 hp
          have hne : i2 ≠ id := by omega
          refine ⟨s'.freeze id, i2, silent_freeze s' id, by simp [St.freeze, h1, PV.frz], by simp [St.freeze, h2, PV.frz], ?_, by simp [St.freeze, h4, PV.frz], ?_, ?_, by simp [St.freeze, ha], h5, by omega⟩
          · simp only [St.freeze, h3, PV.frz]
            rw [if_neg (by omega), hst1 hp id hne]
          · exact hm.frz hbd hx rfl (by omega)
          · simp only [St.freeze, he, ha, addEff_nil]
            rw [dropNew_new _ _ _ (by simp [Eff.id]; omega)]
            rfl
      refine codeSem_silent hs1 (sem_region ?_)
      refine ops_cons (iv i) rfl rfl (by simp [pureV, St.ev, h4']) ?_
      refine ops_cons (iv (i + 1 : Nat)) rfl rfl (by simp [pureV, St.ev, pvOf, aBin, wrap64 (n := (i : Int) + 1) (by omega) (by omega)]) ?_
      refine ops_cons (iv (i + 1 : Nat)) rfl rfl (by simp [pureV, St.ev]) ?_
      refine .inl ⟨⟨i + 1, i3, M.an, by omega, by omega, fun _ => hi3, by simp [h1'], by simp [h2'], by simp [h3'], by simp, by simpa using hm', by simp [he'], by simp [ha']⟩, ?_⟩
      rw [hs4]
      simp only [St.put_g, if_true]
      omega
    · rw [if_neg (by simp; omega)]
      refine sem_exit ?_
      have hi2 : i = l.length + 1 := by omega
      subst hi2
      simp only [if_true]
      obtain ⟨h5, h6⟩ := h0 (by omega)
      refine ⟨trivial, i2, an, h5, h6, h1, h2, ?_, hm, he, ha⟩
      rw [h3]
      simp [cellsI, repl]
  · clear h1 h2 h3 h4 hm he ha s
    rintro s ⟨i2, an, k1, k2, h1, h2, h3, hm, he, ha⟩
    generalize hL : own3 i2 r0 ++ rcells (l.map dupR) = L at h3
    have hn : m.n < s.m.n := by rw [hm.n]; omega
    refine sem_seq (sem_region ?_)
    refine ops_cons (.sl (some m.an) 3 0 (l.length + 1) L) rfl rfl (by simp [pureV, St.ev, h3]) ?_
    refine ops_cons (.ptr m.n 1) rfl rfl (by simp [pureV, St.ev, h1, fa24]) ?_
    refine ops_store (id := m.n) (off := 1) (v := .sl (some m.an) 3 0 (l.length + 1) L) (l := [iv slip, lp]) (by simp [St.ev]) (by simp [St.ev]) (by simpa using hn) in22 ce22 rfl rfl (by simp [hm.b1]) (by simp) ?_
    refine gen (fun s' => s'.g 1 = .ptr m.n 0 ∧ s'.g 2 = .ptr (m.n + 1) 0 ∧ Mm m [iv slip, .sl (some m.an) 3 0 (l.length + 1) L] [iv 0, .snil] an s'.m ∧ s'.eff = [] ∧ s'.a0 = ⟨m.an, m.n, []⟩) ⟨by simp [h1], by simp [h2], ⟨by simp [hm.n], by simp [hm.an], by simp [hm.rc], fun i hi => ?_, by simp [splice], ?_⟩, by simp [he], by simp [ha]⟩ ?_
    · rw [St.setBox_m]
      simp only [St.put_m]
      rw [updB_other _ _ _ _ (by omega)]
      exact hm.old i hi
    · rw [St.setBox_m]
      simp only [St.put_m]
      rw [updB_other _ _ _ _ (by omega)]
      exact hm.b2
    clear h1 h2 h3 hm he ha hn s
    rintro s ⟨h1, h2, hm, he, ha⟩
    have hn : m.n < s.m.n := by rw [hm.n]; omega
    refine sem_seq (sem_region ?_)
    refine ops_cons (.agg [iv slip, .sl (some m.an) 3 0 (l.length + 1) L]) rfl rfl (by simp [pureV, St.ev, aLoad, aSrc, h1, hn, hm.b1, ag24, ce24, in24]) ?_
    refine ops_op rfl ⟨rfl, ?_⟩
    simp only [St.ev, St.put_g, Nat.reduceEqDiff, if_true, if_false, h2, aStore]
    refine ⟨by simp [hm.n], in24, by rw [ce24]; rfl, rfl, [iv 0, .snil], by simp [hm.b2], by simp [PV.cells], ?_⟩
    refine gen (fun s' => s'.g 2 = .ptr (m.n + 1) 0 ∧ Mm m [iv slip, .sl (some m.an) 3 0 (l.length + 1) L] [iv slip, .sl (some m.an) 3 0 (l.length + 1) L] an s'.m ∧ s'.eff = [] ∧ s'.a0 = ⟨m.an, m.n, []⟩) ⟨by simp [h2], ⟨by simp [hm.n], by simp [hm.an], by simp [hm.rc], fun i hi => ?_, ?_, by simp [splice, PV.cells]⟩, by simp [he], by simp [ha]⟩ ?_
    · rw [St.setBox_m]
      simp only [St.put_m]
      rw [updB_other _ _ _ _ (by omega)]
      exact hm.old i hi
    · rw [St.setBox_m]
      simp only [St.put_m]
      rw [updB_other _ _ _ _ (by omega)]
      exact hm.b1
    clear h1 h2 hm he ha hn s
    rintro s ⟨h2, hm, he, ha⟩
    have hid : ∀ q : List PV, q = L → anonL m.n an q = q := by
      rintro q rfl
      rw [← hL, anonL_eq]
      conv => rhs; rw [← List.map_id (own3 i2 r0 ++ rcells (l.map dupR))]
      refine List.map_congr_left fun p hp => ?_
      rcases List.mem_append.1 hp with hp | hp
      · have hi := ints_plain r0.st
        have hi' : anonL m.n an (r0.st.map iv) = r0.st.map iv := by
          rw [anonL_eq]
          conv => rhs; rw [← List.map_id (r0.st.map iv)]
          exact List.map_congr_left fun p hp => plain_anon _ _ p ((plainC_iff _).1 hi p hp).1
        simp only [own3, List.mem_cons, List.not_mem_nil, or_false] at hp
        rcases hp with rfl | rfl | rfl
        · simp [PV.anon, hi', k2]
        · simp [PV.anon]
        · simp [PV.anon]
      · exact plain_anon _ _ p ((plainC_iff _).1 (rcells_plainR rawDup) p hp).1
    refine sem_ret ⟨.inr rfl, .agg [iv slip, .sl (some m.an) 3 0 (l.length + 1) L], ?_, .agg [iv slip, .sl (some m.an) 3 0 (l.length + 1) L], { m with an := an }, .inr ⟨he, Nat.le_refl _, by show m.an ≤ an; omega, by rw [hm.n]; show m.n ≤ _; omega, hm.rc.symm, ?_, fun i hi => .inl ⟨hi, rfl, hm.old i hi⟩⟩, he, rfl, m.an, i2, Nat.le_refl _, k1, k2, ?_⟩
    · show aRes _ _ [.cell 2 24] = _
      have hn : m.n + 1 < s.m.n := by rw [hm.n]; omega
      simp [aRes, aResL, aRes1, h2, aLoad, aSrc, hn, hm.b2, ag24, ce24, in24]
    · simp [PV.anon, anonL, hid L rfl]
      omega
    · rw [hL]
end Go.Proofs.Ytlminnpaeaganaa
namespace Go.Proofs.Ytlminnpaeaganaa
open Go Go.RowKit
set_option linter.unusedVariables false
set_option linter.unusedSimpArgs false
set_option maxRecDepth 100000
section
variable {P : Program} {ops : Array Oper} {o : Oper} {rest : List Oper} {s : St} {K : St → Prop}
theorem ops_calls {g : FuncId} {xs : Array Operand} {d : Tmp} {ats : Array TypeId} {dt : TypeId} {ps : String} {af : Array Edge} {vs : List PV} {Q : PV → List Eff → Mem → Prop} (hf : ∃ fn, P.funcs[g]? = some fn ∧ fn.name ≠ "runtime.NumGoroutine" ∧ fn.body.isSome) (hx : xs.toList.map s.ev = vs) (hc : ECalls P g vs s.m Q)
    (h : ∀ v E m', Q v E m' → opsW P ops rest ((s.after E m').put (some d) v) K) : opsW P ops (⟨some d, .call ⟨.value (.func g), xs, ats⟩, dt, ps, af, none⟩ :: rest) s K := by
  refine ops_op rfl ⟨hf, ?_⟩
  show ECallsY P s.nowY g (xs.toList.map s.ev ++ []) s.m _
  rw [List.append_nil, hx]
  exact hc.y.mono h
end
theorem fe57 (j : Nat) (c : PV) (cs : List PV) : aField Try.prog 57 (.eref (some j) 0 (c :: cs)) 0 = some (.eref (some j) 0 (c :: cs)) := by kernel_rfl
theorem fn57 (o : Nat) (c : PV) (cs : List PV) : aField Try.prog 57 (.eref none o (c :: cs)) 0 = some (.eref none o (c :: cs)) := by kernel_rfl
theorem ag25 : aggT Try.prog 25 = some false := by kernel_rfl
theorem ag3 : aggT Try.prog 3 = some false := by kernel_rfl
theorem ag27 : aggT Try.prog 27 = some true := by kernel_rfl
theorem ce25 : Try.prog.cellsOf 25 = 1 := by kernel_rfl
theorem ce3 : Try.prog.cellsOf 3 = 1 := by kernel_rfl
theorem ce27 : Try.prog.cellsOf 27 = 5 := by kernel_rfl
theorem in25 : (Try.prog.info? 25).isSome = true := by kernel_rfl
theorem in3 : (Try.prog.info? 3).isSome = true := by kernel_rfl
theorem in27 : (Try.prog.info? 27).isSome = true := by kernel_rfl
theorem by3 : Try.prog.bytesOf 3 = 8 := by kernel_rfl
theorem ze3 : zeroCs Try.prog 3 = some [iv 0] := by kernel_rfl
theorem zo3 : (zeroOf Try.prog 3).any (fun z => z.cells.size = Try.prog.cellsOf 3) = true := by kernel_rfl
theorem ze27 : ∃ z, zeroCs Try.prog 27 = some z ∧ z.length = 5 := ⟨_, rfl, by kernel_rfl⟩
theorem box_inv (I : List PV → Prop) : ∀ E : List Eff, (BoxC.inv I).sub E = .inv I
  | [] => rfl
  | e :: E => box_inv I E
structure M11 (m : Mem) (bs : List BoxC) (an : Nat) (M : Mem) : Prop where
  n : M.n = m.n + bs.length
  an : M.an = an
  rc : M.rc = m.rc
  old : ∀ i, i < m.n → M.β i = m.β i
  bx : ∀ j c, bs[j]? = some c → M.β (m.n + j) = c
section
variable {m M : Mem} {bs : List BoxC} {an : Nat}
theorem M11.hit (hb : ∀ i l, i < m.n → m.β i = .cells l → bdL m.n m.an l) (h : M11 m bs an M) {EE : List Eff} (he : ∀ e ∈ EE, m.an ≤ e.id) : M11 m (bs.map (BoxC.sub EE)) an { M with β := fun i => (M.β i).sub EE } :=
  ⟨by simpa using h.n, h.an, h.rc, fun i hi => by show (M.β i).sub EE = _; rw [h.old i hi]; exact box_hit (fun l hl => hb i l hi hl) he, fun j c hc => by
    rw [List.getElem?_map] at hc
    obtain ⟨c0, h1, rfl⟩ := Option.map_eq_some_iff.1 hc
    show (M.β (m.n + j)).sub EE = _
    rw [h.bx j c0 h1]⟩
theorem M11.frz (hb : ∀ i l, i < m.n → m.β i = .cells l → bdL m.n m.an l) (h : M11 m bs an M) {id : Nat} (he : m.an ≤ id) : M11 m (bs.map (BoxC.frz id)) an { M with β := fun i => (M.β i).frz id } :=
  ⟨by simpa using h.n, h.an, h.rc, fun i hi => by show (M.β i).frz id = _; rw [h.old i hi]; exact box_frz (fun l hl => hb i l hi hl) he, fun j c hc => by
    rw [List.getElem?_map] at hc
    obtain ⟨c0, h1, rfl⟩ := Option.map_eq_some_iff.1 hc
    show (M.β (m.n + j)).frz id = _
    rw [h.bx j c0 h1]⟩
theorem M11.push (h : M11 m bs an M) (l : List PV) : M11 m (bs ++ [.cells l]) an ⟨updB M.β M.n (.cells l), M.n + 1, M.an, M.rc⟩ :=
  ⟨by simp [h.n]; omega, h.an, h.rc, fun i hi => by
    have := h.n
    show updB M.β M.n _ i = _
    rw [updB_other _ _ _ _ (by omega)]; exact h.old i hi, fun j c hc => by
    have := h.n
    show updB M.β M.n _ (m.n + j) = _
    rw [List.getElem?_append] at hc
    split at hc
    · rw [updB_other _ _ _ _ (by omega)]; exact h.bx j c hc
    · have hj : j = bs.length := by
        have := (List.getElem?_eq_some_iff.1 hc).1
        simp at this; omega
      subst hj
      simp at hc
      subst hc
      rw [← this, updB_same]⟩
theorem M11.set (h : M11 m bs an M) {j : Nat} (hj : j < bs.length) (l : List PV) : M11 m (bs.set j (.cells l)) an ⟨updB M.β (m.n + j) (.cells l), M.n, M.an, M.rc⟩ :=
  ⟨by simpa using h.n, h.an, h.rc, fun i hi => by
    show updB M.β _ _ i = _
    rw [updB_other _ _ _ _ (by omega)]; exact h.old i hi, fun k c hc => by
    show updB M.β _ _ (m.n + k) = _
    rw [List.getElem?_set] at hc
    split at hc
    · rename_i e
      subst e
      injection hc with hc
      subst hc
      exact updB_same _ _ _
    · rw [updB_other _ _ _ _ (by omega)]; exact h.bx k c hc⟩
theorem M11.call (h : M11 m bs an M) {M' : Mem} (h' : M' = { M with an := M'.an }) : M11 m bs M'.an M' := by
  rw [h']; exact ⟨h.n, rfl, h.rc, h.old, h.bx⟩
end
theorem own38 {M : Mem} {d : Nat} (hd : d < M.n) (hb : M.β d = .inv DiceI) : ECalls Try.prog 38 [.ptr d 0, iv 2] M fun v E m' => E = [] ∧ m' = { M with an := m'.an } ∧ ∃ slip l id, Hand slip (.sl none 3 0 l.length (rcells l)) l ∧ M.an ≤ id ∧ id < m'.an ∧ v = .agg [iv slip, .sl (some id) 3 0 l.length (rcells l)] := by
  refine (e_own 20 38 (some (2, 1)) rfl [dv, iv 2] (fun ω => by obtain ⟨v, h, _⟩ := ev38 15 2 (by omega) (by omega) ω; rw [h]; rfl) _ M ⟨_, _, rfl, .inr ⟨rfl, d, rfl, hd, hb⟩, _, _, rfl, .inl ⟨rfl, rfl⟩, rfl⟩).mono ?_
  rintro v E m' ⟨p, ω, h1, _, h2, h3, h4, ps, x, y, rfl, h5, rfl, h6⟩
  obtain ⟨v, h7, slip, lp, l, rfl, k1, k2, k3, k4, k5, k6⟩ := ev38 15 2 (by omega) (by omega) ω
  rw [h7] at h1
  injection h1 with h1
  injection h1 with h1
  subst h1
  simp only [List.getElem?_cons_succ, List.getElem?_cons_zero, Option.some.injEq] at h5
  subst h5
  refine ⟨h2, h3, slip, l, ?_⟩
  rcases h6 with ⟨sz, len, cs, id, rfl, rfl, j1, j2⟩ | ⟨rfl, _⟩
  · rcases k3 with ⟨e, _⟩ | ⟨c, e⟩
    · cases e
    injection e with _ e2 e5 e3 e4
    subst e2; subst e3; subst e4; subst e5
    exact ⟨id, ⟨k1, k2, .inr ⟨_, rfl⟩, k4, by omega, k6⟩, j1, j2, rfl⟩
  · rcases k3 with ⟨_, e⟩ | ⟨c, e⟩
    · rw [e] at k4; simp at k4
    · cases e
theorem ans_ev {k : Nat} {g : FuncId} {args args' : List PV} {Post : PV → Prop} (h : ∀ ω, ∃ v, E Try.prog k ω g args = some v ∧ Post v) {M : Mem} (ha : ArgL DiceI M args args') : ECalls Try.prog g args' M fun v E m' => Post v ∧ v.plain = true ∧ E = [] ∧ m' = M := by
  refine ((e_sound k).ans g args (fun ω => by obtain ⟨v, h, _⟩ := h ω; rw [h]; rfl) args' M ha).mono ?_
  rintro v E m' ⟨⟨ω, h1⟩, h2, h3, h4⟩
  obtain ⟨v', h5, h6⟩ := h ω
  rw [h5] at h1
  injection h1 with h1
  subst h1
  exact ⟨h6, h2, h3, h4⟩
end Go.Proofs.Ytlminnpaeaganaa
