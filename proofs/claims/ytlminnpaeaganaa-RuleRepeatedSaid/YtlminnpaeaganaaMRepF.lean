/- Plain laws. No condition. -/
import Derived.Test.YtlminnpaeaganaaMRepC
namespace Go.Proofs.Ytlminnpaeaganaa
open Go Go.RowKit
set_option linter.unusedVariables false
set_option linter.unusedSimpArgs false
set_option maxRecDepth 100000
theorem hand_one {r : Rg} {l : List Rg} {sp : PV} {s0 : Int} {n : Nat} (h : ∀ x ∈ r :: l, x.ok) (hs : s0 ∈ r.st) (hn : 1 ≤ n) (hn3 : n ≤ 3) (hi : IL sp (List.replicate n s0)) : ∀ x ∈ (⟨sp, List.replicate n s0, r.lines, r.width⟩ : Rg) :: l, x.ok := by
  have hr := h r (by simp)
  intro x hx
  rcases List.mem_cons.1 hx with rfl | hx
  · exact ⟨hi, by simpa using hn, by simpa using hn3, fun s hs' => by rw [List.eq_of_mem_replicate hs']; exact hr.st _ hs, hr.n1, hr.n2, hr.w1, hr.w2⟩
  · exact h x (by simp [hx])
def cut1 (r : Rg) (c : Nat) (s0 : Int) : Rg := ⟨.sl none 1 c 1 [iv s0], [s0], r.lines, r.width⟩
structure At (m : Mem) (slip : Int) (r : Rg) (l : List Rg) (c : Nat) (s0 : Int) (k : Nat) (s : St) : Prop where
  ex : ∃ id1 id2 an, m.an ≤ id1 ∧ id1 < id2 ∧ id2 < an ∧ M11 m [.inv DiceI, .cells [iv slip, .sl none 3 0 (l.length + 1) (rcells (cut1 r c s0 :: l))], .cells [iv slip, .sl (some id1) 3 0 (l.length + 1) (.sl (some id2) 1 0 k ((List.replicate k s0).map iv) :: iv r.lines :: iv r.width :: rcells (l.map dupR))]] an s.m
  d : s.g 3 = .ptr m.n 0
  r4 : s.g 4 = .ptr (m.n + 1) 0
  x5 : s.g 5 = .ptr (m.n + 2) 0
  e : s.eff = []
  a : s.a0 = ⟨m.an, m.n, []⟩
theorem append_own {s : St} {d : Tmp} {id k : Nat} {cs : List PV} {s0 : Int} {K : St → Prop} (hk : k ≤ 10) (hp : plainC cs = true)
    (h : K ((s.hit [.kill id]).put (some d) (.sl (some id) 1 0 (k + 1) (cs ++ [iv s0])))) : aAppend Try.prog s (some d) 25 (.sl (some id) 1 0 k cs) (.sl none 1 0 1 [iv s0]) K := by
  unfold aAppend
  rw [un25]
  simp only []
  refine ⟨in3, by rw [ce3]; omega, zo3, ?_⟩
  simp only [aTail, ce3, true_or, if_true]
  refine ⟨rfl, trivial, trivial, by rw [by3]; omega, by omega, fun c hc => ?_, h⟩
  have : c.plain = true := by
    rcases List.mem_append.1 hc with hc | hc
    · exact ((plainC_iff cs).1 hp c hc).1
    · simp only [List.mem_singleton] at hc
      subst hc; rfl
  exact plain_sub1 _ c this
theorem lst_wr {id1 n k : Nat} {rest : List PV} {a b : Int} {v : PV} (hp : plainC rest = true) : PV.sub (wrs id1 0 [v]) (.sl (some id1) 3 0 n (.dead k :: iv a :: iv b :: rest)) = .sl (some id1) 3 0 n (v :: iv a :: iv b :: rest) := by
  simp only [wrs, PV.sub, PV.sub1, if_true, subL1, plainC_sub1 _ _ hp, setAt, Nat.le_refl, Nat.sub_self, List.set_cons_zero]
theorem rep_snoc (k : Nat) (s0 : Int) : (List.replicate k s0).map iv ++ [iv s0] = (List.replicate (k + 1) s0).map iv := by
  rw [List.replicate_succ', List.map_append]; rfl
theorem law11_sem {q : PV} (hq : intsB q = true) (m : Mem) : ECalls Try.prog 11 [q] m fun v E m' => v = .bool true ∧ E = [] ∧ m' = m := by
  refine ecalls_bd fun hbd => ?_
  refine ecalls_of_sem (fn := Try.f11) (by kernel_rfl) rfl (Nat.le_of_ble_eq_true rfl) (by kernel_rfl) ?_
  have hp : (entry [q] m).g 0 = q := rfl
  have hm : (entry [q] m).m = m := rfl
  have he : (entry [q] m).eff = [] := rfl
  have ha : (entry [q] m).a0 = ⟨m.an, m.n, []⟩ := rfl
  generalize entry [q] m = s at hp hm he ha
  refine sem_seq (sem_region ?_)
  refine ops_cons (.bool false) rfl rfl rfl ?_
  refine sem_seq (sem_region ?_)
  refine ops_cons q rfl rfl (by simp [pureV, St.ev, hp]) ?_
  refine ops_calls (vs := [q]) ⟨Try.f18, by kernel_rfl, by decide, rfl⟩ (by simp [St.ev]) (new_ok0 q _ hq) ?_
  rintro v E M ⟨rfl, rfl, hM⟩
  refine ops_cons (.ptr m.n 0) rfl rfl (by simp [pureV, St.ev, hm]) ?_
  refine gen (fun s' => s'.g 3 = .ptr m.n 0 ∧ M11 m [.inv DiceI] m.an s'.m ∧ s'.eff = [] ∧ s'.a0 = ⟨m.an, m.n, []⟩) ⟨by simp, ⟨by simp [hM, hm], by simp [hM, hm], by simp [hM, hm], fun i hi => ?_, fun j c hc => ?_⟩, by simp [he], by simp [ha]⟩ ?_
  · simp only [St.put_m, St.after_m, hM, hm]; rw [updB_other _ _ _ _ (by omega)]
  · cases j with
    | zero => simp at hc; subst hc; simp [hM, hm]
    | succ j => simp at hc
  clear hp hm he ha hM s
  rintro s ⟨h3, hm, he, ha⟩
  refine sem_seq (sem_region ?_)
  refine ops_cons (.ptr m.n 0) rfl rfl (by simp [pureV, St.ev, h3]) ?_
  refine ops_calls (vs := [.ptr m.n 0, iv 2]) ⟨Try.f38, by kernel_rfl, by decide, rfl⟩ (by simp [St.ev, pvOf]) (own38 (by simp [hm.n]) (by simpa using hm.bx 0 _ rfl)) ?_
  rintro v E M ⟨rfl, hM, slip, l, id0, hH, k1, k2, rfl⟩
  have hmM : M11 m [.inv DiceI] M.an M := M11.call (by simpa using hm) (by simpa using hM)
  rw [St.put_m, hm.an] at k1
  refine ops_op rfl ⟨_, ze24, ?_⟩
  have hpush := hmM.push [iv 0, .snil]
  refine ops_gen (fun s' => s'.g 3 = .ptr m.n 0 ∧ s'.g 4 = .ptr (m.n + 1) 0 ∧ s'.g 23 = .agg [iv slip, .sl (some id0) 3 0 l.length (rcells l)] ∧ M11 m [.inv DiceI, .cells [iv 0, .snil]] M.an s'.m ∧ s'.eff = [] ∧ s'.a0 = ⟨m.an, m.n, []⟩) ⟨by simp [h3], by simp [hmM.n], by simp, by simpa using hpush, by simp [he], by simp [ha]⟩ ?_
  clear h3 hm he ha hM hpush s
  rintro s ⟨h3, h4, h23, hm, he, ha⟩
  refine ops_op rfl ⟨rfl, ?_⟩
  simp only [St.ev, h4, h23, aStore]
  have hb1 : s.m.β (m.n + 1) = .cells [iv 0, .snil] := hm.bx 1 _ rfl
  refine ⟨by rw [hm.n]; simp, in24, by rw [ce24]; rfl, rfl, [iv 0, .snil], hb1, by simp [PV.cells], ?_⟩
  have hset := hm.set (j := 1) (by simp) [iv slip, .sl (some id0) 3 0 l.length (rcells l)]
  obtain ⟨r, l, rfl⟩ : ∃ r l', l = r :: l' := by
    cases l with
    | nil => have := hH.l0; simp at this
    | cons r l => exact ⟨r, l, rfl⟩
  refine gen (fun s' => s'.g 3 = .ptr m.n 0 ∧ s'.g 4 = .ptr (m.n + 1) 0 ∧ M11 m [.inv DiceI, .cells [iv slip, .sl (some id0) 3 0 (l.length + 1) (rcells (r :: l))]] M.an s'.m ∧ s'.eff = [] ∧ s'.a0 = ⟨m.an, m.n, []⟩) ⟨by simp [h3], by simp [h4], by simpa [St.setBox, splice, PV.cells] using hset, by simp [he], by simp [ha]⟩ ?_
  clear h3 h4 h23 hm he ha hset hb1 s
  rintro s ⟨h3, h4, hm, he, ha⟩
  have hok := hH.ok
  have hr := hok r (by simp)
  obtain ⟨c, k, s0, ss, hsp, hst⟩ : ∃ c k s0 ss, r.sp = .sl none 1 c (k + 1) (iv s0 :: ss) ∧ s0 ∈ r.st := by
    have := hr.l1
    rcases hr.il with ⟨_, e⟩ | ⟨c, e⟩
    · rw [e] at this; simp at this
    · cases hs : r.st with
      | nil => rw [hs] at this; simp at this
      | cons a b => exact ⟨c, b.length, a, b.map iv, by rw [e, hs]; simp, by simp⟩
  have hb1 : s.m.β (m.n + 1) = .cells [iv slip, .sl (some id0) 3 0 (l.length + 1) (rcells (r :: l))] := hm.bx 1 _ rfl
  have hn : m.n + 1 < s.m.n := by rw [hm.n]; simp
  have hrc : rcells (r :: l) = r.sp :: iv r.lines :: iv r.width :: rcells l := by simp [rcells, Rg.cells]
  refine sem_seq (sem_draw (by kernel_rfl) 10 (by kernel_rfl) (fun _ _ _ _ _ => False) ?_)
  refine lex_cons (.ptr (m.n + 1) 1) _ _ rfl rfl (by simp [pureV, St.ev, h4, fa24]) ?_
  refine lex_cons (.sl (some id0) 3 0 (l.length + 1) (rcells (r :: l))) _ _ rfl rfl (by simp [pureV, St.ev, aLoad, aSrc, hn, hb1, ag22]) ?_
  refine lex_cons (.ptr (m.n + 1) 1) _ _ rfl rfl (by simp [pureV, St.ev, h4, fa24]) ?_
  refine lex_cons (.sl (some id0) 3 0 (l.length + 1) (rcells (r :: l))) _ _ rfl rfl (by simp [pureV, St.ev, aLoad, aSrc, hn, hb1, ag22]) ?_
  refine lex_cons (.eref (some id0) 0 (rcells (r :: l))) _ _ rfl rfl (by simp [pureV, St.ev, pvOf, aIndexAddr, un22, ce57, in57]) ?_
  refine lex_cons (.eref (some id0) 0 (rcells (r :: l))) _ _ rfl rfl (by simp [pureV, St.ev, hrc, fe57]) ?_
  refine lex_cons r.sp _ _ rfl rfl (by simp [pureV, St.ev, hrc, aLoad, aSrc, ag25]) ?_
  refine lex_cons (.sl none 1 c 1 [iv s0]) _ _ rfl rfl (by simp [pureV, St.ev, pvOf, hsp, aSlice, un25, aBnd, ce3, in3]) ?_
  refine lex_cons (.eref (some id0) 0 (rcells (r :: l))) _ _ rfl rfl (by simp [pureV, St.ev, pvOf, aIndexAddr, un22, ce57, in57]) ?_
  refine lex_cons (.eref (some id0) 0 (rcells (r :: l))) _ _ rfl rfl (by simp [pureV, St.ev, hrc, fe57]) ?_
  refine ops_op rfl ⟨rfl, ?_⟩
  simp only [St.ev, St.put_g, Nat.reduceEqDiff, if_true, if_false, aStore]
  refine ⟨in25, by rw [ce25]; omega, by rw [ce25]; rfl, rfl, by simp [hrc, PV.cells], fun c hc => ?_, ?_⟩
  · simp only [PV.cells, List.mem_singleton] at hc
    subst hc
    rfl
  have hE : ∀ e ∈ wrs id0 0 [PV.sl none 1 c 1 [iv s0]], m.an ≤ e.id := fun e he => by rw [(mem_wrs he).1]; exact k1
  have hhit := hm.hit hbd hE
  have hpl : plainC (rcells (r :: l)) = true := rcells_plainR fun x hx => (hok x hx).il
  have hbx : BoxC.sub (wrs id0 0 [PV.sl none 1 c 1 [iv s0]]) (.cells [iv slip, .sl (some id0) 3 0 (l.length + 1) (rcells (r :: l))]) = .cells [iv slip, .sl (some id0) 3 0 (l.length + 1) (rcells (cut1 r c s0 :: l))] := by
    simp only [wrs, BoxC.sub, List.foldl_cons, List.foldl_nil, BoxC.sub1, List.map_cons, List.map_nil, PV.sub1, if_true, plainC_sub1 _ _ hpl, setAt, Nat.le_refl, Nat.sub_self]
    rw [hrc]
    simp [rcells, Rg.cells, cut1]
  refine gen (fun s' => s'.g 3 = .ptr m.n 0 ∧ s'.g 4 = .ptr (m.n + 1) 0 ∧ M11 m [.inv DiceI, .cells [iv slip, .sl (some id0) 3 0 (l.length + 1) (rcells (cut1 r c s0 :: l))]] M.an s'.m ∧ s'.eff = [] ∧ s'.a0 = ⟨m.an, m.n, []⟩) ⟨?_, ?_, ?_, ?_, by simp [ha]⟩ ?_
  · simp [h3, wrs, PV.sub, PV.sub1, PV.cells]
  · simp [h4, wrs, PV.sub, PV.sub1, PV.cells]
  · simp only [List.map_cons, List.map_nil, hbx, box_inv] at hhit
    simpa [St.hit, PV.cells] using hhit
  · simp only [St.hit_eff, St.put_eff, St.put_a0, he, ha, addEff_nil]
    exact dropNew_all hE
  have hH' : Hand slip (.sl none 3 0 (l.length + 1) (rcells (cut1 r c s0 :: l))) (cut1 r c s0 :: l) :=
    ⟨hH.s0, hH.s1, .inr ⟨0, rfl⟩, by simp, hH.l1, hand_one (n := 1) hok hst (by omega) (by omega) (.inr ⟨c, rfl⟩)⟩
  clear h3 h4 hm he ha hE hhit hb1 hn hbx s
  rintro s ⟨h3, h4, hm, he, ha⟩
  have hfz : M11 m [.inv DiceI, .cells [iv slip, .sl none 3 0 (l.length + 1) (rcells (cut1 r c s0 :: l))]] M.an (s.freeze id0).m := by
    have this : M11 m (List.map (BoxC.frz id0) [.inv DiceI, .cells [iv slip, .sl (some id0) 3 0 (l.length + 1) (rcells (cut1 r c s0 :: l))]]) M.an (s.freeze id0).m := hm.frz hbd (id := id0) k1
    have hpl' : plainC (rcells (cut1 r c s0 :: l)) = true := rcells_plainR fun x hx => (hH'.ok x hx).il
    simp only [List.map_cons, List.map_nil, BoxC.frz, PV.frz, if_true, plainC_frz id0 _ hpl'] at this
    exact this
  refine sem_seq (codeSem_silent (silent_freeze s id0) (sem_region ?_))
  have h3' : (s.freeze id0).g 3 = .ptr m.n 0 := by simp [St.freeze, h3, PV.frz]
  have h4' : (s.freeze id0).g 4 = .ptr (m.n + 1) 0 := by simp [St.freeze, h4, PV.frz]
  have he' : (s.freeze id0).eff = [] := by
    simp only [St.freeze, he, ha, addEff_nil]
    rw [dropNew_new _ _ _ (by simpa [Eff.id] using k1)]
    rfl
  have ha' : (s.freeze id0).a0 = ⟨m.an, m.n, []⟩ := ha
  generalize s.freeze id0 = s at hfz h3' h4' he' ha'
  clear h3 h4 hm he ha
  have hb1 : s.m.β (m.n + 1) = .cells [iv slip, .sl none 3 0 (l.length + 1) (rcells (cut1 r c s0 :: l))] := hfz.bx 1 _ rfl
  have hn : m.n + 1 < s.m.n := by rw [hfz.n]; simp
  refine ops_cons (.agg [iv slip, .sl none 3 0 (l.length + 1) (rcells (cut1 r c s0 :: l))]) rfl rfl (by simp [pureV, St.ev, aLoad, aSrc, h4', hn, hb1, ag24, ce24, in24]) ?_
  refine ops_calls (vs := [.agg [iv slip, .sl none 3 0 (l.length + 1) (rcells (cut1 r c s0 :: l))]]) ⟨Try.f22, by kernel_rfl, by decide, rfl⟩ (by simp [St.ev]) (own22 (slip := slip) hH'.raw _) ?_
  rintro v E M2 ⟨rfl, hM, id1, id2, j1, j2, j3, rfl⟩
  have hmM := M11.call (by simpa using hfz) (by simpa using hM)
  rw [St.put_m, hfz.an] at j1
  refine ops_op rfl ⟨_, ze24, ?_⟩
  have hpush := hmM.push [iv 0, .snil]
  refine ops_gen (fun s' => s'.g 3 = .ptr m.n 0 ∧ s'.g 4 = .ptr (m.n + 1) 0 ∧ s'.g 5 = .ptr (m.n + 2) 0 ∧ s'.g 35 = .agg [iv slip, .sl (some id1) 3 0 (l.length + 1) (own3 id2 (cut1 r c s0) ++ rcells (l.map dupR))] ∧ M11 m [.inv DiceI, .cells [iv slip, .sl none 3 0 (l.length + 1) (rcells (cut1 r c s0 :: l))], .cells [iv 0, .snil]] M2.an s'.m ∧ s'.eff = [] ∧ s'.a0 = ⟨m.an, m.n, []⟩) ⟨by simp [h3'], by simp [h4'], by simp [hmM.n], by simp, by simpa using hpush, by simp [he'], by simp [ha']⟩ ?_
  clear h3' h4' he' ha' hfz hM hpush hb1 hn s
  rintro s ⟨h3, h4, h5, h35, hm, he, ha⟩
  refine ops_op rfl ⟨rfl, ?_⟩
  simp only [St.ev, h5, h35, aStore]
  refine ⟨by rw [hm.n]; simp, in24, by rw [ce24]; rfl, rfl, [iv 0, .snil], hm.bx 2 _ rfl, by simp [PV.cells], ?_⟩
  have hset := hm.set (j := 2) (by simp) [iv slip, .sl (some id1) 3 0 (l.length + 1) (own3 id2 (cut1 r c s0) ++ rcells (l.map dupR))]
  refine gen (At m slip r l c s0 1) ⟨⟨id1, id2, M2.an, by omega, j2, j3, by simpa [St.setBox, splice, PV.cells, own3, cut1] using hset⟩, by simp [h3], by simp [h4], by simp [h5], by simp [he], by simp [ha]⟩ ?_
  clear h3 h4 h5 h35 hm he ha hset s
  intro s hAt
  refine sem_seq (sem_seq (sem_region ?_))
  obtain ⟨⟨id1, id2, an, j1, j2, j3, hm⟩, h3, h4, h5, he, ha⟩ := hAt
  refine ops_cons (.ptr m.n 0) rfl rfl (by simp [pureV, St.ev, h3]) ?_
  refine ops_calls (vs := [.ptr m.n 0, iv 1, iv 2]) ⟨Try.f44, by kernel_rfl, by decide, rfl⟩ (by simp [St.ev, pvOf]) (ans_ev (args := [dv, iv 1, iv 2]) (ev44 17 1 2 (by omega) (by omega) (by omega) (by omega)) ⟨_, _, rfl, .inr ⟨rfl, m.n, rfl, by simp [hm.n], by simpa using hm.bx 0 _ rfl⟩, _, _, rfl, .inl ⟨rfl, rfl⟩, _, _, rfl, .inl ⟨rfl, rfl⟩, rfl⟩) ?_
  rintro v E M3 ⟨⟨x, rfl, hx1, hx2⟩, _, rfl, rfl⟩
  refine ops_cons (iv x) rfl rfl (by simp [pureV, St.ev]) ?_
  obtain ⟨N, rfl⟩ : ∃ N : Nat, x = N := ⟨x.toNat, by omega⟩
  refine gen (fun s => At m slip r l c s0 1 s ∧ s.g 6 = iv N) ⟨⟨⟨id1, id2, an, j1, j2, j3, by simpa using hm⟩, by simp [h3], by simp [h4], by simp [h5], by simp [he], by simp [ha]⟩, by simp⟩ ?_
  clear hm h3 h4 h5 he ha j1 j2 j3 s
  rintro s ⟨hAt, h6⟩
  refine sem_norm (fun s' => At m slip r l c s0 (N + 1) s') (sem_block ?_) ?_
  · refine sem_loop (fun s => ∃ k i : Nat, At m slip r l c s0 k s ∧ s.g 6 = iv i ∧ k + i = N + 1 ∧ 1 ≤ k) (fun s => match s.g 6 with | .int _ n => n.toNat | _ => 0) ⟨1, N, hAt, h6, by omega, by omega⟩ ?_
    clear hAt h6 s
    rintro s ⟨k, i, ⟨⟨id1, id2, an, j1, j2, j3, hm⟩, h3, h4, h5, he, ha⟩, h6, hki, hk1⟩
    refine sem_seq (sem_seq (sem_region ?_))
    refine ops_cons (iv i) rfl rfl (by simp [pureV, St.ev, h6]) ?_
    refine ops_cons (.bool (decide (0 < (i : Int)))) rfl rfl (by simp [pureV, St.ev, pvOf, aBin]) ?_
    have hs6 := h6
    refine gen (fun s' => s'.g 39 = .bool (decide (0 < (i : Int))) ∧ s'.g 6 = iv i ∧ s'.g 3 = s.g 3 ∧ s'.g 4 = s.g 4 ∧ s'.g 5 = s.g 5 ∧ s'.m = s.m ∧ s'.eff = s.eff ∧ s'.a0 = s.a0) (by simp [h6]) ?_
    rintro s' ⟨h39, h6, g3, g4, g5, gm, ge, ga⟩
    rw [← g3] at h3; rw [← g4] at h4; rw [← g5] at h5; rw [← gm] at hm; rw [← ge] at he; rw [← ga] at ha
    clear g3 g4 g5 gm ge ga
    refine sem_cond (decide (0 < (i : Int))) (by simp [St.ev, h39]) ?_
    by_cases hlt : 0 < i
    · rw [if_pos (by simp; omega)]
      refine sem_skip ?_
      refine sem_seq (sem_block ?_)
      have hb1 : s'.m.β (m.n + 1) = _ := hm.bx 1 _ rfl
      have hb2 : s'.m.β (m.n + 2) = _ := hm.bx 2 _ rfl
      have hn1 : m.n + 1 < s'.m.n := by rw [hm.n]; simp
      have hn2 : m.n + 2 < s'.m.n := by rw [hm.n]; simp
      have hrd : plainC (rcells (l.map dupR)) = true := rcells_plainR rawDup
      have hrep := ints_plain (List.replicate k s0)
      generalize hR : rcells (l.map dupR) = rest at hm hb2 hrd
      generalize hC : (List.replicate k s0).map iv = reps at hm hb2 hrep
      have hlc : plainC (rcells (cut1 r c s0 :: l)) = true := rcells_plainR fun x hx => (hH'.ok x hx).il
      have hlpl : (PV.sl none 3 0 (l.length + 1) (rcells (cut1 r c s0 :: l))).plain = true := hlc
      have hrc1 : rcells (cut1 r c s0 :: l) = .sl none 1 c 1 [iv s0] :: iv r.lines :: iv r.width :: rcells l := by simp [rcells, Rg.cells, cut1]
      refine sem_inv (by kernel_rfl) (Inv8 m slip (.sl none 3 0 (l.length + 1) (rcells (cut1 r c s0 :: l))) id1 id2 (l.length + 1) k reps rest r.lines r.width c s0 an i (rcells (cut1 r c s0 :: l))) (by kernel_rfl) ⟨h3, h4, h5, h6, he, ha, fun _ _ h => h.elim, fun h => h.elim, fun _ _ h => h.elim, fun h => h.elim, fun h => h.elim, fun _ _ _ h => h.elim, fun _ => hm, fun h => h.elim, fun h => h.elim⟩ ?_ ?_
      · clear h3 h4 h5 h6 hm he ha hb1 hb2 hn1 hn2 h39 s'
        intro D s I i o ho hn hb
        have hi : i < 19 := (Array.getElem?_eq_some_iff.1 ho).1
        have hcs : i = 0 ∨ i = 1 ∨ i = 2 ∨ i = 3 ∨ i = 4 ∨ i = 5 ∨ i = 6 ∨ i = 7 ∨ i = 8 ∨ i = 9 ∨ i = 10 ∨ i = 11 ∨ i = 12 ∨ i = 13 ∨ i = 14 ∨ i = 15 ∨ i = 16 ∨ i = 17 ∨ i = 18 := by omega
        rcases hcs with rfl | rfl | rfl | rfl | rfl | rfl | rfl | rfl | rfl | rfl | rfl | rfl | rfl | rfl | rfl | rfl | rfl | rfl | rfl
        · simp only [List.getElem?_toArray, List.getElem?_cons_succ, List.getElem?_cons_zero, Option.some.injEq] at ho
          subst ho
          have hn18 := I.n18 (by omega) hn
          exact ops_cons (.ptr (m.n + 2) 1) rfl rfl (by simp [pureV, St.ev, I.g5, fa24]) (I.pure (i := 0) (by omega) (by omega) (fun h => absurd h (by omega)) (fun h => absurd h (by omega)) (fun h => absurd h (by omega)) hn (fun _ => rfl))
        · simp only [List.getElem?_toArray, List.getElem?_cons_succ, List.getElem?_cons_zero, Option.some.injEq] at ho
          subst ho
          have hn18 := I.n18 (by omega) hn
          have t0 := I.get (i := 0) hn18 (by omega) (show D 0 from hb ⟨0, .data⟩ (by simp) rfl)
          by_cases h15 : D 15
          · have hb2 : s.m.β (m.n + 2) = _ := (I.m1 h15 hn18).bx 2 _ rfl
            have hn2 : m.n + 2 < s.m.n := by rw [(I.m1 h15 hn18).n]; simp
            exact ops_cons (kil8 id1 (l.length + 1) k rest r.lines r.width) rfl rfl (by simp [pureV, St.ev, show s.g 42 = .ptr (m.n + 2) 1 from t0, aLoad, aSrc, hn2, hb2, ag22]) (I.pure (i := 1) (by omega) (by omega) (fun h => absurd h (by omega)) (fun h => absurd h (by omega)) (fun h => absurd h (by omega)) hn (fun _ => ⟨fun h => absurd h15 h, fun _ => rfl⟩))
          · have hb2 : s.m.β (m.n + 2) = _ := (I.m0 h15).bx 2 _ rfl
            have hn2 : m.n + 2 < s.m.n := by rw [(I.m0 h15).n]; simp
            exact ops_cons (lst8 id1 id2 (l.length + 1) k reps rest r.lines r.width) rfl rfl (by simp [pureV, St.ev, show s.g 42 = .ptr (m.n + 2) 1 from t0, aLoad, aSrc, hn2, hb2, ag22]) (I.pure (i := 1) (by omega) (by omega) (fun h => absurd h (by omega)) (fun h => absurd h (by omega)) (fun h => absurd h (by omega)) hn (fun _ => ⟨fun _ => rfl, fun h => absurd h h15⟩))
        · simp only [List.getElem?_toArray, List.getElem?_cons_succ, List.getElem?_cons_zero, Option.some.injEq] at ho
          subst ho
          have hn18 := I.n18 (by omega) hn
          exact ops_cons (.ptr (m.n + 2) 1) rfl rfl (by simp [pureV, St.ev, I.g5, fa24]) (I.pure (i := 2) (by omega) (by omega) (fun h => absurd h (by omega)) (fun h => absurd h (by omega)) (fun h => absurd h (by omega)) hn (fun _ => rfl))
        · simp only [List.getElem?_toArray, List.getElem?_cons_succ, List.getElem?_cons_zero, Option.some.injEq] at ho
          subst ho
          have hn18 := I.n18 (by omega) hn
          have h15 := I.n15 (by omega) (by omega) hn
          have t0 := I.get (i := 2) hn18 (by omega) (show D 2 from hb ⟨2, .data⟩ (by simp) rfl)
          have hb2 : s.m.β (m.n + 2) = _ := (I.m0 h15).bx 2 _ rfl
          have hn2 : m.n + 2 < s.m.n := by rw [(I.m0 h15).n]; simp
          exact ops_cons (lst8 id1 id2 (l.length + 1) k reps rest r.lines r.width) rfl rfl (by simp [pureV, St.ev, show s.g 44 = .ptr (m.n + 2) 1 from t0, aLoad, aSrc, hn2, hb2, ag22]) (I.pure (i := 3) (by omega) (by omega) (fun h => absurd h (by omega)) (fun _ => show D 2 from hb ⟨2, .data⟩ (by simp) rfl) (fun h => absurd h (by omega)) hn (fun _ _ => rfl))
        · simp only [List.getElem?_toArray, List.getElem?_cons_succ, List.getElem?_cons_zero, Option.some.injEq] at ho
          subst ho
          have hn18 := I.n18 (by omega) hn
          have h15 := I.n15 (by omega) (by omega) hn
          have t0 := I.get (i := 3) hn18 (by omega) (show D 3 from hb ⟨3, .data⟩ (by simp) rfl) h15
          exact ops_cons (.eref (some id1) 0 (.sl (some id2) 1 0 k reps :: iv r.lines :: iv r.width :: rest)) rfl rfl (by simp [pureV, St.ev, pvOf, show s.g 45 = lst8 id1 id2 (l.length + 1) k reps rest r.lines r.width from t0, lst8, aIndexAddr, un22, ce57, in57]) (I.pure (i := 4) (by omega) (by omega) (fun h => absurd h (by omega)) (fun _ => show D 3 from hb ⟨3, .data⟩ (by simp) rfl) (fun h => absurd h (by omega)) hn (fun _ _ => rfl))
        · simp only [List.getElem?_toArray, List.getElem?_cons_succ, List.getElem?_cons_zero, Option.some.injEq] at ho
          subst ho
          have hn18 := I.n18 (by omega) hn
          have h15 := I.n15 (by omega) (by omega) hn
          have t0 := I.get (i := 4) hn18 (by omega) (show D 4 from hb ⟨4, .data⟩ (by simp) rfl) h15
          exact ops_cons (.eref (some id1) 0 (.sl (some id2) 1 0 k reps :: iv r.lines :: iv r.width :: rest)) rfl rfl (by simp [pureV, St.ev, show s.g 46 = .eref (some id1) 0 (.sl (some id2) 1 0 k reps :: iv r.lines :: iv r.width :: rest) from t0, fe57]) (I.pure (i := 5) (by omega) (by omega) (fun h => absurd h (by omega)) (fun _ => show D 4 from hb ⟨4, .data⟩ (by simp) rfl) (fun h => absurd h (by omega)) hn (fun _ _ => rfl))
        · simp only [List.getElem?_toArray, List.getElem?_cons_succ, List.getElem?_cons_zero, Option.some.injEq] at ho
          subst ho
          have hn18 := I.n18 (by omega) hn
          have h15 := I.n15 (by omega) (by omega) hn
          have t0 := I.get (i := 5) hn18 (by omega) (show D 5 from hb ⟨5, .data⟩ (by simp) rfl) h15
          exact ops_cons (.sl (some id2) 1 0 k reps) rfl rfl (by simp [pureV, St.ev, show s.g 47 = .eref (some id1) 0 (.sl (some id2) 1 0 k reps :: iv r.lines :: iv r.width :: rest) from t0, aLoad, aSrc, ag25]) (I.pure (i := 6) (by omega) (by omega) (fun h => absurd h (by omega)) (fun _ => show D 5 from hb ⟨5, .data⟩ (by simp) rfl) (fun h => absurd h (by omega)) hn (fun _ _ => rfl))
        · simp only [List.getElem?_toArray, List.getElem?_cons_succ, List.getElem?_cons_zero, Option.some.injEq] at ho
          subst ho
          have hn18 := I.n18 (by omega) hn
          exact ops_cons (.ptr (m.n + 1) 1) rfl rfl (by simp [pureV, St.ev, I.g4, fa24]) (I.pure (i := 7) (by omega) (by omega) (fun h => absurd h (by omega)) (fun h => absurd h (by omega)) (fun h => absurd h (by omega)) hn (fun _ => rfl))
        · simp only [List.getElem?_toArray, List.getElem?_cons_succ, List.getElem?_cons_zero, Option.some.injEq] at ho
          subst ho
          have hn18 := I.n18 (by omega) hn
          have h15 := I.n15 (by omega) (by omega) hn
          have t0 := I.get (i := 7) hn18 (by omega) (show D 7 from hb ⟨7, .data⟩ (by simp) rfl)
          have hb1 : s.m.β (m.n + 1) = _ := (I.m0 h15).bx 1 _ rfl
          have hn1 : m.n + 1 < s.m.n := by rw [(I.m0 h15).n]; simp
          exact ops_cons (.sl none 3 0 (l.length + 1) (rcells (cut1 r c s0 :: l))) rfl rfl (by simp [pureV, St.ev, show s.g 49 = .ptr (m.n + 1) 1 from t0, aLoad, aSrc, hn1, hb1, ag22]) (I.pure (i := 8) (by omega) (by omega) (fun h => absurd h (by omega)) (fun _ => show D 7 from hb ⟨7, .data⟩ (by simp) rfl) (fun h => absurd h (by omega)) hn (fun _ => rfl))
        · simp only [List.getElem?_toArray, List.getElem?_cons_succ, List.getElem?_cons_zero, Option.some.injEq] at ho
          subst ho
          have hn18 := I.n18 (by omega) hn
          have t0 := I.get (i := 8) hn18 (by omega) (show D 8 from hb ⟨8, .data⟩ (by simp) rfl)
          exact ops_cons (.eref none 0 (rcells (cut1 r c s0 :: l))) rfl rfl (by simp [pureV, St.ev, pvOf, show s.g 50 = .sl none 3 0 (l.length + 1) (rcells (cut1 r c s0 :: l)) from t0, aIndexAddr, un22, ce57, in57]) (I.pure (i := 9) (by omega) (by omega) (fun h => absurd h (by omega)) (fun _ => show D 8 from hb ⟨8, .data⟩ (by simp) rfl) (fun h => absurd h (by omega)) hn (fun _ => rfl))
        · simp only [List.getElem?_toArray, List.getElem?_cons_succ, List.getElem?_cons_zero, Option.some.injEq] at ho
          subst ho
          have hn18 := I.n18 (by omega) hn
          have t0 := I.get (i := 9) hn18 (by omega) (show D 9 from hb ⟨9, .data⟩ (by simp) rfl)
          exact ops_cons (.eref none 0 (rcells (cut1 r c s0 :: l))) rfl rfl (by simp only [pureV, St.ev]; rw [show s.g 51 = .eref none 0 (rcells (cut1 r c s0 :: l)) from t0, hrc1, fn57]) (I.pure (i := 10) (by omega) (by omega) (fun h => absurd h (by omega)) (fun _ => show D 9 from hb ⟨9, .data⟩ (by simp) rfl) (fun h => absurd h (by omega)) hn (fun _ => rfl))
        · simp only [List.getElem?_toArray, List.getElem?_cons_succ, List.getElem?_cons_zero, Option.some.injEq] at ho
          subst ho
          have hn18 := I.n18 (by omega) hn
          have t0 := I.get (i := 10) hn18 (by omega) (show D 10 from hb ⟨10, .data⟩ (by simp) rfl)
          exact ops_cons (.sl none 1 c 1 [iv s0]) rfl rfl (by simp only [pureV, St.ev]; rw [show s.g 52 = .eref none 0 (rcells (cut1 r c s0 :: l)) from t0, hrc1]; simp [aLoad, aSrc, ag25]) (I.pure (i := 11) (by omega) (by omega) (fun h => absurd h (by omega)) (fun _ => show D 10 from hb ⟨10, .data⟩ (by simp) rfl) (fun h => absurd h (by omega)) hn (fun _ => rfl))
        · simp only [List.getElem?_toArray, List.getElem?_cons_succ, List.getElem?_cons_zero, Option.some.injEq] at ho
          subst ho
          have hn18 := I.n18 (by omega) hn
          have t0 := I.get (i := 11) hn18 (by omega) (show D 11 from hb ⟨11, .data⟩ (by simp) rfl)
          exact ops_cons (.eref none c [iv s0]) rfl rfl (by simp [pureV, St.ev, pvOf, show s.g 53 = .sl none 1 c 1 [iv s0] from t0, aIndexAddr, un25, ce3, in3]) (I.pure (i := 12) (by omega) (by omega) (fun h => absurd h (by omega)) (fun _ => show D 11 from hb ⟨11, .data⟩ (by simp) rfl) (fun h => absurd h (by omega)) hn (fun _ => rfl))
        · simp only [List.getElem?_toArray, List.getElem?_cons_succ, List.getElem?_cons_zero, Option.some.injEq] at ho
          subst ho
          have hn18 := I.n18 (by omega) hn
          have t0 := I.get (i := 12) hn18 (by omega) (show D 12 from hb ⟨12, .data⟩ (by simp) rfl)
          exact ops_cons (iv s0) rfl rfl (by simp [pureV, St.ev, show s.g 54 = .eref none c [iv s0] from t0, aLoad, aSrc, ag3]) (I.pure (i := 13) (by omega) (by omega) (fun h => absurd h (by omega)) (fun _ => show D 12 from hb ⟨12, .data⟩ (by simp) rfl) (fun h => absurd h (by omega)) hn (fun _ => rfl))
        · simp only [List.getElem?_toArray, List.getElem?_cons_succ, List.getElem?_cons_zero, Option.some.injEq] at ho
          subst ho
          have hn18 := I.n18 (by omega) hn
          have t0 := I.get (i := 13) hn18 (by omega) (show D 13 from hb ⟨13, .data⟩ (by simp) rfl)
          refine ops_op rfl ?_
          simp only [opW, un25, ze3, Option.elim]
          refine ⟨in3, by rw [ce3]; rfl, by decide, by rw [ce3]; omega, [iv s0], ?_, .inr ?_⟩
          · simp [St.ev, show s.g 55 = iv s0 from t0, aFill, splice, repl, PV.known, PV.cells, ce3]
          · rw [ce3]
            exact I.pure (i := 14) (by omega) (by omega) (fun h => absurd h (by omega)) (fun _ => show D 13 from hb ⟨13, .data⟩ (by simp) rfl) (fun h => absurd h (by omega)) hn (fun _ => rfl)
        · simp only [List.getElem?_toArray, List.getElem?_cons_succ, List.getElem?_cons_zero, Option.some.injEq] at ho
          subst ho
          have hn18 := I.n18 (by omega) hn
          have d6 : D 6 := hb ⟨6, .data⟩ (by simp) rfl
          have d14 : D 14 := hb ⟨14, .data⟩ (by simp) rfl
          have t48 := I.get (i := 6) hn18 (by omega) d6 hn
          have t56 := I.get (i := 14) hn18 (by omega) d14
          refine ops_op rfl ⟨rfl, ?_⟩
          simp only [St.ev, show s.g 48 = .sl (some id2) 1 0 k reps from t48, show s.g 56 = .sl none 1 0 1 [iv s0] from t56]
          exact append_own (by omega) hrep (I.app hbd (by omega) (by omega) hrd hlpl hlc hn d6 d14)
        · simp only [List.getElem?_toArray, List.getElem?_cons_succ, List.getElem?_cons_zero, Option.some.injEq] at ho
          subst ho
          have hn18 := I.n18 (by omega) hn
          have h15 : D 15 := show D 15 from hb ⟨15, .phase⟩ (by simp) rfl
          have t0 := (I.get (i := 1) hn18 (by omega) (show D 1 from hb ⟨1, .data⟩ (by simp) rfl)).2 h15
          exact ops_cons (.eref (some id1) 0 (.dead k :: iv r.lines :: iv r.width :: rest)) rfl rfl (by simp [pureV, St.ev, pvOf, show s.g 43 = kil8 id1 (l.length + 1) k rest r.lines r.width from t0, kil8, aIndexAddr, un22, ce57, in57]) (I.pure (i := 16) (by omega) (by omega) (fun _ => h15) (fun h => absurd h (by omega)) (fun h => absurd h (by omega)) hn (fun _ => rfl))
        · simp only [List.getElem?_toArray, List.getElem?_cons_succ, List.getElem?_cons_zero, Option.some.injEq] at ho
          subst ho
          have hn18 := I.n18 (by omega) hn
          have h15 : D 15 := show D 15 from hb ⟨15, .phase⟩ (by simp) rfl
          have t0 := I.get (i := 16) hn18 (by omega) (show D 16 from hb ⟨16, .data⟩ (by simp) rfl)
          exact ops_cons (.eref (some id1) 0 (.dead k :: iv r.lines :: iv r.width :: rest)) rfl rfl (by simp [pureV, St.ev, show s.g 58 = .eref (some id1) 0 (.dead k :: iv r.lines :: iv r.width :: rest) from t0, fe57]) (I.pure (i := 17) (by omega) (by omega) (fun _ => h15) (fun h => absurd h (by omega)) (fun _ => (show D 16 from hb ⟨16, .data⟩ (by simp) rfl)) hn (fun _ => rfl))
        · simp only [List.getElem?_toArray, List.getElem?_cons_succ, List.getElem?_cons_zero, Option.some.injEq] at ho
          subst ho
          have d17 : D 17 := hb ⟨17, .data⟩ (by simp) rfl
          have d15 : D 15 := hb ⟨15, .data⟩ (by simp) rfl
          have hall : ∀ j, j < 18 → D j := by
            intro j hj
            by_cases e : j = 16
            · rw [e]; exact I.d17 d17
            by_cases e' : j = 17
            · rw [e']; exact d17
            · exact hb ⟨j, .phase⟩ (by
                have : j = 0 ∨ j = 1 ∨ j = 2 ∨ j = 3 ∨ j = 4 ∨ j = 5 ∨ j = 6 ∨ j = 7 ∨ j = 8 ∨ j = 9 ∨ j = 10 ∨ j = 11 ∨ j = 12 ∨ j = 13 ∨ j = 14 ∨ j = 15 := by omega
                rcases this with rfl | rfl | rfl | rfl | rfl | rfl | rfl | rfl | rfl | rfl | rfl | rfl | rfl | rfl | rfl | rfl <;> simp) rfl
          have t57 := I.get (i := 15) hn (by omega) d15
          have t59 := I.get (i := 17) hn (by omega) d17
          refine ops_op rfl ⟨rfl, ?_⟩
          simp only [St.ev, show s.g 57 = .sl (some id2) 1 0 (k + 1) (reps ++ [iv s0]) from t57, show s.g 59 = .eref (some id1) 0 (.dead k :: iv r.lines :: iv r.width :: rest) from t59, aStore]
          refine ⟨in25, by rw [ce25]; omega, by rw [ce25]; rfl, rfl, by simp [PV.cells], fun v hv => ?_, I.sto hbd j1 hrd hlpl hn hall⟩
          simp only [PV.cells, List.mem_singleton] at hv
          subst hv
          exact (Off.sl (id := id1) (i := id2) (sz := 1) (len := k + 1) (l := reps ++ [iv s0]) (by omega) (plainC_append hrep rfl) _ (by simp)).1 _ rfl
      · intro D s' I hD
        have h18 := hD 18 (by decide)
        refine sem_region ?_
        refine ops_cons (iv i) rfl rfl (by simp [pureV, St.ev, I.g6]) ?_
        refine ops_cons (iv (i - 1 : Nat)) rfl rfl (by simp [pureV, St.ev, pvOf, aBin, wrap64 (n := (i : Int) - 1) (by omega) (by omega)]; omega) ?_
        refine ops_cons (iv (i - 1 : Nat)) rfl rfl (by simp [pureV, St.ev]) ?_
        refine .inl ⟨⟨k + 1, i - 1, ⟨⟨id1, id2, an, j1, j2, j3, ?_⟩, by simp [I.g3], by simp [I.g4], by simp [I.g5], by simp [I.e], by simp [I.a0]⟩, by simp, by omega, by omega⟩, ?_⟩
        · have := I.m2 h18
          rw [hR, ← rep_snoc, hC]
          simpa [new8] using this
        · rw [hs6]
          simp only [St.put_g, if_true]
          omega
    · rw [if_neg (by simp; omega)]
      refine sem_exit ?_
      have : i = 0 := by omega
      subst this
      simp only [if_true]
      refine ⟨trivial, ⟨⟨id1, id2, an, j1, j2, j3, ?_⟩, h3, h4, h5, he, ha⟩⟩
      rw [show N + 1 = k by omega]
      exact hm
  · intro s hAt
    obtain ⟨⟨id1, id2, an, j1, j2, j3, hm⟩, h3, h4, h5, he, ha⟩ := hAt
    refine codeSem_silent ((silent_freeze s id1).trans (silent_freeze (s.freeze id1) id2)) ?_
    have hpA : plainC (rcells (cut1 r c s0 :: l)) = true := rcells_plainR fun x hx => (hH'.ok x hx).il
    have hpB : plainC (rcells (l.map dupR)) = true := rcells_plainR rawDup
    have hpi : plainC ((List.replicate (N + 1) s0).map iv) = true := ints_plain _
    have hf1 := hm.frz hbd (id := id1) j1
    have hf2 := hf1.frz hbd (id := id2) (by omega)
    have hlp : PV.frz id1 (.sl none 3 0 (l.length + 1) (rcells (cut1 r c s0 :: l))) = .sl none 3 0 (l.length + 1) (rcells (cut1 r c s0 :: l)) := plain_frz _ _ hpA
    have hlp2 : PV.frz id2 (.sl none 3 0 (l.length + 1) (rcells (cut1 r c s0 :: l))) = .sl none 3 0 (l.length + 1) (rcells (cut1 r c s0 :: l)) := plain_frz _ _ hpA
    have hne : id2 ≠ id1 := by omega
    have hx1 : PV.frz id1 (.sl (some id1) 3 0 (l.length + 1) (.sl (some id2) 1 0 (N + 1) ((List.replicate (N + 1) s0).map iv) :: iv r.lines :: iv r.width :: rcells (l.map dupR))) = .sl none 3 0 (l.length + 1) (.sl (some id2) 1 0 (N + 1) ((List.replicate (N + 1) s0).map iv) :: iv r.lines :: iv r.width :: rcells (l.map dupR)) := by
      simp only [PV.frz, frzL, if_true, if_neg hne, plainC_frz _ _ hpi, plainC_frz _ _ hpB]
    have hx2 : PV.frz id2 (.sl none 3 0 (l.length + 1) (.sl (some id2) 1 0 (N + 1) ((List.replicate (N + 1) s0).map iv) :: iv r.lines :: iv r.width :: rcells (l.map dupR))) = .sl none 3 0 (l.length + 1) (.sl none 1 0 (N + 1) ((List.replicate (N + 1) s0).map iv) :: iv r.lines :: iv r.width :: rcells (l.map dupR)) := by
      simp only [PV.frz, frzL, if_true, plainC_frz _ _ hpi, plainC_frz _ _ hpB]
    have hbs : List.map (BoxC.frz id2) (List.map (BoxC.frz id1) [.inv DiceI, .cells [iv slip, .sl none 3 0 (l.length + 1) (rcells (cut1 r c s0 :: l))], .cells [iv slip, .sl (some id1) 3 0 (l.length + 1) (.sl (some id2) 1 0 (N + 1) ((List.replicate (N + 1) s0).map iv) :: iv r.lines :: iv r.width :: rcells (l.map dupR))]]) = [.inv DiceI, .cells [iv slip, .sl none 3 0 (l.length + 1) (rcells (cut1 r c s0 :: l))], .cells [iv slip, .sl none 3 0 (l.length + 1) (.sl none 1 0 (N + 1) ((List.replicate (N + 1) s0).map iv) :: iv r.lines :: iv r.width :: rcells (l.map dupR))]] := by
      simp only [List.map_cons, List.map_nil, BoxC.frz, hlp, hlp2, hx1, hx2, show ∀ i, PV.frz i (iv slip) = iv slip from fun i => rfl]
    rw [hbs] at hf2
    have hB : Hand slip (.sl none 3 0 (l.length + 1) (rcells (⟨.sl none 1 0 (N + 1) ((List.replicate (N + 1) s0).map iv), List.replicate (N + 1) s0, r.lines, r.width⟩ :: l.map dupR))) (⟨.sl none 1 0 (N + 1) ((List.replicate (N + 1) s0).map iv), List.replicate (N + 1) s0, r.lines, r.width⟩ :: l.map dupR) := by
      have hd : ∀ x ∈ r :: l.map dupR, x.ok := fun x hx => by
        rcases List.mem_cons.1 hx with rfl | hx
        · exact hok _ (by simp)
        · obtain ⟨y, hy, rfl⟩ := List.mem_map.1 hx
          exact dupR_ok (hok y (by simp [hy]))
      exact ⟨hH.s0, hH.s1, .inr ⟨0, by simp⟩, by simp, by have := hH.l1; simpa using this, hand_one (n := N + 1) hd hst (by omega) (by omega) (.inr ⟨0, by simp⟩)⟩
    refine tail11 hH' hB (alike_cut (c := 0)) ⟨⟨an, ?_⟩, ?_, ha, ?_⟩
    · exact hf2
    · simp only [St.freeze, he, ha, addEff_nil]
      rw [dropNew_new _ _ _ (by simpa [Eff.id] using j1)]
      rw [show dropNew m.an [] = [] from rfl, addEff_nil, dropNew_new _ _ _ (by simp [Eff.id]; omega)]
      rfl
    · intro d v hd
      simp only [List.mem_cons, List.not_mem_nil, or_false, Prod.mk.injEq] at hd
      rcases hd with ⟨rfl, rfl⟩ | ⟨rfl, rfl⟩ | ⟨rfl, rfl⟩ <;> simp [St.freeze, h3, h4, h5, PV.frz]
theorem law11 : ∀ qs, ShL Try.prog 6 Try.f11.params.toList qs → ∀ m, ECalls Try.prog 11 qs m fun v E m' => v = .bool true ∧ E = [] ∧ m' = m := by
  intro qs h m
  rw [show Try.f11.params.toList = [25] by kernel_rfl] at h
  match qs, h with
  | [q], h => exact law11_sem (nums_shape h.1).1 m
end Go.Proofs.Ytlminnpaeaganaa
