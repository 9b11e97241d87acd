/- A plain machine over abstract values, and that the program follows it. No condition. -/
import Derived.Test.YtlminnpaeaganaaMAbsA
import Derived.RangeFuncRecord
import Derived.RangeFuncLeaves
import Derived.OrdersIn
namespace Go.Proofs.Ytlminnpaeaganaa
open Go Go.RowKit

mutual
theorem noId_wr (id p : Nat) (u : PV) : ∀ v : PV, v.sub1 (.kill id) = v → v.sub1 (.wr id p u) = v
  | .sl (some i) sz off len cs, h => by
    simp only [PV.sub1] at h ⊢
    split at h
    · cases h
    · rename_i hi
      rw [if_neg hi, noIdL_wr id p u cs (by injection h)]
  | .sl none sz off len cs, h => by simp only [PV.sub1] at h ⊢; rw [noIdL_wr id p u cs (by injection h)]
  | .eref (some i) off cs, h => by
    simp only [PV.sub1] at h ⊢
    split at h
    · cases h
    · rename_i hi
      rw [if_neg hi, noIdL_wr id p u cs (by injection h)]
  | .eref none off cs, h => by simp only [PV.sub1] at h ⊢; rw [noIdL_wr id p u cs (by injection h)]
  | .fn f caps, h => by simp only [PV.sub1] at h ⊢; rw [noIdL_wr id p u caps (by injection h)]
  | .agg cs, h => by simp only [PV.sub1] at h ⊢; rw [noIdL_wr id p u cs (by injection h)]
  | .tup cs, h => by simp only [PV.sub1] at h ⊢; rw [noIdL_wr id p u cs (by injection h)]
  | .int _ _, _ | .bool _, _ | .str _, _ | .undef, _ | .bad, _ | .nilp, _ | .nilfn, _ | .snil, _ | .dead _, _ | .yld _, _ | .ptr _ _, _ => by simp only [PV.sub1]
theorem noIdL_wr (id p : Nat) (u : PV) : ∀ l : List PV, subL1 (.kill id) l = l → subL1 (.wr id p u) l = l
  | [], _ => rfl
  | q :: l, h => by
    simp only [subL1] at h ⊢
    injection h with h1 h2
    rw [noId_wr id p u q h1, noIdL_wr id p u l h2]
end

section
variable {P : Program} {φ : Phi} {w : World} {A : Anchor} {N n : Nat} {s : St} {a : Act} {K : St → Prop} {Q : Exit → Act → World → Prop} {r : Option Nat} {m : Mem}

theorem VRelL.of_noId {φ' : Phi} {w' : World} {j : Nat} (k : KeepsBut j φ w φ' w') {ps : List PV} {vs : List Value} (h : VRelL φ w ps vs) (hn : ∀ p ∈ ps, noId j p) : VRelL φ' w' ps vs := by
  have := VRelL.kill k ps vs h
  rwa [subL1_eq, List.map_congr_left (g := id) (fun p hp => hn p hp), List.map_id] at this

theorem run_wrs {id b : Nat} {off : Nat} {e : TypeId} (ha : φ.arr id = some b) (hinj : ∀ i, φ.arr i = some b → i = id) : ∀ (ps : List PV) (vs : List Value) (i : Nat) (w : World) (cur : Array Value),
    VRelL φ w ps vs → ps.all PV.one = true → (∀ p ∈ ps, noId id p) → w.heap[b]? = some (.cells cur e (0, 0)) → off + i + vs.length ≤ cur.size →
    ∃ w', (storeCells ⟨b, off, none⟩ vs i).run P w = .ok () w' ∧ (∀ q u, VRel φ w q u → VRel φ w' (q.sub (wrs id (off + i) ps)) u) ∧ (∀ k, k ≠ b → w'.heap[k]? = w.heap[k]?) ∧ w'.heap.size = w.heap.size ∧
      (∃ cur', w'.heap[b]? = some (.cells cur' e (0, 0)) ∧ cur'.size = cur.size) ∧ w'.os = w.os ∧ w'.tape = w.tape ∧ w'.output = w.output
  | [], vs, i, w, cur, hv, _, _, hb, _ => by
    simp only [VRelL] at hv
    subst hv
    exact ⟨w, by simp [storeCells], fun q u h => h, fun _ _ => rfl, rfl, ⟨cur, hb, rfl⟩, rfl, rfl, rfl⟩
  | p :: ps, vs, i, w, cur, hv, h1, hn, hb, hf => by
    obtain ⟨v, vs', rfl, hp, hvs⟩ := hv
    simp only [List.length_cons] at hf
    simp only [List.all_cons, Bool.and_eq_true] at h1
    have hcell : (w.cell? ⟨b, off + i, none⟩) = some (cur[off + i]'(by omega)) := by
      simp only [World.cell?, hb]
      simp
    have hfz : w.frozen? ⟨b, off + i, none⟩ = false := by simp [World.frozen?, hb]
    obtain ⟨w1, hw1⟩ : ∃ w1, w1 = w.setCell ⟨b, off + i, none⟩ v := ⟨_, rfl⟩
    have hother : ∀ k, k ≠ b → w1.heap[k]? = w.heap[k]? := fun k hk => by rw [hw1]; exact Below.heap_setCell w ⟨b, off + i, none⟩ v k hk
    have hrow : w1.heap[b]? = some (.cells (cur.setIfInBounds (off + i) v) e (0, 0)) := by
      rw [hw1]
      simp [World.setCell, Array.getElem?_modify, hb]
    have hkeep : KeepsBut id φ w φ w1 := by
      have hlt : b < w.heap.size := (Array.getElem?_eq_some_iff.1 hb).1
      refine ⟨fun _ _ h => h, fun _ _ _ h => h, fun _ _ h => h, by rw [hw1]; simp, fun j c hj hc => hother c (fun e => ?_), fun c _ ho => hother c (fun e => ho (.inr ⟨id, by rw [e]; exact ha⟩))⟩
      subst e
      exact hj (hinj j hc)
    have hpv : VRel φ w1 p v := by
      have := VRel.kill hkeep p v hp
      rwa [hn p (by simp)] at this
    have hwr : Writes id b (off + i) p φ w w1 := by
      refine ⟨ha, hinj, by rw [hw1]; simp, fun k hk _ => hother k hk, fun cur' e' h => ?_, fun o ho => ?_, ⟨v, ?_, hpv⟩⟩
      · rw [hb] at h
        injection h with h
        injection h with h2 h3 h4
        subst h2; subst h3
        exact ⟨_, hrow, by simp⟩
      · rw [hw1]
        exact World.cell?_setCell_other w ⟨b, off + i, none⟩ ⟨b, o, none⟩ v (fun e => ho (by injection e with _ e2; exact e2.symm))
      · rw [hw1]
        exact World.cell?_setCell_same w ⟨b, off + i, none⟩ v hcell
    have hvs1 : VRelL φ w1 ps vs' := VRelL.of_noId hkeep hvs (fun q hq => hn q (by simp [hq]))
    obtain ⟨w', hr, htr, ho, hs, ⟨cur', hc', hcs⟩, e1, e2, e3⟩ := run_wrs (off := off) ha hinj ps vs' (i + 1) w1 (cur.setIfInBounds (off + i) v) hvs1 h1.2 (fun q hq => hn q (by simp [hq])) hrow (by simp; omega)
    refine ⟨w', ?_, fun q u hq => htr _ _ (VRel.wr hwr q u hq), fun k hk => (ho k hk).trans (hother k hk), by rw [hs, hw1]; simp, ⟨cur', hc', by rw [hcs]; simp⟩, by rw [e1, hw1]; rfl, by rw [e2, hw1]; rfl, by rw [e3, hw1]; rfl⟩
    have hst := run_store P w ⟨b, off + i, none⟩ v .plain (rel_one hp h1.1)
    rw [hcell] at hst
    simp only [hfz, Bool.false_eq_true, if_false] at hst
    rw [storeCells]
    simp only [Sem.run_bind, add_mk, hst, Result.andThen_ok]
    rw [← hw1]
    exact hr

theorem box_sub (E : List Eff) (c : BoxC) : BoxC.sub E c = match c with | .cells l => .cells (l.map (PV.sub E)) | .inv I => .inv I | .hole => .hole := by
  unfold BoxC.sub
  induction E generalizing c with
  | nil => cases c <;> simp; exact (List.map_id' _).symm
  | cons e E ih =>
    rw [List.foldl_cons, ih]
    cases c <;> simp [BoxC.sub1]
    intro a _; rfl

theorem subL_map (E : List Eff) (l : List PV) : l.map (PV.sub E) = E.foldl (fun l e => subL1 e l) l := by
  induction E generalizing l with
  | nil => exact List.map_id' _
  | cons e E ih => rw [List.foldl_cons, ← ih, subL1_eq, List.map_map]; rfl

/-- A box's contents are carried over. -/
theorem brel_tr {φ' : Phi} {w' : World} {E : List Eff} (tr : ∀ q c, VRel φ w q c → VRel φ' w' (q.sub E) c) {c : BoxC} {vs : List Value} (h : BRel φ w c vs) : BRel φ' w' (c.sub E) vs := by
  have hl : ∀ l : List PV, VRelL φ w l vs → VRelL φ' w' (l.map (PV.sub E)) vs := fun l hl => by
    rw [vrelL_iff] at hl ⊢
    refine ⟨by simp [hl.1], fun j p v hj hv => ?_⟩
    rw [List.getElem?_map] at hj
    obtain ⟨q, hq, rfl⟩ := Option.map_eq_some_iff.1 hj
    exact tr q v (hl.2 j q v hq hv)
  rw [box_sub]
  cases c with
  | cells l => exact hl l h
  | inv I =>
    obtain ⟨l, h1, h2, h4, h3⟩ := h
    refine ⟨l, h1, h2, h4, ?_⟩
    have hfix : l.map (PV.sub E) = l := by
      rw [subL_map]
      clear h1 h3 h4 hl tr
      induction E with
      | nil => rfl
      | cons e E ih => rw [List.foldl_cons, h2, ih]
    rw [← hfix]
    exact hl l h3
  | hole => exact h.elim

theorem hole_sub (E : List Eff) (c : BoxC) (h : c = .hole) : c.sub E = .hole := by subst h; rw [box_sub]

theorem store_arr {t : TypeId} {id off : Nat} {cs : List PV} {pv : PV} {v vx : Value} (hi : (P.info? t).isSome) (hpos : 0 < P.cellsOf t) (hc : pv.cells.length = P.cellsOf t) (h1 : pv.cells.all PV.one = true) (hle : pv.cells.length ≤ cs.length)
    (hn : ∀ c ∈ pv.cells, noId id c) (hm : MRel φ m w) (hx : VRel φ w (.eref (some id) off cs) vx) (hv : VRel φ w pv v) (hk : pv.known = true) :
    ∃ w', (Instr.storeAt t vx v).run P w = .ok () w' ∧ MRel φ { m with β := fun i => (m.β i).sub (wrs id off pv.cells) } w' ∧ Step φ w φ w' (wrs id off pv.cells) := by
  obtain ⟨b, rfl, ⟨ha, cur, e, hb, _⟩, hat⟩ := hx
  have hvc := rel_cells hv hk
  have hlen := vrelL_length hvc
  have hinj : ∀ i, φ.arr i = some b → i = id := fun i h => hm.arrinj i id b h ha
  have hfit : off + 0 + v.cells.toList.length ≤ cur.size := by
    rw [← hlen]
    have hj : cs[pv.cells.length - 1]? = some (cs[pv.cells.length - 1]'(by omega)) := by simp
    obtain ⟨c, hcell, _⟩ := vrelAt_iff.1 hat _ _ hj
    simp only [World.cell?, hb] at hcell
    have := (Array.getElem?_eq_some_iff.1 (by simpa using hcell)).1
    omega
  obtain ⟨w', hr, htr, ho, hs, ⟨cur', hc', hcs⟩, e1, e2, e3⟩ := run_wrs (P := P) ha hinj pv.cells v.cells.toList 0 w cur hvc h1 hn hb hfit
  have hsz : v.cells.size = P.cellsOf t := by rw [← hc, hlen]; simp
  rw [Nat.add_zero] at htr
  refine ⟨w', by simp [Instr.storeAt, Instr.sureAddr, storeVar, hsz, run_sizeOf hi, hr], ⟨fun i hi => ?_, hm.boxn, fun i c hc => ?_, hm.boxinj, hm.arrinj, hm.sep, fun l o h => (ho l (fun e => by have := hm.rcs l o h; rw [e, hb] at this; cases this)).trans (hm.rcs l o h)⟩, ⟨htr, e1, e2, e3, by omega, fun c hlt hno _ => ⟨ho c (fun e => hno (.inr ⟨id, by rw [e]; exact ha⟩)), hno⟩⟩⟩
  · rcases hm.box i hi with ⟨g1, g2⟩ | ⟨c, cur', e', hc', hh', hr'⟩
    · exact .inl ⟨hole_sub _ _ g1, g2⟩
    exact .inr ⟨c, cur', e', hc', (ho c (fun e => hm.sep i id c hc' (by rw [e]; exact ha))).trans hh', brel_tr htr hr'⟩
  · obtain ⟨h1, cur2, e2, h2⟩ := hm.arr i c hc
    by_cases hcb : c = b
    · subst hcb
      exact ⟨h1, cur', e, hc'⟩
    · exact ⟨h1, cur2, e2, (ho c hcb).trans h2⟩

/-! ### An array is lost, and has come back under its name at the same place or another -/
theorem mrel_kill {w' : World} {id b nb : Nat} (hm : MRel φ m w) (ha : φ.arr id = some b) (hnb : nb = b ∨ nb = w.heap.size) (hs : w.heap.size ≤ w'.heap.size)
    (ho : ∀ c, c < w.heap.size → c ≠ b → w'.heap[c]? = w.heap[c]?) (hrow : ∃ cur e, w'.heap[nb]? = some (.cells cur e (0, 0))) :
    KeepsBut id φ w (φ.withArr id nb) w' ∧ MRel (φ.withArr id nb) { m with β := fun i => (m.β i).sub [.kill id] } w' := by
  have hb := arr_lt hm ha
  have hne : ∀ i c, i ≠ id → φ.arr i = some c → c ≠ b := fun i c hi hc e => hi (hm.arrinj i id b (by rw [← e]; exact hc) ha)
  have k : KeepsBut id φ w (φ.withArr id nb) w' := by
    refine ⟨fun _ _ h => h, fun i c hi hc => by simp [Phi.withArr, hi, hc], fun c hc hno h => ?_, hs, fun i c hi hc => ho c (arr_lt hm hc) (hne i c hi hc), fun c hc hno => ho c hc (fun e => hno (.inr ⟨id, by rw [e]; exact ha⟩))⟩
    rcases own_withArr h with h | h
    · exact hno h
    · rcases hnb with e | e
      · subst h; subst e; exact hno (.inr ⟨id, ha⟩)
      · omega
  have tr : ∀ q c, VRel φ w q c → VRel (φ.withArr id nb) w' (q.sub [.kill id]) c := fun q c h => VRel.kill k q c h
  refine ⟨k, ⟨fun i hi => ?_, hm.boxn, fun i c hc => ?_, hm.boxinj, fun i j c h1 h2 => ?_, fun i j c h1 h2 => ?_, fun l o h => (ho l (Array.getElem?_eq_some_iff.1 (hm.rcs l o h)).1 (fun e => by obtain ⟨_, cur, e', hc⟩ := hm.arr id b ha; have := hm.rcs l o h; rw [e, hc] at this; cases this)).trans (hm.rcs l o h)⟩⟩
  · rcases hm.box i hi with ⟨g1, g2⟩ | ⟨c, cur, e, hc, hh, hr⟩
    · exact .inl ⟨hole_sub _ _ g1, g2⟩
    exact .inr ⟨c, cur, e, hc, (ho c (box_lt hm hc) (fun e => hm.sep i id c hc (by rw [e]; exact ha))).trans hh, brel_tr tr hr⟩
  · simp only [Phi.withArr] at hc
    split at hc
    · rename_i hi
      subst hi
      have := Option.some.inj hc
      subst this
      exact ⟨(hm.arr i b ha).1, hrow⟩
    · rename_i hi
      obtain ⟨h1, cur, e, h2⟩ := hm.arr i c hc
      exact ⟨h1, cur, e, (ho c (arr_lt hm hc) (hne i c hi hc)).trans h2⟩
  · simp only [Phi.withArr] at h1 h2
    split at h1 <;> split at h2
    · omega
    · rename_i hi hj
      have := Option.some.inj h1; subst this
      rcases hnb with e | e
      · exact absurd e (hne j nb hj h2)
      · exact absurd (arr_lt hm h2) (by omega)
    · rename_i hi hj
      have := Option.some.inj h2; subst this
      rcases hnb with e | e
      · exact absurd e (hne i nb hi h1)
      · exact absurd (arr_lt hm h1) (by omega)
    · exact hm.arrinj i j c h1 h2
  · simp only [Phi.withArr] at h2
    split at h2
    · have := Option.some.inj h2; subst this
      rcases hnb with e | e
      · exact hm.sep i id b (by rw [← e]; exact h1) ha
      · exact absurd (box_lt hm h1) (by omega)
    · exact hm.sep i j c h1 h2

theorem good_kill {id : Nat} {o : Oper} (ho : ∀ c, o.op ≠ .defer c) (h : SRel φ w N s a) (hst : Anch A φ w s.eff) (hd : ∀ t, o.dst = some t → t < N) (hadd : ∀ φ w, Anch A φ w (s.eff ++ [Eff.kill id]) → Anch A φ w (addEff s.a0.a s.eff [Eff.kill id]))
    {w' : World} {b nb : Nat} (ha : φ.arr id = some b) (hnb : nb = b ∨ nb = w.heap.size) (hs : w.heap.size ≤ w'.heap.size)
    (hoth : ∀ c, c < w.heap.size → c ≠ b → w'.heap[c]? = w.heap[c]?) (hos : w'.os = w.os) (htp : w'.tape = w.tape) (hou : w'.output = w.output)
    {cur : Array Value} {e : TypeId} (hrow : w'.heap[nb]? = some (.cells cur e (0, 0))) {sz len cap : Nat} {l : List PV} {vs : List Value}
    (hr : (execOp a.eval o).run P w = .ok (.value (.slice (some ⟨nb, 0, none⟩) len cap)) w')
    (hlen : l.length = len * sz) (hcap : len ≤ cap) (hsz : cap * sz ≤ cur.size) (hl : VRelL φ w l vs) (hn : ∀ c ∈ l, noId id c) (hvs : ∀ (j : Nat) v, vs[j]? = some v → cur[j]? = some v)
    (hK : K ((s.hit [.kill id]).put o.dst (.sl (some id) sz 0 len l))) : o.wpIn (Fr r) n P a w (Good A N a.defers K) Q := by
  refine wpIn_of_run ho ?_
  rw [hr]
  obtain ⟨k, hm⟩ := mrel_kill h.mem ha hnb hs hoth ⟨cur, e, hrow⟩
  have tr : ∀ q c, VRel φ w q c → VRel (φ.withArr id nb) w' (q.sub [.kill id]) c := fun q c h => VRel.kill k q c h
  have hl' : VRelL (φ.withArr id nb) w' l vs := VRelL.of_noId k hl hn
  refine ⟨(s.hit [.kill id]).put o.dst (.sl (some id) sz 0 len l), φ.withArr id nb, ?_, ?_, put_defers _ _ _, hK⟩
  · have h1 : SRel (φ.withArr id nb) w' N (s.hit [.kill id]) a := ⟨fun t => tr _ _ (h.tmp t), h.size, hm⟩
    refine h1.put hd ⟨hlen, _, cap, rfl, hcap, .inr ⟨nb, rfl, ⟨by simp [Phi.withArr], cur, e, hrow, by omega⟩, vrelAt_mk fun j p hj => ?_⟩⟩
    obtain ⟨v, hv, hp⟩ := vrelL_get hl' hj
    exact ⟨v, by simp only [World.cell?, hrow]; simpa using hvs j v hv, hp⟩
  · rw [St.put_eff]
    exact hadd _ _ (hst.trans ⟨tr, hos, htp, hou, hs, fun c hc hno _ => ⟨k.rest c hc hno, k.imm c hc hno⟩⟩)

/-- Cells of the source of an append: none, or somewhere in memory. -/
theorem tail_src {sz m : Nat} {news : List PV} {y : PV} (h : aTail sz y = some (m, news)) {vy : Value} (hy : VRel φ w y vy) :
    news.length = m * sz ∧ ∃ ay cy, vy = .slice ay m cy ∧ (0 < m → ∃ b off vs, ay = some ⟨b, off, none⟩ ∧ VRelL φ w news vs ∧ ∀ j v, vs[j]? = some v → w.cell? ⟨b, off + j, none⟩ = some v) := by
  unfold aTail at h
  split at h
  · injection h with h
    injection h with h1 h2
    subst h1; subst h2
    simp only [VRel] at hy
    subst hy
    exact ⟨by simp, none, 0, rfl, fun h => absurd h (by omega)⟩
  · rename_i id sz' off len cs
    split at h
    · rename_i hs
      injection h with h
      injection h with h1 h2
      subst h1; subst h2
      obtain ⟨hl, a, cap, rfl, hcap, hp⟩ := hy
      refine ⟨?_, a, cap, rfl, fun hpos => ?_⟩
      · rcases hs with e | e
        · rw [hl, e]
        · rw [hl, e]; simp
      · rcases hp with hp | ⟨b, rfl, hp, hat⟩
        · omega
        · obtain ⟨vs, hvs, hg⟩ := vals_of_at hat
          exact ⟨b, off, vs, rfl, hvs, hg⟩
    · cases h
  · cases h

/-- In place, whatever the block's own element type is called. -/
theorem run_append_room' (w : World) (t ty e e0 : TypeId) (i : TypeInfo) (ht : P.underlying t = some (.slice e)) (hi : P.info? e = some i)
    (g sLen sCap : Nat) (cur : Array Value) (hg : w.heap[g]? = some (.cells cur e0 (0, 0)))
    (a : Addr) (m c : Nat) (news : List Value) (hl : news.length = m * i.size) (hnews : ∀ j u, news[j]? = some u → w.cell? (a.add j) = some u) (h1 : ∀ u ∈ news, u.oneCell' = true)
    (hroom : sLen + m ≤ sCap) (hfit : sLen * i.size + news.length ≤ cur.size) :
    (Builtin.append_ #[t, t] ty #[.slice (some ⟨g, 0, none⟩) sLen sCap, .slice (some a) m c]).run P w =
      .ok (.slice (some ⟨g, 0, none⟩) (sLen + m) sCap) (w.setRow g (cur.toList.take (sLen * i.size) ++ news ++ cur.toList.drop (sLen * i.size + news.length)).toArray) := by
  have hf := run_firstCells_some (P := P) w i.size m a m c news hl hnews
  have hst := run_storeCells_at P g (sLen * i.size) e0 news 0 cur w hg (by simpa using hfit) h1
  simp only [Nat.add_zero] at hst
  simp [Builtin.append_, run_underlying ht, sizeOf, typeInfo, hi, Builtin.lenOf, hroom, hf, Addr.add_lit, hst]

theorem run_append_zero (w : World) (t ty e : TypeId) (i : TypeInfo) (ht : P.underlying t = some (.slice e)) (hi : P.info? e = some i)
    (ax : Option Addr) (sLen sCap : Nat) (hle : sLen ≤ sCap) (ay : Option Addr) (c : Nat) :
    (Builtin.append_ #[t, t] ty #[.slice ax sLen sCap, .slice ay 0 c]).run P w = .ok (.slice ax sLen sCap) w := by
  cases ay <;> cases ax <;> simp [Builtin.append_, run_underlying ht, sizeOf, typeInfo, hi, Builtin.lenOf, Builtin.firstCells, hle, loadCells, loadCellsFrom, storeCells]

end
end Go.Proofs.Ytlminnpaeaganaa
namespace Go.Proofs.Ytlminnpaeaganaa
open Go Go.RowKit

section
variable {P : Program} {φ : Phi} {w : World} {A : Anchor} {N n : Nat} {s : St} {a : Act} {K : St → Prop} {Q : Exit → Act → World → Prop} {r : Option Nat} {m : Mem}

theorem cells_get {b off : Nat} {cur : Array Value} {e : TypeId} {f : Nat × Nat} (h : w.heap[b]? = some (.cells cur e f)) {j : Nat} {v : Value} (hc : w.cell? ⟨b, off + j, none⟩ = some v) : cur[off + j]? = some v := by
  simp only [World.cell?, h] at hc
  simpa using hc

theorem good_append {o : Oper} {t : TypeId} {x y : Operand} (ho : o.op = .call { callee := .builtin .append, args := #[x, y], argTypes := #[t, t] })
    (h : SRel φ w N s a) (hst : Anch A φ w s.eff) (hd : ∀ t, o.dst = some t → t < N) (hadd : ∀ (i : Nat) φ w, Anch A φ w (s.eff ++ [Eff.kill i]) → Anch A φ w (addEff s.a0.a s.eff [Eff.kill i]))
    (hK : aAppend P s o.dst t (s.ev x) (s.ev y) K) : o.wpIn (Fr r) n P a w (Good A N a.defers K) Q := by
  have hdf : ∀ c, o.op ≠ .defer c := fun c e => by rw [ho] at e; cases e
  have hrun : ∀ {v : Value} {w' : World}, (Builtin.append_ #[t, t] o.type #[a.eval x, a.eval y]).run P w = .ok v w' → (execOp a.eval o).run P w = .ok (.value v) w' := fun {v w'} hr => by
    simp [execOp, ho, resolve, invoke, builtin, hr]
  unfold aAppend at hK
  split at hK
  · rename_i e hu
    obtain ⟨hi, hpos, hzz, hK⟩ := hK
    obtain ⟨i, hi', hsz, hby⟩ := info_of_isSome hi
    obtain ⟨z, hz, hzc⟩ : ∃ z, i.zero = some z ∧ z.cells.size = i.size := by
      unfold zeroOf at hzz
      rw [hi'] at hzz
      simp only [Option.bind_some] at hzz
      cases hzi : i.zero with
      | none => rw [hzi] at hzz; simp at hzz
      | some z => rw [hzi] at hzz; exact ⟨z, rfl, by simpa [hsz] using hzz⟩
    split at hK
    · rename_i mm news hy
      obtain ⟨hone, hK⟩ := hK
      obtain ⟨hnl, ay, cy, ey, hsrc⟩ := tail_src hy (h.ev y)
      rw [ey] at hrun
      split at hK
      · rename_i hx
        obtain ⟨hb1, hb2, hK⟩ := hK
        have ex : a.eval x = .slice none 0 0 := by have := h.ev x; rw [hx] at this; exact this
        rw [ex] at hrun
        rcases Nat.eq_zero_or_pos mm with h0 | h0
        · subst h0
          rw [if_pos rfl] at hK
          exact good_val hdf h hst hd (hrun (run_append_zero w t o.type e i hu hi' none 0 0 (Nat.le_refl _) ay cy)) (pv := .snil) rfl hK
        · rw [if_neg (by omega)] at hK
          obtain ⟨b, off, vs, rfl, hvs, hg⟩ := hsrc h0
          have hvl : vs.length = mm * i.size := by rw [← vrelL_length hvs, hnl, hsz]
          have hge := grownCap_ge w mm 0 e
          refine good_arr hdf h hst hd (Grows.drew_alloc w _) (hrun (run_append_nil w t o.type e i z hu hi' hz ⟨b, off, none⟩ mm cy vs hvl (fun j v hv => by rw [add_mk]; exact hg j v hv) h0 (by omega) (by rw [hby] at hb1; omega)))
            (heap_alloc_new w.drew _) (sz := P.cellsOf e) hnl hge ?_ hvs (fun j v hv => ?_) hK
          · rw [Array.size_append, List.size_toArray, size_zeroCells, hzc, hvl, hsz, ← Nat.add_mul]
            congr 1; omega
          · have hj : j < vs.length := (List.getElem?_eq_some_iff.1 hv).1
            rw [Array.getElem?_append_left (by simpa using hj)]
            simpa using hv
      · rename_i id sz off len cs hx
        obtain ⟨rfl, rfl, hb1, hb2, hn, hK⟩ := hK
        have hxv := h.ev x
        rw [hx] at hxv
        obtain ⟨hl, ax, cap, ex, hcap, hp⟩ := hxv
        rw [ex] at hrun
        rcases hp with hp | ⟨b, rfl, ⟨ha, cur, e0, hb, hroom⟩, hat⟩
        · exact absurd hp.1 (by simp)
        obtain ⟨vs, hvs, hg⟩ := vals_of_at hat
        have hgc : ∀ (j : Nat) v, vs[j]? = some v → cur[j]? = some v := fun j v hv => by
          have := cells_get hb (hg j v hv)
          simpa using this
        have hvl : vs.length = len * i.size := by rw [← vrelL_length hvs, hl, hsz]
        rcases Nat.eq_zero_or_pos mm with h0 | h0
        · subst h0
          have hn0 : news = [] := List.eq_nil_of_length_eq_zero (by simpa using hnl)
          subst hn0
          rw [List.append_nil] at hK hn
          exact good_kill hdf h hst hd (hadd id) ha (.inl rfl) (Nat.le_refl _) (fun _ _ _ => rfl) rfl rfl rfl hb (hrun (run_append_zero w t o.type e i hu hi' _ len cap hcap ay cy)) hl hcap (by omega) hvs hn hgc hK
        · obtain ⟨b', off', us, rfl, hus, hg'⟩ := hsrc h0
          have hul : us.length = mm * i.size := by rw [← vrelL_length hus, hnl, hsz]
          have hnews : ∀ j u, us[j]? = some u → w.cell? ((⟨b', off', none⟩ : Addr).add j) = some u := fun j v hv => by rw [add_mk]; exact hg' j v hv
          have hlen : (cs ++ news).length = (len + mm) * P.cellsOf e := by rw [List.length_append, hl, hnl, Nat.add_mul]
          have hvu := vrelL_append hvs hus
          by_cases hfit : len + mm ≤ cap
          · have hcells : len * i.size + us.length ≤ cur.size := by
              rw [hul, ← Nat.add_mul, ← hsz]
              exact Nat.le_trans (Nat.mul_le_mul_right _ hfit) (by omega)
            have hr := run_append_room' (P := P) w t o.type e e0 i hu hi' b len cap cur hb ⟨b', off', none⟩ mm cy us hul hnews (relL_one hus hone) hfit hcells
            have hcl : cur.toList.length = cur.size := by simp
            refine good_kill hdf h hst hd (hadd id) ha (.inl rfl) (by rw [setRow_size]; exact Nat.le_refl _) (fun c _ hc => setRow_other w b c _ hc) rfl rfl rfl (setRow_heap w b cur _ e0 _ hb) (hrun hr) hlen hfit ?_ hvu hn (fun j v hv => ?_) hK
            · simp only [List.size_toArray, List.length_append, List.length_take, List.length_drop, Array.length_toList]
              omega
            · have htk : vs = cur.toList.take (len * i.size) := by
                apply List.ext_getElem?
                intro k
                rw [List.getElem?_take]
                by_cases hk : k < len * i.size
                · rw [if_pos hk]
                  have hk' : k < vs.length := by omega
                  have := hgc k vs[k] (by simp [hk'])
                  simp [hk'] at this ⊢
                  exact this.symm
                · rw [if_neg hk, List.getElem?_eq_none (by omega)]
              rw [← htk]
              have hj : j < (vs ++ us).length := (List.getElem?_eq_some_iff.1 hv).1
              simp only [List.getElem?_toArray]
              rw [List.getElem?_append_left hj]
              exact hv
          · have hr := run_append_grow (P := P) w t o.type e i z hu hi' hz ⟨b, 0, none⟩ len cap vs hvl (fun j v hv => by rw [add_mk]; exact hg j v hv) ⟨b', off', none⟩ mm cy us hul hnews (by omega) (by omega)
              (growslice_fits (by omega) (by rw [← hby]; exact hb1))
            have hge := grownCap_ge w (len + mm) cap e
            refine good_kill hdf h hst hd (hadd id) ha (.inr rfl) (by simp) (fun c hc _ => heap_alloc_lt w.drew _ c hc) rfl rfl rfl (heap_alloc_new w.drew _) (hrun hr) hlen hge ?_ hvu hn (fun j v hv => ?_) hK
            · rw [Array.size_append, Array.size_append, List.size_toArray, List.size_toArray, size_zeroCells, hzc, hvl, hul, hsz, ← Nat.add_mul, ← Nat.add_mul]
              exact Nat.mul_le_mul_right _ (by omega)
            · have hj : j < (vs ++ us).length := (List.getElem?_eq_some_iff.1 hv).1
              rw [Array.getElem?_append_left (by simpa using hj)]
              simpa using hv
      · exact hK.elim
    · exact hK.elim
  · exact hK.elim

/-! ### Literals -/
theorem foldl_set (off : Nat) : ∀ (vs : List Value) (k : Nat) (cells : Array Value), ((vs.zipIdx k).foldl (fun cs (c, j) => cs.setIfInBounds (off + j) c) cells).size = cells.size ∧
    ∀ i, ((vs.zipIdx k).foldl (fun cs (c, j) => cs.setIfInBounds (off + j) c) cells)[i]? = if off + k ≤ i ∧ i < off + k + vs.length ∧ i < cells.size then vs[i - (off + k)]? else cells[i]?
  | [], k, cells => by simp; intro i h1 h2; omega
  | v :: vs, k, cells => by
    rw [List.zipIdx_cons, List.foldl_cons]
    obtain ⟨h1, h2⟩ := foldl_set off vs (k + 1) (cells.setIfInBounds (off + k) v)
    refine ⟨by rw [h1]; simp, fun i => ?_⟩
    rw [h2 i]
    simp only [Array.size_setIfInBounds, List.length_cons]
    by_cases hi : i < cells.size
    · by_cases h0 : i = off + k
      · subst h0
        rw [if_neg (by omega), if_pos ⟨by omega, by omega, hi⟩]
        simp [hi]
      · by_cases hin : off + (k + 1) ≤ i ∧ i < off + (k + 1) + vs.length ∧ i < cells.size
        · rw [if_pos hin, if_pos ⟨by omega, by omega, hi⟩, show i - (off + k) = (i - (off + (k + 1))) + 1 by omega]
          simp
        · rw [if_neg hin, if_neg (by omega), Array.getElem?_setIfInBounds_ne (by omega)]
    · rw [if_neg (by omega), if_neg (by omega)]
      by_cases h0 : off + k = i
      · subst h0; simp [hi]
      · rw [Array.getElem?_setIfInBounds_ne h0]

theorem fold_splice (off : Nat) (vs cells : Array Value) (h : off + vs.size ≤ cells.size) :
    (vs.zipIdx.foldl (fun cs (c, j) => cs.setIfInBounds (off + j) c) cells).toList = cells.toList.take off ++ vs.toList ++ cells.toList.drop (off + vs.toList.length) := by
  have hf := foldl_set off vs.toList 0 cells
  have he : vs.zipIdx.foldl (fun cs (c, j) => cs.setIfInBounds (off + j) c) cells = (vs.toList.zipIdx 0).foldl (fun cs (c, j) => cs.setIfInBounds (off + j) c) cells := by
    rw [← Array.foldl_toList]; simp
  rw [he]
  obtain ⟨_, h2⟩ := hf
  apply List.ext_getElem?
  intro i
  rw [Array.getElem?_toList, h2 i]
  simp only [Nat.add_zero, Array.length_toList]
  have htl : (cells.toList.take off).length = off := by simp; omega
  by_cases h1 : i < off
  · rw [if_neg (by omega), List.append_assoc, List.getElem?_append_left (by omega), List.getElem?_take, if_pos h1]
    simp
  · by_cases h3 : i < off + vs.size
    · rw [if_pos ⟨by omega, h3, by omega⟩, List.append_assoc, List.getElem?_append_right (by omega), htl, List.getElem?_append_left (by simp; omega)]
    · rw [if_neg (by omega), List.getElem?_append_right (by simp; omega), List.getElem?_drop]
      simp only [List.length_append, htl, Array.length_toList]
      rw [show off + vs.size + (i - (off + vs.size)) = i by omega]
      simp

theorem fill_ok {place : Nat → Option (Nat × Nat)} : ∀ (parts : List (Nat × PV)) (vparts : List (Nat × Value)) (zs cs : List PV) (cells : Array Value), aFill place zs parts = some cs → VRelL φ w zs cells.toList →
    parts.map (·.1) = vparts.map (·.1) → VRelL φ w (parts.map (·.2)) (vparts.map (·.2)) → ∃ vs, Instr.fill place cells vparts = some vs ∧ VRelL φ w cs vs.toList
  | [], vparts, zs, cs, cells, h, hz, hi, hv => by
    have : vparts = [] := by cases vparts <;> simp at hi ⊢
    subst this
    simp only [aFill] at h
    injection h with h; subst h
    exact ⟨cells, rfl, hz⟩
  | (i, p) :: parts, vparts, zs, cs, cells, h, hz, hi, hv => by
    cases vparts with
    | nil => simp at hi
    | cons q vparts =>
      obtain ⟨i', v⟩ := q
      simp only [List.map_cons, List.cons.injEq] at hi
      obtain ⟨rfl, hi⟩ := hi
      simp only [List.map_cons] at hv
      obtain ⟨v', vs', e, hp, hvs⟩ := hv
      injection e with e1 e2
      subst e1; subst e2
      simp only [aFill] at h
      split at h
      · cases h
      · rename_i off size hpl
        split at h
        · rename_i hc
          have hpc := rel_cells hp hc.1
          have hlen : p.cells.length = v.cells.size := by simpa using vrelL_length hpc
          have hzl : zs.length = cells.size := by simpa using vrelL_length hz
          have hfit : off + v.cells.size ≤ cells.size := by omega
          obtain ⟨vs, hf, hr⟩ := fill_ok parts vparts (splice zs off p.cells) cs _ h (by rw [fold_splice off v.cells cells hfit]; exact vrelL_splice hz hpc off) hi hvs
          refine ⟨vs, ?_, hr⟩
          simp only [Instr.fill, hpl]
          rw [if_neg (by simp; omega)]
          exact hf
        · cases h

theorem vrelL_const (φ : Phi) (w : World) (l : List Value) : VRelL φ w (l.map pvOf) l := by
  induction l with
  | nil => rfl
  | cons v l ih => exact ⟨v, l, rfl, vrel_pvOf φ w v, ih⟩

theorem zeroCs_some {t : TypeId} {z : List PV} (h : zeroCs P t = some z) : ∃ i zv, P.info? t = some i ∧ i.zero = some zv ∧ z = zv.cells.toList.map pvOf := by
  unfold zeroCs zeroOf at h
  cases hi : P.info? t with
  | none => rw [hi] at h; simp at h
  | some i =>
    rw [hi] at h
    simp only [Option.bind_some] at h
    cases hz : i.zero with
    | none => rw [hz] at h; simp at h
    | some zv => rw [hz] at h; simp only [Option.map_some] at h; exact ⟨i, zv, rfl, hz, (Option.some.inj h).symm⟩

theorem parts_rel (h : SRel φ w N s a) (parts : Array (Nat × Operand)) :
    (parts.toList.map fun p => (p.1, s.ev p.2)).map (·.1) = ((parts.map fun (i, x) => (i, a.eval x)).toList).map (·.1) ∧
    VRelL φ w ((parts.toList.map fun p => (p.1, s.ev p.2)).map (·.2)) (((parts.map fun (i, x) => (i, a.eval x)).toList).map (·.2)) := by
  obtain ⟨l⟩ := parts
  simp only [List.map_toArray, List.map_map]
  refine ⟨by simp, ?_⟩
  induction l with
  | nil => rfl
  | cons p l ih => exact ⟨_, _, rfl, h.ev p.2, ih⟩

theorem build_ok {t : TypeId} {parts : Array (Nat × Operand)} {pv : PV} (h : SRel φ w N s a) (hb : aBuild P t (parts.toList.map fun p => (p.1, s.ev p.2)) = some pv) :
    ∃ v, (Instr.build t (parts.map fun (i, x) => (i, a.eval x))).run P w = .ok v w ∧ VRel φ w pv v := by
  obtain ⟨hp1, hp2⟩ := parts_rel h parts
  unfold aBuild at hb
  split at hb
  · rename_i fs z hu hz
    obtain ⟨i, zv, hi, hzv, rfl⟩ := zeroCs_some hz
    split at hb
    · rename_i hall
      obtain ⟨cs, hcs, rfl⟩ := Option.map_eq_some_iff.1 hb
      have hmap : ∀ l : List Field, (l.all fun f => (P.info? f.type).isSome) = true → l.mapM (fun f => (P.info? f.type).map fun i => (f.offset, i.size)) = some (l.map fun f => (f.offset, P.cellsOf f.type)) := by
        intro l hl
        induction l with
        | nil => rfl
        | cons f l ih =>
          simp only [List.all_cons, Bool.and_eq_true] at hl
          obtain ⟨j, hj, hs, _⟩ := info_of_isSome hl.1
          simp [List.mapM_cons, hj, ih hl.2, hs]
      obtain ⟨vs, hf, hr⟩ := fill_ok _ _ _ _ zv.cells hcs (vrelL_const φ w _) hp1 hp2
      refine ⟨.agg vs, run_build w t _ vs ?_, vs.toList, by simp, hr⟩
      have he : (fun x : Nat => ((fs.toList.map fun f => (f.offset, P.cellsOf f.type)).toArray)[x]?) = fieldPlaceOf P fs := by
        funext x
        simp [fieldPlaceOf]
      simp only [Program.built, hi, hu, hzv, hmap _ hall, he]
      exact hf
    · cases hb
  · rename_i nn e z hu hz
    obtain ⟨i, zv, hi, hzv, rfl⟩ := zeroCs_some hz
    split at hb
    · rename_i hie
      obtain ⟨cs, hcs, rfl⟩ := Option.map_eq_some_iff.1 hb
      obtain ⟨j, hj, hs, _⟩ := info_of_isSome hie
      obtain ⟨vs, hf, hr⟩ := fill_ok _ _ _ _ zv.cells hcs (vrelL_const φ w _) hp1 hp2
      refine ⟨.agg vs, run_build w t _ vs ?_, vs.toList, by simp, hr⟩
      simp only [Program.built, hi, hu, hzv, hj]
      rw [hs] at hf
      exact hf
    · cases hb
  · cases hb

theorem repl_length (z : List PV) (k : Nat) : (repl z k).length = k * z.length := by
  induction k with
  | zero => simp [repl]
  | succ k ih => simp [repl, ih, Nat.add_mul]; omega
theorem repl_get (z : List PV) : ∀ (k j : Nat), j < k * z.length → (repl z k)[j]? = z[j % z.length]?
  | 0, j, h => by simp at h
  | k + 1, j, h => by
    rw [Nat.add_mul, Nat.one_mul] at h
    rw [repl]
    by_cases hj : j < z.length
    · rw [List.getElem?_append_left hj, Nat.mod_eq_of_lt hj]
    · have hmod := Nat.mod_eq_sub_mod (a := j) (b := z.length) (by omega)
      rw [List.getElem?_append_right (by omega), repl_get z k (j - z.length) (by omega), hmod]

theorem repl_made (φ : Phi) (w : World) (zv : Array Value) (k : Nat) (hz : 0 < zv.size) {c : Nat} (hc : k ≤ c) :
    VRelL φ w (repl (zv.toList.map pvOf) k) ((madeCells zv (c * zv.size)).toList.take (k * zv.size)) := by
  have hle : k * zv.size ≤ c * zv.size := Nat.mul_le_mul_right _ hc
  rw [vrelL_iff]
  refine ⟨by simp only [repl_length, List.length_take, Array.length_toList, size_madeCells, List.length_map]; omega, fun j p v hj hv => ?_⟩
  have hlt : j < k * zv.size := by
    have := (List.getElem?_eq_some_iff.1 hj).1
    rw [repl_length] at this
    simpa using this
  have hlz : (zv.toList.map pvOf).length = zv.size := by simp
  rw [repl_get _ _ _ (by rw [hlz]; exact hlt), hlz] at hj
  rw [List.getElem?_take, if_pos hlt] at hv
  have hm : j % zv.size < zv.size := Nat.mod_lt _ hz
  have hv' : v = zv[j % zv.size] := by
    have h2 : (madeCells zv (c * zv.size))[j]? = some v := by simpa using hv
    simp only [madeCells, Array.getElem?_map] at h2
    have h3 : (Array.range (c * zv.size))[j]? = some j := by rw [Array.getElem?_eq_getElem (by rw [Array.size_range]; omega), Array.getElem_range]
    rw [h3] at h2
    simp only [Option.map_some, Option.some.injEq] at h2
    rw [← h2]
    simp [hm]
  have hp' : p = pvOf zv[j % zv.size] := by
    have hg : (zv.toList.map pvOf)[j % zv.size]? = some (pvOf zv[j % zv.size]) := by
      rw [List.getElem?_map, Array.getElem?_toList, Array.getElem?_eq_getElem hm, Option.map_some]
    rw [hg] at hj
    exact (Option.some.inj hj).symm
  rw [hv', hp']
  exact vrel_pvOf φ w _

theorem good_make {o : Oper} {t e : TypeId} {l c : Operand} {ln cn : Int} {z : List PV} (ho : o.op = .makeSlice t l c) (h : SRel φ w N s a) (hst : Anch A φ w s.eff) (hd : ∀ t, o.dst = some t → t < N)
    (hu : P.underlying t = some (.slice e)) (hl : s.ev l = .int .i64 ln) (hc : s.ev c = .int .i64 cn) (hz : zeroCs P e = some z) (hzl : z.length = P.cellsOf e) (hpos : 0 < z.length) (hi : (P.info? e).isSome)
    (h0 : 0 ≤ ln) (hle : ln ≤ cn) (hby : cn * P.bytesOf e ≤ 140737488355328) (h63 : cn ≤ 9223372036854775807) (hK : K (s.newArr o.dst (P.cellsOf e) ln.toNat (repl z ln.toNat))) :
    o.wpIn (Fr r) n P a w (Good A N a.defers K) Q := by
  have hdf : ∀ c, o.op ≠ .defer c := fun c e => by rw [ho] at e; cases e
  obtain ⟨i, zv, hi', hzv, rfl⟩ := zeroCs_some hz
  obtain ⟨i2, hi2, hs, hb⟩ := info_of_isSome hi
  have : i2 = i := by rw [hi'] at hi2; exact (Option.some.inj hi2).symm
  subst this
  have e1 : a.eval l = .int .i64 ln := by have := h.ev l; rw [hl] at this; exact this
  have e2 : a.eval c = .int .i64 cn := by have := h.ev c; rw [hc] at this; exact this
  have hr := run_make (P := P) w t e i2 zv hu hi' hzv .i64 .i64 ln cn h0 hle (by rw [← hb, Int.mul_comm]; omega) h63
  have hrun : (execOp a.eval o).run P w = .ok (.value (.slice (some ⟨w.heap.size, 0, none⟩) ln.toNat cn.toNat)) (w.alloc (.cells (madeCells zv.cells (cn.toNat * i2.size)) e)) := by
    simp [execOp, ho, e1, e2, hr]
  simp only [List.length_map, Array.length_toList] at hzl hpos
  refine good_arr hdf h hst hd (Grows.alloc w _) hrun (heap_alloc_new w _) ?_ (by omega) ?_ (repl_made φ w zv.cells ln.toNat hpos (c := cn.toNat) (by omega)) (fun j v hv => ?_) hK
  · rw [repl_length]; simp [hzl]
  · rw [size_madeCells, hs]
  · rw [List.getElem?_take] at hv
    split at hv
    · rw [← hs, ← hzl]
      simpa using hv
    · cases hv

theorem mrel_grow {m : Mem} (hm : MRel φ m w) {w' : World} (hg : Grows w w') (k : Keeps φ w φ w') : MRel φ m w' := by
  refine ⟨fun i hi => ?_, hm.boxn, fun i b h => ?_, hm.boxinj, hm.arrinj, hm.sep, rcs_grow hg hm⟩
  · rcases hm.box i hi with h | ⟨b, cur, e', hb, hh, hr⟩
    · exact .inl h
    exact .inr ⟨b, cur, e', hb, (hg.old b (box_lt hm hb)).trans hh, brel_keeps k hr⟩
  · obtain ⟨h1, cur, e', h2⟩ := hm.arr i b h
    exact ⟨h1, cur, e', (hg.old b (arr_lt hm h)).trans h2⟩

theorem run_buildSlice {o : Oper} {t e : TypeId} {len : Nat} {parts : Array (Nat × Operand)} {z cs : List PV} (ho : o.op = .buildSlice t len parts) (h : SRel φ w N s a) 
    (hu : P.underlying t = some (.slice e)) (hz : zeroCs P e = some z) (hi : (P.info? e).isSome) (hzl : z.length = P.cellsOf e) (hpos : 0 < z.length) (hbig : len * P.cellsOf e ≤ 16777216)
    (hf : aFill (fun i => some (i * P.cellsOf e, P.cellsOf e)) (repl z len) (parts.toList.map fun p => (p.1, s.ev p.2)) = some cs) :
    ∃ vs : Array Value, (execOp a.eval o).run P w = .ok (.value (.slice (some ⟨w.heap.size, 0, none⟩) len len)) (w.alloc (.cells vs e)) ∧ cs.length = len * P.cellsOf e ∧ vs.size = len * P.cellsOf e ∧ VRelL φ w cs vs.toList := by
  obtain ⟨i, zv, hi', hzv, rfl⟩ := zeroCs_some hz
  obtain ⟨hp1, hp2⟩ := parts_rel h parts
  simp only [List.length_map, Array.length_toList] at hzl hpos
  have hm := repl_made φ w zv.cells len hpos (Nat.le_refl len)
  have htk : (madeCells zv.cells (len * zv.cells.size)).toList.take (len * zv.cells.size) = (madeCells zv.cells (len * zv.cells.size)).toList := List.take_of_length_le (by simp [size_madeCells])
  rw [htk] at hm
  obtain ⟨vs, hfl, hr⟩ := fill_ok _ _ _ _ _ hf hm hp1 hp2
  have hsz : (sizeOf e).run P w = .ok zv.cells.size w := by rw [run_sizeOf hi, hzl]
  have hcl : cs.length = len * P.cellsOf e := by
    have hlen : ∀ (pl : Nat → Option (Nat × Nat)) (ps : List (Nat × PV)) (zs out : List PV), aFill pl zs ps = some out → out.length = zs.length := by
      intro pl ps
      induction ps with
      | nil => intro zs out h; simp only [aFill] at h; injection h with h; rw [h]
      | cons q ps ih =>
        intro zs out h
        obtain ⟨i, p⟩ := q
        simp only [aFill] at h
        split at h
        · cases h
        · split at h
          · rename_i hc
            rw [ih _ _ h]
            simp only [splice, List.length_append, List.length_take, List.length_drop]
            omega
          · cases h
    rw [hlen _ _ _ _ hf, repl_length]; simp [hzl]
  have hvl : vs.size = len * P.cellsOf e := by rw [← hcl]; simpa using (vrelL_length hr).symm
  obtain ⟨pp, hpp⟩ : ∃ pp, pp = (parts.map fun (i, x) => (i, a.eval x)) := ⟨_, rfl⟩
  rw [← hpp] at hfl
  have hmk : (madeCells zv.cells (len * zv.cells.size)) = (Array.range (len * zv.cells.size)).map (zv.cells[· % zv.cells.size]!) := rfl
  rw [hmk, ← hzl] at hfl
  have hrun : (execOp a.eval o).run P w = .ok (.value (.slice (some ⟨w.heap.size, 0, none⟩) len len)) (w.alloc (.cells vs e)) := by
    simp only [execOp, ho, Instr.buildSlice, Sem.run_bind, run_underlying hu, Result.andThen_ok, hsz]
    rw [← hpp, if_neg (by rw [hzl]; omega)]
    by_cases hl0 : len = 0
    · subst hl0
      simp only [Nat.zero_mul, if_true, Sem.run_pure, Array.range_zero', List.map_toArray, List.map_nil] at hfl ⊢
      simp [hfl, newRow]
    · have hne : ¬ (len * zv.cells.size = 0) := by
        intro h0
        rcases Nat.mul_eq_zero.1 h0 with h | h <;> omega
      simp only [hne, if_false, zeroValue, typeInfo, Sem.run_bind, run_program, Result.andThen_ok, hi', hzv, Sem.run_pure, hfl]
      simp [newRow]
  exact ⟨vs, hrun, hcl, hvl, hr⟩

theorem good_buildSlice {o : Oper} {t e : TypeId} {len : Nat} {parts : Array (Nat × Operand)} {z cs : List PV} (ho : o.op = .buildSlice t len parts) (h : SRel φ w N s a) (hst : Anch A φ w s.eff) (hd : ∀ t, o.dst = some t → t < N)
    (hu : P.underlying t = some (.slice e)) (hz : zeroCs P e = some z) (hi : (P.info? e).isSome) (hzl : z.length = P.cellsOf e) (hpos : 0 < z.length) (hbig : len * P.cellsOf e ≤ 16777216)
    (hf : aFill (fun i => some (i * P.cellsOf e, P.cellsOf e)) (repl z len) (parts.toList.map fun p => (p.1, s.ev p.2)) = some cs) (hK : K (s.newArr o.dst (P.cellsOf e) len cs)) :
    o.wpIn (Fr r) n P a w (Good A N a.defers K) Q := by
  have hdf : ∀ c, o.op ≠ .defer c := fun c e => by rw [ho] at e; cases e
  obtain ⟨vs, hrun, hcl, hvl, hr⟩ := run_buildSlice ho h hu hz hi hzl hpos hbig hf
  exact good_arr hdf h hst hd (Grows.alloc w _) hrun (heap_alloc_new w _) hcl (Nat.le_refl _) hvl hr (fun j v hv => by simpa using hv) hK

/-- The same, the array being nobody's. -/
theorem good_buildAnon {o : Oper} {t e : TypeId} {len : Nat} {parts : Array (Nat × Operand)} {z cs : List PV} (ho : o.op = .buildSlice t len parts) (h : SRel φ w N s a) (hst : Anch A φ w s.eff) (hd : ∀ t, o.dst = some t → t < N)
    (hu : P.underlying t = some (.slice e)) (hz : zeroCs P e = some z) (hi : (P.info? e).isSome) (hzl : z.length = P.cellsOf e) (hpos : 0 < z.length) (hbig : len * P.cellsOf e ≤ 16777216)
    (hf : aFill (fun i => some (i * P.cellsOf e, P.cellsOf e)) (repl z len) (parts.toList.map fun p => (p.1, s.ev p.2)) = some cs) (hK : K (s.put o.dst (.sl none (P.cellsOf e) 0 len cs))) :
    o.wpIn (Fr r) n P a w (Good A N a.defers K) Q := by
  obtain ⟨vs, hrun, hcl, hvl, hr⟩ := run_buildSlice ho h hu hz hi hzl hpos hbig hf
  refine wpIn_of_run (fun c e => by rw [ho] at e; cases e) ?_
  rw [hrun]
  have hg := Grows.alloc w (.cells vs e)
  have k : Keeps φ w φ (w.alloc (.cells vs e)) := keeps_grow hg h.mem (fun _ _ h => h) (fun _ _ h => h) (fun _ h => .inl h)
  have hno : ¬ φ.own w.heap.size := fun ho => by
    rcases ho with ⟨i, hi⟩ | ⟨i, hi⟩
    · exact absurd (box_lt h.mem hi) (by omega)
    · exact absurd (arr_lt h.mem hi) (by omega)
  have hnew := heap_alloc_new w (.cells vs e)
  refine ⟨_, φ, ?_, ?_, put_defers _ _ _, hK⟩
  · have h1 : SRel φ (w.alloc (.cells vs e)) N s a := ⟨fun t => VRel.keeps k _ _ (h.tmp t), h.size, mrel_grow h.mem hg k⟩
    refine h1.put hd ⟨hcl, _, len, rfl, Nat.le_refl _, .inr ⟨w.heap.size, rfl, ⟨hno, by simp⟩, vrelAt_mk fun j p hj => ?_⟩⟩
    obtain ⟨v, hv, hp⟩ := vrelL_get hr hj
    exact ⟨v, by simp only [World.cell?, hnew]; simpa using hv, VRel.keeps k p v hp⟩
  · rw [St.put_eff]
    have := hst.trans (step_of_keeps hg k)
    simpa using this

end
end Go.Proofs.Ytlminnpaeaganaa
namespace Go.Proofs.Ytlminnpaeaganaa
open Go Go.RowKit

section
variable {P : Program} {φ : Phi} {w : World} {A : Anchor} {N n : Nat} {s : St} {a : Act} {K : St → Prop} {Q : Exit → Act → World → Prop} {r : Option Nat} {m : Mem}

/-! ### Effects on arrays that are new to the caller do not concern it -/
mutual
theorem sub1_new {a0 : Nat} (hA : ∀ i b, φ.arr i = some b → i < a0) {e : Eff} (he : a0 ≤ e.id) : ∀ (q : PV) (c : Value), VRel φ w q c → q.sub1 e = q
  | .sl (some i) sz off len cs, c, h => by
    simp only [VRel] at h
    obtain ⟨_, a, cap, _, _, h⟩ := h
    rcases h with h | ⟨b, _, hp, hat⟩
    · exact absurd h.1 (by simp)
    · have hi : i ≠ e.id := by have := hA i b hp.1; omega
      have hl := subAt_new hA he b cs off hat
      cases e <;> simp only [PV.sub1, Eff.id] at hi ⊢ <;> rw [if_neg hi, hl]
  | .sl none sz off len cs, c, h => by
    simp only [VRel] at h
    obtain ⟨hl, a, cap, _, _, h⟩ := h
    rcases h with h | ⟨b, _, hp, hat⟩
    · have : cs = [] := List.eq_nil_of_length_eq_zero (by rw [hl, h.2.1]; simp)
      subst this
      simp [PV.sub1, subL1]
    · simp only [PV.sub1]; rw [subAt_new hA he b cs off hat]
  | .eref (some i) off cs, c, h => by
    simp only [VRel] at h
    obtain ⟨b, _, hp, hat⟩ := h
    have hi : i ≠ e.id := by have := hA i b hp.1; omega
    have hl := subAt_new hA he b cs off hat
    cases e <;> simp only [PV.sub1, Eff.id] at hi ⊢ <;> rw [if_neg hi, hl]
  | .eref none off cs, c, h => by
    simp only [VRel] at h
    obtain ⟨b, _, hp, hat⟩ := h
    simp only [PV.sub1]; rw [subAt_new hA he b cs off hat]
  | .fn f caps, c, h => by
    simp only [VRel] at h
    obtain ⟨vs, _, h⟩ := h
    simp only [PV.sub1]; rw [subL_new hA he caps vs h]
  | .agg cs, c, h => by
    simp only [VRel] at h
    obtain ⟨vs, _, h⟩ := h
    simp only [PV.sub1]; rw [subL_new hA he cs vs h]
  | .tup cs, c, h => by
    simp only [VRel] at h
    obtain ⟨vs, _, h⟩ := h
    simp only [PV.sub1]; rw [subL_new hA he cs vs h]
  | .int _ _, _, _ | .bool _, _, _ | .str _, _, _ | .undef, _, _ | .bad, _, _ | .nilp, _, _ | .nilfn, _, _ | .snil, _, _ | .dead _, _, _ | .yld _, _, _ | .ptr _ _, _, _ => by simp only [PV.sub1]
theorem subL_new {a0 : Nat} (hA : ∀ i b, φ.arr i = some b → i < a0) {e : Eff} (he : a0 ≤ e.id) : ∀ (l : List PV) (vs : List Value), VRelL φ w l vs → subL1 e l = l
  | [], _, _ => rfl
  | p :: l, vs, h => by
    simp only [VRelL] at h
    obtain ⟨v, vs', _, h0, h1⟩ := h
    simp only [subL1]
    rw [sub1_new hA he p v h0, subL_new hA he l vs' h1]
theorem subAt_new {a0 : Nat} (hA : ∀ i b, φ.arr i = some b → i < a0) {e : Eff} (he : a0 ≤ e.id) (b : Nat) : ∀ (l : List PV) (off : Nat), VRelAt φ w b l off → subL1 e l = l
  | [], _, _ => rfl
  | p :: l, off, h => by
    simp only [VRelAt] at h
    obtain ⟨⟨c, _, h0⟩, h1⟩ := h
    simp only [subL1]
    rw [sub1_new hA he p c h0, subAt_new hA he b l (off + 1) h1]
end

theorem sub_dropNew {a0 : Nat} (hA : ∀ i b, φ.arr i = some b → i < a0) {q : PV} {c : Value} (h : VRel φ w q c) : ∀ E : List Eff, q.sub (dropNew a0 E) = q.sub E
  | [] => rfl
  | e :: E => by
    simp only [dropNew]
    split
    · rename_i he
      rw [sub_dropNew hA h E]
      show _ = PV.sub E (q.sub1 e)
      rw [sub1_new hA he q c h]
    · rfl

theorem Step.drop {φ0 : Phi} {w0 : World} {a0 : Nat} (hA : ∀ i b, φ0.arr i = some b → i < a0) {E : List Eff} (h : Step φ0 w0 φ w E) : Step φ0 w0 φ w (dropNew a0 E) :=
  ⟨fun q c hq => by rw [sub_dropNew hA hq]; exact h.tr q c hq, h.os, h.tape, h.output, h.size, h.rest⟩

theorem Anch.add {a0 : Nat} (hA : ∀ i b, A.φ0.arr i = some b → i < a0) {eff E : List Eff} (h : Anch A φ w (eff ++ E)) : Anch A φ w (addEff a0 eff E) := by
  cases eff with
  | nil => exact ⟨h.st.drop hA, h.re⟩
  | cons e es => exact h

/-! ### Cuts -/
def ORel (φ : Phi) (w : World) : Option PV → Option Value → Prop
  | none, none => True
  | some p, some v => VRel φ w p v
  | _, _ => False

theorem bound_ok {lo : Option PV} {vlo : Option Value} {d l y : Nat} (h : aBnd d lo = some l) (hr : ORel φ w lo vlo) (hy : l ≤ y) (c : BoundsCode) :
    (match vlo with | some v => Instr.sliceBound v y c | none => pure d : Sem Nat).run P w = .ok l w := by
  cases lo with
  | none => cases vlo with
    | none => simp only [aBnd] at h; injection h with h; subst h; simp
    | some v => exact hr.elim
  | some p => cases vlo with
    | none => exact hr.elim
    | some v =>
      cases p with
      | int k nn =>
        simp only [aBnd] at h
        split at h
        · rename_i h0
          injection h with h
          have e : v = .int k nn := hr
          subst e; subst h
          simp [Instr.sliceBound, asIntOf, h0, show nn ≤ (y : Int) by omega]
        · cases h
      | _ => simp [aBnd] at h

theorem slice_ok {t : TypeId} {x pv : PV} {lo hi : Option PV} {vx : Value} {vlo vhi : Option Value} (h : aSlice P t x lo hi = some pv) (hx : VRel φ w x vx) (hlo : ORel φ w lo vlo) (hhi : ORel φ w hi vhi) :
    ∃ v, (Instr.sliceAt t vx vlo vhi none).run P w = .ok v w ∧ VRel φ w pv v := by
  unfold aSlice at h
  split at h
  · rename_i e id sz off len cs hu
    split at h
    · rename_i l hh hl1 hh1
      split at h
      · rename_i hc
        obtain ⟨hle, hlen, hsz, hin⟩ := hc
        have hs := run_sizeOf (w := w) hin
        obtain ⟨hcs, ax, cap, rfl, hcap, hp⟩ := hx
        have hrun : (Instr.sliceAt t (.slice ax len cap) vlo vhi none).run P w = .ok (.slice (if cap = l then ax else ax.map (·.add (l * sz))) (hh - l) (cap - l)) w := by
          have hb : (Instr.sliceBounds true len cap vlo vhi none).run P w = .ok (l, hh, cap) w := by
            have h1 := bound_ok (P := P) hh1 hhi (y := cap) (by omega) .sliceAcap
            have h2 := bound_ok (P := P) hl1 hlo (y := hh) hle .sliceB
            cases vhi <;> cases vlo <;> simp [Instr.sliceBounds] at h1 h2 ⊢ <;> simp [*]
          simp [Instr.sliceAt, Instr.slice, run_underlying hu, hb, hs, hsz]
        refine ⟨_, hrun, ?_⟩
        split at h
        · rename_i he
          injection h with h; subst h; subst he
          have hax : ax.isSome := by
            rcases hp with hp | ⟨b, rfl, _, _⟩
            · exact hp.2.2
            · rfl
          exact ⟨by simp, _, _, by rw [Nat.sub_self], by omega, .inl ⟨rfl, rfl, by split <;> simpa using hax⟩⟩
        · rename_i he
          injection h with h; subst h
          rw [if_neg (by omega)]
          rcases hp with hp | ⟨b, rfl, hp, hat⟩
          · omega
          · refine ⟨?_, _, _, rfl, by omega, .inr ⟨b, by simp [add_mk], place_any hp ?_, vrelAt_take (vrelAt_drop hat _) _⟩⟩
            · rw [List.length_take, List.length_drop, hcs, ← Nat.sub_mul]
              exact Nat.min_eq_left (Nat.mul_le_mul_right _ (by omega))
            · rw [Nat.add_assoc, ← Nat.add_mul]
              have : l + (cap - l) = cap := by omega
              rw [this]
              exact Nat.le_refl _
      · cases h
    · cases h
  · rename_i e hu
    split at h
    · rename_i l hh hl1 hh1
      split at h
      · rename_i hc
        obtain ⟨rfl, rfl, hin⟩ := hc
        injection h with h; subst h
        have hs := run_sizeOf (w := w) hin
        have hx' : vx = .slice none 0 0 := hx
        subst hx'
        refine ⟨.slice none 0 0, ?_, rfl⟩
        have hb : (Instr.sliceBounds true 0 0 vlo vhi none).run P w = .ok (0, 0, 0) w := by
          have h1 := bound_ok (P := P) hh1 hhi (y := 0) (by omega) .sliceAcap
          have h2 := bound_ok (P := P) hl1 hlo (y := 0) (by omega) .sliceB
          cases vhi <;> cases vlo <;> simp [Instr.sliceBounds] at h1 h2 ⊢ <;> simp [*]
        simp [Instr.sliceAt, Instr.slice, run_underlying hu, hb, hs]
      · cases h
    · cases h
  · cases h

theorem calls_fr {n : Nat} {f : FuncId} {args : Array Value} {R : Ending → World → Prop} (h : Calls P f args w R) : CallsIn (Fr r) n P f args w R := by
  have h1 : CallsIn Fence.wide n P f args w R := callsIn_wide.2 h
  cases r with
  | none => exact h1
  | some l => exact h1

theorem readY_now (hst : Anch A φ w s.eff) (hY : ReadY s.a0.ys A.φ0 A.w0) : ReadY s.nowY φ w := by
  intro y hy t
  obtain ⟨y0, h0, rfl⟩ := List.mem_map.1 hy
  exact hst.st.tr _ _ (hY y0 h0 t)

theorem good_call {o : Oper} {c : Call} {f : Operand} {g : FuncId} {caps : List PV} (ho : o.op = .call c) (hcal : c.callee = .value f) (h : SRel φ w N s a) (hst : Anch A φ w s.eff) (hd : ∀ t, o.dst = some t → t < N)
    (hA : ∀ i b, A.φ0.arr i = some b → i < s.a0.a) (hf : s.ev f = .fn g caps) (hg : ∃ fn, P.funcs[g]? = some fn ∧ fn.name ≠ "runtime.NumGoroutine" ∧ fn.body.isSome)
    (hY : ReadY s.a0.ys A.φ0 A.w0) (hK : ECallsY P s.nowY g (c.args.toList.map s.ev ++ caps) s.m fun v E m' => K ((s.after E m').put o.dst v)) : o.wpIn (Fr r) n P a w (Good A N a.defers K) Q := by
  have hdf : ∀ c, o.op ≠ .defer c := fun c e => by rw [ho] at e; cases e
  refine wpIn_of_run hdf ?_
  have hfv := h.ev f
  rw [hf] at hfv
  obtain ⟨vs, hv, hvs⟩ := hfv
  obtain ⟨fn, hfn, hname, hbody⟩ := hg
  obtain ⟨code, hcode⟩ := Option.isSome_iff_exists.1 hbody
  have hargs : (c.args.map a.eval ++ vs.toArray) = (c.args.toList.map a.eval ++ vs).toArray := by
    obtain ⟨l⟩ := c.args
    simp
  have hrun : (execOp a.eval o).run P w = .ok (.enter g (c.args.toList.map a.eval ++ vs).toArray) w := by
    rw [← hargs]
    simp [execOp, ho, resolve, hcal, hv, Deferred.ofValue, invoke, callFunc, hfn, hname, hcode]
  rw [hrun]
  refine ⟨fun h => by cases r <;> simp [Fr, Fence.wide] at h, ?_⟩
  refine calls_fr ((hK φ _ w h.mem (vrelL_append (h.evs _) hvs) (readY_now hst hY)).mono ?_)
  rintro e w' ⟨v, pv, E, m', φ', rfl, hpv, hm', hstep, hk⟩
  refine ⟨_, φ', ?_, ?_, put_defers _ _ _, hk⟩
  · have h1 : SRel φ' w' N (s.after E m') a := ⟨fun t => hstep.tr _ _ (h.tmp t), h.size, hm'⟩
    exact h1.put hd hpv
  · rw [St.put_eff, St.after_eff]
    exact Anch.add hA (hst.trans hstep)

theorem round_fr {n : Nat} {l : Nat} {f : FuncId} {tmps : Array Value} {x y : Code} {R : Ending → World → Prop} (h : RoundIn Fence.wide n P l f tmps x y w R) : RoundIn (Fr r) n P l f tmps x y w R := by
  cases r with
  | none => exact h
  | some l => exact h

theorem good_yield {o : Oper} {c : Call} {f : Operand} {l : Nat} {y : YRec} {st : LoopState} {pd : Option Code} (ho : o.op = .call c) (hcal : c.callee = .value f) (h : SRel φ w N s a) (hst : Anch A φ w s.eff) (hd : ∀ t, o.dst = some t → t < N)
    (hA : ∀ i b, A.φ0.arr i = some b → i < s.a0.a) (hf : s.ev f = .yld l) (hY : ReadY s.a0.ys A.φ0 A.w0) (hrc : (l, { y.o with state := st, pending := pd }) ∈ s.m.rc) (hn : c.args.size = y.o.params.size)
    (hK : EYield P s.nowY y.o l (c.args.toList.map s.ev) s.m fun v E m' => K ((s.after E m').put o.dst v)) : o.wpIn (Fr r) n P a w (Good A N a.defers K) Q := by
  have hdf : ∀ c, o.op ≠ .defer c := fun c e => by rw [ho] at e; cases e
  refine wpIn_of_run hdf ?_
  have hfv := h.ev f
  rw [hf] at hfv
  have hv : a.eval f = .func (.yield l) #[] #[] := hfv
  have hheap := h.mem.rcs _ _ hrc
  have hargs : c.args.map a.eval = (c.args.toList.map a.eval).toArray := by
    obtain ⟨l⟩ := c.args
    simp
  have hrun : (execOp a.eval o).run P w = .ok (.round l y.o.fn ((y.o.params.zip (c.args.toList.map a.eval).toArray).foldl (fun tmps (t, a) => tmps.setIfInBounds t a) y.o.tmps) y.o.assign y.o.body) w := by
    rw [← hargs]
    have hy := run_yield (P := P) (args := c.args.map a.eval) hheap (by simpa using hn)
    simp [execOp, ho, resolve, hcal, hv, Deferred.ofValue, invoke, hy]
  rw [hrun]
  refine ⟨fun h => by cases r <;> simp [Fr, Fence.wide] at h, ?_⟩
  refine round_fr ((hK φ _ w _ h.mem (h.evs _) (readY_now hst hY)).mono ?_)
  rintro e w' ⟨v, pv, E, m', φ', rfl, hpv, hm', hstep, hk⟩
  refine ⟨_, φ', ?_, ?_, put_defers _ _ _, hk⟩
  · have h1 : SRel φ' w' N (s.after E m') a := ⟨fun t => hstep.tr _ _ (h.tmp t), h.size, hm'⟩
    exact h1.put hd hpv
  · rw [St.put_eff, St.after_eff]
    exact Anch.add hA (hst.trans hstep)

/-- **Every operation.** -/
theorem opW_sound {o : Oper} (h : SRel φ w N s a) (hst : Anch A φ w s.eff) (hd : ∀ t, o.dst = some t → t < N) (hA : ∀ i b, A.φ0.arr i = some b → i < s.a0.a) (hY : ReadY s.a0.ys A.φ0 A.w0) (hK : opW P s o K) :
    o.wpIn (Fr r) n P a w (Good A N a.defers K) Q := by
  obtain ⟨dst, op, type, pos, after, guard⟩ := o
  simp only at hd
  cases op with
  | move x => exact good_val (by simp) h hst hd (by simp [execOp]) (h.ev x) hK
  | assign x => exact good_val (by simp) h hst hd (by simp [execOp]) (h.ev x) hK
  | pick c x y =>
    obtain ⟨t, hc, hK⟩ := hK
    have e := h.ev c
    rw [hc] at e
    have e := rel_bool e
    cases t
    · exact good_val (by simp) h hst hd (by simp [execOp, e, asBool]) (h.ev y) hK
    · exact good_val (by simp) h hst hd (by simp [execOp, e, asBool]) (h.ev x) hK
  | binOp op t x y yt =>
    obtain ⟨pv, hb, hK⟩ := hK
    obtain ⟨v, hr, hv⟩ := bin_ok hb (h.ev x) (h.ev y) x y
    refine good_val (by simp) h hst hd (v := v) ?_ hv hK
    show ((do eqGuard op t x y (a.eval x) (a.eval y); binOp op t (a.eval x) (a.eval y) : Sem Value) >>= fun u => pure (Next.value u)).run P w = _
    rw [Sem.run_bind, hr]
    rfl
  | unOp op t x =>
    obtain ⟨pv, hb, hK⟩ := hK
    obtain ⟨v, hr, hv⟩ := un_ok (P := P) hb (h.ev x)
    exact good_val (by simp) h hst hd (by simp [execOp, hr]) hv hK
  | convert src dt x =>
    obtain ⟨pv, hb, hK⟩ := hK
    obtain ⟨v, hr, hv⟩ := conv_ok hb (h.ev x)
    exact good_val (by simp) h hst hd (by simp [execOp, hr]) hv hK
  | extract x i =>
    simp only [opW] at hK
    split at hK
    · rename_i vs he
      obtain ⟨pv, hb, hK⟩ := hK
      have e := h.ev x
      rw [he] at e
      obtain ⟨us, e, hus⟩ := e
      obtain ⟨v, hv, hr⟩ := vrelL_get hus hb
      exact good_val (by simp) h hst hd (by simp [execOp, e, Instr.extract, hv]) hr hK
    · exact hK.elim
  | fieldAddr t x f =>
    obtain ⟨pv, hb, hK⟩ := hK
    obtain ⟨v, hr, hv⟩ := field_ok hb (h.ev x)
    exact good_val (by simp) h hst hd (by simp [execOp, hr]) hv hK
  | indexAddr t x i =>
    obtain ⟨pv, hb, hK⟩ := hK
    obtain ⟨v, hr, hv⟩ := indexAddr_ok hb (h.ev x) (h.ev i)
    exact good_val (by simp) h hst hd (by simp [execOp, hr]) hv hK
  | index t x i =>
    obtain ⟨pv, hb, hK⟩ := hK
    obtain ⟨v, hr, hv⟩ := index_ok hb (h.ev x) (h.ev i)
    exact good_val (by simp) h hst hd (by simp [execOp, hr]) hv hK
  | load t x =>
    obtain ⟨pv, hb, hK⟩ := hK
    obtain ⟨v, hr, hv⟩ := load_ok hb h.mem (h.ev x)
    exact good_val (by simp) h hst hd (by simp [execOp, hr]) hv hK
  | build t parts =>
    obtain ⟨pv, hb, hK⟩ := hK
    obtain ⟨v, hr, hv⟩ := build_ok h hb
    exact good_val (by simp) h hst hd (by simp only [execOp, Sem.run_bind, hr, Result.andThen_ok, Sem.run_pure]) hv hK
  | nilCheck x =>
    simp only [opW] at hK
    split at hK
    · rename_i i off he
      have e := h.ev x
      rw [he] at e
      obtain ⟨b, hb, e⟩ := e
      exact good_val (by simp) h hst hd (v := .pointer (some ⟨b, off, none⟩)) (pv := .ptr i off) (by simp [execOp, e]) ⟨b, hb, rfl⟩ hK
    · rename_i f caps he
      have e := h.ev x
      rw [he] at e
      obtain ⟨vs, e, hvs⟩ := e
      exact good_val (by simp) h hst hd (v := .func (.func f) #[] vs.toArray) (pv := .fn f caps) (by simp [execOp, e]) ⟨vs, rfl, hvs⟩ hK
    · exact hK.elim
  | box t x =>
    obtain ⟨hk, hK⟩ := hK
    exact good_box (by simp) h hst hd (e := t) (cs := (a.eval x).cells.toList) (by simp [execOp, Instr.box, newVar, newRow]) (rel_cells (h.ev x) hk) hK
  | alloc t =>
    obtain ⟨z, hz, hK⟩ := hK
    obtain ⟨i, zv, hi, hzv, rfl⟩ := zeroCs_some hz
    exact good_box (by simp) h hst hd (e := t) (cs := zv.cells.toList) (by simp [execOp, Instr.alloc, zeroValue, typeInfo, hi, hzv, newVar, newRow]) (vrelL_const φ w _) hK
  | makeFunc fn first caps =>
    cases fn with
    | func f =>
      obtain ⟨rfl, hK⟩ := hK
      obtain ⟨l⟩ := caps
      exact good_val (by simp) h hst hd (v := .func (.func f) #[] (l.map a.eval).toArray) (pv := .fn f (l.map s.ev)) (by simp [execOp, Instr.makeFunc]) ⟨l.map a.eval, rfl, h.evs l⟩ hK
    | _ => exact hK.elim
  | slice t x lo hi mx =>
    cases mx with
    | some _ => exact hK.elim
    | none =>
      obtain ⟨pv, hb, hK⟩ := hK
      obtain ⟨v, hr, hv⟩ := slice_ok (vlo := lo.map a.eval) (vhi := hi.map a.eval) hb (h.ev x) (by cases lo <;> simp [ORel, h.ev]) (by cases hi <;> simp [ORel, h.ev])
      exact good_val (by simp) h hst hd (by simp [execOp, hr]) hv hK
  | buildSlice t len parts =>
    simp only [opW] at hK
    split at hK
    · rename_i e z hu hz
      rw [hu] at hz
      obtain ⟨hi, hzl, hpos, hbig, cs, hf, hK⟩ := hK
      rcases hK with hK | hK
      · exact good_buildSlice rfl h hst hd hu hz hi hzl hpos hbig hf hK
      · exact good_buildAnon rfl h hst hd hu hz hi hzl hpos hbig hf hK
    · exact hK.elim
  | makeSlice t l c =>
    simp only [opW] at hK
    split at hK
    · rename_i e ln cn hu hl hc
      obtain ⟨z, hz, hzl, hpos, hi, h0, hle, hby, h63, hK⟩ := hK
      exact good_make rfl h hst hd hu hl hc hz hzl hpos hi h0 hle hby h63 hK
    · exact hK.elim
  | store t x y =>
    obtain ⟨hdst, hK⟩ := hK
    simp only at hdst
    subst hdst
    simp only [aStore] at hK
    split at hK
    · rename_i id off hx
      obtain ⟨hid, hi, hc, h1, l, hβ, hf, hK⟩ := hK
      have hk : (s.ev y).known = true := by
        cases hy : s.ev y <;> first | rfl | (rw [hy] at h1; simp [PV.cells, PV.one] at h1)
      have e := h.ev x
      rw [hx] at e
      obtain ⟨w', hr, hm', hstep⟩ := store_box hi hc h1 h.mem hid hβ hf e (h.ev y) hk
      refine wpIn_of_run (by simp) ?_
      have hrun : (execOp a.eval ⟨none, .store t x y, type, pos, after, guard⟩).run P w = .ok .skip w' := by simp [execOp, hr]
      rw [hrun]
      refine ⟨s.setBox id (splice l off (s.ev y).cells), φ, ⟨fun u => hstep.tr _ _ (h.tmp u), h.size, hm'⟩, ?_, rfl, hK⟩
      have := hst.trans hstep
      simpa using this
    · rename_i id off cs hx
      obtain ⟨hi, hpos, hc, h1, hle, hn, hK⟩ := hK
      have hk : (s.ev y).known = true := by
        cases hy : s.ev y <;> first | rfl | (rw [hy] at h1; simp [PV.cells, PV.one] at h1)
      have e := h.ev x
      rw [hx] at e
      obtain ⟨w', hr, hm', hstep⟩ := store_arr hi hpos hc h1 hle hn h.mem e (h.ev y) hk
      refine wpIn_of_run (by simp) ?_
      have hrun : (execOp a.eval ⟨none, .store t x y, type, pos, after, guard⟩).run P w = .ok .skip w' := by simp [execOp, hr]
      rw [hrun]
      refine ⟨s.hit (wrs id off (s.ev y).cells), φ, ⟨fun u => hstep.tr _ _ (h.tmp u), h.size, hm'⟩, ?_, rfl, hK⟩
      rw [St.hit_eff]
      exact Anch.add hA (hst.trans hstep)
    · exact hK.elim
  | call c =>
    simp only [opW] at hK
    split at hK
    · rename_i f hcal
      split at hK
      · rename_i g caps hf
        exact good_call rfl hcal h hst hd hA hf hK.1 hY hK.2
      · rename_i l hf
        obtain ⟨y, st, pd, h1, h2, h3, h4, h5⟩ := hK
        exact good_yield rfl hcal h hst hd hA hf hY h3 h4 h5
      · exact hK.elim
    · rename_i hcal
      split at hK
      · rename_i t x ht hx
        obtain ⟨pv, hb, hK⟩ := hK
        obtain ⟨callee, args, ts⟩ := c
        obtain ⟨l⟩ := args
        simp only at hcal hx ht
        subst hcal; subst hx
        obtain ⟨v, hr, hv⟩ := len_ok (P := P) ht hb (h.ev x) type
        exact good_val (by simp) h hst hd (by simp [execOp, resolve, invoke, builtin, hr]) hv hK
      · exact hK.elim
    · rename_i hcal
      obtain ⟨pv, hb, hK⟩ := hK
      obtain ⟨callee, args, ts⟩ := c
      obtain ⟨l⟩ := args
      simp only at hcal
      subst hcal
      obtain ⟨v, hr, hv⟩ := (mm_ok (P := P) (pv := pv) (h.evs l) ts type).1 hb
      exact good_val (by simp) h hst hd (by simp [execOp, resolve, invoke, builtin, hr]) hv hK
    · rename_i hcal
      obtain ⟨pv, hb, hK⟩ := hK
      obtain ⟨callee, args, ts⟩ := c
      obtain ⟨l⟩ := args
      simp only at hcal
      subst hcal
      obtain ⟨v, hr, hv⟩ := (mm_ok (P := P) (pv := pv) (h.evs l) ts type).2 hb
      exact good_val (by simp) h hst hd (by simp [execOp, resolve, invoke, builtin, hr]) hv hK
    · rename_i hcal
      split at hK
      · rename_i t t' x y ht hx
        obtain ⟨rfl, hK⟩ := hK
        obtain ⟨callee, args, ts⟩ := c
        obtain ⟨l⟩ := args
        simp only at hcal hx ht
        subst hcal; subst hx; subst ht
        exact good_append rfl h hst hd (fun i φ w hs => Anch.add hA hs) hK
      · exact hK.elim
    · exact hK.elim
  | _ => exact hK.elim

end
end Go.Proofs.Ytlminnpaeaganaa
namespace Go.Proofs.Ytlminnpaeaganaa
open Go Go.RowKit
set_option linter.unusedVariables false

inductive Ex where
  | normal
  | exit (id : Nat)
  | ret

def Ex.of : Exit → Option Ex
  | .normal => some .normal
  | .exit i => some (.exit i)
  | .ret => some .ret
  | _ => none

/-- Marks of loops over functions among the deferred calls. -/
def Marks (φ : Phi) (w w0 : World) : List Deferred → Prop
  | [] => True
  | d :: ds => (∃ D, d = { target := .collected D, args := #[] } ∧ w0.heap.size ≤ D ∧ w.heap[D]? = some (.deferred (some [])) ∧ ¬ φ.own D ∧ ∀ d' ∈ ds, d' ≠ d) ∧ Marks φ w w0 ds

theorem Marks.rest {φ φ' : Phi} {w w' w0 : World} (r : Rest φ w φ' w') : ∀ {ds : List Deferred}, Marks φ w w0 ds → Marks φ' w' w0 ds
  | [], _ => trivial
  | d :: ds, ⟨⟨D, h1, h2, h3, h4, h5⟩, h⟩ => by
    have hlt : D < w.heap.size := (Array.getElem?_eq_some_iff.1 h3).1
    obtain ⟨k1, k2⟩ := r.rest D hlt h4 (fun o e => by rw [h3] at e; cases e)
    exact ⟨⟨D, h1, h2, k1.trans h3, k2, h5⟩, Marks.rest r h⟩

/-- The names that were there at the first point are old names of the frame. -/
def Old (A : Anchor) (s : St) : Prop := (∀ i b, A.φ0.arr i = some b → i < s.a0.a) ∧ (∀ i b, A.φ0.box i = some b → i < s.a0.n) ∧ ReadY s.a0.ys A.φ0 A.w0

def GoodC (A : Anchor) (N : Nat) (Q : Ex → St → Prop) : Exit → Act → World → Prop := fun e a' w' =>
  ∃ ex s' φ', Ex.of e = some ex ∧ SRel φ' w' N s' a' ∧ Anch A φ' w' s'.eff ∧ Marks φ' w' A.w0 a'.defers ∧ Old A s' ∧ Q ex s'

def dstOk (N : Nat) (o : Oper) : Bool := match o.dst with
  | some d => decide (d < N)
  | none => true
def dstsOk (N : Nat) : Code → Bool
  | .region _ ops _ => ops.toList.all (dstOk N)
  | .seq a b => dstsOk N a && dstsOk N b
  | .cond _ a b => dstsOk N a && dstsOk N b
  | .block _ c => dstsOk N c
  | .loop c => dstsOk N c
  | .rangeFunc _ ps a b => ps.toList.all (fun d => decide (d < N)) && dstsOk N a && dstsOk N b
  | .scope c => dstsOk N c
  | _ => true
/-- No loop over a function in it. -/
def noRange : Code → Bool
  | .seq x y => noRange x && noRange y
  | .cond _ x y => noRange x && noRange y
  | .block _ x => noRange x
  | .loop x => noRange x
  | .rangeFunc _ _ _ _ => false
  | .scope x => noRange x
  | _ => true
/-- Its targets lie in the frame; in a round's frame there is no loop over a function in it. -/
def okC (r : Option Nat) (N : Nat) (c : Code) : Bool := dstsOk N c && (r.isNone || noRange c)
theorem okC_dsts {r : Option Nat} {N : Nat} {c : Code} (h : okC r N c = true) : dstsOk N c = true := by
  simp only [okC, Bool.and_eq_true] at h; exact h.1
theorem okC_none {N : Nat} {c : Code} (h : dstsOk N c = true) : okC none N c = true := by simp [okC, h]
theorem okC_some {l N : Nat} {c : Code} (h : dstsOk N c = true) (k : noRange c = true) : okC (some l) N c = true := by simp [okC, h, k]
theorem okC_seq {r : Option Nat} {N : Nat} {x y : Code} (h : okC r N (.seq x y) = true) : okC r N x = true ∧ okC r N y = true := by
  simp only [okC, dstsOk, noRange, Bool.and_eq_true, Bool.or_eq_true] at h ⊢
  exact ⟨⟨h.1.1, h.2.imp_right And.left⟩, h.1.2, h.2.imp_right And.right⟩
theorem okC_cond {r : Option Nat} {N : Nat} {c : Operand} {x y : Code} (h : okC r N (.cond c x y) = true) : okC r N x = true ∧ okC r N y = true := by
  simp only [okC, dstsOk, noRange, Bool.and_eq_true, Bool.or_eq_true] at h ⊢
  exact ⟨⟨h.1.1, h.2.imp_right And.left⟩, h.1.2, h.2.imp_right And.right⟩

/-- What a piece of code does from an abstract frame, whatever stands for it. -/
def CodeSem (P : Program) (c : Code) (s : St) (Q : Ex → St → Prop) : Prop :=
  ∀ (A : Anchor) (φ : Phi) (w : World) (N n : Nat) (r : Option Nat) (a : Act), okC r N c = true → SRel φ w N s a → Anch A φ w s.eff → Old A s → Marks φ w A.w0 a.defers →
    c.wpIn (Fr r) n P (GoodC A N Q) a w

/-- The guard of an operation. -/
def guardW (ops : Array Oper) (s : St) (o : Oper) (X Y : Prop) : Prop := match o.guard with
  | none => X
  | some (j, want) => match (ops[j]?).bind (·.dst) with
    | some d => match s.g d with
      | .bool b => if b = want then X else Y
      | .undef => Y
      | _ => False
    | none => Y

/-- Whatever stands for the one stands for the other, too (with the names of its own choice). -/
def Silent (s s1 : St) : Prop := s1.a0 = s.a0 ∧ ∀ (φ : Phi) (w : World) (N : Nat) (a : Act) (A : Anchor), SRel φ w N s a → Anch A φ w s.eff → Old A s → ∃ φ', SRel φ' w N s1 a ∧ Anch A φ' w s1.eff
theorem Silent.refl (s : St) : Silent s s := ⟨rfl, fun φ _ _ _ _ h1 h2 _ => ⟨φ, h1, h2⟩⟩
theorem Silent.trans {s s1 s2 : St} (h : Silent s s1) (k : Silent s1 s2) : Silent s s2 :=
  ⟨k.1.trans h.1, fun φ w N a A h1 h2 h3 => by
    obtain ⟨φ', g1, g2⟩ := h.2 φ w N a A h1 h2 h3
    exact k.2 φ' w N a A g1 g2 (by unfold Old at h3 ⊢; rw [h.1]; exact h3)⟩

def opsW (P : Program) (ops : Array Oper) : List Oper → St → (St → Prop) → Prop
  | [], s, K => K s
  | o :: rest, s, K => guardW ops s o (∃ s1, Silent s s1 ∧ opW P s1 o fun s' => opsW P ops rest s' K) (opsW P ops rest (s.put o.dst .undef) K)

def vc (P : Program) : Code → St → (Ex → St → Prop) → Prop
  | .skip, s, Q => Q .normal s
  | .region _ ops false, s, Q => opsW P ops ops.toList s (Q .normal)
  | .seq x y, s, Q => vc P x s fun e s' => match e with
    | .normal => vc P y s' Q
    | .exit i => Q (.exit i) s'
    | .ret => Q .ret s'
  | .cond c x y, s, Q => ∃ t, s.ev c = .bool t ∧ (if t = true then vc P x s Q else vc P y s Q)
  | .block id c, s, Q => vc P c s fun e s' => match e with
    | .normal => Q .normal s'
    | .exit i => if i = id then Q .normal s' else Q (.exit i) s'
    | .ret => Q .ret s'
  | .exit id, s, Q => Q (.exit id) s
  | .ret, s, Q => Q .ret s
  | c, s, Q => CodeSem P c s Q

section
variable {P : Program} {φ : Phi} {w : World} {A : Anchor} {N n : Nat} {s : St} {a : Act} {r : Option Nat}

theorem aStore_imp {t : TypeId} {x v : PV} {K K' : St → Prop} (hk : ∀ s', s'.a0 = s.a0 → K s' → K' s') (h : aStore P s t x v K) : aStore P s t x v K' := by
  unfold aStore at *
  split at h
  · obtain ⟨h1, h2, h3, h4, l, h5, h6, h7⟩ := h
    exact ⟨h1, h2, h3, h4, l, h5, h6, hk _ (by simp) h7⟩
  · obtain ⟨h1, h2, h3, h4, h5, h6, h7⟩ := h
    exact ⟨h1, h2, h3, h4, h5, h6, hk _ (by simp) h7⟩
  · exact h.elim

theorem aAppend_imp {d : Option Tmp} {t : TypeId} {x y : PV} {K K' : St → Prop} (hk : ∀ s', s'.a0 = s.a0 → K s' → K' s') (h : aAppend P s d t x y K) : aAppend P s d t x y K' := by
  unfold aAppend at *
  split at h
  · obtain ⟨h1, h2, h3, h⟩ := h
    refine ⟨h1, h2, h3, ?_⟩
    split at h
    · obtain ⟨h4, h⟩ := h
      refine ⟨h4, ?_⟩
      split at h
      · obtain ⟨h5, h6, h⟩ := h
        exact ⟨h5, h6, hk _ (by split <;> simp) h⟩
      · obtain ⟨h5, h6, h7, h8, h9, h⟩ := h
        exact ⟨h5, h6, h7, h8, h9, hk _ (by simp) h⟩
      · exact h.elim
    · exact h.elim
  · exact h.elim

theorem opW_imp {o : Oper} {K K' : St → Prop} (hk : ∀ s', s'.a0 = s.a0 → K s' → K' s') (h : opW P s o K) : opW P s o K' := by
  obtain ⟨dst, op, type, pos, after, guard⟩ := o
  cases op with
  | move x => exact hk _ (by simp) h
  | assign x => exact hk _ (by simp) h
  | pick c x y => obtain ⟨t, h1, h2⟩ := h; exact ⟨t, h1, hk _ (by simp) h2⟩
  | binOp op t x y yt => obtain ⟨t, h1, h2⟩ := h; exact ⟨t, h1, hk _ (by simp) h2⟩
  | unOp op t x => obtain ⟨t, h1, h2⟩ := h; exact ⟨t, h1, hk _ (by simp) h2⟩
  | convert a b x => obtain ⟨t, h1, h2⟩ := h; exact ⟨t, h1, hk _ (by simp) h2⟩
  | fieldAddr t x f => obtain ⟨t, h1, h2⟩ := h; exact ⟨t, h1, hk _ (by simp) h2⟩
  | indexAddr t x f => obtain ⟨t, h1, h2⟩ := h; exact ⟨t, h1, hk _ (by simp) h2⟩
  | index t x f => obtain ⟨t, h1, h2⟩ := h; exact ⟨t, h1, hk _ (by simp) h2⟩
  | load t x => obtain ⟨t, h1, h2⟩ := h; exact ⟨t, h1, hk _ (by simp) h2⟩
  | alloc t => obtain ⟨t, h1, h2⟩ := h; exact ⟨t, h1, hk _ (by simp) h2⟩
  | build t ps => obtain ⟨t, h1, h2⟩ := h; exact ⟨t, h1, hk _ (by simp) h2⟩
  | box t x => exact ⟨h.1, hk _ (by simp) h.2⟩
  | store t x y => exact ⟨h.1, aStore_imp hk h.2⟩
  | nilCheck x =>
    simp only [opW] at h ⊢
    split at h
    · exact hk _ (by simp) h
    · exact hk _ (by simp) h
    · exact h.elim
  | extract x i =>
    simp only [opW] at h ⊢
    split at h
    · obtain ⟨t, h1, h2⟩ := h; exact ⟨t, h1, hk _ (by simp) h2⟩
    · exact h.elim
  | buildSlice t len ps =>
    simp only [opW] at h ⊢
    split at h
    · obtain ⟨h1, h2, h3, h4, cs, h5, h6⟩ := h; exact ⟨h1, h2, h3, h4, cs, h5, h6.imp (hk _ (by simp)) (hk _ (by simp))⟩
    · exact h.elim
  | makeSlice t l c =>
    simp only [opW] at h ⊢
    split at h
    · obtain ⟨z, h1, h2, h3, h4, h5, h6, h7, h8, h9⟩ := h; exact ⟨z, h1, h2, h3, h4, h5, h6, h7, h8, hk _ (by simp) h9⟩
    · exact h.elim
  | slice t x lo hi mx =>
    cases mx with
    | none => obtain ⟨t, h1, h2⟩ := h; exact ⟨t, h1, hk _ (by simp) h2⟩
    | some _ => exact h.elim
  | makeFunc fn first caps =>
    cases fn with
    | func f => exact ⟨h.1, hk _ (by simp) h.2⟩
    | _ => exact h.elim
  | call c =>
    simp only [opW] at h ⊢
    split at h
    · split at h
      · exact ⟨h.1, h.2.mono fun _ _ _ h => hk _ (by simp) h⟩
      · obtain ⟨y, st, pd, h1, h2, h3, h4, h5⟩ := h; exact ⟨y, st, pd, h1, h2, h3, h4, h5.mono fun _ _ _ h => hk _ (by simp) h⟩
      · exact h.elim
    · split at h
      · obtain ⟨t, h1, h2⟩ := h; exact ⟨t, h1, hk _ (by simp) h2⟩
      · exact h.elim
    · obtain ⟨t, h1, h2⟩ := h; exact ⟨t, h1, hk _ (by simp) h2⟩
    · obtain ⟨t, h1, h2⟩ := h; exact ⟨t, h1, hk _ (by simp) h2⟩
    · split at h
      · exact ⟨h.1, aAppend_imp hk h.2⟩
      · exact h.elim
    · exact h.elim
  | _ => exact h.elim

theorem yield_bool {ops : Array Oper} {j d : Nat} {b : Bool} (h : SRel φ w N s a) (hd : (ops[j]?).bind (·.dst) = some d) (hb : s.g d = .bool b) : yielded ops a.tmps j = some b := by
  have e := h.tmp d
  rw [hb] at e
  have e := rel_bool e
  have hlt : d < a.tmps.size := by
    rcases Nat.lt_or_ge d a.tmps.size with h' | h'
    · exact h'
    · simp [Array.getElem?_eq_none h', undef] at e
  have e2 : a.tmps[d]? = some (.bool b) := by simpa [hlt] using e
  simp [yielded, hd, e2]

theorem yield_undef {ops : Array Oper} {j d : Nat} (h : SRel φ w N s a) (hd : (ops[j]?).bind (·.dst) = some d) (hb : s.g d = .undef) : yielded ops a.tmps j = none := by
  have e := h.tmp d
  rw [hb] at e
  simp only [VRel] at e
  unfold yielded
  rw [hd]
  simp only [Option.bind_some]
  cases hg : a.tmps[d]? with
  | none => rfl
  | some v =>
    have : v = .tuple #[] := by simpa [hg] using e
    rw [this]

theorem guard_wanted {ops : Array Oper} {o : Oper} {X Y : Prop} (h : SRel φ w N s a) (hg : guardW ops s o X Y) :
    (Region.wanted o (yielded ops a.tmps) = true ∧ X) ∨ (Region.wanted o (yielded ops a.tmps) = false ∧ Y) := by
  unfold guardW at hg
  unfold Region.wanted
  split at hg
  · rename_i h0; rw [h0]; exact .inl ⟨rfl, hg⟩
  · rename_i j want h0
    rw [h0]
    split at hg
    · rename_i d hd
      split at hg
      · rename_i b hb
        simp only [yield_bool h hd hb]
        split at hg
        · rename_i hbw; subst hbw; exact .inl ⟨by simp, hg⟩
        · rename_i hbw; exact .inr ⟨by simpa using hbw, hg⟩
      · rename_i hb
        simp only [yield_undef h hd hb]
        exact .inr ⟨by simp, hg⟩
      · exact hg.elim
    · rename_i hd
      have : yielded ops a.tmps j = none := by simp [yielded, hd]
      simp only [this]
      exact .inr ⟨by simp, hg⟩

/-- The operations of a region, in the text's order. -/
theorem opsW_sound {ops : Array Oper} {K : St → Prop} {Q : Exit → Act → World → Prop} : ∀ (l : List Oper) (k : Nat) (s : St) (a : Act) (φ : Phi) (w : World), (∀ j, l[j]? = ops[k + j]?) → l.all (dstOk N) = true →
    SRel φ w N s a → Anch A φ w s.eff → Old A s → opsW P ops l s K → (∀ a' w', (∃ s', s'.a0 = s.a0 ∧ Good A N a.defers (fun u => u = s' ∧ K u) a' w') → Q .normal a' w') →
    wpOpsIn (Fr r) n P ops Q (List.range' k l.length) a w
  | [], k, s, a, φ, w, _, _, hs, ha, _, hK, hQ => by
    simp only [List.length_nil, List.range'_zero, wpOpsIn]
    exact hQ a w ⟨s, rfl, s, φ, hs, ha, rfl, rfl, hK⟩
  | o :: l, k, s, a, φ, w, hl, hd, hs, ha, hA, hK, hQ => by
    have h0 : ops[k]? = some o := by simpa using (hl 0).symm
    have hl' : ∀ j, l[j]? = ops[k + 1 + j]? := fun j => by have := hl (j + 1); simpa [Nat.add_assoc, Nat.add_comm 1 j] using this
    simp only [List.all_cons, Bool.and_eq_true] at hd
    have hdo : ∀ t, o.dst = some t → t < N := fun t e => by
      have := hd.1
      simp only [dstOk, e, decide_eq_true_eq] at this
      exact this
    simp only [List.length_cons, List.range'_succ, wpOpsIn, h0]
    rcases guard_wanted hs hK with ⟨hw, hX⟩ | ⟨hw, hY⟩
    · rw [if_pos hw]
      obtain ⟨s1, ⟨e1, hsil⟩, hX⟩ := hX
      obtain ⟨φ1, hs1, ha1⟩ := hsil φ w N a A hs ha hA
      have hA1 : Old A s1 := by unfold Old at hA ⊢; rw [e1]; exact hA
      refine Oper.wpIn_mono ?_ (opW_sound (A := A) hs1 ha1 hdo hA1.1 hA1.2.2 (opW_imp (fun s' e h => (⟨e, h⟩ : s'.a0 = s1.a0 ∧ _)) hX))
      rintro a' w' ⟨s', φ', h1, h2, h3, h4, h5⟩
      replace h4 := h4.trans e1
      exact opsW_sound l (k + 1) s' a' φ' w' hl' hd.2 h1 h2 (by unfold Old; rw [h4]; exact hA) h5 (fun a2 w2 ⟨s2, e2, h⟩ => hQ a2 w2 ⟨s2, e2.trans h4, by rw [← h3]; exact h⟩)
    · rw [if_neg (by simp [hw])]
      refine ⟨fun _ _ => trivial, ?_⟩
      have h1 : SRel φ w N (s.put o.dst .undef) (a.put o.dst undef) := hs.put hdo rfl
      exact opsW_sound l (k + 1) _ _ φ w hl' hd.2 h1 (by rw [St.put_eff]; exact ha) (by unfold Old; rw [St.put_a0]; exact hA) hY
        (fun a2 w2 ⟨s2, e2, h⟩ => hQ a2 w2 ⟨s2, by rw [e2, St.put_a0], by rw [put_defers] at h; exact h⟩)

theorem codeSem_mono {c : Code} {Q Q' : Ex → St → Prop} (h : CodeSem P c s Q) (hq : ∀ e s, Q e s → Q' e s) : CodeSem P c s Q' :=
  fun A φ w N n r a hd hs ha hA hm => wpIn_mono (h A φ w N n r a hd hs ha hA hm) fun _ _ _ ⟨ex, s', φ', h1, h2, h3, h4, h6, h5⟩ => ⟨ex, s', φ', h1, h2, h3, h4, h6, hq _ _ h5⟩

theorem codeSem_silent {c : Code} {s1 : St} {Q : Ex → St → Prop} (hs : Silent s s1) (h : CodeSem P c s1 Q) : CodeSem P c s Q := by
  intro A φ w N n r a hd hr ha hA hm
  obtain ⟨φ', h1, h2⟩ := hs.2 φ w N a ⟨A.φ0, A.w0, φ, w⟩ hr ⟨ha.st, Rest.refl φ w⟩ hA
  exact h A φ' w N n r a hd h1 ⟨h2.st, ha.re.trans h2.re⟩ (by unfold Old at hA ⊢; rw [hs.1]; exact hA) (hm.rest h2.re)

theorem sem_region {id : Nat} {ops : Array Oper} {Q : Ex → St → Prop} (h : opsW P ops ops.toList s (Q .normal)) : CodeSem P (.region id ops false) s Q := by
  intro A φ w N n r a hd hs ha hA hm
  have hd' : ops.toList.all (dstOk N) = true := okC_dsts hd
  refine wpIn_region ?_
  rw [List.range_eq_range', ← Array.length_toList]
  have ha' : Anch ⟨A.φ0, A.w0, φ, w⟩ φ w s.eff := ⟨ha.st, Rest.refl φ w⟩
  refine opsW_sound (A := ⟨A.φ0, A.w0, φ, w⟩) ops.toList 0 s a φ w (by simp) hd' hs ha' hA h ?_
  rintro a' w' ⟨s', e, s2, φ', h1, h2, h3, rfl, h5⟩
  exact ⟨.normal, s2, φ', rfl, h1, ⟨h2.st, ha.re.trans h2.re⟩, by rw [h3]; exact hm.rest h2.re, by unfold Old; rw [e]; exact hA, h5⟩

end

section
variable {P : Program} {s : St}
theorem sem_skip {Q : Ex → St → Prop} (h : Q .normal s) : CodeSem P .skip s Q := fun A φ w N n r a hd hs ha hA hm => wpIn_skip ⟨.normal, s, φ, rfl, hs, ha, hm, hA, h⟩
theorem sem_ret {Q : Ex → St → Prop} (h : Q .ret s) : CodeSem P .ret s Q := fun A φ w N n r a hd hs ha hA hm => wpIn_ret ⟨.ret, s, φ, rfl, hs, ha, hm, hA, h⟩
theorem sem_exit {id : Nat} {Q : Ex → St → Prop} (h : Q (.exit id) s) : CodeSem P (.exit id) s Q := fun A φ w N n r a hd hs ha hA hm => wpIn_exit ⟨.exit id, s, φ, rfl, hs, ha, hm, hA, h⟩
theorem sem_cond {c : Operand} {x y : Code} {Q : Ex → St → Prop} (t : Bool) (ht : s.ev c = .bool t) (h : if t = true then CodeSem P x s Q else CodeSem P y s Q) : CodeSem P (.cond c x y) s Q := by
  intro A φ w N n r a hd hs ha hA hm
  replace hd := okC_cond hd
  have e := hs.ev c
  rw [ht] at e
  refine wpIn_cond (rel_bool e) ?_
  cases t
  · have h : CodeSem P y s Q := by simpa using h
    exact h A φ w N n r a hd.2 hs ha hA hm
  · have h : CodeSem P x s Q := by simpa using h
    exact h A φ w N n r a hd.1 hs ha hA hm
theorem sem_block {id : Nat} {c : Code} {Q : Ex → St → Prop} (h : CodeSem P c s fun e s' => match e with
    | .normal => Q .normal s'
    | .exit i => if i = id then Q .normal s' else Q (.exit i) s'
    | .ret => Q .ret s') : CodeSem P (.block id c) s Q := by
  intro A φ w N n r a hd hs ha hA hm
  refine wpIn_block (wpIn_mono (h A φ w N n r a hd hs ha hA hm) ?_)
  rintro e a' w' ⟨ex, s', φ', he, k1, k2, k3, kA, k4⟩
  cases e <;> simp only [Ex.of, Option.some.injEq] at he <;> try (cases he; done)
  · subst he; exact ⟨.normal, s', φ', rfl, k1, k2, k3, kA, k4⟩
  · subst he
    simp only at k4
    simp only [Exit.inBlock]
    split
    · rename_i h; rw [if_pos h] at k4; exact ⟨.normal, s', φ', rfl, k1, k2, k3, kA, k4⟩
    · rename_i h; rw [if_neg h] at k4; exact ⟨.exit _, s', φ', rfl, k1, k2, k3, kA, k4⟩
  · subst he; exact ⟨.ret, s', φ', rfl, k1, k2, k3, kA, k4⟩
theorem sem_seq {x y : Code} {Q : Ex → St → Prop} (h : CodeSem P x s fun e s' => match e with
    | .normal => CodeSem P y s' Q
    | .exit i => Q (.exit i) s'
    | .ret => Q .ret s') : CodeSem P (.seq x y) s Q := by
  intro A φ w N n r a hd hs ha hA hm
  replace hd := okC_seq hd
  refine wpIn_seq (wpIn_mono (h A φ w N n r a hd.1 hs ha hA hm) ?_)
  rintro e a' w' ⟨ex, s', φ', he, k1, k2, k3, kA, k4⟩
  cases e <;> simp only [Ex.of, Option.some.injEq] at he <;> try (cases he; done)
  · subst he
    exact k4 A φ' w' N n r a' hd.2 k1 k2 kA k3
  · subst he; exact ⟨.exit _, s', φ', rfl, k1, k2, k3, kA, k4⟩
  · subst he; exact ⟨.ret, s', φ', rfl, k1, k2, k3, kA, k4⟩
end

end Go.Proofs.Ytlminnpaeaganaa
