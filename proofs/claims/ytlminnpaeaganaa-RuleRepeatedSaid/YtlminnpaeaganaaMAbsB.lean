/- A plain machine over abstract values, and that the program follows it. No condition. -/
import Derived.Test.YtlminnpaeaganaaMAbsA
import Derived.RangeFuncRecord
import Derived.RangeFuncLeaves
import Derived.OrdersIn
namespace Go.Proofs.Ytlminnpaeaganaa
open Go Go.RowKit
section
variable {P : Program} {φ : Phi} {w : World} {A : Anchor} {N n : Nat} {s : St} {a : Act} {K : St → Prop} {Q : Exit → Act → World → Prop} {r : Option Nat} {m : Mem}
theorem VRelL.of_noId {φ' : Phi} {w' : World} {j : Nat} (k : KeepsBut j φ w φ' w') {ps : List PV} {vs : List Value} (h : VRelL φ w ps vs) (hn : ∀ p ∈ ps, noId j p) : VRelL φ' w' ps vs := by
  have := VRelL.kill k ps vs h
  rwa [subL1_eq, List.map_congr_left (g := id) (fun p hp => hn p hp), List.map_id] at this
theorem run_wrs {id b : Nat} {off : Nat} {e : TypeId} (ha : φ.arr id = some b) (hinj : ∀ i, φ.arr i = some b → i = id) : ∀ (ps : List PV) (vs : List Value) (i : Nat) (w : World) (cur : Array Value),
    VRelL φ w ps vs → ps.all PV.one = true → (∀ p ∈ ps, noId id p) → w.heap[b]? = some (.cells cur e (0, 0)) → off + i + vs.length ≤ cur.size →
    ∃ w', (storeCells ⟨b, off, none⟩ vs i).run P w = .ok () w' ∧ (∀ q u, VRel φ w q u → VRel φ w' (q.sub (wrs id (off + i) ps)) u) ∧ (∀ k, k ≠ b → w'.heap[k]? = w.heap[k]?) ∧ w'.heap.size = w.heap.size ∧
      (∃ cur', w'.heap[b]? = some (.cells cur' e (0, 0)) ∧ cur'.size = cur.size) ∧ w'.os = w.os ∧ w'.tape = w.tape ∧ w'.output = w.output
  | [], vs, i, w, cur, hv, _, _, hb, _ => by
    simp only [VRelL] at hv
    subst hv
    exact ⟨w, by simp [storeCells], fun q u h => h, fun _ _ => rfl, rfl, ⟨cur, hb, rfl⟩, rfl, rfl, rfl⟩
  | p :: ps, vs, i, w, cur, hv, h1, hn, hb, hf => by
    obtain ⟨v, vs', rfl, hp, hvs⟩ := hv
    simp only [List.length_cons] at hf
    simp only [List.all_cons, Bool.and_eq_true] at h1
    have hcell : (w.cell? ⟨b, off + i, none⟩) = some (cur[off + i]'(by omega)) := by
      simp only [World.cell?, hb]
      simp
    have hfz : w.frozen? ⟨b, off + i, none⟩ = false := by simp [World.frozen?, hb]
    obtain ⟨w1, hw1⟩ : ∃ w1, w1 = w.setCell ⟨b, off + i, none⟩ v := ⟨_, rfl⟩
    have hother : ∀ k, k ≠ b → w1.heap[k]? = w.heap[k]? := fun k hk => by rw [hw1]; exact Below.heap_setCell w ⟨b, off + i, none⟩ v k hk
    have hrow : w1.heap[b]? = some (.cells (cur.setIfInBounds (off + i) v) e (0, 0)) := by
      rw [hw1]
      simp [World.setCell, Array.getElem?_modify, hb]
    have hkeep : KeepsBut id φ w φ w1 := by
      have hlt : b < w.heap.size := (Array.getElem?_eq_some_iff.1 hb).1
      refine ⟨fun _ _ h => h, fun _ _ _ h => h, fun _ _ h => h, by rw [hw1]; simp, fun j c hj hc => hother c (fun e => ?_), fun c _ ho => hother c (fun e => ho (.inr ⟨id, by rw [e]; exact ha⟩))⟩
      subst e
      exact hj (hinj j hc)
    have hpv : VRel φ w1 p v := by
      have := VRel.kill hkeep p v hp
      rwa [hn p (by simp)] at this
    have hwr : Writes id b (off + i) p φ w w1 := by
      refine ⟨ha, hinj, by rw [hw1]; simp, fun k hk _ => hother k hk, fun cur' e' h => ?_, ⟨_, _, hb⟩, fun o ho => ?_, ⟨v, ?_, hpv⟩⟩
      · rw [hb] at h
        injection h with h
        injection h with h2 h3 h4
        subst h2; subst h3
        exact ⟨_, hrow, by simp⟩
      · rw [hw1]
        exact World.cell?_setCell_other w ⟨b, off + i, none⟩ ⟨b, o, none⟩ v (fun e => ho (by injection e with _ e2; exact e2.symm))
      · rw [hw1]
        exact World.cell?_setCell_same w ⟨b, off + i, none⟩ v hcell
    have hvs1 : VRelL φ w1 ps vs' := VRelL.of_noId hkeep hvs (fun q hq => hn q (by simp [hq]))
    obtain ⟨w', hr, htr, ho, hs, ⟨cur', hc', hcs⟩, e1, e2, e3⟩ := run_wrs (off := off) ha hinj ps vs' (i + 1) w1 (cur.setIfInBounds (off + i) v) hvs1 h1.2 (fun q hq => hn q (by simp [hq])) hrow (by simp; omega)
    refine ⟨w', ?_, fun q u hq => htr _ _ (VRel.wr hwr q u hq), fun k hk => (ho k hk).trans (hother k hk), by rw [hs, hw1]; simp, ⟨cur', hc', by rw [hcs]; simp⟩, by rw [e1, hw1]; rfl, by rw [e2, hw1]; rfl, by rw [e3, hw1]; rfl⟩
    have hst := run_store P w ⟨b, off + i, none⟩ v .plain (rel_one hp h1.1)
    rw [hcell] at hst
    simp only [hfz, Bool.false_eq_true, if_false] at hst
    rw [storeCells]
    simp only [Sem.run_bind, add_mk, hst, Result.andThen_ok]
    rw [← hw1]
    exact hr
theorem box_sub (E : List Eff) (c : BoxC) : BoxC.sub E c = match c with | .cells l => .cells (l.map (PV.sub E)) | .inv I => .inv I | .hole => .hole := by
  unfold BoxC.sub
  induction E generalizing c with
  | nil => cases c <;> simp; exact (List.map_id' _).symm
  | cons e E ih =>
    rw [List.foldl_cons, ih]
    cases c <;> simp [BoxC.sub1]
    intro a _; rfl
theorem subL_map (E : List Eff) (l : List PV) : l.map (PV.sub E) = E.foldl (fun l e => subL1 e l) l := by
  induction E generalizing l with
  | nil => exact List.map_id' _
  | cons e E ih => rw [List.foldl_cons, ← ih, subL1_eq, List.map_map]; rfl
theorem brel_tr {φ' : Phi} {w' : World} {E : List Eff} (tr : ∀ q c, VRel φ w q c → VRel φ' w' (q.sub E) c) {c : BoxC} {vs : List Value} (h : BRel φ w c vs) : BRel φ' w' (c.sub E) vs := by
  have hl : ∀ l : List PV, VRelL φ w l vs → VRelL φ' w' (l.map (PV.sub E)) vs := fun l hl => by
    rw [vrelL_iff] at hl ⊢
    refine ⟨by simp [hl.1], fun j p v hj hv => ?_⟩
    rw [List.getElem?_map] at hj
    obtain ⟨q, hq, rfl⟩ := Option.map_eq_some_iff.1 hj
    exact tr q v (hl.2 j q v hq hv)
  rw [box_sub]
  cases c with
  | cells l => exact hl l h
  | inv I =>
    obtain ⟨l, h1, h2, h4, h3⟩ := h
    refine ⟨l, h1, h2, h4, ?_⟩
    have hfix : l.map (PV.sub E) = l := by
      rw [subL_map]
      clear h1 h3 h4 hl tr
      induction E with
      | nil => rfl
      | cons e E ih => rw [List.foldl_cons, h2, ih]
    rw [← hfix]
    exact hl l h3
  | hole => exact h.elim
theorem hole_sub (E : List Eff) (c : BoxC) (h : c = .hole) : c.sub E = .hole := by subst h; rw [box_sub]
theorem store_arr {t : TypeId} {id off : Nat} {cs : List PV} {pv : PV} {v vx : Value} (hi : (P.info? t).isSome) (hpos : 0 < P.cellsOf t) (hc : pv.cells.length = P.cellsOf t) (h1 : pv.cells.all PV.one = true) (hle : pv.cells.length ≤ cs.length)
    (hn : ∀ c ∈ pv.cells, noId id c) (hm : MRel φ m w) (hx : VRel φ w (.eref (some id) off cs) vx) (hv : VRel φ w pv v) (hk : pv.known = true) :
    ∃ w', (Instr.storeAt t vx v).run P w = .ok () w' ∧ MRel φ { m with β := fun i => (m.β i).sub (wrs id off pv.cells) } w' ∧ Step φ w φ w' (wrs id off pv.cells) := by
  obtain ⟨b, rfl, ⟨ha, cur, e, hb, _⟩, hat⟩ := hx
  have hvc := rel_cells hv hk
  have hlen := vrelL_length hvc
  have hinj : ∀ i, φ.arr i = some b → i = id := fun i h => hm.arrinj i id b h ha
  have hfit : off + 0 + v.cells.toList.length ≤ cur.size := by
    rw [← hlen]
    have hj : cs[pv.cells.length - 1]? = some (cs[pv.cells.length - 1]'(by omega)) := by simp
    obtain ⟨c, hcell, _⟩ := vrelAt_iff.1 hat _ _ hj
    simp only [World.cell?, hb] at hcell
    have := (Array.getElem?_eq_some_iff.1 (by simpa using hcell)).1
    omega
  obtain ⟨w', hr, htr, ho, hs, ⟨cur', hc', hcs⟩, e1, e2, e3⟩ := run_wrs (P := P) ha hinj pv.cells v.cells.toList 0 w cur hvc h1 hn hb hfit
  have hsz : v.cells.size = P.cellsOf t := by rw [← hc, hlen]; simp
  rw [Nat.add_zero] at htr
  refine ⟨w', by simp [Instr.storeAt, Instr.sureAddr, storeVar, hsz, run_sizeOf hi, hr], ⟨fun i hi => ?_, hm.boxn, fun i c hc => ?_, hm.boxinj, hm.arrinj, hm.sep, fun l o h => (ho l (fun e => by have := hm.rcs l o h; rw [e, hb] at this; cases this)).trans (hm.rcs l o h)⟩, ⟨htr, e1, e2, e3, by omega, fun c hlt hno _ => ⟨ho c (fun e => hno (.inr ⟨id, by rw [e]; exact ha⟩)), hno⟩⟩⟩
  · rcases hm.box i hi with ⟨g1, g2⟩ | ⟨c, cur', e', hc', hh', hr'⟩
    · exact .inl ⟨hole_sub _ _ g1, g2⟩
    exact .inr ⟨c, cur', e', hc', (ho c (fun e => hm.sep i id c hc' (by rw [e]; exact ha))).trans hh', brel_tr htr hr'⟩
  · obtain ⟨h1, h2⟩ := hm.arr i c hc
    by_cases hcb : c = b
    · subst hcb
      exact ⟨h1, AO.cells hc'⟩
    · exact ⟨h1, h2.of_eq (ho c hcb)⟩
theorem mrel_kill {w' : World} {id b nb : Nat} (hm : MRel φ m w) (ha : φ.arr id = some b) (hnb : nb = b ∨ nb = w.heap.size) (hs : w.heap.size ≤ w'.heap.size)
    (ho : ∀ c, c < w.heap.size → c ≠ b → w'.heap[c]? = w.heap[c]?) (hrow : AO w' nb) :
    KeepsBut id φ w (φ.withArr id nb) w' ∧ MRel (φ.withArr id nb) { m with β := fun i => (m.β i).sub [.kill id] } w' := by
  have hb := arr_lt hm ha
  have hne : ∀ i c, i ≠ id → φ.arr i = some c → c ≠ b := fun i c hi hc e => hi (hm.arrinj i id b (by rw [← e]; exact hc) ha)
  have k : KeepsBut id φ w (φ.withArr id nb) w' := by
    refine ⟨fun _ _ h => h, fun i c hi hc => by simp [Phi.withArr, hi, hc], fun c hc hno h => ?_, hs, fun i c hi hc => ho c (arr_lt hm hc) (hne i c hi hc), fun c hc hno => ho c hc (fun e => hno (.inr ⟨id, by rw [e]; exact ha⟩))⟩
    rcases own_withArr h with h | h
    · exact hno h
    · rcases hnb with e | e
      · subst h; subst e; exact hno (.inr ⟨id, ha⟩)
      · omega
  have tr : ∀ q c, VRel φ w q c → VRel (φ.withArr id nb) w' (q.sub [.kill id]) c := fun q c h => VRel.kill k q c h
  refine ⟨k, ⟨fun i hi => ?_, hm.boxn, fun i c hc => ?_, hm.boxinj, fun i j c h1 h2 => ?_, fun i j c h1 h2 => ?_, fun l o h => (ho l (Array.getElem?_eq_some_iff.1 (hm.rcs l o h)).1 (fun e => by have := hm.rcs l o h; rw [e] at this; exact (hm.arr id b ha).2.noloop _ this)).trans (hm.rcs l o h)⟩⟩
  · rcases hm.box i hi with ⟨g1, g2⟩ | ⟨c, cur, e, hc, hh, hr⟩
    · exact .inl ⟨hole_sub _ _ g1, g2⟩
    exact .inr ⟨c, cur, e, hc, (ho c (box_lt hm hc) (fun e => hm.sep i id c hc (by rw [e]; exact ha))).trans hh, brel_tr tr hr⟩
  · simp only [Phi.withArr] at hc
    split at hc
    · rename_i hi
      subst hi
      have := Option.some.inj hc
      subst this
      exact ⟨(hm.arr i b ha).1, hrow⟩
    · rename_i hi
      obtain ⟨h1, h2⟩ := hm.arr i c hc
      exact ⟨h1, h2.of_eq (ho c (arr_lt hm hc) (hne i c hi hc))⟩
  · simp only [Phi.withArr] at h1 h2
    split at h1 <;> split at h2
    · omega
    · rename_i hi hj
      have := Option.some.inj h1; subst this
      rcases hnb with e | e
      · exact absurd e (hne j nb hj h2)
      · exact absurd (arr_lt hm h2) (by omega)
    · rename_i hi hj
      have := Option.some.inj h2; subst this
      rcases hnb with e | e
      · exact absurd e (hne i nb hi h1)
      · exact absurd (arr_lt hm h1) (by omega)
    · exact hm.arrinj i j c h1 h2
  · simp only [Phi.withArr] at h2
    split at h2
    · have := Option.some.inj h2; subst this
      rcases hnb with e | e
      · exact hm.sep i id b (by rw [← e]; exact h1) ha
      · exact absurd (box_lt hm h1) (by omega)
    · exact hm.sep i j c h1 h2
theorem good_kill {id : Nat} {o : Oper} (ho : ∀ c, o.op ≠ .defer c) (h : SRel φ w N s a) (hst : Anch A φ w s.eff) (hd : ∀ t, o.dst = some t → t < N) (hadd : ∀ φ w, Anch A φ w (s.eff ++ [Eff.kill id]) → Anch A φ w (addEff s.a0.a s.eff [Eff.kill id]))
    {w' : World} {b nb : Nat} (ha : φ.arr id = some b) (hnb : nb = b ∨ nb = w.heap.size) (hs : w.heap.size ≤ w'.heap.size)
    (hoth : ∀ c, c < w.heap.size → c ≠ b → w'.heap[c]? = w.heap[c]?) (hos : w'.os = w.os) (htp : w'.tape = w.tape) (hou : w'.output = w.output)
    {cur : Array Value} {e : TypeId} (hrow : w'.heap[nb]? = some (.cells cur e (0, 0))) {sz len cap : Nat} {l : List PV} {vs : List Value}
    (hr : (execOp a.eval o).run P w = .ok (.value (.slice (some ⟨nb, 0, none⟩) len cap)) w')
    (hlen : l.length = len * sz) (hcap : len ≤ cap) (hsz : cap * sz ≤ cur.size) (hl : VRelL φ w l vs) (hn : ∀ c ∈ l, noId id c) (hvs : ∀ (j : Nat) v, vs[j]? = some v → cur[j]? = some v)
    (hK : K ((s.hit [.kill id]).put o.dst (.sl (some id) sz 0 len l))) : o.wpIn (Fr r) n P a w (Good A N a.defers K) Q := by
  refine wpIn_of_run ho ?_
  rw [hr]
  obtain ⟨k, hm⟩ := mrel_kill h.mem ha hnb hs hoth (AO.cells hrow)
  have tr : ∀ q c, VRel φ w q c → VRel (φ.withArr id nb) w' (q.sub [.kill id]) c := fun q c h => VRel.kill k q c h
  have hl' : VRelL (φ.withArr id nb) w' l vs := VRelL.of_noId k hl hn
  refine ⟨(s.hit [.kill id]).put o.dst (.sl (some id) sz 0 len l), φ.withArr id nb, ?_, ?_, put_defers _ _ _, hK⟩
  · have h1 : SRel (φ.withArr id nb) w' N (s.hit [.kill id]) a := ⟨fun t => tr _ _ (h.tmp t), h.size, hm⟩
    refine h1.put hd ⟨hlen, _, cap, rfl, hcap, .inr ⟨nb, rfl, ⟨by simp [Phi.withArr], cur, e, hrow, by omega⟩, vrelAt_mk fun j p hj => ?_⟩⟩
    obtain ⟨v, hv, hp⟩ := vrelL_get hl' hj
    exact ⟨v, by simp only [World.cell?, hrow]; simpa using hvs j v hv, hp⟩
  · rw [St.put_eff]
    exact hadd _ _ (hst.trans ⟨tr, hos, htp, hou, hs, fun c hc hno _ => ⟨k.rest c hc hno, k.imm c hc hno⟩⟩)
theorem tail_src {sz m : Nat} {news : List PV} {y : PV} (h : aTail sz y = some (m, news)) {vy : Value} (hy : VRel φ w y vy) :
    news.length = m * sz ∧ ∃ ay cy, vy = .slice ay m cy ∧ (0 < m → ∃ b off vs, ay = some ⟨b, off, none⟩ ∧ VRelL φ w news vs ∧ ∀ j v, vs[j]? = some v → w.cell? ⟨b, off + j, none⟩ = some v) := by
  unfold aTail at h
  split at h
  · injection h with h
    injection h with h1 h2
    subst h1; subst h2
    simp only [VRel] at hy
    subst hy
    exact ⟨by simp, none, 0, rfl, fun h => absurd h (by omega)⟩
  · rename_i id sz' off len cs
    split at h
    · rename_i hs
      injection h with h
      injection h with h1 h2
      subst h1; subst h2
      obtain ⟨hl, a, cap, rfl, hcap, hp⟩ := hy
      refine ⟨?_, a, cap, rfl, fun hpos => ?_⟩
      · rcases hs with e | e
        · rw [hl, e]
        · rw [hl, e]; simp
      · rcases hp with hp | ⟨b, rfl, hp, hat⟩
        · omega
        · obtain ⟨vs, hvs, hg⟩ := vals_of_at hat
          exact ⟨b, off, vs, rfl, hvs, hg⟩
    · cases h
  · cases h
theorem run_append_room' (w : World) (t ty e e0 : TypeId) (i : TypeInfo) (ht : P.underlying t = some (.slice e)) (hi : P.info? e = some i)
    (g sLen sCap : Nat) (cur : Array Value) (hg : w.heap[g]? = some (.cells cur e0 (0, 0)))
    (a : Addr) (m c : Nat) (news : List Value) (hl : news.length = m * i.size) (hnews : ∀ j u, news[j]? = some u → w.cell? (a.add j) = some u) (h1 : ∀ u ∈ news, u.oneCell' = true)
    (hroom : sLen + m ≤ sCap) (hfit : sLen * i.size + news.length ≤ cur.size) :
    (Builtin.append_ #[t, t] ty #[.slice (some ⟨g, 0, none⟩) sLen sCap, .slice (some a) m c]).run P w =
      .ok (.slice (some ⟨g, 0, none⟩) (sLen + m) sCap) (w.setRow g (cur.toList.take (sLen * i.size) ++ news ++ cur.toList.drop (sLen * i.size + news.length)).toArray) := by
  have hf := run_firstCells_some (P := P) w i.size m a m c news hl hnews
  have hst := run_storeCells_at P g (sLen * i.size) e0 news 0 cur w hg (by simpa using hfit) h1
  simp only [Nat.add_zero] at hst
  simp [Builtin.append_, run_underlying ht, sizeOf, typeInfo, hi, Builtin.lenOf, hroom, hf, Addr.add_lit, hst]
theorem run_append_zero (w : World) (t ty e : TypeId) (i : TypeInfo) (ht : P.underlying t = some (.slice e)) (hi : P.info? e = some i)
    (ax : Option Addr) (sLen sCap : Nat) (hle : sLen ≤ sCap) (ay : Option Addr) (c : Nat) :
    (Builtin.append_ #[t, t] ty #[.slice ax sLen sCap, .slice ay 0 c]).run P w = .ok (.slice ax sLen sCap) w := by
  cases ay <;> cases ax <;> simp [Builtin.append_, run_underlying ht, sizeOf, typeInfo, hi, Builtin.lenOf, Builtin.firstCells, hle, loadCells, loadCellsFrom, storeCells]
end
end Go.Proofs.Ytlminnpaeaganaa
namespace Go.Proofs.Ytlminnpaeaganaa
open Go Go.RowKit
section
variable {P : Program} {φ : Phi} {w : World} {A : Anchor} {N n : Nat} {s : St} {a : Act} {K : St → Prop} {Q : Exit → Act → World → Prop} {r : Option Nat} {m : Mem}
theorem cells_get {b off : Nat} {cur : Array Value} {e : TypeId} {f : Nat × Nat} (h : w.heap[b]? = some (.cells cur e f)) {j : Nat} {v : Value} (hc : w.cell? ⟨b, off + j, none⟩ = some v) : cur[off + j]? = some v := by
  simp only [World.cell?, h] at hc
  simpa using hc
theorem good_append {o : Oper} {t : TypeId} {x y : Operand} (ho : o.op = .call { callee := .builtin .append, args := #[x, y], argTypes := #[t, t] })
    (h : SRel φ w N s a) (hst : Anch A φ w s.eff) (hd : ∀ t, o.dst = some t → t < N) (hadd : ∀ (i : Nat) φ w, Anch A φ w (s.eff ++ [Eff.kill i]) → Anch A φ w (addEff s.a0.a s.eff [Eff.kill i]))
    (hK : aAppend P s o.dst t (s.ev x) (s.ev y) K) : o.wpIn (Fr r) n P a w (Good A N a.defers K) Q := by
  have hdf : ∀ c, o.op ≠ .defer c := fun c e => by rw [ho] at e; cases e
  have hrun : ∀ {v : Value} {w' : World}, (Builtin.append_ #[t, t] o.type #[a.eval x, a.eval y]).run P w = .ok v w' → (execOp a.eval o).run P w = .ok (.value v) w' := fun {v w'} hr => by
    simp [execOp, ho, resolve, invoke, builtin, hr]
  unfold aAppend at hK
  split at hK
  · rename_i e hu
    obtain ⟨hi, hpos, hzz, hK⟩ := hK
    obtain ⟨i, hi', hsz, hby⟩ := info_of_isSome hi
    obtain ⟨z, hz, hzc⟩ : ∃ z, i.zero = some z ∧ z.cells.size = i.size := by
      unfold zeroOf at hzz
      rw [hi'] at hzz
      simp only [Option.bind_some] at hzz
      cases hzi : i.zero with
      | none => rw [hzi] at hzz; simp at hzz
      | some z => rw [hzi] at hzz; exact ⟨z, rfl, by simpa [hsz] using hzz⟩
    split at hK
    · rename_i mm news hy
      obtain ⟨hone, hK⟩ := hK
      obtain ⟨hnl, ay, cy, ey, hsrc⟩ := tail_src hy (h.ev y)
      rw [ey] at hrun
      split at hK
      · rename_i hx
        obtain ⟨hb1, hb2, hK⟩ := hK
        have ex : a.eval x = .slice none 0 0 := by have := h.ev x; rw [hx] at this; exact this
        rw [ex] at hrun
        rcases Nat.eq_zero_or_pos mm with h0 | h0
        · subst h0
          rw [if_pos rfl] at hK
          exact good_val hdf h hst hd (hrun (run_append_zero w t o.type e i hu hi' none 0 0 (Nat.le_refl _) ay cy)) (pv := .snil) rfl hK
        · rw [if_neg (by omega)] at hK
          obtain ⟨b, off, vs, rfl, hvs, hg⟩ := hsrc h0
          have hvl : vs.length = mm * i.size := by rw [← vrelL_length hvs, hnl, hsz]
          have hge := grownCap_ge w mm 0 e
          refine good_arr hdf h hst hd (Grows.drew_alloc w _) (hrun (run_append_nil w t o.type e i z hu hi' hz ⟨b, off, none⟩ mm cy vs hvl (fun j v hv => by rw [add_mk]; exact hg j v hv) h0 (by omega) (by rw [hby] at hb1; omega)))
            (heap_alloc_new w.drew _) (sz := P.cellsOf e) hnl hge ?_ hvs (fun j v hv => ?_) hK
          · rw [Array.size_append, List.size_toArray, size_zeroCells, hzc, hvl, hsz, ← Nat.add_mul]
            congr 1; omega
          · have hj : j < vs.length := (List.getElem?_eq_some_iff.1 hv).1
            rw [Array.getElem?_append_left (by simpa using hj)]
            simpa using hv
      · rename_i id sz off len cs hx
        obtain ⟨rfl, rfl, hb1, hb2, hn, hK⟩ := hK
        have hxv := h.ev x
        rw [hx] at hxv
        obtain ⟨hl, ax, cap, ex, hcap, hp⟩ := hxv
        rw [ex] at hrun
        rcases hp with hp | ⟨b, rfl, ⟨ha, cur, e0, hb, hroom⟩, hat⟩
        · exact absurd hp.1 (by simp)
        obtain ⟨vs, hvs, hg⟩ := vals_of_at hat
        have hgc : ∀ (j : Nat) v, vs[j]? = some v → cur[j]? = some v := fun j v hv => by
          have := cells_get hb (hg j v hv)
          simpa using this
        have hvl : vs.length = len * i.size := by rw [← vrelL_length hvs, hl, hsz]
        rcases Nat.eq_zero_or_pos mm with h0 | h0
        · subst h0
          have hn0 : news = [] := List.eq_nil_of_length_eq_zero (by simpa using hnl)
          subst hn0
          rw [List.append_nil] at hK hn
          exact good_kill hdf h hst hd (hadd id) ha (.inl rfl) (Nat.le_refl _) (fun _ _ _ => rfl) rfl rfl rfl hb (hrun (run_append_zero w t o.type e i hu hi' _ len cap hcap ay cy)) hl hcap (by omega) hvs hn hgc hK
        · obtain ⟨b', off', us, rfl, hus, hg'⟩ := hsrc h0
          have hul : us.length = mm * i.size := by rw [← vrelL_length hus, hnl, hsz]
          have hnews : ∀ j u, us[j]? = some u → w.cell? ((⟨b', off', none⟩ : Addr).add j) = some u := fun j v hv => by rw [add_mk]; exact hg' j v hv
          have hlen : (cs ++ news).length = (len + mm) * P.cellsOf e := by rw [List.length_append, hl, hnl, Nat.add_mul]
          have hvu := vrelL_append hvs hus
          by_cases hfit : len + mm ≤ cap
          · have hcells : len * i.size + us.length ≤ cur.size := by
              rw [hul, ← Nat.add_mul, ← hsz]
              exact Nat.le_trans (Nat.mul_le_mul_right _ hfit) (by omega)
            have hr := run_append_room' (P := P) w t o.type e e0 i hu hi' b len cap cur hb ⟨b', off', none⟩ mm cy us hul hnews (relL_one hus hone) hfit hcells
            have hcl : cur.toList.length = cur.size := by simp
            refine good_kill hdf h hst hd (hadd id) ha (.inl rfl) (by rw [setRow_size]; exact Nat.le_refl _) (fun c _ hc => setRow_other w b c _ hc) rfl rfl rfl (setRow_heap w b cur _ e0 _ hb) (hrun hr) hlen hfit ?_ hvu hn (fun j v hv => ?_) hK
            · simp only [List.size_toArray, List.length_append, List.length_take, List.length_drop, Array.length_toList]
              omega
            · have htk : vs = cur.toList.take (len * i.size) := by
                apply List.ext_getElem?
                intro k
                rw [List.getElem?_take]
                by_cases hk : k < len * i.size
                · rw [if_pos hk]
                  have hk' : k < vs.length := by omega
                  have := hgc k vs[k] (by simp [hk'])
                  simp [hk'] at this ⊢
                  exact this.symm
                · rw [if_neg hk, List.getElem?_eq_none (by omega)]
              rw [← htk]
              have hj : j < (vs ++ us).length := (List.getElem?_eq_some_iff.1 hv).1
              simp only [List.getElem?_toArray]
              rw [List.getElem?_append_left hj]
              exact hv
          · have hr := run_append_grow (P := P) w t o.type e i z hu hi' hz ⟨b, 0, none⟩ len cap vs hvl (fun j v hv => by rw [add_mk]; exact hg j v hv) ⟨b', off', none⟩ mm cy us hul hnews (by omega) (by omega)
              (growslice_fits (by omega) (by rw [← hby]; exact hb1))
            have hge := grownCap_ge w (len + mm) cap e
            refine good_kill hdf h hst hd (hadd id) ha (.inr rfl) (by simp) (fun c hc _ => heap_alloc_lt w.drew _ c hc) rfl rfl rfl (heap_alloc_new w.drew _) (hrun hr) hlen hge ?_ hvu hn (fun j v hv => ?_) hK
            · rw [Array.size_append, Array.size_append, List.size_toArray, List.size_toArray, size_zeroCells, hzc, hvl, hul, hsz, ← Nat.add_mul, ← Nat.add_mul]
              exact Nat.mul_le_mul_right _ (by omega)
            · have hj : j < (vs ++ us).length := (List.getElem?_eq_some_iff.1 hv).1
              rw [Array.getElem?_append_left (by simpa using hj)]
              simpa using hv
      · exact hK.elim
    · exact hK.elim
  · exact hK.elim
theorem foldl_set (off : Nat) : ∀ (vs : List Value) (k : Nat) (cells : Array Value), ((vs.zipIdx k).foldl (fun cs (c, j) => cs.setIfInBounds (off + j) c) cells).size = cells.size ∧
    ∀ i, ((vs.zipIdx k).foldl (fun cs (c, j) => cs.setIfInBounds (off + j) c) cells)[i]? = if off + k ≤ i ∧ i < off + k + vs.length ∧ i < cells.size then vs[i - (off + k)]? else cells[i]?
  | [], k, cells => by simp; intro i h1 h2; omega
  | v :: vs, k, cells => by
    rw [List.zipIdx_cons, List.foldl_cons]
    obtain ⟨h1, h2⟩ := foldl_set off vs (k + 1) (cells.setIfInBounds (off + k) v)
    refine ⟨by rw [h1]; simp, fun i => ?_⟩
    rw [h2 i]
    simp only [Array.size_setIfInBounds, List.length_cons]
    by_cases hi : i < cells.size
    · by_cases h0 : i = off + k
      · subst h0
        rw [if_neg (by omega), if_pos ⟨by omega, by omega, hi⟩]
        simp [hi]
      · by_cases hin : off + (k + 1) ≤ i ∧ i < off + (k + 1) + vs.length ∧ i < cells.size
        · rw [if_pos hin, if_pos ⟨by omega, by omega, hi⟩, show i - (off + k) = (i - (off + (k + 1))) + 1 by omega]
          simp
        · rw [if_neg hin, if_neg (by omega), Array.getElem?_setIfInBounds_ne (by omega)]
    · rw [if_neg (by omega), if_neg (by omega)]
      by_cases h0 : off + k = i
      · subst h0; simp [hi]
      · rw [Array.getElem?_setIfInBounds_ne h0]
theorem fold_splice (off : Nat) (vs cells : Array Value) (h : off + vs.size ≤ cells.size) :
    (vs.zipIdx.foldl (fun cs (c, j) => cs.setIfInBounds (off + j) c) cells).toList = cells.toList.take off ++ vs.toList ++ cells.toList.drop (off + vs.toList.length) := by
  have hf := foldl_set off vs.toList 0 cells
  have he : vs.zipIdx.foldl (fun cs (c, j) => cs.setIfInBounds (off + j) c) cells = (vs.toList.zipIdx 0).foldl (fun cs (c, j) => cs.setIfInBounds (off + j) c) cells := by
    rw [← Array.foldl_toList]; simp
  rw [he]
  obtain ⟨_, h2⟩ := hf
  apply List.ext_getElem?
  intro i
  rw [Array.getElem?_toList, h2 i]
  simp only [Nat.add_zero, Array.length_toList]
  have htl : (cells.toList.take off).length = off := by simp; omega
  by_cases h1 : i < off
  · rw [if_neg (by omega), List.append_assoc, List.getElem?_append_left (by omega), List.getElem?_take, if_pos h1]
    simp
  · by_cases h3 : i < off + vs.size
    · rw [if_pos ⟨by omega, h3, by omega⟩, List.append_assoc, List.getElem?_append_right (by omega), htl, List.getElem?_append_left (by simp; omega)]
    · rw [if_neg (by omega), List.getElem?_append_right (by simp; omega), List.getElem?_drop]
      simp only [List.length_append, htl, Array.length_toList]
      rw [show off + vs.size + (i - (off + vs.size)) = i by omega]
      simp
theorem fill_ok {place : Nat → Option (Nat × Nat)} : ∀ (parts : List (Nat × PV)) (vparts : List (Nat × Value)) (zs cs : List PV) (cells : Array Value), aFill place zs parts = some cs → VRelL φ w zs cells.toList →
    parts.map (·.1) = vparts.map (·.1) → VRelL φ w (parts.map (·.2)) (vparts.map (·.2)) → ∃ vs, Instr.fill place cells vparts = some vs ∧ VRelL φ w cs vs.toList
  | [], vparts, zs, cs, cells, h, hz, hi, hv => by
    have : vparts = [] := by cases vparts <;> simp at hi ⊢
    subst this
    simp only [aFill] at h
    injection h with h; subst h
    exact ⟨cells, rfl, hz⟩
  | (i, p) :: parts, vparts, zs, cs, cells, h, hz, hi, hv => by
    cases vparts with
    | nil => simp at hi
    | cons q vparts =>
      obtain ⟨i', v⟩ := q
      simp only [List.map_cons, List.cons.injEq] at hi
      obtain ⟨rfl, hi⟩ := hi
      simp only [List.map_cons] at hv
      obtain ⟨v', vs', e, hp, hvs⟩ := hv
      injection e with e1 e2
      subst e1; subst e2
      simp only [aFill] at h
      split at h
      · cases h
      · rename_i off size hpl
        split at h
        · rename_i hc
          have hpc := rel_cells hp hc.1
          have hlen : p.cells.length = v.cells.size := by simpa using vrelL_length hpc
          have hzl : zs.length = cells.size := by simpa using vrelL_length hz
          have hfit : off + v.cells.size ≤ cells.size := by omega
          obtain ⟨vs, hf, hr⟩ := fill_ok parts vparts (splice zs off p.cells) cs _ h (by rw [fold_splice off v.cells cells hfit]; exact vrelL_splice hz hpc off) hi hvs
          refine ⟨vs, ?_, hr⟩
          simp only [Instr.fill, hpl]
          rw [if_neg (by simp; omega)]
          exact hf
        · cases h
theorem vrelL_const (φ : Phi) (w : World) (l : List Value) : VRelL φ w (l.map pvOf) l := by
  induction l with
  | nil => rfl
  | cons v l ih => exact ⟨v, l, rfl, vrel_pvOf φ w v, ih⟩
theorem zeroCs_some {t : TypeId} {z : List PV} (h : zeroCs P t = some z) : ∃ i zv, P.info? t = some i ∧ i.zero = some zv ∧ z = zv.cells.toList.map pvOf := by
  unfold zeroCs zeroOf at h
  cases hi : P.info? t with
  | none => rw [hi] at h; simp at h
  | some i =>
    rw [hi] at h
    simp only [Option.bind_some] at h
    cases hz : i.zero with
    | none => rw [hz] at h; simp at h
    | some zv => rw [hz] at h; simp only [Option.map_some] at h; exact ⟨i, zv, rfl, hz, (Option.some.inj h).symm⟩
theorem parts_rel (h : SRel φ w N s a) (parts : Array (Nat × Operand)) :
    (parts.toList.map fun p => (p.1, s.ev p.2)).map (·.1) = ((parts.map fun (i, x) => (i, a.eval x)).toList).map (·.1) ∧
    VRelL φ w ((parts.toList.map fun p => (p.1, s.ev p.2)).map (·.2)) (((parts.map fun (i, x) => (i, a.eval x)).toList).map (·.2)) := by
  obtain ⟨l⟩ := parts
  simp only [List.map_toArray, List.map_map]
  refine ⟨by simp, ?_⟩
  induction l with
  | nil => rfl
  | cons p l ih => exact ⟨_, _, rfl, h.ev p.2, ih⟩
theorem build_ok {t : TypeId} {parts : Array (Nat × Operand)} {pv : PV} (h : SRel φ w N s a) (hb : aBuild P t (parts.toList.map fun p => (p.1, s.ev p.2)) = some pv) :
    ∃ v, (Instr.build t (parts.map fun (i, x) => (i, a.eval x))).run P w = .ok v w ∧ VRel φ w pv v := by
  obtain ⟨hp1, hp2⟩ := parts_rel h parts
  unfold aBuild at hb
  split at hb
  · rename_i fs z hu hz
    obtain ⟨i, zv, hi, hzv, rfl⟩ := zeroCs_some hz
    split at hb
    · rename_i hall
      obtain ⟨cs, hcs, rfl⟩ := Option.map_eq_some_iff.1 hb
      have hmap : ∀ l : List Field, (l.all fun f => (P.info? f.type).isSome) = true → l.mapM (fun f => (P.info? f.type).map fun i => (f.offset, i.size)) = some (l.map fun f => (f.offset, P.cellsOf f.type)) := by
        intro l hl
        induction l with
        | nil => rfl
        | cons f l ih =>
          simp only [List.all_cons, Bool.and_eq_true] at hl
          obtain ⟨j, hj, hs, _⟩ := info_of_isSome hl.1
          simp [List.mapM_cons, hj, ih hl.2, hs]
      obtain ⟨vs, hf, hr⟩ := fill_ok _ _ _ _ zv.cells hcs (vrelL_const φ w _) hp1 hp2
      refine ⟨.agg vs, run_build w t _ vs ?_, vs.toList, by simp, hr⟩
      have he : (fun x : Nat => ((fs.toList.map fun f => (f.offset, P.cellsOf f.type)).toArray)[x]?) = fieldPlaceOf P fs := by
        funext x
        simp [fieldPlaceOf]
      simp only [Program.built, hi, hu, hzv, hmap _ hall, he]
      exact hf
    · cases hb
  · rename_i nn e z hu hz
    obtain ⟨i, zv, hi, hzv, rfl⟩ := zeroCs_some hz
    split at hb
    · rename_i hie
      obtain ⟨cs, hcs, rfl⟩ := Option.map_eq_some_iff.1 hb
      obtain ⟨j, hj, hs, _⟩ := info_of_isSome hie
      obtain ⟨vs, hf, hr⟩ := fill_ok _ _ _ _ zv.cells hcs (vrelL_const φ w _) hp1 hp2
      refine ⟨.agg vs, run_build w t _ vs ?_, vs.toList, by simp, hr⟩
      simp only [Program.built, hi, hu, hzv, hj]
      rw [hs] at hf
      exact hf
    · cases hb
  · cases hb
theorem repl_length (z : List PV) (k : Nat) : (repl z k).length = k * z.length := by
  induction k with
  | zero => simp [repl]
  | succ k ih => simp [repl, ih, Nat.add_mul]; omega
theorem repl_get (z : List PV) : ∀ (k j : Nat), j < k * z.length → (repl z k)[j]? = z[j % z.length]?
  | 0, j, h => by simp at h
  | k + 1, j, h => by
    rw [Nat.add_mul, Nat.one_mul] at h
    rw [repl]
    by_cases hj : j < z.length
    · rw [List.getElem?_append_left hj, Nat.mod_eq_of_lt hj]
    · have hmod := Nat.mod_eq_sub_mod (a := j) (b := z.length) (by omega)
      rw [List.getElem?_append_right (by omega), repl_get z k (j - z.length) (by omega), hmod]
theorem repl_made (φ : Phi) (w : World) (zv : Array Value) (k : Nat) (hz : 0 < zv.size) {c : Nat} (hc : k ≤ c) :
    VRelL φ w (repl (zv.toList.map pvOf) k) ((madeCells zv (c * zv.size)).toList.take (k * zv.size)) := by
  have hle : k * zv.size ≤ c * zv.size := Nat.mul_le_mul_right _ hc
  rw [vrelL_iff]
  refine ⟨by simp only [repl_length, List.length_take, Array.length_toList, size_madeCells, List.length_map]; omega, fun j p v hj hv => ?_⟩
  have hlt : j < k * zv.size := by
    have := (List.getElem?_eq_some_iff.1 hj).1
    rw [repl_length] at this
    simpa using this
  have hlz : (zv.toList.map pvOf).length = zv.size := by simp
  rw [repl_get _ _ _ (by rw [hlz]; exact hlt), hlz] at hj
  rw [List.getElem?_take, if_pos hlt] at hv
  have hm : j % zv.size < zv.size := Nat.mod_lt _ hz
  have hv' : v = zv[j % zv.size] := by
    have h2 : (madeCells zv (c * zv.size))[j]? = some v := by simpa using hv
    simp only [madeCells, Array.getElem?_map] at h2
    have h3 : (Array.range (c * zv.size))[j]? = some j := by rw [Array.getElem?_eq_getElem (by rw [Array.size_range]; omega), Array.getElem_range]
    rw [h3] at h2
    simp only [Option.map_some, Option.some.injEq] at h2
    rw [← h2]
    simp [hm]
  have hp' : p = pvOf zv[j % zv.size] := by
    have hg : (zv.toList.map pvOf)[j % zv.size]? = some (pvOf zv[j % zv.size]) := by
      rw [List.getElem?_map, Array.getElem?_toList, Array.getElem?_eq_getElem hm, Option.map_some]
    rw [hg] at hj
    exact (Option.some.inj hj).symm
  rw [hv', hp']
  exact vrel_pvOf φ w _
theorem good_make {o : Oper} {t e : TypeId} {l c : Operand} {ln cn : Int} {z : List PV} (ho : o.op = .makeSlice t l c) (h : SRel φ w N s a) (hst : Anch A φ w s.eff) (hd : ∀ t, o.dst = some t → t < N)
    (hu : P.underlying t = some (.slice e)) (hl : s.ev l = .int .i64 ln) (hc : s.ev c = .int .i64 cn) (hz : zeroCs P e = some z) (hzl : z.length = P.cellsOf e) (hpos : 0 < z.length) (hi : (P.info? e).isSome)
    (h0 : 0 ≤ ln) (hle : ln ≤ cn) (hby : cn * P.bytesOf e ≤ 140737488355328) (h63 : cn ≤ 9223372036854775807) (hK : K (s.newArr o.dst (P.cellsOf e) ln.toNat (repl z ln.toNat))) :
    o.wpIn (Fr r) n P a w (Good A N a.defers K) Q := by
  have hdf : ∀ c, o.op ≠ .defer c := fun c e => by rw [ho] at e; cases e
  obtain ⟨i, zv, hi', hzv, rfl⟩ := zeroCs_some hz
  obtain ⟨i2, hi2, hs, hb⟩ := info_of_isSome hi
  have : i2 = i := by rw [hi'] at hi2; exact (Option.some.inj hi2).symm
  subst this
  have e1 : a.eval l = .int .i64 ln := by have := h.ev l; rw [hl] at this; exact this
  have e2 : a.eval c = .int .i64 cn := by have := h.ev c; rw [hc] at this; exact this
  have hr := run_make (P := P) w t e i2 zv hu hi' hzv .i64 .i64 ln cn h0 hle (by rw [← hb, Int.mul_comm]; omega) h63
  have hrun : (execOp a.eval o).run P w = .ok (.value (.slice (some ⟨w.heap.size, 0, none⟩) ln.toNat cn.toNat)) (w.alloc (.cells (madeCells zv.cells (cn.toNat * i2.size)) e)) := by
    simp [execOp, ho, e1, e2, hr]
  simp only [List.length_map, Array.length_toList] at hzl hpos
  refine good_arr hdf h hst hd (Grows.alloc w _) hrun (heap_alloc_new w _) ?_ (by omega) ?_ (repl_made φ w zv.cells ln.toNat hpos (c := cn.toNat) (by omega)) (fun j v hv => ?_) hK
  · rw [repl_length]; simp [hzl]
  · rw [size_madeCells, hs]
  · rw [List.getElem?_take] at hv
    split at hv
    · rw [← hs, ← hzl]
      simpa using hv
    · cases hv
theorem mrel_grow {m : Mem} (hm : MRel φ m w) {w' : World} (hg : Grows w w') (k : Keeps φ w φ w') : MRel φ m w' := by
  refine ⟨fun i hi => ?_, hm.boxn, fun i b h => ?_, hm.boxinj, hm.arrinj, hm.sep, rcs_grow hg hm⟩
  · rcases hm.box i hi with h | ⟨b, cur, e', hb, hh, hr⟩
    · exact .inl h
    exact .inr ⟨b, cur, e', hb, (hg.old b (box_lt hm hb)).trans hh, brel_keeps k hr⟩
  · obtain ⟨h1, h2⟩ := hm.arr i b h
    exact ⟨h1, h2.of_eq (hg.old b (arr_lt hm h))⟩
theorem run_buildSlice {o : Oper} {t e : TypeId} {len : Nat} {parts : Array (Nat × Operand)} {z cs : List PV} (ho : o.op = .buildSlice t len parts) (h : SRel φ w N s a) 
    (hu : P.underlying t = some (.slice e)) (hz : zeroCs P e = some z) (hi : (P.info? e).isSome) (hzl : z.length = P.cellsOf e) (hpos : 0 < z.length) (hbig : len * P.cellsOf e ≤ 16777216)
    (hf : aFill (fun i => some (i * P.cellsOf e, P.cellsOf e)) (repl z len) (parts.toList.map fun p => (p.1, s.ev p.2)) = some cs) :
    ∃ vs : Array Value, (execOp a.eval o).run P w = .ok (.value (.slice (some ⟨w.heap.size, 0, none⟩) len len)) (w.alloc (.cells vs e)) ∧ cs.length = len * P.cellsOf e ∧ vs.size = len * P.cellsOf e ∧ VRelL φ w cs vs.toList := by
  obtain ⟨i, zv, hi', hzv, rfl⟩ := zeroCs_some hz
  obtain ⟨hp1, hp2⟩ := parts_rel h parts
  simp only [List.length_map, Array.length_toList] at hzl hpos
  have hm := repl_made φ w zv.cells len hpos (Nat.le_refl len)
  have htk : (madeCells zv.cells (len * zv.cells.size)).toList.take (len * zv.cells.size) = (madeCells zv.cells (len * zv.cells.size)).toList := List.take_of_length_le (by simp [size_madeCells])
  rw [htk] at hm
  obtain ⟨vs, hfl, hr⟩ := fill_ok _ _ _ _ _ hf hm hp1 hp2
  have hsz : (sizeOf e).run P w = .ok zv.cells.size w := by rw [run_sizeOf hi, hzl]
  have hcl : cs.length = len * P.cellsOf e := by
    have hlen : ∀ (pl : Nat → Option (Nat × Nat)) (ps : List (Nat × PV)) (zs out : List PV), aFill pl zs ps = some out → out.length = zs.length := by
      intro pl ps
      induction ps with
      | nil => intro zs out h; simp only [aFill] at h; injection h with h; rw [h]
      | cons q ps ih =>
        intro zs out h
        obtain ⟨i, p⟩ := q
        simp only [aFill] at h
        split at h
        · cases h
        · split at h
          · rename_i hc
            rw [ih _ _ h]
            simp only [splice, List.length_append, List.length_take, List.length_drop]
            omega
          · cases h
    rw [hlen _ _ _ _ hf, repl_length]; simp [hzl]
  have hvl : vs.size = len * P.cellsOf e := by rw [← hcl]; simpa using (vrelL_length hr).symm
  obtain ⟨pp, hpp⟩ : ∃ pp, pp = (parts.map fun (i, x) => (i, a.eval x)) := ⟨_, rfl⟩
  rw [← hpp] at hfl
  have hmk : (madeCells zv.cells (len * zv.cells.size)) = (Array.range (len * zv.cells.size)).map (zv.cells[· % zv.cells.size]!) := rfl
  rw [hmk, ← hzl] at hfl
  have hrun : (execOp a.eval o).run P w = .ok (.value (.slice (some ⟨w.heap.size, 0, none⟩) len len)) (w.alloc (.cells vs e)) := by
    simp only [execOp, ho, Instr.buildSlice, Sem.run_bind, run_underlying hu, Result.andThen_ok, hsz]
    rw [← hpp, if_neg (by rw [hzl]; omega)]
    by_cases hl0 : len = 0
    · subst hl0
      simp only [Nat.zero_mul, if_true, Sem.run_pure, Array.range_zero', List.map_toArray, List.map_nil] at hfl ⊢
      simp [hfl, newRow]
    · have hne : ¬ (len * zv.cells.size = 0) := by
        intro h0
        rcases Nat.mul_eq_zero.1 h0 with h | h <;> omega
      simp only [hne, if_false, zeroValue, typeInfo, Sem.run_bind, run_program, Result.andThen_ok, hi', hzv, Sem.run_pure, hfl]
      simp [newRow]
  exact ⟨vs, hrun, hcl, hvl, hr⟩
theorem good_buildSlice {o : Oper} {t e : TypeId} {len : Nat} {parts : Array (Nat × Operand)} {z cs : List PV} (ho : o.op = .buildSlice t len parts) (h : SRel φ w N s a) (hst : Anch A φ w s.eff) (hd : ∀ t, o.dst = some t → t < N)
    (hu : P.underlying t = some (.slice e)) (hz : zeroCs P e = some z) (hi : (P.info? e).isSome) (hzl : z.length = P.cellsOf e) (hpos : 0 < z.length) (hbig : len * P.cellsOf e ≤ 16777216)
    (hf : aFill (fun i => some (i * P.cellsOf e, P.cellsOf e)) (repl z len) (parts.toList.map fun p => (p.1, s.ev p.2)) = some cs) (hK : K (s.newArr o.dst (P.cellsOf e) len cs)) :
    o.wpIn (Fr r) n P a w (Good A N a.defers K) Q := by
  have hdf : ∀ c, o.op ≠ .defer c := fun c e => by rw [ho] at e; cases e
  obtain ⟨vs, hrun, hcl, hvl, hr⟩ := run_buildSlice ho h hu hz hi hzl hpos hbig hf
  exact good_arr hdf h hst hd (Grows.alloc w _) hrun (heap_alloc_new w _) hcl (Nat.le_refl _) hvl hr (fun j v hv => by simpa using hv) hK
theorem good_buildAnon {o : Oper} {t e : TypeId} {len : Nat} {parts : Array (Nat × Operand)} {z cs : List PV} (ho : o.op = .buildSlice t len parts) (h : SRel φ w N s a) (hst : Anch A φ w s.eff) (hd : ∀ t, o.dst = some t → t < N)
    (hu : P.underlying t = some (.slice e)) (hz : zeroCs P e = some z) (hi : (P.info? e).isSome) (hzl : z.length = P.cellsOf e) (hpos : 0 < z.length) (hbig : len * P.cellsOf e ≤ 16777216)
    (hf : aFill (fun i => some (i * P.cellsOf e, P.cellsOf e)) (repl z len) (parts.toList.map fun p => (p.1, s.ev p.2)) = some cs) (hK : K (s.put o.dst (.sl none (P.cellsOf e) 0 len cs))) :
    o.wpIn (Fr r) n P a w (Good A N a.defers K) Q := by
  obtain ⟨vs, hrun, hcl, hvl, hr⟩ := run_buildSlice ho h hu hz hi hzl hpos hbig hf
  refine wpIn_of_run (fun c e => by rw [ho] at e; cases e) ?_
  rw [hrun]
  have hg := Grows.alloc w (.cells vs e)
  have k : Keeps φ w φ (w.alloc (.cells vs e)) := keeps_grow hg h.mem (fun _ _ h => h) (fun _ _ h => h) (fun _ h => .inl h)
  have hno : ¬ φ.own w.heap.size := fun ho => by
    rcases ho with ⟨i, hi⟩ | ⟨i, hi⟩
    · exact absurd (box_lt h.mem hi) (by omega)
    · exact absurd (arr_lt h.mem hi) (by omega)
  have hnew := heap_alloc_new w (.cells vs e)
  refine ⟨_, φ, ?_, ?_, put_defers _ _ _, hK⟩
  · have h1 : SRel φ (w.alloc (.cells vs e)) N s a := ⟨fun t => VRel.keeps k _ _ (h.tmp t), h.size, mrel_grow h.mem hg k⟩
    refine h1.put hd ⟨hcl, _, len, rfl, Nat.le_refl _, .inr ⟨w.heap.size, rfl, ⟨hno, by simp⟩, vrelAt_mk fun j p hj => ?_⟩⟩
    obtain ⟨v, hv, hp⟩ := vrelL_get hr hj
    exact ⟨v, by simp only [World.cell?, hnew]; simpa using hv, VRel.keeps k p v hp⟩
  · rw [St.put_eff]
    have := hst.trans (step_of_keeps hg k)
    simpa using this
end
end Go.Proofs.Ytlminnpaeaganaa
namespace Go.Proofs.Ytlminnpaeaganaa
open Go Go.RowKit
open Go.ChangeMaps (setBlock)
set_option linter.unusedVariables false
theorem scal_inj : ∀ {p q : PV} {v : Value}, scal p = some v → scal q = some v → p = q
  | .int k a, .int k' b, v, h1, h2 => by
    simp only [scal, Option.some.injEq] at h1 h2
    subst h1
    injection h2 with e1 e2
    rw [e1, e2]
  | .bool a, .bool b, v, h1, h2 => by
    simp only [scal, Option.some.injEq] at h1 h2
    subst h1
    injection h2 with e1
    rw [e1]
  | .int _ _, .bool _, v, h1, h2 => by
    simp only [scal, Option.some.injEq] at h1 h2
    subst h1; cases h2
  | .bool _, .int _ _, v, h1, h2 => by
    simp only [scal, Option.some.injEq] at h1 h2
    subst h1; cases h2
  | .int _ _, .str _, _, _, h2 | .int _ _, .undef, _, _, h2 | .int _ _, .bad, _, _, h2 | .int _ _, .nilp, _, _, h2 | .int _ _, .nilfn, _, _, h2 | .int _ _, .snil, _, _, h2 | .int _ _, .dead _, _, _, h2 | .int _ _, .yld _, _, _, h2
  | .int _ _, .ptr _ _, _, _, h2 | .int _ _, .sl _ _ _ _ _, _, _, h2 | .int _ _, .eref _ _ _, _, _, h2 | .int _ _, .fn _ _, _, _, h2 | .int _ _, .agg _, _, _, h2 | .int _ _, .tup _, _, _, h2 | .int _ _, .mp _ _ _ _, _, _, h2
  | .bool _, .str _, _, _, h2 | .bool _, .undef, _, _, h2 | .bool _, .bad, _, _, h2 | .bool _, .nilp, _, _, h2 | .bool _, .nilfn, _, _, h2 | .bool _, .snil, _, _, h2 | .bool _, .dead _, _, _, h2 | .bool _, .yld _, _, _, h2
  | .bool _, .ptr _ _, _, _, h2 | .bool _, .sl _ _ _ _ _, _, _, h2 | .bool _, .eref _ _ _, _, _, h2 | .bool _, .fn _ _, _, _, h2 | .bool _, .agg _, _, _, h2 | .bool _, .tup _, _, _, h2 | .bool _, .mp _ _ _ _, _, _, h2 => by cases h2
  | .str _, _, _, h1, _ | .undef, _, _, h1, _ | .bad, _, _, h1, _ | .nilp, _, _, h1, _ | .nilfn, _, _, h1, _ | .snil, _, _, h1, _ | .dead _, _, _, h1, _ | .yld _, _, _, h1, _ | .ptr _ _, _, _, h1, _ | .sl _ _ _ _ _, _, _, h1, _
  | .eref _ _ _, _, _, h1, _ | .fn _ _, _, _, h1, _ | .agg _, _, _, h1, _ | .tup _, _, _, h1, _ | .mp _ _ _ _, _, _, h1, _ => by cases h1
theorem scalL_inj : ∀ {p q : List PV} {v : List Value}, scalL p = some v → scalL q = some v → p = q
  | [], [], _, _, _ => rfl
  | [], q :: qs, v, h1, h2 => by
    simp only [scalL, Option.some.injEq] at h1
    subst h1
    simp only [scalL] at h2
    split at h2 <;> cases h2
  | p :: ps, [], v, h1, h2 => by
    simp only [scalL, Option.some.injEq] at h2
    subst h2
    simp only [scalL] at h1
    split at h1 <;> cases h1
  | p :: ps, q :: qs, v, h1, h2 => by
    simp only [scalL] at h1 h2
    split at h1
    · rename_i a b ha hb
      split at h2
      · rename_i c d hc hd
        injection h1 with h1
        injection h2 with h2
        rw [← h1] at h2
        injection h2 with e1 e2
        subst e1; subst e2
        rw [scal_inj ha hc, scalL_inj hb hd]
      · cases h2
    · cases h1
theorem keyVal_inj {p q : List PV} {v : Value} (h1 : keyVal p = some v) (h2 : keyVal q = some v) : p = q := by
  unfold keyVal at h1 h2
  obtain ⟨a, ha, e1⟩ := Option.map_eq_some_iff.1 h1
  obtain ⟨b, hb, e2⟩ := Option.map_eq_some_iff.1 h2
  rw [← e1] at e2
  injection e2 with e2
  have : b = a := by simpa using congrArg Array.toList e2
  subst this
  exact scalL_inj ha hb
theorem scB_eq : ∀ {p q : PV}, scB p q = true → p = q := by
  intro p q h
  unfold scB at h
  split at h
  · simp only [Bool.and_eq_true, decide_eq_true_eq] at h; rw [h.1, h.2]
  · simp only [beq_iff_eq] at h; rw [h]
  · cases h
theorem scLB_eq : ∀ {p q : List PV}, scLB p q = true → p = q
  | [], [], _ => rfl
  | [], _ :: _, h => by cases h
  | _ :: _, [], h => by cases h
  | p :: ps, q :: qs, h => by
    simp only [scLB, Bool.and_eq_true] at h
    rw [scB_eq h.1, scLB_eq h.2]
theorem scLB_refl : ∀ {p : List PV} {v : List Value}, scalL p = some v → scLB p p = true
  | [], _, _ => rfl
  | p :: ps, v, h => by
    simp only [scalL] at h
    split at h
    · rename_i a b ha hb
      simp only [scLB, Bool.and_eq_true]
      refine ⟨?_, scLB_refl hb⟩
      cases p <;> simp [scal] at ha <;> simp [scB]
    · cases h
theorem keyVal_refl {p : List PV} {v : Value} (h : keyVal p = some v) : scLB p p = true := by
  unfold keyVal at h
  obtain ⟨a, ha, _⟩ := Option.map_eq_some_iff.1 h
  exact scLB_refl ha
theorem krel_len {sz : Nat} : ∀ {es : List MapEntry} {cs : List PV}, KRel sz cs es → cs.length = es.length * sz
  | [], cs, h => by simp only [KRel] at h; subst h; simp
  | e :: es, cs, h => by
    obtain ⟨k, r, rfl, hk, _, hr⟩ := h
    simp only [List.length_append, List.length_cons, krel_len hr, hk, Nat.add_mul]
    omega
theorem krel_get {sz : Nat} : ∀ {es : List MapEntry} {cs : List PV}, KRel sz cs es → ∀ (i : Nat) e, es[i]? = some e → keyVal (chunk sz cs i) = some e.key
  | [], _, _, i, e, h => by simp at h
  | x :: es, cs, h, i, e, he => by
    obtain ⟨k, r, rfl, hk, hv, hr⟩ := h
    cases i with
    | zero =>
      simp at he
      subst he
      simp only [chunk, Nat.zero_mul, List.drop_zero]
      rw [← hk, List.take_left']
      · exact hv
      · rfl
    | succ i =>
      have := krel_get hr i e (by simpa using he)
      simp only [chunk] at this ⊢
      rw [show (i + 1) * sz = k.length + i * sz by rw [hk, Nat.add_mul]; omega, ← List.drop_drop, List.drop_left' rfl]
      exact this
theorem krel_push {sz : Nat} {k : List PV} {x : MapEntry} (hk : k.length = sz) (hv : keyVal k = some x.key) : ∀ {es : List MapEntry} {cs : List PV}, KRel sz cs es → KRel sz (cs ++ k) (es ++ [x])
  | [], cs, h => by
    simp only [KRel] at h
    subst h
    exact ⟨k, [], by simp, hk, hv, rfl⟩
  | e :: es, cs, h => by
    obtain ⟨k0, r, rfl, h1, h2, h3⟩ := h
    exact ⟨k0, r ++ k, by simp, h1, h2, krel_push hk hv h3⟩
theorem krel_keys {sz : Nat} : ∀ {es es' : List MapEntry} {cs : List PV}, KRel sz cs es → es'.map (·.key) = es.map (·.key) → KRel sz cs es'
  | [], es', cs, h, he => by
    have : es' = [] := by simpa using he
    subst this; exact h
  | e :: es, [], cs, h, he => by simp at he
  | e :: es, e' :: es', cs, h, he => by
    simp only [List.map_cons, List.cons.injEq] at he
    obtain ⟨k0, r, rfl, h1, h2, h3⟩ := h
    exact ⟨k0, r, rfl, h1, by rw [he.1]; exact h2, krel_keys h3 he.2⟩
theorem krel_erase {sz : Nat} : ∀ {es : List MapEntry} {cs : List PV} (i : Nat), KRel sz cs es → i < es.length → KRel sz (dropK sz cs i) (es.eraseIdx i)
  | [], cs, i, _, hi => by simp at hi
  | e :: es, cs, 0, h, _ => by
    obtain ⟨k0, r, rfl, h1, h2, h3⟩ := h
    have : dropK sz (k0 ++ r) 0 = r := by simp [dropK, ← h1]
    rw [this]
    exact h3
  | e :: es, cs, i + 1, h, hi => by
    obtain ⟨k0, r, rfl, h1, h2, h3⟩ := h
    have := krel_erase i h3 (by simpa using hi)
    have e1 : dropK sz (k0 ++ r) (i + 1) = k0 ++ dropK sz r i := by
      simp only [dropK]
      rw [show (i + 1 + 1) * sz = k0.length + (i + 1) * sz by rw [h1]; simp only [Nat.add_mul]; omega, ← List.drop_drop, List.drop_left' rfl, show (i + 1) * sz = k0.length + i * sz by rw [h1, Nat.add_mul]; omega, List.take_append, List.take_of_length_le (l := k0) (by omega)]
      simp
    rw [e1]
    exact ⟨k0, _, rfl, h1, h2, this⟩
theorem filter_erase {α : Type} [DecidableEq α] (f : MapEntry → α) : ∀ {l : List MapEntry} {j : Nat} {e : MapEntry}, (l.map f).Nodup → l[j]? = some e → l.filter (fun x => decide (f x ≠ f e)) = l.eraseIdx j
  | [], j, e, _, h => by simp at h
  | x :: l, 0, e, hn, h => by
    simp at h
    subst h
    simp only [List.map_cons, List.nodup_cons] at hn
    have : ∀ y ∈ l, f y ≠ f x := fun y hy e => hn.1 (by rw [← e]; exact List.mem_map_of_mem hy)
    simp only [List.eraseIdx_zero, List.tail_cons]
    rw [List.filter_cons_of_neg (by simp)]
    exact List.filter_eq_self.2 (fun y hy => by simpa using this y hy)
  | x :: l, j + 1, e, hn, h => by
    simp only [List.map_cons, List.nodup_cons] at hn
    have he : l[j]? = some e := by simpa using h
    have hne : f x ≠ f e := fun k => hn.1 (by rw [k]; exact List.mem_map_of_mem (List.mem_of_getElem? he))
    rw [List.filter_cons_of_pos (by simpa using hne), filter_erase f hn.2 he]
    rfl
theorem left_push {es : Array MapEntry} {seen : Array Nat} (hn : (es.toList.map (·.born)).Nodup) {j : Nat} {e : MapEntry} (h : (leftOf es seen).toList[j]? = some e) : (leftOf es (seen.push e.born)).toList = (leftOf es seen).toList.eraseIdx j := by
  have hs : ((leftOf es seen).toList.map (·.born)).Nodup := by
    unfold leftOf
    rw [Array.toList_filter]
    exact hn.sublist (List.Sublist.map _ List.filter_sublist)
  rw [← filter_erase (·.born) hs h]
  unfold leftOf
  simp only [Array.toList_filter, List.filter_filter]
  congr 1
  funext x
  simp only [Array.contains_push]
  by_cases hx : x.born = e.born <;> simp [hx, Bool.and_comm]
section
variable {P : Program} {φ : Phi} {w : World} {A : Anchor} {N n : Nat} {s : St} {a : Act} {K : St → Prop} {Q : Exit → Act → World → Prop} {r : Option Nat} {m : Mem}
theorem ao_new (hm : MRel φ m w) {w' : World} (hg : Grows w w') (hnew : AO w' w.heap.size) :
    Keeps φ w (φ.withArr m.an w.heap.size) w' ∧ MRel (φ.withArr m.an w.heap.size) ⟨m.β, m.n, m.an + 1, m.rc⟩ w' := by
  have hold : ∀ i b, φ.arr i = some b → i ≠ m.an := fun i b h e => by have := (hm.arr i b h).1; omega
  have k : Keeps φ w (φ.withArr m.an w.heap.size) w' := by
    refine keeps_grow hg hm (fun i b h => h) (fun i b h => ?_) (fun b h => own_withArr h)
    simp only [Phi.withArr]
    rw [if_neg (hold i b h)]
    exact h
  refine ⟨k, ⟨fun i hi => ?_, fun i hi => hm.boxn i hi, fun i b h => ?_, fun i j b h1 h2 => hm.boxinj i j b h1 h2, fun i j b h1 h2 => ?_, fun i j b h1 h2 => ?_, rcs_grow (m := m) hg hm⟩⟩
  · rcases hm.box i hi with h | ⟨b, cur, e', hb, hh, hr⟩
    · exact .inl h
    exact .inr ⟨b, cur, e', hb, (hg.old b (box_lt hm hb)).trans hh, brel_keeps k hr⟩
  · simp only [Phi.withArr] at h
    split at h
    · have hb := Option.some.inj h
      subst hb
      exact ⟨by simp only; omega, hnew⟩
    · obtain ⟨h1, h2⟩ := hm.arr i b h
      exact ⟨by simp only; omega, h2.of_eq (hg.old b (arr_lt hm h))⟩
  · simp only [Phi.withArr] at h1 h2
    split at h1 <;> split at h2
    · omega
    · have hb := Option.some.inj h1; subst hb; exact absurd (arr_lt hm h2) (by omega)
    · have hb := Option.some.inj h2; subst hb; exact absurd (arr_lt hm h1) (by omega)
    · exact hm.arrinj i j b h1 h2
  · simp only [Phi.withArr] at h2
    split at h2
    · have hb := Option.some.inj h2; subst hb; exact absurd (box_lt hm h1) (by omega)
    · exact hm.sep i j b h1 h2
theorem good_mp {o : Oper} (ho : ∀ c, o.op ≠ .defer c) (h : SRel φ w N s a) (hst : Anch A φ w s.eff) (hd : ∀ t, o.dst = some t → t < N) {ob : Obj} {v : Value} {it : Bool} {sz : Nat} {cs : List PV}
    (hr : (execOp a.eval o).run P w = .ok (.value v) (w.alloc ob)) (hnew : AO (w.alloc ob) w.heap.size) (hv : MapAt (φ.withArr s.m.an w.heap.size) (w.alloc ob) it (some s.m.an) sz cs v)
    (hK : K (s.newMp o.dst it sz cs)) : o.wpIn (Fr r) n P a w (Good A N a.defers K) Q := by
  refine wpIn_of_run ho ?_
  rw [hr]
  have hg := Grows.alloc w ob
  obtain ⟨k, hm⟩ := ao_new h.mem hg hnew
  refine ⟨s.newMp o.dst it sz cs, φ.withArr s.m.an w.heap.size, ?_, ?_, put_defers _ _ _, hK⟩
  · have h1 : SRel (φ.withArr s.m.an w.heap.size) (w.alloc ob) N { s with m := ⟨s.m.β, s.m.n, s.m.an + 1, s.m.rc⟩ } a := ⟨fun t => VRel.keeps k _ _ (h.tmp t), h.size, hm⟩
    exact h1.put hd (pv := .mp it (some s.m.an) sz cs) (by simpa only [VRel] using hv)
  · have e : (s.newMp o.dst it sz cs).eff = s.eff := by simp [St.newMp]
    rw [e]
    have := hst.trans (step_of_keeps hg k)
    simpa using this
structure MSet (j b sz : Nat) (cs : List PV) (φ : Phi) (w w' : World) : Prop where
  arr : φ.arr j = some b
  inj : ∀ i, φ.arr i = some b → i = j
  size : w.heap.size ≤ w'.heap.size
  others : ∀ k, k ≠ b → k < w.heap.size → w'.heap[k]? = w.heap[k]?
  norow : ∀ cur e f, w.heap[b]? ≠ some (.cells cur e f)
  new : ∀ it cs0 v, MapAt φ w it (some j) sz cs0 v → MapAt φ w' it (some j) sz cs v
section
variable {w' : World} {j b sz : Nat} {cs : List PV}
theorem MSet.other (k : MSet j b sz cs φ w w') {c : Nat} {o : Obj} (ho : ¬ φ.own c) (h : w.heap[c]? = some o) : w'.heap[c]? = some o :=
  (k.others c (fun e => ho (.inr ⟨j, by rw [e]; exact k.arr⟩)) (heap_lt h)).trans h
theorem place_mset (k : MSet j b sz cs φ w w') {id : Option Nat} {b' sz' off cap : Nat} (h : place φ w id b' sz' off cap) : place φ w' id b' sz' off cap ∧ b' ≠ b ∧ id ≠ some j := by
  cases id with
  | none => exact ⟨⟨h.1, Nat.lt_of_lt_of_le h.2 k.size⟩, fun e => h.1 (.inr ⟨j, by rw [e]; exact k.arr⟩), by simp⟩
  | some i =>
    obtain ⟨ha, cur, e, hb, hc⟩ := h
    have hij : i ≠ j := by
      rintro rfl
      have : b' = b := by have := ha.symm.trans k.arr; injection this
      subst this
      exact k.norow _ _ _ hb
    have hne : b' ≠ b := fun e => hij (k.inj i (by rw [← e]; exact ha))
    exact ⟨⟨ha, cur, e, (k.others b' hne (heap_lt hb)).trans hb, hc⟩, hne, by simpa using hij⟩
theorem sl_mset {i sz0 off len : Nat} {e : Eff} {cs0 : List PV} (h : i ≠ e.id) : PV.sub1 e (.sl (some i) sz0 off len cs0) = .sl (some i) sz0 off len (subL1 e cs0) := by
  cases e <;> simp only [PV.sub1, Eff.id] at h ⊢ <;> rw [if_neg h]
theorem eref_mset {i off : Nat} {e : Eff} {cs0 : List PV} (h : i ≠ e.id) : PV.sub1 e (.eref (some i) off cs0) = .eref (some i) off (subL1 e cs0) := by
  cases e <;> simp only [PV.sub1, Eff.id] at h ⊢ <;> rw [if_neg h]
mutual
theorem VRel.mset (k : MSet j b sz cs φ w w') : ∀ (q : PV) (u : Value), VRel φ w q u → VRel φ w' (q.sub1 (.wr j sz (.agg cs))) u
  | .int _ _, u, h => by simpa only [VRel, PV.sub1] using h
  | .bool _, u, h => by simpa only [VRel, PV.sub1] using h
  | .str _, u, h => by simpa only [VRel, PV.sub1] using h
  | .undef, u, h => by simpa only [VRel, PV.sub1] using h
  | .bad, u, h => by simp only [VRel, PV.sub1]
  | .nilp, u, h => by simpa only [VRel, PV.sub1] using h
  | .nilfn, u, h => by simpa only [VRel, PV.sub1] using h
  | .snil, u, h => by simpa only [VRel, PV.sub1] using h
  | .dead _, u, h | .yld _, u, h => by simpa only [VRel, PV.sub1] using h
  | .ptr _ _, u, h => by simpa only [VRel, PV.sub1] using h
  | .sl none sz0 off len cs0, u, h => by
    simp only [VRel, PV.sub1, length_subL1] at h ⊢
    obtain ⟨hl, a, cap, hv, hc, h⟩ := h
    refine ⟨hl, a, cap, hv, hc, ?_⟩
    rcases h with h | ⟨b', ha, hp, hr⟩
    · exact .inl h
    · obtain ⟨hp', hn, _⟩ := place_mset k hp
      exact .inr ⟨b', ha, hp', VRelAt.mset k b' hn cs0 off hr⟩
  | .sl (some i) sz0 off len cs0, u, h => by
    simp only [VRel] at h
    obtain ⟨hl, a, cap, hv, hc, h⟩ := h
    rcases h with h | ⟨b', ha, hp, hr⟩
    · exact absurd h.1 (by simp)
    · obtain ⟨hp', hn, hs⟩ := place_mset k hp
      rw [sl_mset (fun e => hs (by rw [e]; rfl))]
      simp only [VRel, length_subL1]
      exact ⟨hl, a, cap, hv, hc, .inr ⟨b', ha, hp', VRelAt.mset k b' hn cs0 off hr⟩⟩
  | .eref none off cs0, u, h => by
    simp only [VRel, PV.sub1] at h ⊢
    obtain ⟨b', hv, hp, hr⟩ := h
    obtain ⟨hp', hn, _⟩ := place_mset k hp
    exact ⟨b', hv, hp', VRelAt.mset k b' hn cs0 off hr⟩
  | .eref (some i) off cs0, u, h => by
    simp only [VRel] at h
    obtain ⟨b', hv, hp, hr⟩ := h
    obtain ⟨hp', hn, hs⟩ := place_mset k hp
    rw [eref_mset (fun e => hs (by rw [e]; rfl))]
    simp only [VRel]
    exact ⟨b', hv, hp', VRelAt.mset k b' hn cs0 off hr⟩
  | .fn f caps, u, h => by
    simp only [VRel, PV.sub1] at h ⊢
    obtain ⟨vs, hv, hr⟩ := h
    exact ⟨vs, hv, VRelL.mset k caps vs hr⟩
  | .agg cs0, u, h => by
    simp only [VRel, PV.sub1] at h ⊢
    obtain ⟨vs, hv, hr⟩ := h
    exact ⟨vs, hv, VRelL.mset k cs0 vs hr⟩
  | .tup cs0, u, h => by
    simp only [VRel, PV.sub1] at h ⊢
    obtain ⟨vs, hv, hr⟩ := h
    exact ⟨vs, hv, VRelL.mset k cs0 vs hr⟩
  | .mp it none sz0 cs0, u, h => by
    simp only [VRel, PV.sub1] at h ⊢
    exact h.move (fun c o hp hb _ _ _ => ⟨hp, k.other hp hb⟩) fun c o hp hb _ _ _ => ⟨hp, k.other hp hb⟩
  | .mp it (some i) sz0 cs0, u, h => by
    by_cases hij : i = j
    · subst hij
      simp only [PV.sub1, if_true]
      split
      · rename_i hs
        subst hs
        simp only [VRel] at h ⊢
        exact k.new _ _ _ h
      · simp only [VRel]
    · simp only [PV.sub1, hij, if_false]
      simp only [VRel] at h ⊢
      exact h.move (fun c o hp hb _ _ _ => ⟨hp, (k.others c (fun e => hij (k.inj i (by rw [← e]; exact hp))) (heap_lt hb)).trans hb⟩) fun c o hp hb _ _ _ => ⟨hp, k.other hp hb⟩
theorem VRelL.mset (k : MSet j b sz cs φ w w') : ∀ (ps : List PV) (vs : List Value), VRelL φ w ps vs → VRelL φ w' (subL1 (.wr j sz (.agg cs)) ps) vs
  | [], vs, h => by simp only [VRelL, subL1] at h ⊢; exact h
  | q :: ps, vs, h => by
    simp only [VRelL, subL1] at h ⊢
    obtain ⟨u, vs', e, h0, h1⟩ := h
    exact ⟨u, vs', e, VRel.mset k q u h0, VRelL.mset k ps vs' h1⟩
theorem VRelAt.mset (k : MSet j b sz cs φ w w') (b' : Nat) (hb : b' ≠ b) : ∀ (ps : List PV) (off : Nat), VRelAt φ w b' ps off → VRelAt φ w' b' (subL1 (.wr j sz (.agg cs)) ps) off
  | [], _, _ => by simp only [VRelAt, subL1]
  | p :: ps, off, h => by
    simp only [VRelAt, subL1] at h ⊢
    obtain ⟨⟨c, hc, h0⟩, h1⟩ := h
    exact ⟨⟨c, (cell_eq (k.others b' hb (cell_lt hc))).trans hc, VRel.mset k p c h0⟩, VRelAt.mset k b' hb ps (off + 1) h1⟩
end
theorem mset_step (k : MSet j b sz cs φ w w') (hos : w'.os = w.os) (htp : w'.tape = w.tape) (hou : w'.output = w.output) : Step φ w φ w' [.wr j sz (.agg cs)] :=
  ⟨fun q c h => VRel.mset k q c h, hos, htp, hou, k.size, fun c hc hno _ => ⟨k.others c (fun e => hno (.inr ⟨j, by rw [e]; exact k.arr⟩)) hc, hno⟩⟩
theorem mset_mrel (k : MSet j b sz cs φ w w') (hm : MRel φ m w) (hao : AO w' b) : MRel φ { m with β := fun i => (m.β i).sub [.wr j sz (.agg cs)] } w' := by
  refine ⟨fun i hi => ?_, hm.boxn, fun i c hc => ?_, hm.boxinj, hm.arrinj, hm.sep, fun l o h => (k.others l (fun e => by have := hm.rcs l o h; rw [e] at this; exact (hm.arr j b k.arr).2.noloop _ this) (heap_lt (hm.rcs l o h))).trans (hm.rcs l o h)⟩
  · rcases hm.box i hi with ⟨g1, g2⟩ | ⟨c, cur, e, hc, hh, hr⟩
    · exact .inl ⟨hole_sub _ _ g1, g2⟩
    exact .inr ⟨c, cur, e, hc, (k.others c (fun e => hm.sep i j c hc (by rw [e]; exact k.arr)) (box_lt hm hc)).trans hh, brel_tr (fun q c h => VRel.mset k q c h) hr⟩
  · obtain ⟨h1, h2⟩ := hm.arr i c hc
    by_cases hcb : c = b
    · subst hcb; exact ⟨h1, hao⟩
    · exact ⟨h1, h2.of_eq (k.others c hcb (arr_lt hm hc))⟩
end
theorem good_set {o : Oper} (ho : ∀ c, o.op ≠ .defer c) (h : SRel φ w N s a) (hst : Anch A φ w s.eff) (hd : ∀ t, o.dst = some t → t < N) (hadd : ∀ e φ w, Anch A φ w (s.eff ++ [e]) → Anch A φ w (addEff s.a0.a s.eff [e]))
    {w' : World} {id b : Nat} {sz : Nat} {cs : List PV} (k : MSet id b sz cs φ w w') (hos : w'.os = w.os) (htp : w'.tape = w.tape) (hou : w'.output = w.output) (hao : AO w' b) {res : Next}
    (hr : (execOp a.eval o).run P w = .ok res w') (hres : (res = .skip ∧ o.dst = none ∧ K (s.setMp id sz cs)) ∨ ∃ v pv, res = .value v ∧ VRel φ w' pv v ∧ K ((s.setMp id sz cs).put o.dst pv)) :
    o.wpIn (Fr r) n P a w (Good A N a.defers K) Q := by
  refine wpIn_of_run ho ?_
  rw [hr]
  have h1 : SRel φ w' N (s.setMp id sz cs) a := ⟨fun t => VRel.mset k _ _ (h.tmp t), h.size, mset_mrel k h.mem hao⟩
  have hA : Anch A φ w' (s.setMp id sz cs).eff := hadd _ _ _ (hst.trans (mset_step k hos htp hou))
  rcases hres with ⟨rfl, hdst, hK⟩ | ⟨v, pv, rfl, hv, hK⟩
  · show Good A N a.defers K (a.put o.dst undef) w'
    rw [hdst]
    exact ⟨_, _, h1, hA, rfl, hK⟩
  · exact ⟨_, _, h1.put hd hv, by rw [St.put_eff]; exact hA, put_defers _ _ _, hK⟩
theorem fit_get {kt : TypeId} {sz : Nat} {cs : List PV} (h : fitKeys P kt sz cs = true) (hsz : 0 < sz) {es : List MapEntry} (hk : KRel sz cs es) : ∀ e ∈ es, ∃ l, keyOf P kt e.key = some l := by
  intro e he
  obtain ⟨j, hj, rfl⟩ := List.getElem_of_mem he
  have hl := krel_len hk
  have hc := krel_get hk j es[j] (by simp)
  have := List.all_eq_true.1 h j (by rw [List.mem_range, hl, Nat.mul_div_cancel _ hsz]; exact hj)
  unfold fitKey at this
  rw [hc] at this
  exact Option.isSome_iff_exists.1 this
theorem run_update {t kt e : TypeId} {key x : Value} {b : Nat} {es : Array MapEntry} {ck sz : Nat} {cs k : List PV} (ht : P.underlying t = some (.map kt e)) (KY : Maps.Keyed P kt) (hsz : 0 < sz) (hkl : k.length = sz)
    (hf : fitKeys P kt sz cs = true) (hfk : fitKey P kt k = true) (hb : w.heap[b]? = some (.map es ck)) (hso : StampOk es ck) (hk : KRel sz cs es.toList) (hkey : keyVal k = some key) :
    ∃ es' ck', (Instr.mapUpdate t (.map (some b)) key x).run P w = .ok () (setBlock w b (.map es' ck')) ∧ StampOk es' ck' ∧ KRel sz (insC sz cs k) es'.toList := by
  have hes := fit_get hf hsz hk
  obtain ⟨lx, hlx⟩ : ∃ l, keyOf P kt key = some l := by
    unfold fitKey at hfk
    rw [hkey] at hfk
    exact Option.isSome_iff_exists.1 hfk
  have hc := KY.check w false hlx
  have hlen := krel_len hk
  have hnum : cs.length / sz = es.toList.length := by rw [hlen, Nat.mul_div_cancel _ hsz]
  rcases KY.find w hlx es.toList hes with ⟨h1, h2⟩ | ⟨j, e0, h1, h2, h3⟩
  · refine ⟨es.push { key, val := x, born := ck }, ck + 1, ?_, ⟨fun y hy => ?_, ?_⟩, ?_⟩
    · simp [Instr.mapUpdate, run_underlying ht, MapKept.run_getObj_map hb, hc, h1, MapKept.run_setObj_map _ hb, Result.andThen, setBlock]
    · simp only [Array.toList_push, List.mem_append, List.mem_singleton] at hy
      rcases hy with hy | rfl
      · have := hso.1 y hy; omega
      · simp
    · simp only [Array.toList_push, List.map_append, List.map_cons, List.map_nil]
      rw [List.nodup_append]
      refine ⟨hso.2, by simp, fun y hy z hz e => ?_⟩
      simp only [List.mem_singleton] at hz
      obtain ⟨y0, hy0, rfl⟩ := List.mem_map.1 hy
      have := hso.1 y0 hy0
      omega
    · have hno : hasC sz cs k = false := by
        rw [Bool.eq_false_iff]
        intro hh
        obtain ⟨i, hi, hi2⟩ := List.any_eq_true.1 hh
        have hil : i < es.toList.length := by rw [← hnum]; simpa using hi
        have hki := krel_get hk i es.toList[i] (by simp)
        rw [scLB_eq hi2, hkey] at hki
        exact h2 _ (List.getElem_mem hil) (Option.some.inj hki).symm
      simp only [insC, hno, Bool.false_eq_true, if_false, Array.toList_push]
      exact krel_push hkl hkey hk
  · have hj : j < es.toList.length := (List.getElem?_eq_some_iff.1 h2).1
    have h2' : es[j]? = some e0 := by rw [← Array.getElem?_toList]; exact h2
    refine ⟨es.modify j fun e => { e with key := key, val := x }, ck, ?_, ?_, ?_⟩
    · have hs := KY.stays w hlx
      simp [Instr.mapUpdate, run_underlying ht, MapKept.run_getObj_map hb, hc, h1, h2', h3, hs, MapKept.run_setObj_map _ hb, Result.andThen, setBlock]
    · have hb' : (es.modify j fun e => { e with key := key, val := x }).toList.map (·.born) = es.toList.map (·.born) := by
        rw [Array.toList_modify]
        apply List.ext_getElem?
        intro i
        simp only [List.getElem?_map, List.getElem?_modify]
        by_cases hij : j = i
        · subst hij; simp only [if_true]; cases es.toList[j]? <;> rfl
        · simp [hij]
      refine ⟨fun y hy => ?_, by rw [hb']; exact hso.2⟩
      have : y.born ∈ es.toList.map (·.born) := by rw [← hb']; exact List.mem_map_of_mem hy
      obtain ⟨y0, hy0, e⟩ := List.mem_map.1 this
      rw [← e]
      exact hso.1 y0 hy0
    · have hyes : hasC sz cs k = true := by
        refine List.any_eq_true.2 ⟨j, by rw [List.mem_range, hnum]; exact hj, ?_⟩
        have hki := krel_get hk j e0 h2
        rw [h3] at hki
        rw [keyVal_inj hki hkey]
        exact keyVal_refl hkey
      simp only [insC, hyes, if_true]
      refine krel_keys hk ?_
      rw [Array.toList_modify]
      apply List.ext_getElem?
      intro i
      simp only [List.getElem?_map, List.getElem?_modify]
      by_cases hij : j = i
      · subst hij; rw [h2]; simp [h3]
      · simp [hij]
theorem scal_vrel {p : PV} {v : Value} (h : scal p = some v) : VRel φ w p v := by
  cases p <;> simp [scal] at h <;> (subst h; simp only [VRel])
theorem scalL_vrel : ∀ {l : List PV} {vs : List Value}, scalL l = some vs → VRelL φ w l vs
  | [], vs, h => by simp only [scalL, Option.some.injEq] at h; subst h; simp only [VRelL]
  | p :: l, vs, h => by
    simp only [scalL] at h
    split at h
    · rename_i a b ha hb
      injection h with h
      subst h
      exact ⟨a, b, rfl, scal_vrel ha, scalL_vrel hb⟩
    · cases h
theorem keyVal_vrel {l : List PV} {v : Value} (h : keyVal l = some v) : VRel φ w (.agg l) v := by
  unfold keyVal at h
  obtain ⟨vs, h1, rfl⟩ := Option.map_eq_some_iff.1 h
  exact ⟨vs, rfl, scalL_vrel h1⟩
theorem scal_rel {p : PV} {u v : Value} (h : scal p = some v) (hr : VRel φ w p u) : u = v := by
  cases p <;> simp [scal] at h <;> (subst h; simpa only [VRel] using hr)
theorem scalL_rel : ∀ {l : List PV} {us vs : List Value}, scalL l = some vs → VRelL φ w l us → us = vs
  | [], us, vs, h, hr => by simp only [scalL, Option.some.injEq] at h; simp only [VRelL] at hr; rw [hr, h]
  | p :: l, us, vs, h, hr => by
    simp only [scalL] at h
    obtain ⟨u, us', rfl, h0, h1⟩ := hr
    split at h
    · rename_i a b ha hb
      injection h with h
      subst h
      rw [scal_rel ha h0, scalL_rel hb h1]
    · cases h
theorem keyVal_rel {l : List PV} {u v : Value} (h : keyVal l = some v) (hr : VRel φ w (.agg l) u) : u = v := by
  unfold keyVal at h
  obtain ⟨vs, h1, rfl⟩ := Option.map_eq_some_iff.1 h
  obtain ⟨us, rfl, h2⟩ := hr
  rw [scalL_rel h1 h2]
theorem setBlock_same {b : Nat} {o o' : Obj} (h : w.heap[b]? = some o) : (setBlock w b o').heap[b]? = some o' := by
  have := heap_lt h
  simp [setBlock, this]
theorem setBlock_other {b c : Nat} {o' : Obj} (h : c ≠ b) : (setBlock w b o').heap[c]? = w.heap[c]? := by
  simp [setBlock, Array.getElem?_setIfInBounds_ne (Ne.symm h)]
theorem setBlock_size {b : Nat} {o' : Obj} : (setBlock w b o').heap.size = w.heap.size := by simp [setBlock]
theorem good_makeMap {o : Oper} {t kt e : TypeId} (hop : o.op = .makeMap t none) (h : SRel φ w N s a) (hst : Anch A φ w s.eff) (hd : ∀ t, o.dst = some t → t < N) (hu : P.underlying t = some (.map kt e)) (hK : K (s.newMp o.dst false (P.cellsOf kt) [])) :
    o.wpIn (Fr r) n P a w (Good A N a.defers K) Q := by
  have hnew := heap_alloc_new w (.map #[] 0)
  refine good_mp (fun c e => by rw [hop] at e; cases e) h hst hd (it := false) (sz := P.cellsOf kt) (cs := []) (ob := .map #[] 0) (v := .map (some w.heap.size)) ?_ (.inr (.inl ⟨_, _, hnew⟩)) ⟨w.heap.size, rfl, by simp [mplace, Phi.withArr], #[], 0, hnew, ⟨by simp, by simp⟩, rfl⟩ hK
  simp [execOp, hop, Instr.makeMap]
theorem good_range {o : Oper} {t kt e : TypeId} {x : Operand} {sz : Nat} {cs : List PV} (hop : o.op = .range t x) (h : SRel φ w N s a) (hst : Anch A φ w s.eff) (hd : ∀ t, o.dst = some t → t < N) (hu : P.underlying t = some (.map kt e))
    (hx : s.ev x = .mp false none sz cs) (hsz : 0 < sz) (hK : K (s.newMp o.dst true sz (repl [.nilp] sz ++ cs))) : o.wpIn (Fr r) n P a w (Good A N a.defers K) Q := by
  have hv := h.ev x
  rw [hx] at hv
  obtain ⟨bm, hv, hp, es, ck, hb, hso, hk⟩ := hv
  have hnew := heap_alloc_new w (.mapIter (some bm) ck #[] ck)
  have hblt := heap_lt hb
  have hleft : leftOf es #[] = es := by unfold leftOf; simp
  refine good_mp (fun c e => by rw [hop] at e; cases e) h hst hd (it := true) (sz := sz) (cs := repl [.nilp] sz ++ cs) (ob := .mapIter (some bm) ck #[] ck) (v := .pointer (some ⟨w.heap.size, 0, none⟩)) ?_ (.inr (.inr ⟨_, _, _, _, hnew⟩))
    ⟨w.heap.size, rfl, by simp [mplace, Phi.withArr], bm, ck, #[], es, hnew, fun ho => ?_, (heap_alloc_lt w _ bm hblt).trans hb, hso, _, cs, rfl, ?_, by rw [hleft]; exact hk, .inl ⟨rfl, ?_⟩⟩ hK
  · have hev : a.eval x = .map (some bm) := hv
    simp [execOp, hop, hev, Instr.range, run_underlying hu, MapKept.run_getObj_map hb, Result.andThen]
  · rcases own_withArr ho with k | k
    · exact hp k
    · omega
  · have : ∀ n, (repl [PV.nilp] n).length = n := fun n => by induction n with | zero => rfl | succ n ih => simp [repl, ih]
    exact this sz
  · obtain ⟨m, rfl⟩ : ∃ m, sz = m + 1 := ⟨sz - 1, by omega⟩
    rfl
theorem good_entry {o : Oper} {x : Operand} {id sz : Nat} {cs : List PV} (hop : o.op = .entry x) (h : SRel φ w N s a) (hst : Anch A φ w s.eff) (hd : ∀ t, o.dst = some t → t < N)
    (hx : s.ev x = .mp true (some id) sz cs) (hkv : (keyVal (cs.take sz)).isSome = true) (hK : K (s.put o.dst (.tup [.agg (cs.take sz), .bad]))) : o.wpIn (Fr r) n P a w (Good A N a.defers K) Q := by
  have hv := h.ev x
  rw [hx] at hv
  obtain ⟨b, hv, hp, bm, ck, seen, es, hb, ho, hbm, hso, lk, rem, rfl, hlk, hk, hl⟩ := hv
  have htk : (lk ++ rem).take sz = lk := by rw [← hlk]; exact List.take_left' rfl
  rw [htk] at hkv hK
  rcases hl with ⟨_, hl⟩ | ⟨e, s0, he, rfl, hl⟩
  · rw [hl] at hkv; cases hkv
  · have hr := run_entry_at (P := P) w b bm ck s0 es ck e hb hbm he hso.2
    refine good_val (fun c e => by rw [hop] at e; cases e) h hst hd (v := .tuple #[e.key, e.val]) (pv := .tup [.agg lk, .bad]) ?_ ⟨[e.key, e.val], rfl, _, _, rfl, keyVal_vrel hl, _, _, rfl, by simp only [VRel], rfl⟩ hK
    have hev : a.eval x = .pointer (some ⟨b, 0, none⟩) := hv
    simp [execOp, hop, hev, hr, Result.andThen]
theorem good_update {o : Oper} {t kt e : TypeId} {x k y : Operand} {id sz : Nat} {cs key : List PV} (hop : o.op = .mapUpdate t x k y) (h : SRel φ w N s a) (hst : Anch A φ w s.eff) (hd : ∀ t, o.dst = some t → t < N)
    (hadd : ∀ e φ w, Anch A φ w (s.eff ++ [e]) → Anch A φ w (addEff s.a0.a s.eff [e])) (hu : P.underlying t = some (.map kt e)) (KY : Maps.Keyed P kt) (hdst : o.dst = none)
    (hx : s.ev x = .mp false (some id) sz cs) (hkk : s.ev k = .agg key) (hsz : 0 < sz) (hkl : key.length = sz) (hf : fitKeys P kt sz cs = true) (hfk : fitKey P kt key = true)
    (hK : K (s.setMp id sz (insC sz cs key))) : o.wpIn (Fr r) n P a w (Good A N a.defers K) Q := by
  have hv := h.ev x
  rw [hx] at hv
  obtain ⟨b, hv, hp, es, ck, hb, hso, hk⟩ := hv
  have hkv := h.ev k
  rw [hkk] at hkv
  obtain ⟨kv, hkv'⟩ : ∃ kv, keyVal key = some kv := by
    unfold fitKey at hfk
    cases hc : keyVal key with
    | none => rw [hc] at hfk; cases hfk
    | some kv => exact ⟨kv, rfl⟩
  have ekv := keyVal_rel hkv' hkv
  obtain ⟨es', ck', hr, hso', hk'⟩ := run_update (x := a.eval y) hu KY hsz hkl hf hfk hb hso hk hkv'
  have hblt := heap_lt hb
  have ms : MSet id b sz (insC sz cs key) φ w (setBlock w b (.map es' ck')) := by
    refine ⟨hp, fun i hi => h.mem.arrinj i id b hi hp, by rw [setBlock_size]; exact Nat.le_refl _, fun c hc _ => setBlock_other hc, fun cur e f k => (by rw [hb] at k; cases k), fun it cs0 v hm => ?_⟩
    obtain ⟨b0, e0, p0, hm⟩ := hm
    have : b0 = b := by have := (show φ.arr id = some b0 from p0).symm.trans hp; injection this
    subst this
    cases it with
    | false => exact ⟨b0, e0, p0, es', ck', setBlock_same hb, hso', hk'⟩
    | true => obtain ⟨_, _, _, _, h1, _⟩ := hm; rw [hb] at h1; cases h1
  refine good_set (fun c e => by rw [hop] at e; cases e) h hst hd hadd ms rfl rfl rfl (.inr (.inl ⟨_, _, setBlock_same hb⟩)) (res := .skip) ?_ (.inl ⟨rfl, hdst, hK⟩)
  have hev : a.eval x = .map (some b) := hv
  simp [execOp, hop, hev, ekv, hr, Result.andThen]
theorem good_next {o : Oper} {x : Operand} {id sz : Nat} {cs : List PV} (hop : o.op = .next x false) (h : SRel φ w N s a) (hst : Anch A φ w s.eff) (hd : ∀ t, o.dst = some t → t < N)
    (hadd : ∀ e φ w, Anch A φ w (s.eff ++ [e]) → Anch A φ w (addEff s.a0.a s.eff [e])) (hsz : 0 < sz)
    (hx : s.ev x = .mp true (some id) sz cs) (h0 : (cs.drop sz).length / sz = 0 → K (s.put o.dst (.tup [.bool false])))
    (hK : ∀ i, i < (cs.drop sz).length / sz → K ((s.setMp id sz (chunk sz (cs.drop sz) i ++ dropK sz (cs.drop sz) i)).put o.dst (.tup [.bool true, .agg (chunk sz (cs.drop sz) i), .bad]))) :
    o.wpIn (Fr r) n P a w (Good A N a.defers K) Q := by
  have hdf : ∀ c, o.op ≠ .defer c := fun c e => by rw [hop] at e; cases e
  have hv := h.ev x
  rw [hx] at hv
  obtain ⟨b, hv, hp, bm, ck, seen, es, hb, hno, hbm, hso, lk, rem, rfl, hlk, hk, hl⟩ := hv
  have hdr : (lk ++ rem).drop sz = rem := by rw [← hlk]; exact List.drop_left' rfl
  rw [hdr] at h0 hK
  have hlen := krel_len hk
  have hnum : rem.length / sz = (leftOf es seen).toList.length := by rw [hlen, Nat.mul_div_cancel _ hsz]
  rcases run_next_at (P := P) w o.type b bm ck ck seen es ck hb hbm hso.1 (Nat.le_refl _) with ⟨h1, h2⟩ | ⟨e, he, w1, hw1, h2⟩
  · refine good_val hdf h hst hd (v := .tuple #[.bool false]) (pv := .tup [.bool false]) ?_ ⟨[.bool false], rfl, _, _, rfl, rfl, rfl⟩ (h0 (by rw [hnum]; simpa using h1))
    have hev : a.eval x = .pointer (some ⟨b, 0, none⟩) := hv
    simp [execOp, hop, hev, h2, Result.andThen]
  · obtain ⟨j, hj, hje⟩ := List.getElem_of_mem he
    have hje' : (leftOf es seen).toList[j]? = some e := by rw [← hje]; simp
    have hkey := krel_get hk j e hje'
    have hrem := left_push hso.2 hje'
    have hkr : KRel sz (dropK sz rem j) (leftOf es (seen.push e.born)).toList := by rw [hrem]; exact krel_erase j hk hj
    have hw1h : w1.heap = w.heap := by rcases hw1 with rfl | rfl <;> rfl
    have hes : e ∈ es.toList := by
      unfold leftOf at he
      rw [Array.toList_filter] at he
      exact (List.mem_filter.1 he).1
    have hb1 : w1.heap[b]? = some (.mapIter (some bm) ck seen ck) := by rw [hw1h]; exact hb
    have hbne : bm ≠ b := fun e => by rw [e, hb] at hbm; cases hbm
    have hcl : (chunk sz rem j).length = sz := by
      have : j * sz + sz ≤ rem.length := by
        rw [hlen, ← Nat.succ_mul]
        exact Nat.mul_le_mul_right _ hj
      simp only [chunk, List.length_take, List.length_drop]
      omega
    have ms : MSet id b sz (chunk sz rem j ++ dropK sz rem j) φ w (setBlock w1 b (.mapIter (some bm) ck (seen.push e.born) ck)) := by
      refine ⟨hp, fun i hi => h.mem.arrinj i id b hi hp, by rw [setBlock_size, hw1h]; exact Nat.le_refl _, fun c hc _ => by rw [setBlock_other hc, hw1h], fun cur e f k => (by rw [hb] at k; cases k), fun it cs0 v hm => ?_⟩
      obtain ⟨b0, e0, p0, hm⟩ := hm
      have : b0 = b := by have := (show φ.arr id = some b0 from p0).symm.trans hp; injection this
      subst this
      cases it with
      | false => obtain ⟨_, _, h1, _⟩ := hm; rw [hb] at h1; cases h1
      | true => exact ⟨b0, e0, p0, bm, ck, _, es, setBlock_same hb1, hno, by rw [setBlock_other hbne, hw1h]; exact hbm, hso, _, _, rfl, hcl, hkr, .inr ⟨e, seen, hes, rfl, hkey⟩⟩
    refine good_set hdf h hst hd hadd ms (by rcases hw1 with rfl | rfl <;> rfl) (by rcases hw1 with rfl | rfl <;> rfl) (by rcases hw1 with rfl | rfl <;> rfl) (.inr (.inr ⟨_, _, _, _, setBlock_same hb1⟩)) (res := .value (.tuple #[.bool true, e.key, e.val])) ?_
      (.inr ⟨_, .tup [.bool true, .agg (chunk sz rem j), .bad], rfl, ⟨[.bool true, e.key, e.val], rfl, _, _, rfl, rfl, _, _, rfl, keyVal_vrel hkey, _, _, rfl, by simp only [VRel], rfl⟩, hK j (by rw [hnum]; exact hj)⟩)
    have hev : a.eval x = .pointer (some ⟨b, 0, none⟩) := hv
    simp [execOp, hop, hev, h2, Result.andThen]
end
end Go.Proofs.Ytlminnpaeaganaa
namespace Go.Proofs.Ytlminnpaeaganaa
open Go Go.RowKit
section
variable {P : Program} {φ : Phi} {w : World} {A : Anchor} {N n : Nat} {s : St} {a : Act} {K : St → Prop} {Q : Exit → Act → World → Prop} {r : Option Nat} {m : Mem}
mutual
theorem sub1_new {a0 : Nat} (hA : ∀ i b, φ.arr i = some b → i < a0) {e : Eff} (he : a0 ≤ e.id) : ∀ (q : PV) (c : Value), VRel φ w q c → q.sub1 e = q
  | .sl (some i) sz off len cs, c, h => by
    simp only [VRel] at h
    obtain ⟨_, a, cap, _, _, h⟩ := h
    rcases h with h | ⟨b, _, hp, hat⟩
    · exact absurd h.1 (by simp)
    · have hi : i ≠ e.id := by have := hA i b hp.1; omega
      have hl := subAt_new hA he b cs off hat
      cases e <;> simp only [PV.sub1, Eff.id] at hi ⊢ <;> rw [if_neg hi, hl]
  | .sl none sz off len cs, c, h => by
    simp only [VRel] at h
    obtain ⟨hl, a, cap, _, _, h⟩ := h
    rcases h with h | ⟨b, _, hp, hat⟩
    · have : cs = [] := List.eq_nil_of_length_eq_zero (by rw [hl, h.2.1]; simp)
      subst this
      simp [PV.sub1, subL1]
    · simp only [PV.sub1]; rw [subAt_new hA he b cs off hat]
  | .eref (some i) off cs, c, h => by
    simp only [VRel] at h
    obtain ⟨b, _, hp, hat⟩ := h
    have hi : i ≠ e.id := by have := hA i b hp.1; omega
    have hl := subAt_new hA he b cs off hat
    cases e <;> simp only [PV.sub1, Eff.id] at hi ⊢ <;> rw [if_neg hi, hl]
  | .eref none off cs, c, h => by
    simp only [VRel] at h
    obtain ⟨b, _, hp, hat⟩ := h
    simp only [PV.sub1]; rw [subAt_new hA he b cs off hat]
  | .fn f caps, c, h => by
    simp only [VRel] at h
    obtain ⟨vs, _, h⟩ := h
    simp only [PV.sub1]; rw [subL_new hA he caps vs h]
  | .agg cs, c, h => by
    simp only [VRel] at h
    obtain ⟨vs, _, h⟩ := h
    simp only [PV.sub1]; rw [subL_new hA he cs vs h]
  | .tup cs, c, h => by
    simp only [VRel] at h
    obtain ⟨vs, _, h⟩ := h
    simp only [PV.sub1]; rw [subL_new hA he cs vs h]
  | .mp it none sz cs, c, h => by simp only [PV.sub1]
  | .mp it (some i) sz cs, c, h => by
    simp only [VRel] at h
    obtain ⟨b, _, hp, _⟩ := h
    have hi : i ≠ e.id := by have := hA i b hp; omega
    cases e <;> simp only [PV.sub1, Eff.id] at hi ⊢ <;> rw [if_neg hi]
  | .int _ _, _, _ | .bool _, _, _ | .str _, _, _ | .undef, _, _ | .bad, _, _ | .nilp, _, _ | .nilfn, _, _ | .snil, _, _ | .dead _, _, _ | .yld _, _, _ | .ptr _ _, _, _ => by simp only [PV.sub1]
theorem subL_new {a0 : Nat} (hA : ∀ i b, φ.arr i = some b → i < a0) {e : Eff} (he : a0 ≤ e.id) : ∀ (l : List PV) (vs : List Value), VRelL φ w l vs → subL1 e l = l
  | [], _, _ => rfl
  | p :: l, vs, h => by
    simp only [VRelL] at h
    obtain ⟨v, vs', _, h0, h1⟩ := h
    simp only [subL1]
    rw [sub1_new hA he p v h0, subL_new hA he l vs' h1]
theorem subAt_new {a0 : Nat} (hA : ∀ i b, φ.arr i = some b → i < a0) {e : Eff} (he : a0 ≤ e.id) (b : Nat) : ∀ (l : List PV) (off : Nat), VRelAt φ w b l off → subL1 e l = l
  | [], _, _ => rfl
  | p :: l, off, h => by
    simp only [VRelAt] at h
    obtain ⟨⟨c, _, h0⟩, h1⟩ := h
    simp only [subL1]
    rw [sub1_new hA he p c h0, subAt_new hA he b l (off + 1) h1]
end
theorem sub_dropNew {a0 : Nat} (hA : ∀ i b, φ.arr i = some b → i < a0) {q : PV} {c : Value} (h : VRel φ w q c) : ∀ E : List Eff, q.sub (dropNew a0 E) = q.sub E
  | [] => rfl
  | e :: E => by
    simp only [dropNew]
    split
    · rename_i he
      rw [sub_dropNew hA h E]
      show _ = PV.sub E (q.sub1 e)
      rw [sub1_new hA he q c h]
    · rfl
theorem Step.drop {φ0 : Phi} {w0 : World} {a0 : Nat} (hA : ∀ i b, φ0.arr i = some b → i < a0) {E : List Eff} (h : Step φ0 w0 φ w E) : Step φ0 w0 φ w (dropNew a0 E) :=
  ⟨fun q c hq => by rw [sub_dropNew hA hq]; exact h.tr q c hq, h.os, h.tape, h.output, h.size, h.rest⟩
theorem Anch.add {a0 : Nat} (hA : ∀ i b, A.φ0.arr i = some b → i < a0) {eff E : List Eff} (h : Anch A φ w (eff ++ E)) : Anch A φ w (addEff a0 eff E) := by
  cases eff with
  | nil => exact ⟨h.st.drop hA, h.re⟩
  | cons e es => exact h
def ORel (φ : Phi) (w : World) : Option PV → Option Value → Prop
  | none, none => True
  | some p, some v => VRel φ w p v
  | _, _ => False
theorem bound_ok {lo : Option PV} {vlo : Option Value} {d l y : Nat} (h : aBnd d lo = some l) (hr : ORel φ w lo vlo) (hy : l ≤ y) (c : BoundsCode) :
    (match vlo with | some v => Instr.sliceBound v y c | none => pure d : Sem Nat).run P w = .ok l w := by
  cases lo with
  | none => cases vlo with
    | none => simp only [aBnd] at h; injection h with h; subst h; simp
    | some v => exact hr.elim
  | some p => cases vlo with
    | none => exact hr.elim
    | some v =>
      cases p with
      | int k nn =>
        simp only [aBnd] at h
        split at h
        · rename_i h0
          injection h with h
          have e : v = .int k nn := hr
          subst e; subst h
          simp [Instr.sliceBound, asIntOf, h0, show nn ≤ (y : Int) by omega]
        · cases h
      | _ => simp [aBnd] at h
theorem slice_ok {t : TypeId} {x pv : PV} {lo hi : Option PV} {vx : Value} {vlo vhi : Option Value} (h : aSlice P t x lo hi = some pv) (hx : VRel φ w x vx) (hlo : ORel φ w lo vlo) (hhi : ORel φ w hi vhi) :
    ∃ v, (Instr.sliceAt t vx vlo vhi none).run P w = .ok v w ∧ VRel φ w pv v := by
  unfold aSlice at h
  split at h
  · rename_i e id sz off len cs hu
    split at h
    · rename_i l hh hl1 hh1
      split at h
      · rename_i hc
        obtain ⟨hle, hlen, hsz, hin⟩ := hc
        have hs := run_sizeOf (w := w) hin
        obtain ⟨hcs, ax, cap, rfl, hcap, hp⟩ := hx
        have hrun : (Instr.sliceAt t (.slice ax len cap) vlo vhi none).run P w = .ok (.slice (if cap = l then ax else ax.map (·.add (l * sz))) (hh - l) (cap - l)) w := by
          have hb : (Instr.sliceBounds true len cap vlo vhi none).run P w = .ok (l, hh, cap) w := by
            have h1 := bound_ok (P := P) hh1 hhi (y := cap) (by omega) .sliceAcap
            have h2 := bound_ok (P := P) hl1 hlo (y := hh) hle .sliceB
            cases vhi <;> cases vlo <;> simp [Instr.sliceBounds] at h1 h2 ⊢ <;> simp [*]
          simp [Instr.sliceAt, Instr.slice, run_underlying hu, hb, hs, hsz]
        refine ⟨_, hrun, ?_⟩
        split at h
        · rename_i he
          injection h with h; subst h; subst he
          have hax : ax.isSome := by
            rcases hp with hp | ⟨b, rfl, _, _⟩
            · exact hp.2.2
            · rfl
          exact ⟨by simp, _, _, by rw [Nat.sub_self], by omega, .inl ⟨rfl, rfl, by split <;> simpa using hax⟩⟩
        · rename_i he
          injection h with h; subst h
          rw [if_neg (by omega)]
          rcases hp with hp | ⟨b, rfl, hp, hat⟩
          · omega
          · refine ⟨?_, _, _, rfl, by omega, .inr ⟨b, by simp [add_mk], place_any hp ?_, vrelAt_take (vrelAt_drop hat _) _⟩⟩
            · rw [List.length_take, List.length_drop, hcs, ← Nat.sub_mul]
              exact Nat.min_eq_left (Nat.mul_le_mul_right _ (by omega))
            · rw [Nat.add_assoc, ← Nat.add_mul]
              have : l + (cap - l) = cap := by omega
              rw [this]
              exact Nat.le_refl _
      · cases h
    · cases h
  · rename_i e hu
    split at h
    · rename_i l hh hl1 hh1
      split at h
      · rename_i hc
        obtain ⟨rfl, rfl, hin⟩ := hc
        injection h with h; subst h
        have hs := run_sizeOf (w := w) hin
        have hx' : vx = .slice none 0 0 := hx
        subst hx'
        refine ⟨.slice none 0 0, ?_, rfl⟩
        have hb : (Instr.sliceBounds true 0 0 vlo vhi none).run P w = .ok (0, 0, 0) w := by
          have h1 := bound_ok (P := P) hh1 hhi (y := 0) (by omega) .sliceAcap
          have h2 := bound_ok (P := P) hl1 hlo (y := 0) (by omega) .sliceB
          cases vhi <;> cases vlo <;> simp [Instr.sliceBounds] at h1 h2 ⊢ <;> simp [*]
        simp [Instr.sliceAt, Instr.slice, run_underlying hu, hb, hs]
      · cases h
    · cases h
  · cases h
theorem calls_fr {n : Nat} {f : FuncId} {args : Array Value} {R : Ending → World → Prop} (h : Calls P f args w R) : CallsIn (Fr r) n P f args w R := by
  have h1 : CallsIn Fence.wide n P f args w R := callsIn_wide.2 h
  cases r with
  | none => exact h1
  | some l => exact h1
theorem readY_now (hst : Anch A φ w s.eff) (hY : ReadY s.a0.ys A.φ0 A.w0) : ReadY s.nowY φ w := by
  intro y hy t
  obtain ⟨y0, h0, rfl⟩ := List.mem_map.1 hy
  exact hst.st.tr _ _ (hY y0 h0 t)
theorem good_call {o : Oper} {c : Call} {f : Operand} {g : FuncId} {caps : List PV} (ho : o.op = .call c) (hcal : c.callee = .value f) (h : SRel φ w N s a) (hst : Anch A φ w s.eff) (hd : ∀ t, o.dst = some t → t < N)
    (hA : ∀ i b, A.φ0.arr i = some b → i < s.a0.a) (hf : s.ev f = .fn g caps) (hg : ∃ fn, P.funcs[g]? = some fn ∧ fn.name ≠ "runtime.NumGoroutine" ∧ fn.body.isSome)
    (hY : ReadY s.a0.ys A.φ0 A.w0) (hK : ECallsY P s.nowY g (c.args.toList.map s.ev ++ caps) s.m fun v E m' => K ((s.after E m').put o.dst v)) : o.wpIn (Fr r) n P a w (Good A N a.defers K) Q := by
  have hdf : ∀ c, o.op ≠ .defer c := fun c e => by rw [ho] at e; cases e
  refine wpIn_of_run hdf ?_
  have hfv := h.ev f
  rw [hf] at hfv
  obtain ⟨vs, hv, hvs⟩ := hfv
  obtain ⟨fn, hfn, hname, hbody⟩ := hg
  obtain ⟨code, hcode⟩ := Option.isSome_iff_exists.1 hbody
  have hargs : (c.args.map a.eval ++ vs.toArray) = (c.args.toList.map a.eval ++ vs).toArray := by
    obtain ⟨l⟩ := c.args
    simp
  have hrun : (execOp a.eval o).run P w = .ok (.enter g (c.args.toList.map a.eval ++ vs).toArray) w := by
    rw [← hargs]
    simp [execOp, ho, resolve, hcal, hv, Deferred.ofValue, invoke, callFunc, hfn, hname, hcode]
  rw [hrun]
  refine ⟨fun h => by cases r <;> simp [Fr, Fence.wide] at h, ?_⟩
  refine calls_fr ((hK φ _ w h.mem (vrelL_append (h.evs _) hvs) (readY_now hst hY)).mono ?_)
  rintro e w' ⟨v, pv, E, m', φ', rfl, hpv, hm', hstep, hk⟩
  refine ⟨_, φ', ?_, ?_, put_defers _ _ _, hk⟩
  · have h1 : SRel φ' w' N (s.after E m') a := ⟨fun t => hstep.tr _ _ (h.tmp t), h.size, hm'⟩
    exact h1.put hd hpv
  · rw [St.put_eff, St.after_eff]
    exact Anch.add hA (hst.trans hstep)
theorem round_fr {n : Nat} {l : Nat} {f : FuncId} {tmps : Array Value} {x y : Code} {R : Ending → World → Prop} (h : RoundIn Fence.wide n P l f tmps x y w R) : RoundIn (Fr r) n P l f tmps x y w R := by
  cases r with
  | none => exact h
  | some l => exact h
theorem good_yield {o : Oper} {c : Call} {f : Operand} {l : Nat} {y : YRec} {st : LoopState} {pd : Option Code} (ho : o.op = .call c) (hcal : c.callee = .value f) (h : SRel φ w N s a) (hst : Anch A φ w s.eff) (hd : ∀ t, o.dst = some t → t < N)
    (hA : ∀ i b, A.φ0.arr i = some b → i < s.a0.a) (hf : s.ev f = .yld l) (hY : ReadY s.a0.ys A.φ0 A.w0) (hrc : (l, { y.o with state := st, pending := pd }) ∈ s.m.rc) (hn : c.args.size = y.o.params.size)
    (hK : EYield P s.nowY y.o l (c.args.toList.map s.ev) s.m fun v E m' => K ((s.after E m').put o.dst v)) : o.wpIn (Fr r) n P a w (Good A N a.defers K) Q := by
  have hdf : ∀ c, o.op ≠ .defer c := fun c e => by rw [ho] at e; cases e
  refine wpIn_of_run hdf ?_
  have hfv := h.ev f
  rw [hf] at hfv
  have hv : a.eval f = .func (.yield l) #[] #[] := hfv
  have hheap := h.mem.rcs _ _ hrc
  have hargs : c.args.map a.eval = (c.args.toList.map a.eval).toArray := by
    obtain ⟨l⟩ := c.args
    simp
  have hrun : (execOp a.eval o).run P w = .ok (.round l y.o.fn ((y.o.params.zip (c.args.toList.map a.eval).toArray).foldl (fun tmps (t, a) => tmps.setIfInBounds t a) y.o.tmps) y.o.assign y.o.body) w := by
    rw [← hargs]
    have hy := run_yield (P := P) (args := c.args.map a.eval) hheap (by simpa using hn)
    simp [execOp, ho, resolve, hcal, hv, Deferred.ofValue, invoke, hy]
  rw [hrun]
  refine ⟨fun h => by cases r <;> simp [Fr, Fence.wide] at h, ?_⟩
  refine round_fr ((hK φ _ w _ h.mem (h.evs _) (readY_now hst hY)).mono ?_)
  rintro e w' ⟨v, pv, E, m', φ', rfl, hpv, hm', hstep, hk⟩
  refine ⟨_, φ', ?_, ?_, put_defers _ _ _, hk⟩
  · have h1 : SRel φ' w' N (s.after E m') a := ⟨fun t => hstep.tr _ _ (h.tmp t), h.size, hm'⟩
    exact h1.put hd hpv
  · rw [St.put_eff, St.after_eff]
    exact Anch.add hA (hst.trans hstep)
theorem opW_sound {o : Oper} (h : SRel φ w N s a) (hst : Anch A φ w s.eff) (hd : ∀ t, o.dst = some t → t < N) (hA : ∀ i b, A.φ0.arr i = some b → i < s.a0.a) (hY : ReadY s.a0.ys A.φ0 A.w0) (hK : opW P s o K) :
    o.wpIn (Fr r) n P a w (Good A N a.defers K) Q := by
  obtain ⟨dst, op, type, pos, after, guard⟩ := o
  simp only at hd
  cases op with
  | move x => exact good_val (by simp) h hst hd (by simp [execOp]) (h.ev x) hK
  | assign x => exact good_val (by simp) h hst hd (by simp [execOp]) (h.ev x) hK
  | pick c x y =>
    obtain ⟨t, hc, hK⟩ := hK
    have e := h.ev c
    rw [hc] at e
    have e := rel_bool e
    cases t
    · exact good_val (by simp) h hst hd (by simp [execOp, e, asBool]) (h.ev y) hK
    · exact good_val (by simp) h hst hd (by simp [execOp, e, asBool]) (h.ev x) hK
  | binOp op t x y yt =>
    obtain ⟨pv, hb, hK⟩ := hK
    obtain ⟨v, hr, hv⟩ := bin_ok hb (h.ev x) (h.ev y) x y
    refine good_val (by simp) h hst hd (v := v) ?_ hv hK
    show ((do eqGuard op t x y (a.eval x) (a.eval y); binOp op t (a.eval x) (a.eval y) : Sem Value) >>= fun u => pure (Next.value u)).run P w = _
    rw [Sem.run_bind, hr]
    rfl
  | unOp op t x =>
    obtain ⟨pv, hb, hK⟩ := hK
    obtain ⟨v, hr, hv⟩ := un_ok (P := P) hb (h.ev x)
    exact good_val (by simp) h hst hd (by simp [execOp, hr]) hv hK
  | convert src dt x =>
    obtain ⟨pv, hb, hK⟩ := hK
    obtain ⟨v, hr, hv⟩ := conv_ok hb (h.ev x)
    exact good_val (by simp) h hst hd (by simp [execOp, hr]) hv hK
  | extract x i =>
    simp only [opW] at hK
    split at hK
    · rename_i vs he
      obtain ⟨pv, hb, hK⟩ := hK
      have e := h.ev x
      rw [he] at e
      obtain ⟨us, e, hus⟩ := e
      obtain ⟨v, hv, hr⟩ := vrelL_get hus hb
      exact good_val (by simp) h hst hd (by simp [execOp, e, Instr.extract, hv]) hr hK
    · exact hK.elim
  | fieldAddr t x f =>
    obtain ⟨pv, hb, hK⟩ := hK
    obtain ⟨v, hr, hv⟩ := field_ok hb (h.ev x)
    exact good_val (by simp) h hst hd (by simp [execOp, hr]) hv hK
  | field t x f =>
    obtain ⟨pv, hb, hK⟩ := hK
    obtain ⟨v, hr, hv⟩ := fieldV_ok hb (h.ev x)
    exact good_val (by simp) h hst hd (by simp [execOp, hr]) hv hK
  | indexAddr t x i =>
    obtain ⟨pv, hb, hK⟩ := hK
    obtain ⟨v, hr, hv⟩ := indexAddr_ok hb (h.ev x) (h.ev i)
    exact good_val (by simp) h hst hd (by simp [execOp, hr]) hv hK
  | index t x i =>
    obtain ⟨pv, hb, hK⟩ := hK
    obtain ⟨v, hr, hv⟩ := index_ok hb (h.ev x) (h.ev i)
    exact good_val (by simp) h hst hd (by simp [execOp, hr]) hv hK
  | load t x =>
    obtain ⟨pv, hb, hK⟩ := hK
    obtain ⟨v, hr, hv⟩ := load_ok hb h.mem (h.ev x)
    exact good_val (by simp) h hst hd (by simp [execOp, hr]) hv hK
  | build t parts =>
    obtain ⟨pv, hb, hK⟩ := hK
    obtain ⟨v, hr, hv⟩ := build_ok h hb
    exact good_val (by simp) h hst hd (by simp only [execOp, Sem.run_bind, hr, Result.andThen_ok, Sem.run_pure]) hv hK
  | nilCheck x =>
    simp only [opW] at hK
    split at hK
    · rename_i i off he
      have e := h.ev x
      rw [he] at e
      obtain ⟨b, hb, e⟩ := e
      exact good_val (by simp) h hst hd (v := .pointer (some ⟨b, off, none⟩)) (pv := .ptr i off) (by simp [execOp, e]) ⟨b, hb, rfl⟩ hK
    · rename_i f caps he
      have e := h.ev x
      rw [he] at e
      obtain ⟨vs, e, hvs⟩ := e
      exact good_val (by simp) h hst hd (v := .func (.func f) #[] vs.toArray) (pv := .fn f caps) (by simp [execOp, e]) ⟨vs, rfl, hvs⟩ hK
    · exact hK.elim
  | box t x =>
    obtain ⟨hk, hK⟩ := hK
    exact good_box (by simp) h hst hd (e := t) (cs := (a.eval x).cells.toList) (by simp [execOp, Instr.box, newVar, newRow]) (rel_cells (h.ev x) hk) hK
  | alloc t =>
    obtain ⟨z, hz, hK⟩ := hK
    obtain ⟨i, zv, hi, hzv, rfl⟩ := zeroCs_some hz
    exact good_box (by simp) h hst hd (e := t) (cs := zv.cells.toList) (by simp [execOp, Instr.alloc, zeroValue, typeInfo, hi, hzv, newVar, newRow]) (vrelL_const φ w _) hK
  | makeMap t r =>
    obtain ⟨rfl, hK⟩ := hK
    split at hK
    · rename_i kt e hu
      exact good_makeMap rfl h hst hd hu hK
    · exact hK.elim
  | mapUpdate t m k x =>
    obtain ⟨hdst, hK⟩ := hK
    split at hK
    · rename_i kt e id sz cs key hu hx hk
      obtain ⟨h1, h2, h3, h4, h5, h6⟩ := hK
      exact good_update rfl h hst hd (fun _ _ _ ha => Anch.add hA ha) hu h1 hdst hx hk h2 h3 h4 h5 h6
    · exact hK.elim
  | range t x =>
    simp only [opW] at hK
    split at hK
    · rename_i kt e sz cs hu hx
      exact good_range rfl h hst hd hu hx hK.1 hK.2
    · exact hK.elim
  | next x str =>
    obtain ⟨rfl, hK⟩ := hK
    split at hK
    · rename_i id sz cs hx
      exact good_next rfl h hst hd (fun _ _ _ ha => Anch.add hA ha) hK.1 hx hK.2.1 hK.2.2
    · exact hK.elim
  | entry x =>
    simp only [opW] at hK
    split at hK
    · rename_i id sz cs hx
      exact good_entry rfl h hst hd hx hK.2.1 hK.2.2
    · exact hK.elim
  | makeFunc fn first caps =>
    cases fn with
    | func f =>
      obtain ⟨rfl, hK⟩ := hK
      obtain ⟨l⟩ := caps
      exact good_val (by simp) h hst hd (v := .func (.func f) #[] (l.map a.eval).toArray) (pv := .fn f (l.map s.ev)) (by simp [execOp, Instr.makeFunc]) ⟨l.map a.eval, rfl, h.evs l⟩ hK
    | _ => exact hK.elim
  | slice t x lo hi mx =>
    cases mx with
    | some _ => exact hK.elim
    | none =>
      obtain ⟨pv, hb, hK⟩ := hK
      obtain ⟨v, hr, hv⟩ := slice_ok (vlo := lo.map a.eval) (vhi := hi.map a.eval) hb (h.ev x) (by cases lo <;> simp [ORel, h.ev]) (by cases hi <;> simp [ORel, h.ev])
      exact good_val (by simp) h hst hd (by simp [execOp, hr]) hv hK
  | buildSlice t len parts =>
    simp only [opW] at hK
    split at hK
    · rename_i e z hu hz
      rw [hu] at hz
      obtain ⟨hi, hzl, hpos, hbig, cs, hf, hK⟩ := hK
      rcases hK with hK | hK
      · exact good_buildSlice rfl h hst hd hu hz hi hzl hpos hbig hf hK
      · exact good_buildAnon rfl h hst hd hu hz hi hzl hpos hbig hf hK
    · exact hK.elim
  | makeSlice t l c =>
    simp only [opW] at hK
    split at hK
    · rename_i e ln cn hu hl hc
      obtain ⟨z, hz, hzl, hpos, hi, h0, hle, hby, h63, hK⟩ := hK
      exact good_make rfl h hst hd hu hl hc hz hzl hpos hi h0 hle hby h63 hK
    · exact hK.elim
  | store t x y =>
    obtain ⟨hdst, hK⟩ := hK
    simp only at hdst
    subst hdst
    simp only [aStore] at hK
    split at hK
    · rename_i id off hx
      obtain ⟨hid, hi, hc, h1, l, hβ, hf, hK⟩ := hK
      have hk : (s.ev y).known = true := by
        cases hy : s.ev y <;> first | rfl | (rw [hy] at h1; simp [PV.cells, PV.one] at h1)
      have e := h.ev x
      rw [hx] at e
      obtain ⟨w', hr, hm', hstep⟩ := store_box hi hc h1 h.mem hid hβ hf e (h.ev y) hk
      refine wpIn_of_run (by simp) ?_
      have hrun : (execOp a.eval ⟨none, .store t x y, type, pos, after, guard⟩).run P w = .ok .skip w' := by simp [execOp, hr]
      rw [hrun]
      refine ⟨s.setBox id (splice l off (s.ev y).cells), φ, ⟨fun u => hstep.tr _ _ (h.tmp u), h.size, hm'⟩, ?_, rfl, hK⟩
      have := hst.trans hstep
      simpa using this
    · rename_i id off cs hx
      obtain ⟨hi, hpos, hc, h1, hle, hn, hK⟩ := hK
      have hk : (s.ev y).known = true := by
        cases hy : s.ev y <;> first | rfl | (rw [hy] at h1; simp [PV.cells, PV.one] at h1)
      have e := h.ev x
      rw [hx] at e
      obtain ⟨w', hr, hm', hstep⟩ := store_arr hi hpos hc h1 hle hn h.mem e (h.ev y) hk
      refine wpIn_of_run (by simp) ?_
      have hrun : (execOp a.eval ⟨none, .store t x y, type, pos, after, guard⟩).run P w = .ok .skip w' := by simp [execOp, hr]
      rw [hrun]
      refine ⟨s.hit (wrs id off (s.ev y).cells), φ, ⟨fun u => hstep.tr _ _ (h.tmp u), h.size, hm'⟩, ?_, rfl, hK⟩
      rw [St.hit_eff]
      exact Anch.add hA (hst.trans hstep)
    · exact hK.elim
  | call c =>
    simp only [opW] at hK
    split at hK
    · rename_i f hcal
      split at hK
      · rename_i g caps hf
        exact good_call rfl hcal h hst hd hA hf hK.1 hY hK.2
      · rename_i l hf
        obtain ⟨y, st, pd, h1, h2, h3, h4, h5⟩ := hK
        exact good_yield rfl hcal h hst hd hA hf hY h3 h4 h5
      · exact hK.elim
    · rename_i hcal
      split at hK
      · rename_i t x ht hx
        obtain ⟨pv, hb, hK⟩ := hK
        obtain ⟨callee, args, ts⟩ := c
        obtain ⟨l⟩ := args
        simp only at hcal hx ht
        subst hcal; subst hx
        obtain ⟨v, hr, hv⟩ := len_ok (P := P) ht hb (h.ev x) type
        exact good_val (by simp) h hst hd (by simp [execOp, resolve, invoke, builtin, hr]) hv hK
      · exact hK.elim
    · rename_i hcal
      obtain ⟨pv, hb, hK⟩ := hK
      obtain ⟨callee, args, ts⟩ := c
      obtain ⟨l⟩ := args
      simp only at hcal
      subst hcal
      obtain ⟨v, hr, hv⟩ := (mm_ok (P := P) (pv := pv) (h.evs l) ts type).1 hb
      exact good_val (by simp) h hst hd (by simp [execOp, resolve, invoke, builtin, hr]) hv hK
    · rename_i hcal
      obtain ⟨pv, hb, hK⟩ := hK
      obtain ⟨callee, args, ts⟩ := c
      obtain ⟨l⟩ := args
      simp only at hcal
      subst hcal
      obtain ⟨v, hr, hv⟩ := (mm_ok (P := P) (pv := pv) (h.evs l) ts type).2 hb
      exact good_val (by simp) h hst hd (by simp [execOp, resolve, invoke, builtin, hr]) hv hK
    · rename_i hcal
      split at hK
      · rename_i t t' x y ht hx
        obtain ⟨rfl, hK⟩ := hK
        obtain ⟨callee, args, ts⟩ := c
        obtain ⟨l⟩ := args
        simp only at hcal hx ht
        subst hcal; subst hx; subst ht
        exact good_append rfl h hst hd (fun i φ w hs => Anch.add hA hs) hK
      · exact hK.elim
    · exact hK.elim
  | _ => exact hK.elim
end
end Go.Proofs.Ytlminnpaeaganaa
namespace Go.Proofs.Ytlminnpaeaganaa
open Go Go.RowKit
set_option linter.unusedVariables false
inductive Ex where
  | normal
  | exit (id : Nat)
  | ret
def Ex.of : Exit → Option Ex
  | .normal => some .normal
  | .exit i => some (.exit i)
  | .ret => some .ret
  | _ => none
def Marks (φ : Phi) (w w0 : World) : List Deferred → Prop
  | [] => True
  | d :: ds => (∃ D, d = { target := .collected D, args := #[] } ∧ w0.heap.size ≤ D ∧ w.heap[D]? = some (.deferred (some [])) ∧ ¬ φ.own D ∧ ∀ d' ∈ ds, d' ≠ d) ∧ Marks φ w w0 ds
theorem Marks.rest {φ φ' : Phi} {w w' w0 : World} (r : Rest φ w φ' w') : ∀ {ds : List Deferred}, Marks φ w w0 ds → Marks φ' w' w0 ds
  | [], _ => trivial
  | d :: ds, ⟨⟨D, h1, h2, h3, h4, h5⟩, h⟩ => by
    have hlt : D < w.heap.size := (Array.getElem?_eq_some_iff.1 h3).1
    obtain ⟨k1, k2⟩ := r.rest D hlt h4 (fun o e => by rw [h3] at e; cases e)
    exact ⟨⟨D, h1, h2, k1.trans h3, k2, h5⟩, Marks.rest r h⟩
def Old (A : Anchor) (s : St) : Prop := (∀ i b, A.φ0.arr i = some b → i < s.a0.a) ∧ (∀ i b, A.φ0.box i = some b → i < s.a0.n) ∧ ReadY s.a0.ys A.φ0 A.w0
def GoodC (A : Anchor) (N : Nat) (Q : Ex → St → Prop) : Exit → Act → World → Prop := fun e a' w' =>
  ∃ ex s' φ', Ex.of e = some ex ∧ SRel φ' w' N s' a' ∧ Anch A φ' w' s'.eff ∧ Marks φ' w' A.w0 a'.defers ∧ Old A s' ∧ Q ex s'
def dstOk (N : Nat) (o : Oper) : Bool := match o.dst with
  | some d => decide (d < N)
  | none => true
def dstsOk (N : Nat) : Code → Bool
  | .region _ ops _ => ops.toList.all (dstOk N)
  | .seq a b => dstsOk N a && dstsOk N b
  | .cond _ a b => dstsOk N a && dstsOk N b
  | .block _ c => dstsOk N c
  | .loop c => dstsOk N c
  | .rangeFunc _ ps a b => ps.toList.all (fun d => decide (d < N)) && dstsOk N a && dstsOk N b
  | .scope c => dstsOk N c
  | _ => true
def noRange : Code → Bool
  | .seq x y => noRange x && noRange y
  | .cond _ x y => noRange x && noRange y
  | .block _ x => noRange x
  | .loop x => noRange x
  | .rangeFunc _ _ _ _ => false
  | .scope x => noRange x
  | _ => true
def okC (r : Option Nat) (N : Nat) (c : Code) : Bool := dstsOk N c && (r.isNone || noRange c)
theorem okC_dsts {r : Option Nat} {N : Nat} {c : Code} (h : okC r N c = true) : dstsOk N c = true := by
  simp only [okC, Bool.and_eq_true] at h; exact h.1
theorem okC_none {N : Nat} {c : Code} (h : dstsOk N c = true) : okC none N c = true := by simp [okC, h]
theorem okC_some {l N : Nat} {c : Code} (h : dstsOk N c = true) (k : noRange c = true) : okC (some l) N c = true := by simp [okC, h, k]
theorem okC_seq {r : Option Nat} {N : Nat} {x y : Code} (h : okC r N (.seq x y) = true) : okC r N x = true ∧ okC r N y = true := by
  simp only [okC, dstsOk, noRange, Bool.and_eq_true, Bool.or_eq_true] at h ⊢
  exact ⟨⟨h.1.1, h.2.imp_right And.left⟩, h.1.2, h.2.imp_right And.right⟩
theorem okC_cond {r : Option Nat} {N : Nat} {c : Operand} {x y : Code} (h : okC r N (.cond c x y) = true) : okC r N x = true ∧ okC r N y = true := by
  simp only [okC, dstsOk, noRange, Bool.and_eq_true, Bool.or_eq_true] at h ⊢
  exact ⟨⟨h.1.1, h.2.imp_right And.left⟩, h.1.2, h.2.imp_right And.right⟩
def CodeSem (P : Program) (c : Code) (s : St) (Q : Ex → St → Prop) : Prop :=
  ∀ (A : Anchor) (φ : Phi) (w : World) (N n : Nat) (r : Option Nat) (a : Act), okC r N c = true → SRel φ w N s a → Anch A φ w s.eff → Old A s → Marks φ w A.w0 a.defers →
    c.wpIn (Fr r) n P (GoodC A N Q) a w
def guardW (ops : Array Oper) (s : St) (o : Oper) (X Y : Prop) : Prop := match o.guard with
  | none => X
  | some (j, want) => match (ops[j]?).bind (·.dst) with
    | some d => match s.g d with
      | .bool b => if b = want then X else Y
      | .undef => Y
      | _ => False
    | none => Y
def Silent (s s1 : St) : Prop := s1.a0 = s.a0 ∧ ∀ (φ : Phi) (w : World) (N : Nat) (a : Act) (A : Anchor), SRel φ w N s a → Anch A φ w s.eff → Old A s → ∃ φ', SRel φ' w N s1 a ∧ Anch A φ' w s1.eff
theorem Silent.refl (s : St) : Silent s s := ⟨rfl, fun φ _ _ _ _ h1 h2 _ => ⟨φ, h1, h2⟩⟩
theorem Silent.trans {s s1 s2 : St} (h : Silent s s1) (k : Silent s1 s2) : Silent s s2 :=
  ⟨k.1.trans h.1, fun φ w N a A h1 h2 h3 => by
    obtain ⟨φ', g1, g2⟩ := h.2 φ w N a A h1 h2 h3
    exact k.2 φ' w N a A g1 g2 (by unfold Old at h3 ⊢; rw [h.1]; exact h3)⟩
def opsW (P : Program) (ops : Array Oper) : List Oper → St → (St → Prop) → Prop
  | [], s, K => K s
  | o :: rest, s, K => guardW ops s o (∃ s1, Silent s s1 ∧ opW P s1 o fun s' => opsW P ops rest s' K) (opsW P ops rest (s.put o.dst .undef) K)
def vc (P : Program) : Code → St → (Ex → St → Prop) → Prop
  | .skip, s, Q => Q .normal s
  | .region _ ops false, s, Q => opsW P ops ops.toList s (Q .normal)
  | .seq x y, s, Q => vc P x s fun e s' => match e with
    | .normal => vc P y s' Q
    | .exit i => Q (.exit i) s'
    | .ret => Q .ret s'
  | .cond c x y, s, Q => ∃ t, s.ev c = .bool t ∧ (if t = true then vc P x s Q else vc P y s Q)
  | .block id c, s, Q => vc P c s fun e s' => match e with
    | .normal => Q .normal s'
    | .exit i => if i = id then Q .normal s' else Q (.exit i) s'
    | .ret => Q .ret s'
  | .exit id, s, Q => Q (.exit id) s
  | .ret, s, Q => Q .ret s
  | c, s, Q => CodeSem P c s Q
section
variable {P : Program} {φ : Phi} {w : World} {A : Anchor} {N n : Nat} {s : St} {a : Act} {r : Option Nat}
theorem aStore_imp {t : TypeId} {x v : PV} {K K' : St → Prop} (hk : ∀ s', s'.a0 = s.a0 → K s' → K' s') (h : aStore P s t x v K) : aStore P s t x v K' := by
  unfold aStore at *
  split at h
  · obtain ⟨h1, h2, h3, h4, l, h5, h6, h7⟩ := h
    exact ⟨h1, h2, h3, h4, l, h5, h6, hk _ (by simp) h7⟩
  · obtain ⟨h1, h2, h3, h4, h5, h6, h7⟩ := h
    exact ⟨h1, h2, h3, h4, h5, h6, hk _ (by simp) h7⟩
  · exact h.elim
theorem aAppend_imp {d : Option Tmp} {t : TypeId} {x y : PV} {K K' : St → Prop} (hk : ∀ s', s'.a0 = s.a0 → K s' → K' s') (h : aAppend P s d t x y K) : aAppend P s d t x y K' := by
  unfold aAppend at *
  split at h
  · obtain ⟨h1, h2, h3, h⟩ := h
    refine ⟨h1, h2, h3, ?_⟩
    split at h
    · obtain ⟨h4, h⟩ := h
      refine ⟨h4, ?_⟩
      split at h
      · obtain ⟨h5, h6, h⟩ := h
        exact ⟨h5, h6, hk _ (by split <;> simp) h⟩
      · obtain ⟨h5, h6, h7, h8, h9, h⟩ := h
        exact ⟨h5, h6, h7, h8, h9, hk _ (by simp) h⟩
      · exact h.elim
    · exact h.elim
  · exact h.elim
theorem opW_imp {o : Oper} {K K' : St → Prop} (hk : ∀ s', s'.a0 = s.a0 → K s' → K' s') (h : opW P s o K) : opW P s o K' := by
  obtain ⟨dst, op, type, pos, after, guard⟩ := o
  cases op with
  | move x => exact hk _ (by simp) h
  | assign x => exact hk _ (by simp) h
  | pick c x y => obtain ⟨t, h1, h2⟩ := h; exact ⟨t, h1, hk _ (by simp) h2⟩
  | binOp op t x y yt => obtain ⟨t, h1, h2⟩ := h; exact ⟨t, h1, hk _ (by simp) h2⟩
  | unOp op t x => obtain ⟨t, h1, h2⟩ := h; exact ⟨t, h1, hk _ (by simp) h2⟩
  | convert a b x => obtain ⟨t, h1, h2⟩ := h; exact ⟨t, h1, hk _ (by simp) h2⟩
  | fieldAddr t x f => obtain ⟨t, h1, h2⟩ := h; exact ⟨t, h1, hk _ (by simp) h2⟩
  | field t x f => obtain ⟨t, h1, h2⟩ := h; exact ⟨t, h1, hk _ (by simp) h2⟩
  | indexAddr t x f => obtain ⟨t, h1, h2⟩ := h; exact ⟨t, h1, hk _ (by simp) h2⟩
  | index t x f => obtain ⟨t, h1, h2⟩ := h; exact ⟨t, h1, hk _ (by simp) h2⟩
  | load t x => obtain ⟨t, h1, h2⟩ := h; exact ⟨t, h1, hk _ (by simp) h2⟩
  | alloc t => obtain ⟨t, h1, h2⟩ := h; exact ⟨t, h1, hk _ (by simp) h2⟩
  | build t ps => obtain ⟨t, h1, h2⟩ := h; exact ⟨t, h1, hk _ (by simp) h2⟩
  | box t x => exact ⟨h.1, hk _ (by simp) h.2⟩
  | store t x y => exact ⟨h.1, aStore_imp hk h.2⟩
  | nilCheck x =>
    simp only [opW] at h ⊢
    split at h
    · exact hk _ (by simp) h
    · exact hk _ (by simp) h
    · exact h.elim
  | extract x i =>
    simp only [opW] at h ⊢
    split at h
    · obtain ⟨t, h1, h2⟩ := h; exact ⟨t, h1, hk _ (by simp) h2⟩
    · exact h.elim
  | buildSlice t len ps =>
    simp only [opW] at h ⊢
    split at h
    · obtain ⟨h1, h2, h3, h4, cs, h5, h6⟩ := h; exact ⟨h1, h2, h3, h4, cs, h5, h6.imp (hk _ (by simp)) (hk _ (by simp))⟩
    · exact h.elim
  | makeSlice t l c =>
    simp only [opW] at h ⊢
    split at h
    · obtain ⟨z, h1, h2, h3, h4, h5, h6, h7, h8, h9⟩ := h; exact ⟨z, h1, h2, h3, h4, h5, h6, h7, h8, hk _ (by simp) h9⟩
    · exact h.elim
  | slice t x lo hi mx =>
    cases mx with
    | none => obtain ⟨t, h1, h2⟩ := h; exact ⟨t, h1, hk _ (by simp) h2⟩
    | some _ => exact h.elim
  | makeMap t r =>
    obtain ⟨h1, h⟩ := h
    refine ⟨h1, ?_⟩
    split at h
    · exact hk _ (by simp [St.newMp]) h
    · exact h.elim
  | mapUpdate t m k x =>
    obtain ⟨h1, h⟩ := h
    refine ⟨h1, ?_⟩
    split at h
    · obtain ⟨h2, h3, h4, h5, h6, h7⟩ := h
      exact ⟨h2, h3, h4, h5, h6, hk _ (by simp [St.setMp]) h7⟩
    · exact h.elim
  | range t x =>
    simp only [opW] at h ⊢
    split at h
    · exact ⟨h.1, hk _ (by simp [St.newMp]) h.2⟩
    · exact h.elim
  | next x str =>
    obtain ⟨h1, h⟩ := h
    refine ⟨h1, ?_⟩
    split at h
    · exact ⟨h.1, fun e => hk _ (by simp) (h.2.1 e), fun i hi => hk _ (by simp [St.setMp]) (h.2.2 i hi)⟩
    · exact h.elim
  | entry x =>
    simp only [opW] at h ⊢
    split at h
    · exact ⟨h.1, h.2.1, hk _ (by simp) h.2.2⟩
    · exact h.elim
  | makeFunc fn first caps =>
    cases fn with
    | func f => exact ⟨h.1, hk _ (by simp) h.2⟩
    | _ => exact h.elim
  | call c =>
    simp only [opW] at h ⊢
    split at h
    · split at h
      · exact ⟨h.1, h.2.mono fun _ _ _ h => hk _ (by simp) h⟩
      · obtain ⟨y, st, pd, h1, h2, h3, h4, h5⟩ := h; exact ⟨y, st, pd, h1, h2, h3, h4, h5.mono fun _ _ _ h => hk _ (by simp) h⟩
      · exact h.elim
    · split at h
      · obtain ⟨t, h1, h2⟩ := h; exact ⟨t, h1, hk _ (by simp) h2⟩
      · exact h.elim
    · obtain ⟨t, h1, h2⟩ := h; exact ⟨t, h1, hk _ (by simp) h2⟩
    · obtain ⟨t, h1, h2⟩ := h; exact ⟨t, h1, hk _ (by simp) h2⟩
    · split at h
      · exact ⟨h.1, aAppend_imp hk h.2⟩
      · exact h.elim
    · exact h.elim
  | _ => exact h.elim
theorem yield_bool {ops : Array Oper} {j d : Nat} {b : Bool} (h : SRel φ w N s a) (hd : (ops[j]?).bind (·.dst) = some d) (hb : s.g d = .bool b) : yielded ops a.tmps j = some b := by
  have e := h.tmp d
  rw [hb] at e
  have e := rel_bool e
  have hlt : d < a.tmps.size := by
    rcases Nat.lt_or_ge d a.tmps.size with h' | h'
    · exact h'
    · simp [Array.getElem?_eq_none h', undef] at e
  have e2 : a.tmps[d]? = some (.bool b) := by simpa [hlt] using e
  simp [yielded, hd, e2]
theorem yield_undef {ops : Array Oper} {j d : Nat} (h : SRel φ w N s a) (hd : (ops[j]?).bind (·.dst) = some d) (hb : s.g d = .undef) : yielded ops a.tmps j = none := by
  have e := h.tmp d
  rw [hb] at e
  simp only [VRel] at e
  unfold yielded
  rw [hd]
  simp only [Option.bind_some]
  cases hg : a.tmps[d]? with
  | none => rfl
  | some v =>
    have : v = .tuple #[] := by simpa [hg] using e
    rw [this]
theorem guard_wanted {ops : Array Oper} {o : Oper} {X Y : Prop} (h : SRel φ w N s a) (hg : guardW ops s o X Y) :
    (Region.wanted o (yielded ops a.tmps) = true ∧ X) ∨ (Region.wanted o (yielded ops a.tmps) = false ∧ Y) := by
  unfold guardW at hg
  unfold Region.wanted
  split at hg
  · rename_i h0; rw [h0]; exact .inl ⟨rfl, hg⟩
  · rename_i j want h0
    rw [h0]
    split at hg
    · rename_i d hd
      split at hg
      · rename_i b hb
        simp only [yield_bool h hd hb]
        split at hg
        · rename_i hbw; subst hbw; exact .inl ⟨by simp, hg⟩
        · rename_i hbw; exact .inr ⟨by simpa using hbw, hg⟩
      · rename_i hb
        simp only [yield_undef h hd hb]
        exact .inr ⟨by simp, hg⟩
      · exact hg.elim
    · rename_i hd
      have : yielded ops a.tmps j = none := by simp [yielded, hd]
      simp only [this]
      exact .inr ⟨by simp, hg⟩
theorem opsW_sound {ops : Array Oper} {K : St → Prop} {Q : Exit → Act → World → Prop} : ∀ (l : List Oper) (k : Nat) (s : St) (a : Act) (φ : Phi) (w : World), (∀ j, l[j]? = ops[k + j]?) → l.all (dstOk N) = true →
    SRel φ w N s a → Anch A φ w s.eff → Old A s → opsW P ops l s K → (∀ a' w', (∃ s', s'.a0 = s.a0 ∧ Good A N a.defers (fun u => u = s' ∧ K u) a' w') → Q .normal a' w') →
    wpOpsIn (Fr r) n P ops Q (List.range' k l.length) a w
  | [], k, s, a, φ, w, _, _, hs, ha, _, hK, hQ => by
    simp only [List.length_nil, List.range'_zero, wpOpsIn]
    exact hQ a w ⟨s, rfl, s, φ, hs, ha, rfl, rfl, hK⟩
  | o :: l, k, s, a, φ, w, hl, hd, hs, ha, hA, hK, hQ => by
    have h0 : ops[k]? = some o := by simpa using (hl 0).symm
    have hl' : ∀ j, l[j]? = ops[k + 1 + j]? := fun j => by have := hl (j + 1); simpa [Nat.add_assoc, Nat.add_comm 1 j] using this
    simp only [List.all_cons, Bool.and_eq_true] at hd
    have hdo : ∀ t, o.dst = some t → t < N := fun t e => by
      have := hd.1
      simp only [dstOk, e, decide_eq_true_eq] at this
      exact this
    simp only [List.length_cons, List.range'_succ, wpOpsIn, h0]
    rcases guard_wanted hs hK with ⟨hw, hX⟩ | ⟨hw, hY⟩
    · rw [if_pos hw]
      obtain ⟨s1, ⟨e1, hsil⟩, hX⟩ := hX
      obtain ⟨φ1, hs1, ha1⟩ := hsil φ w N a A hs ha hA
      have hA1 : Old A s1 := by unfold Old at hA ⊢; rw [e1]; exact hA
      refine Oper.wpIn_mono ?_ (opW_sound (A := A) hs1 ha1 hdo hA1.1 hA1.2.2 (opW_imp (fun s' e h => (⟨e, h⟩ : s'.a0 = s1.a0 ∧ _)) hX))
      rintro a' w' ⟨s', φ', h1, h2, h3, h4, h5⟩
      replace h4 := h4.trans e1
      exact opsW_sound l (k + 1) s' a' φ' w' hl' hd.2 h1 h2 (by unfold Old; rw [h4]; exact hA) h5 (fun a2 w2 ⟨s2, e2, h⟩ => hQ a2 w2 ⟨s2, e2.trans h4, by rw [← h3]; exact h⟩)
    · rw [if_neg (by simp [hw])]
      refine ⟨fun _ _ => trivial, ?_⟩
      have h1 : SRel φ w N (s.put o.dst .undef) (a.put o.dst undef) := hs.put hdo rfl
      exact opsW_sound l (k + 1) _ _ φ w hl' hd.2 h1 (by rw [St.put_eff]; exact ha) (by unfold Old; rw [St.put_a0]; exact hA) hY
        (fun a2 w2 ⟨s2, e2, h⟩ => hQ a2 w2 ⟨s2, by rw [e2, St.put_a0], by rw [put_defers] at h; exact h⟩)
theorem codeSem_mono {c : Code} {Q Q' : Ex → St → Prop} (h : CodeSem P c s Q) (hq : ∀ e s, Q e s → Q' e s) : CodeSem P c s Q' :=
  fun A φ w N n r a hd hs ha hA hm => wpIn_mono (h A φ w N n r a hd hs ha hA hm) fun _ _ _ ⟨ex, s', φ', h1, h2, h3, h4, h6, h5⟩ => ⟨ex, s', φ', h1, h2, h3, h4, h6, hq _ _ h5⟩
theorem codeSem_silent {c : Code} {s1 : St} {Q : Ex → St → Prop} (hs : Silent s s1) (h : CodeSem P c s1 Q) : CodeSem P c s Q := by
  intro A φ w N n r a hd hr ha hA hm
  obtain ⟨φ', h1, h2⟩ := hs.2 φ w N a ⟨A.φ0, A.w0, φ, w⟩ hr ⟨ha.st, Rest.refl φ w⟩ hA
  exact h A φ' w N n r a hd h1 ⟨h2.st, ha.re.trans h2.re⟩ (by unfold Old at hA ⊢; rw [hs.1]; exact hA) (hm.rest h2.re)
theorem sem_region {id : Nat} {ops : Array Oper} {Q : Ex → St → Prop} (h : opsW P ops ops.toList s (Q .normal)) : CodeSem P (.region id ops false) s Q := by
  intro A φ w N n r a hd hs ha hA hm
  have hd' : ops.toList.all (dstOk N) = true := okC_dsts hd
  refine wpIn_region ?_
  rw [List.range_eq_range', ← Array.length_toList]
  have ha' : Anch ⟨A.φ0, A.w0, φ, w⟩ φ w s.eff := ⟨ha.st, Rest.refl φ w⟩
  refine opsW_sound (A := ⟨A.φ0, A.w0, φ, w⟩) ops.toList 0 s a φ w (by simp) hd' hs ha' hA h ?_
  rintro a' w' ⟨s', e, s2, φ', h1, h2, h3, rfl, h5⟩
  exact ⟨.normal, s2, φ', rfl, h1, ⟨h2.st, ha.re.trans h2.re⟩, by rw [h3]; exact hm.rest h2.re, by unfold Old; rw [e]; exact hA, h5⟩
end
section
variable {P : Program} {s : St}
theorem sem_skip {Q : Ex → St → Prop} (h : Q .normal s) : CodeSem P .skip s Q := fun A φ w N n r a hd hs ha hA hm => wpIn_skip ⟨.normal, s, φ, rfl, hs, ha, hm, hA, h⟩
theorem sem_ret {Q : Ex → St → Prop} (h : Q .ret s) : CodeSem P .ret s Q := fun A φ w N n r a hd hs ha hA hm => wpIn_ret ⟨.ret, s, φ, rfl, hs, ha, hm, hA, h⟩
theorem sem_exit {id : Nat} {Q : Ex → St → Prop} (h : Q (.exit id) s) : CodeSem P (.exit id) s Q := fun A φ w N n r a hd hs ha hA hm => wpIn_exit ⟨.exit id, s, φ, rfl, hs, ha, hm, hA, h⟩
theorem sem_cond {c : Operand} {x y : Code} {Q : Ex → St → Prop} (t : Bool) (ht : s.ev c = .bool t) (h : if t = true then CodeSem P x s Q else CodeSem P y s Q) : CodeSem P (.cond c x y) s Q := by
  intro A φ w N n r a hd hs ha hA hm
  replace hd := okC_cond hd
  have e := hs.ev c
  rw [ht] at e
  refine wpIn_cond (rel_bool e) ?_
  cases t
  · have h : CodeSem P y s Q := by simpa using h
    exact h A φ w N n r a hd.2 hs ha hA hm
  · have h : CodeSem P x s Q := by simpa using h
    exact h A φ w N n r a hd.1 hs ha hA hm
theorem sem_block {id : Nat} {c : Code} {Q : Ex → St → Prop} (h : CodeSem P c s fun e s' => match e with
    | .normal => Q .normal s'
    | .exit i => if i = id then Q .normal s' else Q (.exit i) s'
    | .ret => Q .ret s') : CodeSem P (.block id c) s Q := by
  intro A φ w N n r a hd hs ha hA hm
  refine wpIn_block (wpIn_mono (h A φ w N n r a hd hs ha hA hm) ?_)
  rintro e a' w' ⟨ex, s', φ', he, k1, k2, k3, kA, k4⟩
  cases e <;> simp only [Ex.of, Option.some.injEq] at he <;> try (cases he; done)
  · subst he; exact ⟨.normal, s', φ', rfl, k1, k2, k3, kA, k4⟩
  · subst he
    simp only at k4
    simp only [Exit.inBlock]
    split
    · rename_i h; rw [if_pos h] at k4; exact ⟨.normal, s', φ', rfl, k1, k2, k3, kA, k4⟩
    · rename_i h; rw [if_neg h] at k4; exact ⟨.exit _, s', φ', rfl, k1, k2, k3, kA, k4⟩
  · subst he; exact ⟨.ret, s', φ', rfl, k1, k2, k3, kA, k4⟩
theorem sem_seq {x y : Code} {Q : Ex → St → Prop} (h : CodeSem P x s fun e s' => match e with
    | .normal => CodeSem P y s' Q
    | .exit i => Q (.exit i) s'
    | .ret => Q .ret s') : CodeSem P (.seq x y) s Q := by
  intro A φ w N n r a hd hs ha hA hm
  replace hd := okC_seq hd
  refine wpIn_seq (wpIn_mono (h A φ w N n r a hd.1 hs ha hA hm) ?_)
  rintro e a' w' ⟨ex, s', φ', he, k1, k2, k3, kA, k4⟩
  cases e <;> simp only [Ex.of, Option.some.injEq] at he <;> try (cases he; done)
  · subst he
    exact k4 A φ' w' N n r a' hd.2 k1 k2 kA k3
  · subst he; exact ⟨.exit _, s', φ', rfl, k1, k2, k3, kA, k4⟩
  · subst he; exact ⟨.ret, s', φ', rfl, k1, k2, k3, kA, k4⟩
end
end Go.Proofs.Ytlminnpaeaganaa
