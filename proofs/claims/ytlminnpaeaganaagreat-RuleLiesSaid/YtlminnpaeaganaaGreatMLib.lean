/- Sorting and compacting, as the library has them. No condition. -/
import Derived.Test.YtlminnpaeaganaaGreatMDice
import Derived.Shelf.Sort.Plain
import Derived.Shelf.Slices.In.SortNone
import Derived.Shelf.Slices.CompactI
import Derived.Ground.NamesProg
import Derived.Ground.Names2Prog
namespace Go.Proofs
open Go.Shelf
def Tryz.lays189_ren : Go.Shelf.Ren := ⟨fun | 189 => 86 | 125 => 120 | 257 => 119 | 128 => 161 | 129 => 162 | 294 => 152 | 295 => 153 | 296 => 154 | 297 => 155 | 298 => 156 | 299 => 157 | 216 => 158 | 300 => 159 | 301 => 160 | 328 => 170 | 329 => 171 | 330 => 172 | 331 => 173 | 332 => 174 | 215 => 150 | 343 => 175 | n => n, fun | 28 => 22 | 3 => 3 | 46 => 101 | 0 => 0 | 51 => 149 | 53 => 83 | 4 => 4 | 183 => 181 | 182 => 180 | 131 => 185 | 5 => 5 | 9 => 9 | 218 => 195 | 222 => 198 | 228 => 200 | 229 => 114 | n => n, fun | n => n⟩
theorem Tryz.lays189 : Go.Proofs.Lays.n189 Tryz.prog Tryz.lays189_ren := {
  mixed := by kernel_rfl
  f125 := Tryz.func120.trans (congrArg some (by kernel_rfl))
  f128 := Tryz.func161.trans (congrArg some (by kernel_rfl))
  f129 := Tryz.func162.trans (congrArg some (by kernel_rfl))
  f189 := Tryz.func86.trans (congrArg some (by kernel_rfl))
  f215 := Tryz.func150.trans (congrArg some (by kernel_rfl))
  f216 := Tryz.func158.trans (congrArg some (by kernel_rfl))
  f257 := Tryz.func119.trans (congrArg some (by kernel_rfl))
  f294 := Tryz.func152.trans (congrArg some (by kernel_rfl))
  f295 := Tryz.func153.trans (congrArg some (by kernel_rfl))
  f296 := Tryz.func154.trans (congrArg some (by kernel_rfl))
  f297 := Tryz.func155.trans (congrArg some (by kernel_rfl))
  f298 := Tryz.func156.trans (congrArg some (by kernel_rfl))
  f299 := Tryz.func157.trans (congrArg some (by kernel_rfl))
  f300 := Tryz.func159.trans (congrArg some (by kernel_rfl))
  f301 := Tryz.func160.trans (congrArg some (by kernel_rfl))
  f328 := Tryz.func170.trans (congrArg some (by kernel_rfl))
  f329 := Tryz.func171.trans (congrArg some (by kernel_rfl))
  f330 := Tryz.func172.trans (congrArg some (by kernel_rfl))
  f331 := Tryz.func173.trans (congrArg some (by kernel_rfl))
  f332 := Tryz.func174.trans (congrArg some (by kernel_rfl))
  f343 := Tryz.func175.trans (congrArg some (by kernel_rfl))
  t0 := Tryz.underlying0
  a0 := Tryz.isAgg0
  z0 := Tryz.sizeOf0
  v0 := Tryz.zeroValue0
  t3 := Tryz.underlying3
  a3 := Tryz.isAgg3
  z3 := Tryz.sizeOf3
  v3 := Tryz.zeroValue3
  t4 := Tryz.underlying4
  a4 := Tryz.isAgg4
  z4 := Tryz.sizeOf4
  v4 := Tryz.zeroValue4
  t5 := Tryz.underlying5
  a5 := Tryz.isAgg5
  z5 := Tryz.sizeOf5
  v5 := Tryz.zeroValue5
  t9 := Tryz.underlying9
  a9 := Tryz.isAgg9
  z9 := Tryz.sizeOf9
  v9 := Tryz.zeroValue9
  t28 := Tryz.underlying22
  a28 := Tryz.isAgg22
  z28 := Tryz.sizeOf22
  v28 := Tryz.zeroValue22
  t46 := Tryz.underlying101
  a46 := Tryz.isAgg101
  z46 := Tryz.sizeOf101
  v46 := Tryz.zeroValue101
  t51 := Tryz.underlying149
  a51 := Tryz.isAgg149
  z51 := Tryz.sizeOf149
  v51 := Tryz.zeroValue149
  t53 := Tryz.underlying83
  a53 := Tryz.isAgg83
  z53 := Tryz.sizeOf83
  v53 := Tryz.zeroValue83
  t131 := Tryz.underlying185
  a131 := Tryz.isAgg185
  z131 := Tryz.sizeOf185
  v131 := Tryz.zeroValue185
  t182 := Tryz.underlying180
  a182 := Tryz.isAgg180
  z182 := Tryz.sizeOf180
  v182 := Tryz.zeroValue180
  t183 := Tryz.underlying181
  a183 := Tryz.isAgg181
  z183 := Tryz.sizeOf181
  v183 := Tryz.zeroValue181
  t218 := Tryz.underlying195
  a218 := Tryz.isAgg195
  z218 := Tryz.sizeOf195
  v218 := Tryz.zeroValue195
  t222 := Tryz.underlying198
  a222 := Tryz.isAgg198
  z222 := Tryz.sizeOf198
  v222 := Tryz.zeroValue198
  t228 := Tryz.underlying200
  a228 := Tryz.isAgg200
  z228 := Tryz.sizeOf200
  v228 := Tryz.zeroValue200
  t229 := Tryz.underlying114
  a229 := Tryz.isAgg114
  z229 := Tryz.sizeOf114
  v229 := Tryz.zeroValue114 }
def Tryz.lays2_20_ren : Go.Shelf.Ren := ⟨fun | 20 => 87 | n => n, fun | 22 => 22 | 3 => 3 | 4 => 4 | 0 => 0 | n => n, fun | n => n⟩
theorem Tryz.lays2_20 : Go.Proofs.Lays2.n20 Tryz.prog Tryz.lays2_20_ren := {
  mixed := by kernel_rfl
  f20 := Tryz.func87.trans (congrArg some (by kernel_rfl))
  t0 := Tryz.underlying0
  a0 := Tryz.isAgg0
  z0 := Tryz.sizeOf0
  v0 := Tryz.zeroValue0
  t3 := Tryz.underlying3
  a3 := Tryz.isAgg3
  z3 := Tryz.sizeOf3
  v3 := Tryz.zeroValue3
  t4 := Tryz.underlying4
  a4 := Tryz.isAgg4
  z4 := Tryz.sizeOf4
  v4 := Tryz.zeroValue4
  t22 := Tryz.underlying22
  a22 := Tryz.isAgg22
  z22 := Tryz.sizeOf22
  v22 := Tryz.zeroValue22
  i3 := by kernel_rfl }
end Go.Proofs
namespace Go.Proofs.YtlminnpaeaganaaGreat
open Go Go.RowKit Go.Sort
set_option linter.unusedVariables false
set_option linter.unusedSimpArgs false
theorem ints_of {cs : List PV} (h : cs.all intB = true) : cs = (cs.map toI).map (PV.int .i64) := by
  induction cs with
  | nil => rfl
  | cons c cs ih =>
    simp only [List.all_cons, Bool.and_eq_true] at h
    simp only [List.map_cons]
    rw [← ih h.2]
    congr 1
    cases c with
    | int k n => cases k <;> first | rfl | simp [intB] at h
    | _ => simp [intB] at h
section
variable {P : Program} {φ : Phi} {w w' : World} {m : Mem} {id b : Nat} {cur : Array Value} {e : TypeId}
theorem vrelL_ints (φ : Phi) (w : World) : ∀ zs : List Int, VRelL φ w (zs.map (PV.int .i64)) (zs.map (Value.int .i64))
  | [] => by simp only [List.map_nil, VRelL]
  | z :: zs => ⟨_, _, rfl, rfl, vrelL_ints φ w zs⟩
theorem putCells_eq (zs : List Int) (hle : zs.length ≤ cur.size) : (cur.toList.take (0 + 0) ++ zs.map (Value.int .i64) ++ cur.toList.drop (0 + 0 + (zs.map (Value.int .i64)).length)).toArray = putCells (Value.int .i64) 0 zs.toArray cur := by
  apply Array.ext
  · simp [putCells]; omega
  · intro i h1 h2
    simp only [putCells, Nat.zero_le, true_and, Nat.zero_add, Nat.sub_zero, Array.getElem_mapIdx, List.size_toArray, List.take_zero, List.nil_append, List.length_map, List.getElem_toArray]
    by_cases hi : i < zs.length
    · rw [if_pos hi, List.getElem_append_left (by simpa using hi)]
      simp [hi]
    · rw [if_neg hi, List.getElem_append_right (by simpa using hi)]
      simp only [List.length_map, List.getElem_drop, Array.getElem_toList]
      congr 1
      omega
theorem arr_written (P : Program) (hm : MRel φ m w) (ha : φ.arr id = some b) (hb : w.heap[b]? = some (.cells cur e (0, 0))) (zs : List Int) (hle : zs.length ≤ cur.size)
    (h1 : ∀ c, c < w.heap.size → c ≠ b → w'.heap[c]? = w.heap[c]?) (h2 : w'.heap[b]? = some (.cells (putCells (Value.int .i64) 0 zs.toArray cur) e (0, 0))) (hs : w.heap.size ≤ w'.heap.size)
    (ho : w'.os = w.os) (ht : w'.tape = w.tape) (hu : w'.output = w.output) :
    MRel φ { m with β := fun i => (m.β i).sub (wrs id 0 (zs.map (PV.int .i64))) } w' ∧ Step φ w φ w' (wrs id 0 (zs.map (PV.int .i64))) := by
  have hinj : ∀ i, φ.arr i = some b → i = id := fun i h => hm.arrinj i id b h ha
  have hone : (zs.map (PV.int .i64)).all PV.one = true := by
    rw [List.all_eq_true]; intro p hp; obtain ⟨z, _, rfl⟩ := List.mem_map.1 hp; rfl
  obtain ⟨w1, g1, g2, g3, g4, ⟨cur', g5, g6⟩, g7, g8, g9⟩ := run_wrs (P := P) (off := 0) ha hinj (zs.map (PV.int .i64)) (zs.map (Value.int .i64)) 0 w cur (vrelL_ints φ w zs) hone (fun p hp => by obtain ⟨z, _, rfl⟩ := List.mem_map.1 hp; rfl) hb (by simpa using hle)
  have hst := run_storeCells_at P b 0 e (zs.map (Value.int .i64)) 0 cur w hb (by simpa using hle) (fun v hv => by obtain ⟨z, _, rfl⟩ := List.mem_map.1 hv; rfl)
  rw [g1] at hst
  injection hst with _ hst
  have hblt := heap_lt hb
  have hw1 : w1.heap[b]? = w'.heap[b]? := by
    rw [hst, setRow_heap w b cur _ e _ hb, h2, putCells_eq zs hle]
  have hsame : ∀ c, c < w.heap.size → w'.heap[c]? = w1.heap[c]? := fun c hc => by
    by_cases hcb : c = b
    · rw [hcb, hw1]
    · rw [h1 c hc hcb, g3 c hcb]
  have hk : Keeps φ w1 φ w' := ⟨fun _ _ h => h, fun _ _ h => h, fun _ _ h => h, by omega, fun i c hc => hsame c (arr_lt hm hc), fun c hc _ => hsame c (by omega)⟩
  have htr : ∀ q c, VRel φ w q c → VRel φ w' (q.sub (wrs id 0 (zs.map (PV.int .i64)))) c := fun q c h => VRel.keeps hk _ _ (g2 q c h)
  refine ⟨⟨fun i hi => ?_, hm.boxn, fun i c hc => ?_, hm.boxinj, hm.arrinj, hm.sep, fun l o h => (h1 l (heap_lt (hm.rcs l o h)) (fun e => by have := hm.rcs l o h; rw [e, hb] at this; cases this)).trans (hm.rcs l o h)⟩, ⟨htr, ho, ht, hu, hs, fun c hlt hno _ => ⟨h1 c hlt (fun e => hno (.inr ⟨id, by rw [e]; exact ha⟩)), hno⟩⟩⟩
  · rcases hm.box i hi with ⟨q1, q2⟩ | ⟨c, cur', e', hc', hh', hr'⟩
    · exact .inl ⟨hole_sub _ _ q1, q2⟩
    exact .inr ⟨c, cur', e', hc', (h1 c (box_lt hm hc') (fun e => hm.sep i id c hc' (by rw [e]; exact ha))).trans hh', brel_tr htr hr'⟩
  · obtain ⟨q1, q2⟩ := hm.arr i c hc
    by_cases hcb : c = b
    · rw [hcb]; exact ⟨q1, AO.cells h2⟩
    · exact ⟨q1, q2.of_eq (h1 c (arr_lt hm hc) hcb)⟩
theorem arr_gone (hm : MRel φ m w) (ha : φ.arr id = some b) (hb : w.heap[b]? = some (.cells cur e (0, 0))) {cur2 : Array Value}
    (h1 : ∀ c, c < w.heap.size → c ≠ b → w'.heap[c]? = w.heap[c]?) (h2 : w'.heap[b]? = some (.cells cur2 e (0, 0))) (hs : w.heap.size ≤ w'.heap.size)
    (ho : w'.os = w.os) (ht : w'.tape = w.tape) (hu : w'.output = w.output) :
    MRel (φ.drop id) { m with β := fun i => (m.β i).sub [.kill id] } w' ∧ Step φ w (φ.drop id) w' [.kill id] ∧ ¬ (φ.drop id).own b := by
  have hno : ¬ (φ.drop id).own b := by
    rintro (⟨j, hj⟩ | ⟨j, hj⟩)
    · exact hm.sep j id b hj ha
    · simp only [Phi.drop] at hj
      split at hj
      · cases hj
      · rename_i hne; exact hne (hm.arrinj j id b hj ha)
  have hne : ∀ i c, i ≠ id → φ.arr i = some c → c ≠ b := fun i c hi hc e => hi (hm.arrinj i id b (by rw [← e]; exact hc) ha)
  have hk : KeepsBut id φ w (φ.drop id) w' := by
    refine ⟨fun _ _ h => h, fun i c hi h => by simp [Phi.drop, hi, h], fun c hc hn k => hn (own_drop k), hs, fun i c hi hc => h1 c (arr_lt hm hc) (hne i c hi hc), fun c hc hn => h1 c hc (fun e => hn (.inr ⟨id, by rw [e]; exact ha⟩))⟩
  have htr : ∀ q c, VRel φ w q c → VRel (φ.drop id) w' (q.sub [.kill id]) c := fun q c h => VRel.kill hk q c h
  refine ⟨⟨fun i hi => ?_, hm.boxn, fun i c hc => ?_, hm.boxinj, fun i j c q1 q2 => ?_, fun i j c q1 q2 => ?_, fun l o h => (h1 l (heap_lt (hm.rcs l o h)) (fun e => by have := hm.rcs l o h; rw [e, hb] at this; cases this)).trans (hm.rcs l o h)⟩, ⟨htr, ho, ht, hu, hs, fun c hlt hn _ => ⟨hk.rest c hlt hn, hk.imm c hlt hn⟩⟩, hno⟩
  · rcases hm.box i hi with ⟨q1, q2⟩ | ⟨c, cur', e', hc', hh', hr'⟩
    · exact .inl ⟨hole_sub _ _ q1, q2⟩
    exact .inr ⟨c, cur', e', hc', (h1 c (box_lt hm hc') (fun e => hm.sep i id c hc' (by rw [e]; exact ha))).trans hh', brel_tr htr hr'⟩
  · simp only [Phi.drop] at hc
    split at hc
    · cases hc
    · rename_i hi
      obtain ⟨q1, q2⟩ := hm.arr i c hc
      exact ⟨q1, q2.of_eq (h1 c (arr_lt hm hc) (hne i c hi hc))⟩
  · simp only [Phi.drop] at q1 q2
    split at q1 <;> first | (cases q1; done) | skip
    split at q2 <;> first | (cases q2; done) | skip
    exact hm.arrinj i j c q1 q2
  · simp only [Phi.drop] at q2
    split at q2 <;> first | (cases q2; done) | skip
    exact hm.sep i j c q1 q2
end
/-- The world behind such a call. -/
theorem putRow_facts {w : World} {b : Nat} {cur : Array Value} {e : TypeId} (hb : w.heap[b]? = some (.cells cur e (0, 0))) (zs : List Int) (n : Nat) :
    (putRow (Value.int .i64) (Go.Sort.ahead w n) b 0 zs.toArray).heap[b]? = some (.cells (putCells (Value.int .i64) 0 zs.toArray cur) e (0, 0)) ∧ (putRow (Value.int .i64) (Go.Sort.ahead w n) b 0 zs.toArray).heap.size = w.heap.size ∧
      (∀ c, c ≠ b → (putRow (Value.int .i64) (Go.Sort.ahead w n) b 0 zs.toArray).heap[c]? = w.heap[c]?) := by
  refine ⟨?_, by simp [putRow, mapBlock, Go.Sort.ahead], fun c hc => ?_⟩
  · simp [putRow, mapBlock, Go.Sort.ahead, Array.getElem?_modify, hb, onCells]
  · simp [putRow, mapBlock, Go.Sort.ahead, Array.getElem?_modify, Ne.symm hc]
theorem grow_facts {w : World} {os : Array Obj} : (∀ c, c < w.heap.size → (grow w os).heap[c]? = w.heap[c]?) ∧ w.heap.size ≤ (grow w os).heap.size := by
  refine ⟨fun c hc => ?_, by simp [grow]⟩
  simp only [grow]
  rw [Array.getElem?_append_left hc]
theorem holds_of {φ : Phi} {w : World} {b : Nat} {cur : Array Value} {e : TypeId} {zs : List Int} (hb : w.heap[b]? = some (.cells cur e (0, 0))) (hat : VRelAt φ w b (zs.map (PV.int .i64)) 0) : Holds (Value.int .i64) w b 0 zs.toArray := by
  intro j hj
  have hj' : j < zs.length := by simpa using hj
  obtain ⟨c, hc, hv⟩ := vrelAt_iff.1 hat j (.int .i64 zs[j]) (by simp [hj'])
  refine ⟨?_, by simp [World.frozen?, hb]⟩
  rw [hc]
  have : c = .int .i64 zs[j] := hv
  rw [this]
  simp [hj']
theorem sort_ok : SortOk Tryz.prog 86 := by
  intro cs m hall hlen
  refine ⟨fun id φ vs w hm hv => ?_, fun φ vs w hm hv => ?_⟩
  · obtain ⟨v, vs', rfl, hv, hvs⟩ := hv
    simp only [VRelL] at hvs
    subst hvs
    obtain ⟨hl, a, cap, rfl, hcap, h⟩ := hv
    rcases h with h | ⟨b, rfl, ⟨ha, cur, e, hb, hfit⟩, hat⟩
    · exact absurd h.1 (by simp)
    have hcs := ints_of hall
    rw [hcs] at hat
    have hzl : (cs.map toI).length = cs.length := by simp
    have hC := Any.slices_Sort_int Tryz.lays189 b 0 cap (cs.map toI) w (holds_of hb hat) (heap_lt hb) (by rw [hzl]; omega)
    rw [hzl] at hC
    refine Calls.mono hC ?_
    rintro en w' ⟨rfl, n, os, rfl⟩
    obtain ⟨f1, f2, f3⟩ := putRow_facts hb ((cs.map toI).mergeSort fun x y => decide (x ≤ y)) n
    obtain ⟨k1, k2⟩ := grow_facts (w := putRow (Value.int .i64) (Go.Sort.ahead w n) b 0 ((cs.map toI).mergeSort fun x y => decide (x ≤ y)).toArray) (os := os)
    obtain ⟨m1, m2⟩ := arr_written (w' := grow (putRow (Value.int .i64) (Go.Sort.ahead w n) b 0 ((cs.map toI).mergeSort fun x y => decide (x ≤ y)).toArray) os) Tryz.prog hm ha hb ((cs.map toI).mergeSort fun x y => decide (x ≤ y)) (by rw [List.length_mergeSort, hzl]; omega)
      (fun c hc hne => by rw [k1 c (by rw [f2]; exact hc), f3 c hne]) (by rw [k1 b (by rw [f2]; exact heap_lt hb), f1]) (by omega) rfl rfl rfl
    exact ⟨_, .undef, _, _, φ, rfl, by simp only [VRel], m1, m2, rfl, rfl, rfl⟩
  · obtain ⟨v, vs', rfl, hv, hvs⟩ := hv
    simp only [VRelL] at hvs
    subst hvs
    simp only [VRel] at hv
    subst hv
    refine Calls.mono (Any.slices_Sort_int_none Tryz.lays189 none 0 w) ?_
    rintro en w' ⟨rfl, rfl⟩
    exact ⟨_, .undef, _, _, φ, rfl, by simp only [VRel], hm, Step.refl φ w', rfl, rfl, rfl⟩
theorem go_eq (d : Array Int) : ∀ (ys pre : List Int) (p : Int), d.toList = pre ++ p :: ys → ((List.range' (pre.length + 1) ys.length).filter (Lib.keeps d)).map (fun j => d[j]!) = cmpGo p ys
  | [], pre, p, h => by simp [cmpGo]
  | y :: ys, pre, p, h => by
    have h0 : d[pre.length]! = p := by
      have : d.toList[pre.length]? = some p := by rw [h]; simp
      rw [Array.getElem?_toList] at this
      simp [getElem!_def, this]
    have h1 : d[pre.length + 1]! = y := by
      have : d.toList[pre.length + 1]? = some y := by rw [h]; simp
      rw [Array.getElem?_toList] at this
      simp [getElem!_def, this]
    have ih := go_eq d ys (pre ++ [p]) y (by rw [h]; simp)
    simp only [List.length_append, List.length_singleton] at ih
    simp only [List.length_cons, List.range'_succ, cmpGo]
    by_cases hy : y = p
    · rw [List.filter_cons_of_neg (by simp [Lib.keeps, h0, h1, hy]), if_pos hy, ih, hy]
    · rw [List.filter_cons_of_pos (by simp [Lib.keeps, h0, h1, hy]), if_neg hy, List.map_cons, h1, ih]
theorem compact_eq (zs : List Int) : Lib.compact zs = cmpI zs := by
  cases zs with
  | nil => rfl
  | cons x xs =>
    have := go_eq (x :: xs).toArray xs [] x (by simp)
    unfold Lib.compact Lib.compactUpTo
    rw [List.range_eq_range', List.length_cons, List.range'_succ, List.filter_cons_of_pos (by simp [Lib.keeps]), List.map_cons]
    simp only [List.length_nil, Nat.zero_add] at this ⊢
    rw [this]
    simp [cmpI]
theorem compact_ok : CompOk Tryz.prog 87 := by
  intro cs m hall hlen
  refine ⟨fun id φ vs w hm hv => ?_, fun φ vs w hm hv => ?_⟩
  · obtain ⟨v, vs', rfl, hv, hvs⟩ := hv
    simp only [VRelL] at hvs
    subst hvs
    obtain ⟨hl, a, cap, rfl, hcap, h⟩ := hv
    rcases h with h | ⟨b, rfl, ⟨ha, cur, e, hb, hfit⟩, hat⟩
    · exact absurd h.1 (by simp)
    have hcs := ints_of hall
    rw [hcs] at hat
    have hzl : (cs.map toI).length = cs.length := by simp
    have hC := Any.slices_Compact_int Tryz.lays2_20 b 0 cap (cs.map toI) w (holds_of hb hat) (by rw [hzl]; omega) (by rw [hzl]; exact hcap)
    rw [hzl] at hC
    refine Calls.mono hC ?_
    rintro en w' ⟨rfl, n, rfl⟩
    obtain ⟨zl, hz⟩ : ∃ zl, zl = Lib.compact (cs.map toI) ++ List.replicate (cs.length - (Lib.compact (cs.map toI)).length) 0 := ⟨_, rfl⟩
    rw [← hz]
    obtain ⟨f1, f2, f3⟩ := putRow_facts hb zl n
    obtain ⟨m1, m2, m3⟩ := arr_gone (w' := putRow (Value.int .i64) (Go.Sort.ahead w n) b 0 zl.toArray) hm ha hb (fun c hc hne => f3 c hne) f1 (by omega) rfl rfl rfl
    have hle : (Lib.compact (cs.map toI)).length ≤ cs.length := by
      unfold Lib.compact Lib.compactUpTo
      rw [List.length_map]
      refine Nat.le_trans (List.length_filter_le _ _) ?_
      simp
    have hcl : (compP cs).length = (Lib.compact (cs.map toI)).length := by simp [compP, compact_eq]
    refine ⟨_, .sl none 1 0 (compP cs).length (compP cs), _, _, φ.drop id, rfl, ?_, m1, m2, rfl, rfl, rfl⟩
    rw [← hcl]
    refine ⟨by simp, _, cap, rfl, by omega, .inr ⟨b, rfl, ⟨m3, by rw [f2]; exact heap_lt hb⟩, vrelAt_mk fun j p hj => ?_⟩⟩
    have hjl : j < (compP cs).length := (List.getElem?_eq_some_iff.1 hj).1
    have hp : p = .int .i64 ((Lib.compact (cs.map toI))[j]'(by omega)) := by
      have := hj
      simp only [compP, compact_eq] at this hjl ⊢
      rw [List.getElem?_map] at this
      obtain ⟨z, hz1, hz2⟩ := Option.map_eq_some_iff.1 this
      rw [← hz2]
      congr 1
      rw [List.getElem?_eq_some_iff] at hz1
      obtain ⟨_, hz1⟩ := hz1
      rw [← hz1]
    subst hp
    refine ⟨_, ?_, rfl⟩
    have hjc : j < cur.size := by omega
    simp only [World.cell?, f1, putCells, Nat.zero_add]
    have hjz : j < zl.length := by rw [hz, List.length_append, List.length_replicate]; omega
    simp only [Option.isSome_none, Bool.false_eq_true, if_false, Array.getElem?_mapIdx, Array.getElem?_eq_getElem hjc, Option.map_some, Nat.zero_le, true_and, List.size_toArray, hjz, if_true, Nat.sub_zero]
    congr 2
    have : zl[j]? = some ((Lib.compact (cs.map toI))[j]'(by omega)) := by
      rw [hz, List.getElem?_append_left (by omega)]
      simp
    simp [getElem!_def, this]
  · obtain ⟨v, vs', rfl, hv, hvs⟩ := hv
    simp only [VRelL] at hvs
    subst hvs
    simp only [VRel] at hv
    subst hv
    refine Calls.mono (Any.slices_Compact_int_empty Tryz.lays2_20 none 0 w) ?_
    rintro en w' ⟨rfl, rfl⟩
    exact ⟨_, .snil, _, _, φ, rfl, by simp only [VRel], hm, Step.refl φ w', rfl, rfl, rfl⟩
theorem new_ok : NewOk Tryz.prog DiceI ⟨11, some 86, some 87⟩ :=
  ⟨new_ok0, fun f h => by injection h with h; subst h; exact sort_ok, fun f h => by injection h with h; subst h; exact compact_ok⟩
end Go.Proofs.YtlminnpaeaganaaGreat
