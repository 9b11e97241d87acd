/- Residual trees of functions. No condition. -/
import Derived.Test.YtlminnpaeaganaaMTrA
namespace Go.Proofs.Ytlminnpaeaganaa
open Go Go.RowKit
set_option maxRecDepth 100000
def x21 (P : Program) : Ctx := { P := P, inl := [86, 87, 99, 100, 115, 116, 117, 123], own := [], ownc := [], ownr := [], diceT := 31, diceNew := ⟨18, none, none⟩ }
def w21 : Hints := { sites := [], np := [(87, 6, 18), (123, 3, 12)], thaw := [], skel := [] }
def t21 : Tree := (.prim (.bin .leq 3 (tv 1) (tn 0))
(.ite (.var 2)
(.ret (tn 0))
(.call 66 [(.e (.cst (.ptr 0 0)))]
(.prim (.bin .add 3 (tv 1) (tn 1))
(.prim (.conv 3 87 (tv 4))
(.prim (.bin .mul 87 (tv 3) (tv 5))
(.prim (.bin .shr 87 (tv 6) (.e (.cst (.int .u64 32))))
(.prim (.conv 87 3 (tv 7))
(.ret (tv 8))))))))))
theorem t21_ok : compFun (x21 Try.prog) w21 21 = .ok t21 := by kernel_rfl
theorem k21 : TreeOk Try.prog 31 ⟨18, none, none⟩ ownT 21 t21 (x21 Try.prog) w21 Try.f21 := ⟨rfl, rfl, rfl, (fun g r h => by cases h), by kernel_rfl, by decide, rfl, t21_ok⟩
def x22 (P : Program) : Ctx := { P := P, inl := [86, 87, 99, 100, 115, 116, 117, 123], own := [], ownc := [], ownr := [], diceT := 31, diceNew := ⟨18, none, none⟩ }
def w22 : Hints := { sites := [], np := [(87, 6, 18), (123, 3, 12)], thaw := [], skel := [(0, 29, ⟨[], [0], [2, 1, 3], [], false⟩), (0, 58, ⟨[⟨false, 4, 0, none, false⟩], [0], [1, 3, 2, 4], [], false⟩)] }
def t22 : Tree := (.prim (.agg 2 (tv 0))
(.prim (.len 22 (tp 1 1))
(.prim (.mk [.snil, (.int .i64 0), (.int .i64 0)] 40 (tv 2))
(.join 0
(.loop 1 [(tn 0), (tv 3)]
(.prim (.lenc 3 (.var 5))
(.prim (.bin .lss 3 (tv 4) (tv 6))
(.ite (.var 7)
(.prim (.row 3 (tp 1 1) (tv 4))
(.call 64 [(.agg [(tp 8 0), (tp 8 1), (tp 8 2)])]
(.prim (.chk 3 (.var 5) (tv 4))
(.prim (.agg 3 (tv 9))
(.prim (.put 3 0 (.var 5) (.var 10) [(tp 11 0), (tp 11 1), (tp 11 2)])
(.prim (.bin .add 3 (tv 4) (tn 1))
(.jump 1 [(tv 13), (tv 12)])))))))
(.jump 0 [(tv 5)])))))
(.prim (.frz 3 .real (.var 4))
(.ret (.agg [(tp 1 0), (tv 5)])))))))
theorem t22_ok : compFun (x22 Try.prog) w22 22 = .ok t22 := by kernel_rfl
theorem k22 : TreeOk Try.prog 31 ⟨18, none, none⟩ ownT 22 t22 (x22 Try.prog) w22 Try.f22 := ⟨rfl, rfl, rfl, (fun g r h => by cases h), by kernel_rfl, by decide, rfl, t22_ok⟩
def x23 (P : Program) : Ctx := { P := P, inl := [86, 87, 99, 100, 115, 116, 117, 123], own := [], ownc := [], ownr := [], diceT := 31, diceNew := ⟨18, none, none⟩ }
def w23 : Hints := { sites := [], np := [(87, 6, 18), (123, 3, 12)], thaw := [], skel := [] }
def t23 : Tree := (.prim (.agg 5 (tv 0))
(.call 56 [(tp 1 0)]
(.prim (.one (tv 2))
(.ret (.agg [(tv 3), (tp 1 1), (tp 1 2), (tp 1 3), (tp 1 4)])))))
theorem t23_ok : compFun (x23 Try.prog) w23 23 = .ok t23 := by kernel_rfl
theorem k23 : TreeOk Try.prog 31 ⟨18, none, none⟩ ownT 23 t23 (x23 Try.prog) w23 Try.f23 := ⟨rfl, rfl, rfl, (fun g r h => by cases h), by kernel_rfl, by decide, rfl, t23_ok⟩
def x24 (P : Program) : Ctx := { P := P, inl := [86, 87, 99, 100, 115, 116, 117, 123], own := [], ownc := [], ownr := [], diceT := 31, diceNew := ⟨18, none, none⟩ }
def w24 : Hints := { sites := [], np := [(87, 6, 18), (123, 3, 12)], thaw := [], skel := [] }
def t24 : Tree := (.prim (.agg 2 (tv 0))
(.prim (.one (tv 1))
(.call 67 [(.agg [(tp 2 0), (tp 2 1)]), (.lit 1 1 [(tv 3)]), (.e (.cst .snil))]
(.prim (.ext (tv 4) 0)
(.prim (.ext (tv 4) 1)
(.prim (.agg 2 (tv 5))
(.prim (.bin .neq 39 (tv 6) (tn 0))
(.ite (.var 8)
(.ret (.tup [(.e (.cst .snil)), (tv 6)]))
(.prim (.row 3 (tp 7 1) (tv 1))
(.call 68 [(.agg [(tp 9 0), (tp 9 1), (tp 9 2)])]
(.ret (.tup [(tv 10), (tn 0)]))))))))))))
theorem t24_ok : compFun (x24 Try.prog) w24 24 = .ok t24 := by kernel_rfl
theorem k24 : TreeOk Try.prog 31 ⟨18, none, none⟩ ownT 24 t24 (x24 Try.prog) w24 Try.f24 := ⟨rfl, rfl, rfl, (fun g r h => by cases h), by kernel_rfl, by decide, rfl, t24_ok⟩
def x25 (P : Program) : Ctx := { P := P, inl := [86, 87, 99, 100, 115, 116, 117, 123], own := [], ownc := [], ownr := [], diceT := 31, diceNew := ⟨18, none, none⟩ }
def w25 : Hints := { sites := [], np := [(87, 6, 18), (123, 3, 12)], thaw := [], skel := [] }
def t25 : Tree := (.prim (.agg 2 (tv 0))
(.prim (.one (tv 1))
(.call 69 [(.agg [(tp 2 0), (tp 2 1)]), (.lit 1 1 [(tv 3)]), (.e (.cst .snil))]
(.prim (.bin .neq 39 (tv 4) (tn 0))
(.ite (.var 5)
(.ret (.tup [(.e (.cst .snil)), (tv 4)]))
(.prim (.row 3 (tp 2 1) (tv 1))
(.call 70 [(.agg [(tp 6 0), (tp 6 1), (tp 6 2)])]
(.ret (.tup [(tv 7), (tn 0)])))))))))
theorem t25_ok : compFun (x25 Try.prog) w25 25 = .ok t25 := by kernel_rfl
theorem k25 : TreeOk Try.prog 31 ⟨18, none, none⟩ ownT 25 t25 (x25 Try.prog) w25 Try.f25 := ⟨rfl, rfl, rfl, (fun g r h => by cases h), by kernel_rfl, by decide, rfl, t25_ok⟩
def x26 (P : Program) : Ctx := { P := P, inl := [86, 87, 99, 100, 115, 116, 117, 123], own := [], ownc := [], ownr := [], diceT := 31, diceNew := ⟨18, none, none⟩ }
def w26 : Hints := { sites := [], np := [(87, 6, 18), (123, 3, 12)], thaw := [], skel := [(0, 61, ⟨[], [], [], [], false⟩), (0, 122, ⟨[⟨false, 21, 0, none, false⟩], [], [19, 20, 21], [], false⟩)] }
def t26 : Tree := (.prim (.agg 2 (tv 0))
(.call 71 [(tp 1 0), (tn 0), (tn 3)]
(.prim (.un .not (tv 2))
(.ite (.var 3)
(.ret (tn 1))
(.prim (.len 22 (tp 1 1))
(.call 72 [(tv 4), (tn 4)]
(.prim (.bin .neq 39 (tv 5) (tn 0))
(.ite (.var 6)
(.ret (tv 5))
(.prim (.len 22 (tp 1 1))
(.join 0
(.loop 1 [(tn 0)]
(.prim (.bin .lss 3 (tv 8) (tv 7))
(.ite (.var 9)
(.prim (.row 3 (tp 1 1) (tv 8))
(.call 73 [(.agg [(tp 10 0), (tp 10 1), (tp 10 2)])]
(.prim (.bin .neq 39 (tv 11) (tn 0))
(.ite (.var 12)
(.ret (tv 11))
(.prim (.bin .add 3 (tv 8) (tn 1))
(.jump 1 [(tv 13)]))))))
(.jump 0 []))))
(.ret (tn 0))))))))))))
theorem t26_ok : compFun (x26 Try.prog) w26 26 = .ok t26 := by kernel_rfl
theorem k26 : TreeOk Try.prog 31 ⟨18, none, none⟩ ownT 26 t26 (x26 Try.prog) w26 Try.f26 := ⟨rfl, rfl, rfl, (fun g r h => by cases h), by kernel_rfl, by decide, rfl, t26_ok⟩
def x27 (P : Program) : Ctx := { P := P, inl := [86, 87, 99, 100, 115, 116, 117, 123], own := [], ownc := [], ownr := [], diceT := 31, diceNew := ⟨18, none, none⟩ }
def w27 : Hints := { sites := [], np := [(87, 6, 18), (123, 3, 12)], thaw := [], skel := [(0, 125, ⟨[], [], [], [], false⟩), (0, 250, ⟨[⟨false, 3, 0, none, false⟩], [], [1, 3], [], false⟩)] }
def t27 : Tree := (.prim (.agg 2 (tv 0))
(.call 74 [(tp 1 0), (tn 0), (tn 3)]
(.prim (.un .not (tv 2))
(.ite (.var 3)
(.ret (tn 1))
(.prim (.len 22 (tp 1 1))
(.prim (.bin .eql 3 (tv 4) (tn 0))
(.ite (.var 5)
(.ret (tn 7))
(.prim (.len 22 (tp 1 1))
(.prim (.bin .gtr 3 (tv 6) (tn 4))
(.ite (.var 7)
(.ret (tn 6))
(.join 0
(.loop 1 [(tn 0)]
(.prim (.len 22 (tp 1 1))
(.prim (.bin .lss 3 (tv 8) (tv 9))
(.ite (.var 10)
(.prim (.row 3 (tp 1 1) (tv 8))
(.call 75 [(.agg [(tp 11 0), (tp 11 1), (tp 11 2)])]
(.prim (.bin .neq 39 (tv 12) (tn 0))
(.ite (.var 13)
(.ret (tv 12))
(.prim (.bin .add 3 (tv 8) (tn 1))
(.jump 1 [(tv 14)]))))))
(.jump 0 [])))))
(.ret (tn 0)))))))))))))
theorem t27_ok : compFun (x27 Try.prog) w27 27 = .ok t27 := by kernel_rfl
theorem k27 : TreeOk Try.prog 31 ⟨18, none, none⟩ ownT 27 t27 (x27 Try.prog) w27 Try.f27 := ⟨rfl, rfl, rfl, (fun g r h => by cases h), by kernel_rfl, by decide, rfl, t27_ok⟩
def x28 (P : Program) : Ctx := { P := P, inl := [86, 87, 99, 100, 115, 116, 117, 123], own := [], ownc := [], ownr := [], diceT := 31, diceNew := ⟨18, none, none⟩ }
def w28 : Hints := { sites := [], np := [(87, 6, 18), (123, 3, 12)], thaw := [], skel := [(0, 29, ⟨[], [], [1], [], false⟩), (0, 58, ⟨[⟨false, 12, 0, none, false⟩], [], [10, 1, 11, 12], [], false⟩), (0, 60, ⟨[⟨false, 35, 0, none, false⟩], [], [35], [], false⟩)] }
def t28 : Tree := (.prim (.agg 5 (tv 0))
(.prim (.len 25 (tp 1 0))
(.prim (.bin .gtr 3 (tv 2) (tn 5))
(.ite (.var 3)
(.ret (tn 6))
(.prim (.len 25 (tp 1 0))
(.join 0
(.loop 1 [(tn 0)]
(.prim (.bin .lss 3 (tv 5) (tv 4))
(.ite (.var 6)
(.prim (.row 1 (tp 1 0) (tv 5))
(.call 71 [(tp 7 0), (tn 1), (tn 30)]
(.prim (.un .not (tv 8))
(.ite (.var 9)
(.ret (tn 1))
(.prim (.bin .add 3 (tv 5) (tn 1))
(.jump 1 [(tv 10)]))))))
(.jump 0 []))))
(.join 1
(.call 71 [(tp 1 1), (tn 0), (tn 30)]
(.prim (.un .not (tv 5))
(.ite (.var 6)
(.jump 1 [(.e (.cst (.bool true)))])
(.call 71 [(tp 1 2), (tn 0), (tn 30)]
(.prim (.un .not (tv 7))
(.ite (.var 8)
(.jump 1 [(.e (.cst (.bool true)))])
(.call 71 [(tp 1 3), (tn 0), (tn 60)]
(.prim (.un .not (tv 9))
(.jump 1 [(tv 10)])))))))))
(.ite (.var 5)
(.ret (tn 1))
(.ret (tn 0))))))))))
theorem t28_ok : compFun (x28 Try.prog) w28 28 = .ok t28 := by kernel_rfl
theorem k28 : TreeOk Try.prog 31 ⟨18, none, none⟩ ownT 28 t28 (x28 Try.prog) w28 Try.f28 := ⟨rfl, rfl, rfl, (fun g r h => by cases h), by kernel_rfl, by decide, rfl, t28_ok⟩
def x29 (P : Program) : Ctx := { P := P, inl := [86, 87, 99, 100, 115, 116, 117, 123], own := [], ownc := [], ownr := [], diceT := 31, diceNew := ⟨18, none, none⟩ }
def w29 : Hints := { sites := [], np := [(87, 6, 18), (123, 3, 12)], thaw := [], skel := [(0, 29, ⟨[], [], [1], [], false⟩), (0, 58, ⟨[⟨false, 3, 0, none, false⟩], [], [1, 3], [], false⟩), (0, 60, ⟨[⟨false, 37, 0, none, false⟩], [], [37], [], false⟩)] }
def t29 : Tree := (.prim (.agg 5 (tv 0))
(.prim (.len 25 (tp 1 0))
(.prim (.bin .gtr 3 (tv 2) (tn 5))
(.ite (.var 3)
(.ret (tn 6))
(.join 0
(.loop 1 [(tn 0)]
(.prim (.len 25 (tp 1 0))
(.prim (.bin .lss 3 (tv 4) (tv 5))
(.ite (.var 6)
(.prim (.row 1 (tp 1 0) (tv 4))
(.call 74 [(tp 7 0), (tn 1), (tn 30)]
(.prim (.un .not (tv 8))
(.ite (.var 9)
(.ret (tn 1))
(.prim (.bin .add 3 (tv 4) (tn 1))
(.jump 1 [(tv 10)]))))))
(.jump 0 [])))))
(.join 1
(.call 74 [(tp 1 1), (tn 0), (tn 30)]
(.prim (.un .not (tv 4))
(.ite (.var 5)
(.jump 1 [(.e (.cst (.bool true)))])
(.call 74 [(tp 1 2), (tn 0), (tn 30)]
(.prim (.un .not (tv 6))
(.ite (.var 7)
(.jump 1 [(.e (.cst (.bool true)))])
(.call 74 [(tp 1 3), (tn 0), (tn 60)]
(.prim (.un .not (tv 8))
(.jump 1 [(tv 9)])))))))))
(.ite (.var 4)
(.ret (tn 1))
(.ret (tn 0)))))))))
theorem t29_ok : compFun (x29 Try.prog) w29 29 = .ok t29 := by kernel_rfl
theorem k29 : TreeOk Try.prog 31 ⟨18, none, none⟩ ownT 29 t29 (x29 Try.prog) w29 Try.f29 := ⟨rfl, rfl, rfl, (fun g r h => by cases h), by kernel_rfl, by decide, rfl, t29_ok⟩
def x30 (P : Program) : Ctx := { P := P, inl := [86, 87, 99, 100, 115, 116, 117, 123], own := [], ownc := [], ownr := [], diceT := 31, diceNew := ⟨18, none, none⟩ }
def w30 : Hints := { sites := [], np := [(30, 5, 8), (87, 6, 18), (123, 3, 12)], thaw := [], skel := [(0, 29, ⟨[⟨false, 5, 0, none, false⟩], [], [5], [], false⟩), (0, 58, ⟨[⟨false, 5, 0, none, false⟩, ⟨false, 6, 0, none, false⟩], [], [1, 0, 6, 5], [], false⟩), (0, 464, ⟨[⟨false, 18, 0, none, false⟩], [], [18, 1, 0, 6, 5], [], false⟩)] }
def t30 : Tree := (.prim (.len 25 (tv 0))
(.prim (.len 25 (tv 1))
(.prim (.bin .eql 3 (tv 2) (tv 3))
(.join 0
(.loop 1 [(tv 4), (tn 0)]
(.join 2
(.ite (.var 5)
(.prim (.len 25 (tv 0))
(.prim (.bin .lss 3 (tv 6) (tv 7))
(.jump 2 [(tv 8)])))
(.jump 2 [(.e (.cst (.bool false)))]))
(.ite (.var 7)
(.prim (.row 1 (tv 0) (tv 6))
(.prim (.row 1 (tv 1) (tv 6))
(.prim (.bin .eql 3 (tp 8 0) (tp 9 0))
(.prim (.bin .add 3 (tv 6) (tn 1))
(.jump 1 [(tv 10), (tv 11)])))))
(.jump 0 [(tv 5)]))))
(.ret (tv 5))))))
theorem t30_ok : compFun (x30 Try.prog) w30 30 = .ok t30 := by kernel_rfl
theorem k30 : TreeOk Try.prog 31 ⟨18, none, none⟩ ownT 30 t30 (x30 Try.prog) w30 Try.f30 := ⟨rfl, rfl, rfl, (fun g r h => by cases h), by kernel_rfl, by decide, rfl, t30_ok⟩
def x31 (P : Program) : Ctx := { P := P, inl := [86, 87, 99, 100, 115, 116, 117, 123], own := [], ownc := [], ownr := [], diceT := 31, diceNew := ⟨18, none, none⟩ }
def w31 : Hints := { sites := [], np := [(87, 6, 18), (123, 3, 12)], thaw := [], skel := [] }
def t31 : Tree := (.prim (.agg 2 (tv 0))
(.prim (.agg 5 (tv 2))
(.prim (.one (tv 1))
(.call 67 [(.agg [(tp 3 0), (tp 3 1)]), (.lit 1 1 [(tv 5)]), (.lit 5 1 [(tp 4 0), (tp 4 1), (tp 4 2), (tp 4 3), (tp 4 4)])]
(.prim (.ext (tv 6) 0)
(.prim (.ext (tv 6) 1)
(.prim (.agg 2 (tv 7))
(.prim (.bin .neq 39 (tv 8) (tn 0))
(.ite (.var 10)
(.ret (.tup [(.e (.cst .snil)), (tv 8)]))
(.call 76 [(.agg [(tp 9 0), (tp 9 1)]), (tv 1), (.agg [(tp 4 0), (tp 4 1), (tp 4 2), (tp 4 3), (tp 4 4)])]
(.ret (.tup [(tv 11), (tn 0)]))))))))))))
theorem t31_ok : compFun (x31 Try.prog) w31 31 = .ok t31 := by kernel_rfl
theorem k31 : TreeOk Try.prog 31 ⟨18, none, none⟩ ownT 31 t31 (x31 Try.prog) w31 Try.f31 := ⟨rfl, rfl, rfl, (fun g r h => by cases h), by kernel_rfl, by decide, rfl, t31_ok⟩
def x32 (P : Program) : Ctx := { P := P, inl := [86, 87, 99, 100, 115, 116, 117, 123], own := [], ownc := [], ownr := [], diceT := 31, diceNew := ⟨18, none, none⟩ }
def w32 : Hints := { sites := [], np := [(32, 4, 10), (87, 6, 18), (123, 3, 12)], thaw := [], skel := [] }
def t32 : Tree := (.prim (.agg 2 (tv 0))
(.prim (.agg 5 (tv 2))
(.prim (.one (tv 1))
(.call 69 [(.agg [(tp 3 0), (tp 3 1)]), (.lit 1 1 [(tv 5)]), (.lit 5 1 [(tp 4 0), (tp 4 1), (tp 4 2), (tp 4 3), (tp 4 4)])]
(.prim (.bin .neq 39 (tv 6) (tn 0))
(.ite (.var 7)
(.ret (.tup [(.e (.cst .snil)), (tv 6)]))
(.prim (.row 3 (tp 3 1) (tv 1))
(.call 78 [(.agg [(tp 4 0), (tp 4 1), (tp 4 2), (tp 4 3), (tp 4 4)])]
(.call 77 [(.agg [(tp 8 0), (tp 8 1), (tp 8 2)]), (tp 3 0), (.agg [(tp 4 0), (tp 4 1), (tp 4 2), (tp 4 3), (tp 4 4)]), (tv 9)]
(.ret (.tup [(tv 10), (tn 0)])))))))))))
theorem t32_ok : compFun (x32 Try.prog) w32 32 = .ok t32 := by kernel_rfl
theorem k32 : TreeOk Try.prog 31 ⟨18, none, none⟩ ownT 32 t32 (x32 Try.prog) w32 Try.f32 := ⟨rfl, rfl, rfl, (fun g r h => by cases h), by kernel_rfl, by decide, rfl, t32_ok⟩
def x33 (P : Program) : Ctx := { P := P, inl := [86, 87, 99, 100, 115, 116, 117, 123], own := [], ownc := [], ownr := [], diceT := 31, diceNew := ⟨18, none, none⟩ }
def w33 : Hints := { sites := [], np := [(33, 6, 8), (87, 6, 18), (123, 3, 12)], thaw := [], skel := [(0, 29, ⟨[], [], [], [], false⟩), (0, 58, ⟨[⟨false, 5, 0, none, false⟩], [], [1, 0, 5], [], false⟩)] }
def t33 : Tree := (.prim (.len 45 (tv 0))
(.prim (.len 45 (tv 1))
(.prim (.bin .neq 3 (tv 2) (tv 3))
(.ite (.var 4)
(.ret (.e (.cst (.bool false))))
(.join 0
(.loop 1 [(tn 0)]
(.prim (.len 45 (tv 0))
(.prim (.bin .lss 3 (tv 5) (tv 6))
(.ite (.var 7)
(.prim (.row 2 (tv 0) (tv 5))
(.prim (.row 2 (tv 1) (tv 5))
(.prim (.bin .neq 62 (.agg [(tp 8 0), (tp 8 1)]) (.agg [(tp 9 0), (tp 9 1)]))
(.ite (.var 10)
(.ret (.e (.cst (.bool false))))
(.prim (.bin .add 3 (tv 5) (tn 1))
(.jump 1 [(tv 11)]))))))
(.jump 0 [])))))
(.ret (.e (.cst (.bool true)))))))))
theorem t33_ok : compFun (x33 Try.prog) w33 33 = .ok t33 := by kernel_rfl
theorem k33 : TreeOk Try.prog 31 ⟨18, none, none⟩ ownT 33 t33 (x33 Try.prog) w33 Try.f33 := ⟨rfl, rfl, rfl, (fun g r h => by cases h), by kernel_rfl, by decide, rfl, t33_ok⟩
def x34 (P : Program) : Ctx := { P := P, inl := [86, 87, 99, 100, 115, 116, 117, 123], own := [], ownc := [], ownr := [], diceT := 31, diceNew := ⟨18, none, none⟩ }
def w34 : Hints := { sites := [], np := [(87, 6, 18), (123, 3, 12)], thaw := [], skel := [(0, 6, ⟨[⟨false, 8, 0, none, false⟩], [], [8], [], false⟩)] }
def t34 : Tree := (.prim (.agg 2 (tv 0))
(.prim (.agg 2 (tv 1))
(.join 0
(.call 37 [(.agg [(tp 4 0), (tp 4 1)]), (.agg [(tp 5 0), (tp 5 1)])]
(.ite (.var 6)
(.call 79 [(tv 2), (tv 3)]
(.jump 0 [(tv 7)]))
(.jump 0 [(.e (.cst (.bool false)))])))
(.ret (tv 6)))))
theorem t34_ok : compFun (x34 Try.prog) w34 34 = .ok t34 := by kernel_rfl
theorem k34 : TreeOk Try.prog 31 ⟨18, none, none⟩ ownT 34 t34 (x34 Try.prog) w34 Try.f34 := ⟨rfl, rfl, rfl, (fun g r h => by cases h), by kernel_rfl, by decide, rfl, t34_ok⟩
def x35 (P : Program) : Ctx := { P := P, inl := [86, 87, 99, 100, 115, 116, 117, 123], own := [], ownc := [], ownr := [], diceT := 31, diceNew := ⟨18, none, none⟩ }
def w35 : Hints := { sites := [], np := [(35, 4, 13), (35, 15, 8), (35, 17, 8), (87, 6, 18), (123, 3, 12)], thaw := [], skel := [(0, 125, ⟨[], [], [], [], false⟩), (0, 250, ⟨[⟨false, 37, 0, none, false⟩], [], [11, 2, 9, 10, 37], [], false⟩), (0, 32051, ⟨[], [], [11, 2, 9, 10, 37], [], false⟩), (0, 64102, ⟨[⟨false, 13, 0, none, false⟩], [], [13, 11, 12, 2, 9, 10, 37], [], false⟩), (0, 8205093, ⟨[⟨true, 4, 0, (some (1, .nil0)), false⟩], [], [13, 12, 11, 2, 9, 10, 37, 14], [], false⟩), (0, 16410186, ⟨[⟨false, 50, 0, none, false⟩, ⟨true, 4, 0, (some (1, .nil0)), false⟩], [], [14, 13, 11, 12, 2, 9, 10, 37, 49, 50], [], false⟩)] }
def t35 : Tree := (.prim (.agg 2 (tv 0))
(.prim (.one (tv 1))
(.prim (.one (tv 2))
(.call 67 [(.agg [(tp 3 0), (tp 3 1)]), (.lit 1 2 [(tv 4), (tv 5)]), (.e (.cst .snil))]
(.prim (.ext (tv 6) 0)
(.prim (.ext (tv 6) 1)
(.prim (.agg 2 (tv 7))
(.prim (.bin .neq 39 (tv 8) (tn 0))
(.ite (.var 10)
(.ret (.tup [(tn 0), (tn 0), (tv 8)]))
(.call 80 [(tp 9 0)]
(.prim (.row 3 (tp 9 1) (tv 1))
(.prim (.agg 2 (tv 11))
(.join 0
(.loop 1 [(tn 0)]
(.prim (.bin .lss 3 (tv 14) (tn 6))
(.ite (.var 15)
(.join 2
(.loop 3 [(tn 0)]
(.prim (.bin .add 3 (tv 16) (tv 14))
(.prim (.bin .sub 3 (tp 12 1) (tn 1))
(.prim (.bin .leq 3 (tv 17) (tv 18))
(.ite (.var 19)
(.join 4
(.loop 5 [(tn 0), (.e (.cst (.agg [])))]
(.prim (.bin .lss 3 (tv 20) (tv 14))
(.ite (.var 22)
(.prim (.bin .add 3 (tv 16) (tv 20))
(.call 81 [(.agg [(tp 12 0), (tp 12 1), (tp 12 2)]), (tv 23)]
(.prim (.one (tv 24))
(.prim (.push 1 8 (.var 21) (.lit 1 1 [(tv 25)]))
(.prim (.bin .add 3 (tv 20) (tn 1))
(.jump 5 [(tv 27), (tv 26)]))))))
(.jump 4 [(tv 21)]))))
(.prim (.row 3 (tp 9 1) (tv 2))
(.prim (.frz 1 .nil0 (.var 20))
(.call 82 [(.agg [(tp 13 0), (tp 13 1)]), (.agg [(tp 21 0), (tp 21 1), (tp 21 2)]), (.agg [(tv 22), (tn 0), (tn 0), (tn 0), (.e (.cst (.bool false)))]), (.e (.cst (.int .u8 0)))]
(.prim (.un .not (tv 23))
(.ite (.var 24)
(.ret (.tup [(tv 14), (tv 16), (tn 0)]))
(.prim (.bin .add 3 (tv 16) (tn 1))
(.jump 3 [(tv 25)]))))))))
(.jump 2 []))))))
(.prim (.bin .add 3 (tv 14) (tn 1))
(.jump 1 [(tv 16)])))
(.jump 0 []))))
(.ret (.tup [(tn 0), (tn 0), (tn 11)])))))))))))))))
theorem t35_ok : compFun (x35 Try.prog) w35 35 = .ok t35 := by kernel_rfl
theorem k35 : TreeOk Try.prog 31 ⟨18, none, none⟩ ownT 35 t35 (x35 Try.prog) w35 Try.f35 := ⟨rfl, rfl, rfl, (fun g r h => by cases h), by kernel_rfl, by decide, rfl, t35_ok⟩
def x36 (P : Program) : Ctx := { P := P, inl := [86, 87, 99, 100, 115, 116, 117, 123], own := [], ownc := [], ownr := [], diceT := 31, diceNew := ⟨18, none, none⟩ }
def w36 : Hints := { sites := [], np := [(36, 15, 8), (36, 16, 10), (87, 6, 18), (123, 3, 12)], thaw := [(0, 16, 0)], skel := [(0, 61, ⟨[], [], [], [], false⟩), (0, 122, ⟨[⟨false, 11, 0, none, false⟩], [], [10, 11, 3, 2], [], false⟩), (0, 3913, ⟨[], [], [10, 3, 2, 11], [], false⟩), (0, 7826, ⟨[⟨false, 12, 0, none, false⟩], [], [12, 10, 11, 3, 2], [], false⟩), (0, 1001765, ⟨[⟨true, 2, 0, (some (1, .nil0)), false⟩], [], [12, 11, 10, 3, 2, 13], [], false⟩), (0, 2003530, ⟨[⟨false, 14, 0, none, false⟩, ⟨true, 2, 0, (some (1, .nil0)), false⟩], [], [13, 12, 10, 11, 3, 2, 14], [], false⟩)] }
def t36 : Tree := (.prim (.agg 2 (tv 0))
(.prim (.one (tv 1))
(.prim (.one (tv 2))
(.call 69 [(.agg [(tp 3 0), (tp 3 1)]), (.lit 1 2 [(tv 4), (tv 5)]), (.e (.cst .snil))]
(.prim (.bin .neq 39 (tv 6) (tn 0))
(.ite (.var 7)
(.ret (.tup [(tn 0), (tn 0), (tv 6)]))
(.prim (.row 3 (tp 3 1) (tv 1))
(.join 0
(.loop 1 [(tn 0)]
(.prim (.bin .leq 3 (tv 9) (tn 5))
(.ite (.var 10)
(.join 2
(.loop 3 [(tn 0)]
(.prim (.bin .add 3 (tv 11) (tv 9))
(.prim (.bin .lss 3 (tv 12) (tp 8 1))
(.ite (.var 13)
(.join 4
(.loop 5 [(tn 0), (.e (.cst (.agg [])))]
(.prim (.bin .lss 3 (tv 14) (tv 9))
(.ite (.var 16)
(.prim (.bin .add 3 (tv 11) (tv 14))
(.call 83 [(.agg [(tp 8 0), (tp 8 1), (tp 8 2)]), (tv 17)]
(.prim (.one (tv 18))
(.prim (.push 1 8 (.var 15) (.lit 1 1 [(tv 19)]))
(.prim (.bin .add 3 (tv 14) (tn 1))
(.jump 5 [(tv 21), (tv 20)]))))))
(.jump 4 [(tv 15)]))))
(.prim (.frz 1 .nil0 (.var 14))
(.prim (.row 3 (tp 3 1) (tv 2))
(.call 78 [(.agg [(tv 15), (tn 0), (tn 0), (tn 0), (.e (.cst (.bool false)))])]
(.call 77 [(.agg [(tp 16 0), (tp 16 1), (tp 16 2)]), (tp 3 0), (.agg [(tv 15), (tn 0), (tn 0), (tn 0), (.e (.cst (.bool false)))]), (tv 17)]
(.prim (.len 45 (tv 18))
(.prim (.bin .eql 3 (tv 19) (tn 0))
(.ite (.var 20)
(.ret (.tup [(tv 9), (tv 11), (tn 0)]))
(.prim (.bin .add 3 (tv 11) (tn 1))
(.jump 3 [(tv 21)]))))))))))
(.jump 2 [])))))
(.prim (.bin .add 3 (tv 9) (tn 1))
(.jump 1 [(tv 11)])))
(.jump 0 []))))
(.ret (.tup [(tn 0), (tn 0), (tn 11)]))))))))))
theorem t36_ok : compFun (x36 Try.prog) w36 36 = .ok t36 := by kernel_rfl
theorem k36 : TreeOk Try.prog 31 ⟨18, none, none⟩ ownT 36 t36 (x36 Try.prog) w36 Try.f36 := ⟨rfl, rfl, rfl, (fun g r h => by cases h), by kernel_rfl, by decide, rfl, t36_ok⟩
def x37 (P : Program) : Ctx := { P := P, inl := [86, 87, 99, 100, 115, 116, 117, 123], own := [], ownc := [], ownr := [], diceT := 31, diceNew := ⟨18, none, none⟩ }
def w37 : Hints := { sites := [], np := [(37, 6, 13), (87, 6, 18), (123, 3, 12)], thaw := [], skel := [(0, 12, ⟨[⟨false, 21, 0, none, false⟩], [], [21, 3, 2], [], false⟩), (0, 29, ⟨[], [], [], [], false⟩), (0, 58, ⟨[⟨false, 5, 0, none, false⟩], [], [3, 2, 5], [], false⟩), (0, 3730, ⟨[⟨false, 58, 0, none, false⟩], [], [58, 3, 2, 5], [], false⟩)] }
def t37 : Tree := (.prim (.agg 2 (tv 0))
(.prim (.agg 2 (tv 1))
(.join 0
(.prim (.bin .neq 3 (tp 2 0) (tp 3 0))
(.ite (.var 4)
(.jump 0 [(.e (.cst (.bool true)))])
(.prim (.len 22 (tp 2 1))
(.prim (.len 22 (tp 3 1))
(.prim (.bin .neq 3 (tv 5) (tv 6))
(.jump 0 [(tv 7)]))))))
(.ite (.var 4)
(.ret (.e (.cst (.bool false))))
(.join 1
(.loop 2 [(tn 0)]
(.prim (.len 22 (tp 2 1))
(.prim (.bin .lss 3 (tv 5) (tv 6))
(.ite (.var 7)
(.prim (.row 3 (tp 2 1) (tv 5))
(.prim (.row 3 (tp 3 1) (tv 5))
(.join 3
(.call 30 [(tp 8 0), (tp 9 0)]
(.prim (.un .not (tv 10))
(.ite (.var 11)
(.jump 3 [(.e (.cst (.bool true)))])
(.prim (.bin .neq 3 (tp 8 1) (tp 9 1))
(.ite (.var 12)
(.jump 3 [(.e (.cst (.bool true)))])
(.prim (.bin .neq 3 (tp 8 2) (tp 9 2))
(.jump 3 [(tv 13)])))))))
(.ite (.var 10)
(.ret (.e (.cst (.bool false))))
(.prim (.bin .add 3 (tv 5) (tn 1))
(.jump 2 [(tv 11)]))))))
(.jump 1 [])))))
(.ret (.e (.cst (.bool true)))))))))
theorem t37_ok : compFun (x37 Try.prog) w37 37 = .ok t37 := by kernel_rfl
theorem k37 : TreeOk Try.prog 31 ⟨18, none, none⟩ ownT 37 t37 (x37 Try.prog) w37 Try.f37 := ⟨rfl, rfl, rfl, (fun g r h => by cases h), by kernel_rfl, by decide, rfl, t37_ok⟩
def x38 (P : Program) : Ctx := { P := P, inl := [86, 87, 99, 100, 115, 116, 117, 123], own := [], ownc := [], ownr := [], diceT := 31, diceNew := ⟨18, none, none⟩ }
def w38 : Hints := { sites := [], np := [(38, 5, 5), (87, 6, 18), (123, 3, 12)], thaw := [], skel := [(0, 29, ⟨[⟨true, 1, 1, (some (3, .nil0)), false⟩], [], [4, 5], [], false⟩), (0, 58, ⟨[⟨false, 6, 0, none, false⟩, ⟨true, 1, 1, (some (3, .nil0)), false⟩], [], [5, 0, 4, 6], [], false⟩)] }
def t38 : Tree := (.call 21 [(.e (.cst (.ptr 0 0))), (tn 3)]
(.prim (.one (tv 2))
(.call 65 [(.e (.cst (.ptr 0 0))), (.lit 1 4 [(tn 0), (tn 1), (tn 1), (tv 3)])]
(.prim (.one (tv 4))
(.call 44 [(.e (.cst (.ptr 0 0))), (tn 1), (tv 1)]
(.join 0
(.loop 1 [(tv 6), (.e (.cst (.agg [])))]
(.prim (.bin .gtr 3 (tv 7) (tn 0))
(.ite (.var 9)
(.call 84 [(.e (.cst (.ptr 0 0)))]
(.prim (.agg 3 (tv 10))
(.prim (.push 3 40 (.var 8) (.lit 3 1 [(tp 11 0), (tp 11 1), (tp 11 2)]))
(.prim (.bin .sub 3 (tv 7) (tn 1))
(.jump 1 [(tv 13), (tv 12)])))))
(.jump 0 [(tv 8)]))))
(.prim (.frz 3 .nil0 (.var 7))
(.ret (.agg [(tv 5), (tv 8)])))))))))
theorem t38_ok : compFunO (x38 Try.prog) w38 (some (2, 1)) 38 = .ok t38 := by kernel_rfl
theorem k38 : TreeOk Try.prog 31 ⟨18, none, none⟩ ownT 38 t38 (x38 Try.prog) w38 Try.f38 := ⟨rfl, rfl, rfl, (fun g r h => by cases h), by kernel_rfl, by decide, rfl, t38_ok⟩
def x39 (P : Program) : Ctx := { P := P, inl := [86, 87, 99, 100, 115, 116, 117, 123, 56], own := [], ownc := [], ownr := [], diceT := 31, diceNew := ⟨18, none, none⟩ }
def w39 : Hints := { sites := [1003], np := [(39, 5, 11), (39, 6, 11), (87, 6, 18), (123, 3, 12)], thaw := [], skel := [(0, 29, ⟨[], [0], [6, 4, 2, 0], [], false⟩), (0, 58, ⟨[⟨false, 7, 0, none, false⟩], [0], [2, 4, 0, 6, 7], [], false⟩), (0, 125, ⟨[⟨true, 0, 3, none, false⟩], [], [6, 4], [], false⟩), (1003, 29, ⟨[], [0], [3], [], false⟩), (1003, 58, ⟨[⟨false, 4, 0, none, false⟩], [0], [0, 3, 4], [], false⟩)] }
def t39 : Tree := (.prim (.agg 5 (tv 1))
(.prim (.len 25 (tp 3 0))
(.prim (.mk [(.int .i64 0)] 8 (tv 4))
(.join 0
(.loop 1 [(tn 0), (tv 5)]
(.prim (.len 25 (tp 3 0))
(.prim (.bin .lss 3 (tv 6) (tv 8))
(.ite (.var 9)
(.prim (.row 1 (tp 3 0) (tv 6))
(.prim (.chk 1 (.var 7) (tv 6))
(.prim (.put 1 0 (.var 7) (.var 11) [(tp 10 0)])
(.prim (.bin .add 3 (tv 6) (tn 1))
(.jump 1 [(tv 13), (tv 12)])))))
(.jump 0 [(tv 7)])))))
(.join 1
(.loop 2 [(tn 0), (tv 6)]
(.prim (.lenc 1 (.var 8))
(.prim (.bin .lss 3 (tv 7) (tv 9))
(.ite (.var 10)
(.prim (.chk 1 (.var 8) (tv 7))
(.prim (.get 1 0 1 (.var 8) (.var 11))
(.call 85 [(.e (.cst (.ptr 0 0))), (tp 12 0), (tv 2), (tn 1), (tn 30)]
(.prim (.chk 1 (.var 8) (tv 7))
(.prim (.one (tv 13))
(.prim (.put 1 0 (.var 8) (.var 14) [(tv 15)])
(.prim (.bin .add 3 (tv 7) (tn 1))
(.jump 2 [(tv 17), (tv 16)]))))))))
(.jump 1 [(tv 8)])))))
(.call 85 [(.e (.cst (.ptr 0 0))), (tp 3 1), (tv 2), (tn 0), (tn 30)]
(.call 85 [(.e (.cst (.ptr 0 0))), (tp 3 2), (tv 2), (tn 0), (tn 30)]
(.prim (.one (tv 8))
(.prim (.one (tv 9))
(.prim (.bin .gtr 3 (tp 3 3) (tn 0))
(.join 2
(.ite (.var 12)
(.call 85 [(.e (.cst (.ptr 0 0))), (tp 3 3), (tv 2), (tn 1), (tn 60)]
(.prim (.one (tv 13))
(.jump 2 [(tv 14)])))
(.jump 2 [(tp 3 3)]))
(.prim (.frz 1 .real (.var 7))
(.ret (.agg [(tv 14), (tv 10), (tv 11), (tv 13), (tp 3 4)]))))))))))))))
theorem t39_ok : compFunO (x39 Try.prog) w39 (some (5, 0)) 39 = .ok t39 := by kernel_rfl
theorem k39 : TreeOk Try.prog 31 ⟨18, none, none⟩ ownT 39 t39 (x39 Try.prog) w39 Try.f39 := ⟨rfl, rfl, rfl, (fun g r h => by cases h), by kernel_rfl, by decide, rfl, t39_ok⟩
def x40 (P : Program) : Ctx := { P := P, inl := [86, 87, 99, 100, 115, 116, 117, 123], own := [], ownc := [], ownr := [], diceT := 31, diceNew := ⟨18, none, none⟩ }
def w40 : Hints := { sites := [], np := [(40, 5, 6), (87, 6, 18), (123, 3, 12)], thaw := [], skel := [(0, 29, ⟨[⟨true, 2, 0, (some (1, .nil0)), false⟩], [], [8, 9, 5, 0, 3, 2], [], false⟩), (0, 58, ⟨[⟨false, 10, 0, none, false⟩, ⟨true, 2, 0, (some (1, .nil0)), false⟩], [], [9, 5, 8, 0, 3, 2, 10], [], false⟩), (0, 125, ⟨[⟨true, 2, 1, none, false⟩], [], [8, 9, 5, 0, 3], [], false⟩), (0, 253, ⟨[⟨true, 2, 2, none, false⟩], [], [8, 9, 5, 0], [], false⟩)] }
def t40 : Tree := (.prim (.agg 3 (tv 1))
(.join 0
(.loop 1 [(tv 2), (.e (.cst (.agg [])))]
(.prim (.bin .lss 3 (tv 5) (tv 3))
(.ite (.var 7)
(.call 51 [(.agg [(tp 4 0), (tp 4 1), (tp 4 2)]), (tv 5)]
(.prim (.one (tv 8))
(.prim (.push 1 8 (.var 6) (.lit 1 1 [(tv 9)]))
(.prim (.bin .add 3 (tv 5) (tn 1))
(.jump 1 [(tv 11), (tv 10)])))))
(.jump 0 [(tv 6)]))))
(.call 21 [(.e (.cst (.ptr 0 0))), (tn 30)]
(.call 21 [(.e (.cst (.ptr 0 0))), (tn 30)]
(.prim (.one (tv 6))
(.prim (.one (tv 7))
(.prim (.bin .gtr 3 (tv 2) (tn 0))
(.join 1
(.ite (.var 10)
(.prim (.bin .sub 3 (tv 2) (tn 1))
(.call 51 [(.agg [(tp 4 0), (tp 4 1), (tp 4 2)]), (tv 11)]
(.prim (.bin .sub 3 (tv 12) (tn 1))
(.call 21 [(.e (.cst (.ptr 0 0))), (tv 13)]
(.prim (.one (tv 14))
(.jump 1 [(tv 15)]))))))
(.jump 1 [(tv 8)]))
(.prim (.bin .sub 3 (tp 4 1) (tn 1))
(.prim (.bin .lss 3 (tv 3) (tv 12))
(.join 2
(.ite (.var 13)
(.call 51 [(.agg [(tp 4 0), (tp 4 1), (tp 4 2)]), (tv 3)]
(.prim (.bin .sub 3 (tv 14) (tn 1))
(.call 21 [(.e (.cst (.ptr 0 0))), (tv 15)]
(.prim (.one (tv 16))
(.jump 2 [(tv 17)])))))
(.jump 2 [(tv 9)]))
(.call 65 [(.e (.cst (.ptr 0 0))), (.lit 1 2 [(tn 0), (tp 4 2)])]
(.prim (.one (tv 15))
(.prim (.frz 1 .nil0 (.var 5))
(.ret (.agg [(tv 17), (tv 11), (tv 14), (tv 16), (.e (.cst (.bool false)))]))))))))))))))))
theorem t40_ok : compFun (x40 Try.prog) w40 40 = .ok t40 := by kernel_rfl
theorem k40 : TreeOk Try.prog 31 ⟨18, none, none⟩ ownT 40 t40 (x40 Try.prog) w40 Try.f40 := ⟨rfl, rfl, rfl, (fun g r h => by cases h), by kernel_rfl, by decide, rfl, t40_ok⟩
def x41 (P : Program) : Ctx := { P := P, inl := [86, 87, 99, 100, 115, 116, 117, 123], own := [], ownc := [], ownr := [], diceT := 31, diceNew := ⟨18, none, none⟩ }
def w41 : Hints := { sites := [], np := [(87, 6, 18), (123, 3, 12)], thaw := [], skel := [] }
def t41 : Tree := (.prim (.agg 5 (tv 0))
(.ret (.agg [(tp 1 0), (tp 1 1), (tp 1 2), (tp 1 3), (.e (.cst (.bool true)))])))
theorem t41_ok : compFun (x41 Try.prog) w41 41 = .ok t41 := by kernel_rfl
theorem k41 : TreeOk Try.prog 31 ⟨18, none, none⟩ ownT 41 t41 (x41 Try.prog) w41 Try.f41 := ⟨rfl, rfl, rfl, (fun g r h => by cases h), by kernel_rfl, by decide, rfl, t41_ok⟩
def x42 (P : Program) : Ctx := { P := P, inl := [86, 87, 99, 100, 115, 116, 117, 123], own := [], ownc := [], ownr := [], diceT := 31, diceNew := ⟨18, none, none⟩ }
def w42 : Hints := { sites := [], np := [(42, 5, 9), (87, 6, 18), (123, 3, 12)], thaw := [], skel := [(0, 29, ⟨[⟨true, 2, 0, (some (1, .nil0)), false⟩], [], [2, 3], [], false⟩), (0, 58, ⟨[⟨false, 4, 0, none, false⟩, ⟨true, 2, 0, (some (1, .nil0)), false⟩], [], [3, 1, 2, 4], [], false⟩)] }
def t42 : Tree := (.prim (.agg 5 (tv 0))
(.prim (.len 25 (tp 1 0))
(.join 0
(.loop 1 [(tv 2), (.e (.cst (.agg [])))]
(.prim (.bin .gtr 3 (tv 3) (tn 0))
(.ite (.var 5)
(.prim (.bin .sub 3 (tv 3) (tn 1))
(.prim (.row 1 (tp 1 0) (tv 6))
(.prim (.push 1 8 (.var 4) (.lit 1 1 [(tp 7 0)]))
(.prim (.bin .sub 3 (tv 3) (tn 1))
(.jump 1 [(tv 9), (tv 8)])))))
(.jump 0 [(tv 4)]))))
(.prim (.frz 1 .nil0 (.var 3))
(.ret (.agg [(tv 4), (tp 1 2), (tp 1 1), (tp 1 3), (tp 1 4)]))))))
theorem t42_ok : compFun (x42 Try.prog) w42 42 = .ok t42 := by kernel_rfl
theorem k42 : TreeOk Try.prog 31 ⟨18, none, none⟩ ownT 42 t42 (x42 Try.prog) w42 Try.f42 := ⟨rfl, rfl, rfl, (fun g r h => by cases h), by kernel_rfl, by decide, rfl, t42_ok⟩
def x43 (P : Program) : Ctx := { P := P, inl := [86, 87, 99, 100, 115, 116, 117, 123], own := [], ownc := [], ownr := [], diceT := 31, diceNew := ⟨18, none, none⟩ }
def w43 : Hints := { sites := [], np := [(43, 4, 5), (87, 6, 18), (123, 3, 12)], thaw := [], skel := [(0, 13, ⟨[], [], [], [], false⟩), (0, 26, ⟨[⟨false, 5, 0, none, false⟩], [], [3, 0, 5], [], false⟩)] }
def t43 : Tree := (.prim (.agg 2 (tv 1))
(.join 0
(.loop 1 [(tn 0)]
(.prim (.len 45 (tv 0))
(.prim (.bin .lss 3 (tv 3) (tv 4))
(.ite (.var 5)
(.prim (.row 2 (tv 0) (tv 3))
(.prim (.bin .eql 62 (.agg [(tp 6 0), (tp 6 1)]) (.agg [(tp 2 0), (tp 2 1)]))
(.ite (.var 7)
(.ret (.e (.cst (.bool true))))
(.prim (.bin .add 3 (tv 3) (tn 1))
(.jump 1 [(tv 8)])))))
(.jump 0 [])))))
(.ret (.e (.cst (.bool false))))))
theorem t43_ok : compFun (x43 Try.prog) w43 43 = .ok t43 := by kernel_rfl
theorem k43 : TreeOk Try.prog 31 ⟨18, none, none⟩ ownT 43 t43 (x43 Try.prog) w43 Try.f43 := ⟨rfl, rfl, rfl, (fun g r h => by cases h), by kernel_rfl, by decide, rfl, t43_ok⟩
def x44 (P : Program) : Ctx := { P := P, inl := [86, 87, 99, 100, 115, 116, 117, 123], own := [], ownc := [], ownr := [], diceT := 31, diceNew := ⟨18, none, none⟩ }
def w44 : Hints := { sites := [], np := [(87, 6, 18), (123, 3, 12)], thaw := [], skel := [] }
def t44 : Tree := (.prim (.bin .sub 3 (tv 2) (tv 1))
(.call 21 [(.e (.cst (.ptr 0 0))), (tv 3)]
(.prim (.bin .add 3 (tv 1) (tv 4))
(.ret (tv 5)))))
theorem t44_ok : compFun (x44 Try.prog) w44 44 = .ok t44 := by kernel_rfl
theorem k44 : TreeOk Try.prog 31 ⟨18, none, none⟩ ownT 44 t44 (x44 Try.prog) w44 Try.f44 := ⟨rfl, rfl, rfl, (fun g r h => by cases h), by kernel_rfl, by decide, rfl, t44_ok⟩
def x45 (P : Program) : Ctx := { P := P, inl := [86, 87, 99, 100, 115, 116, 117, 123], own := [], ownc := [], ownr := [], diceT := 31, diceNew := ⟨18, none, none⟩ }
def w45 : Hints := { sites := [], np := [(87, 6, 18), (123, 3, 12)], thaw := [], skel := [] }
def t45 : Tree := (.prim (.bin .sub 3 (tv 1) (tn 1))
(.call 21 [(.e (.cst (.ptr 0 0))), (tv 2)]
(.prim (.bin .quo 3 (tv 1) (tn 2))
(.prim (.bin .eql 3 (tv 3) (tv 4))
(.ret (tv 5))))))
theorem t45_ok : compFun (x45 Try.prog) w45 45 = .ok t45 := by kernel_rfl
theorem k45 : TreeOk Try.prog 31 ⟨18, none, none⟩ ownT 45 t45 (x45 Try.prog) w45 Try.f45 := ⟨rfl, rfl, rfl, (fun g r h => by cases h), by kernel_rfl, by decide, rfl, t45_ok⟩
def x46 (P : Program) : Ctx := { P := P, inl := [86, 87, 99, 100, 115, 116, 117, 123], own := [], ownc := [], ownr := [], diceT := 31, diceNew := ⟨18, none, none⟩ }
def w46 : Hints := { sites := [5005, 5005011005], np := [(46, 8, 3), (87, 6, 18), (123, 3, 12)], thaw := [(0, 8, 0)], skel := [(5005, 7, ⟨[⟨true, 5, 0, (some (1, .nil0)), false⟩], [], [], [], true⟩), (5005, 14, ⟨[⟨false, 18, 0, none, false⟩, ⟨true, 5, 0, (some (1, .nil0)), false⟩], [], [3, 5, 4, 6, 17, 18], [], true⟩), (5005, 3687, ⟨[⟨true, 5, 0, (some (1, .nil0)), false⟩], [], [3, 5, 4, 6, 17, 18], [], true⟩), (5005, 7374, ⟨[⟨false, 30, 0, none, false⟩, ⟨true, 5, 0, (some (1, .nil0)), false⟩], [], [8, 3, 9, 28, 5, 4, 6, 17, 18, 29, 30], [], true⟩), (5005, 943923, ⟨[⟨true, 5, 0, (some (1, .nil0)), false⟩], [], [8, 3, 9, 28, 5, 4, 6, 17, 18, 29, 30], [], true⟩), (5005, 1887846, ⟨[⟨false, 36, 0, none, false⟩, ⟨true, 5, 0, (some (1, .nil0)), false⟩], [], [11, 8, 3, 34, 9, 28, 5, 4, 6, 17, 18, 29, 30, 35, 36], [], true⟩), (5005011005, 255, ⟨[⟨true, 5, 0, (some (1, .nil0)), false⟩], [], [], [], true⟩)] }
def t46 : Tree := (.prim (.agg 2 (tv 0))
(.prim (.agg 5 (tv 1))
(.prim (.agg 5 (tv 2))
(.call 67 [(.agg [(tp 3 0), (tp 3 1)]), (.e (.cst .snil)), (.lit 5 2 [(tp 4 0), (tp 4 1), (tp 4 2), (tp 4 3), (tp 4 4), (tp 5 0), (tp 5 1), (tp 5 2), (tp 5 3), (tp 5 4)])]
(.prim (.ext (tv 6) 0)
(.prim (.ext (tv 6) 1)
(.prim (.agg 2 (tv 7))
(.prim (.bin .neq 39 (tv 8) (tn 0))
(.ite (.var 10)
(.ret (.tup [(.agg [(tn 0), (tn 0)]), (tv 8)]))
(.prim (.len 22 (tp 9 1))
(.join 0
(.loop 1 [(tn 0), (.e (.cst (.agg [])))]
(.prim (.bin .lss 3 (tv 12) (tv 11))
(.ite (.var 14)
(.call 76 [(.agg [(tp 9 0), (tp 9 1)]), (tv 12), (.agg [(tp 5 0), (tp 5 1), (tp 5 2), (tp 5 3), (tp 5 4)])]
(.call 76 [(.agg [(tp 9 0), (tp 9 1)]), (tv 12), (.agg [(tp 4 0), (tp 4 1), (tp 4 2), (tp 4 3), (tp 4 4)])]
(.prim (.len 45 (tv 16))
(.join 2
(.loop 3 [(tn 0), (tv 13)]
(.prim (.bin .lss 3 (tv 18) (tv 17))
(.ite (.var 20)
(.prim (.row 2 (tv 16) (tv 18))
(.prim (.len 45 (tv 15))
(.join 4
(.loop 5 [(tn 0), (tv 19)]
(.prim (.bin .lss 3 (tv 23) (tv 22))
(.ite (.var 25)
(.prim (.row 2 (tv 15) (tv 23))
(.prim (.len 25 (tp 4 0))
(.prim (.bin .add 3 (tp 21 0) (tv 27))
(.prim (.bin .leq 3 (tp 26 0) (tv 28))
(.ite (.var 29)
(.prim (.bin .add 3 (tv 23) (tn 1))
(.jump 5 [(tv 30), (tv 24)]))
(.prim (.row 3 (tp 9 1) (tv 12))
(.call 68 [(.agg [(tp 30 0), (tp 30 1), (tp 30 2)])]
(.call 88 [(.agg [(tp 4 0), (tp 4 1), (tp 4 2), (tp 4 3), (tp 4 4)]), (.agg [(tp 21 0), (tp 21 1)])]
(.prim (.ext (tv 32) 0)
(.prim (.ext (tv 32) 1)
(.call 88 [(.agg [(tp 5 0), (tp 5 1), (tp 5 2), (tp 5 3), (tp 5 4)]), (.agg [(tp 26 0), (tp 26 1)])]
(.prim (.ext (tv 35) 0)
(.prim (.ext (tv 35) 1)
(.prim (.row 1 (tv 31) (tp 26 0))
(.prim (.row 1 (tv 31) (tv 28))
(.prim (.bin .sub 3 (tp 38 0) (tp 39 0))
(.prim (.bin .add 3 (tv 34) (tv 36))
(.prim (.bin .mul 3 (tn 2) (tp 9 0))
(.prim (.bin .sub 3 (tv 41) (tv 42))
(.prim (.bin .geq 3 (tv 40) (tv 43))
(.join 6
(.ite (.var 44)
(.prim (.bin .sub 3 (tp 26 0) (tv 28))
(.prim (.bin .sub 3 (tv 45) (tn 1))
(.prim (.push 1 8 (.var 24) (.lit 1 1 [(tv 46)]))
(.jump 6 [(tv 47)]))))
(.jump 6 [(tv 24)]))
(.prim (.bin .add 3 (tv 23) (tn 1))
(.jump 5 [(tv 46), (tv 45)])))))))))))))))))))))))
(.jump 4 [(tv 24)]))))
(.prim (.bin .add 3 (tv 18) (tn 1))
(.jump 3 [(tv 24), (tv 23)])))))
(.jump 2 [(tv 19)]))))
(.prim (.bin .add 3 (tv 12) (tn 1))
(.jump 1 [(tv 19), (tv 18)]))))))
(.jump 0 [(tv 13)]))))
(.prim (.lenc 1 (.var 12))
(.prim (.bin .eql 3 (tv 13) (tn 0))
(.ite (.var 14)
(.ret (.tup [(.agg [(tn 0), (tn 0)]), (tn 11)]))
(.prim (.frz 1 .nil0 (.var 12))
(.call 89 [(tv 15)]
(.call 90 [(tv 15)]
(.prim (.one (tv 16))
(.prim (.one (tv 17))
(.ret (.tup [(.agg [(tv 18), (tv 19)]), (tn 0)])))))))))))))))))))))
theorem t46_ok : compFun (x46 Try.prog) w46 46 = .ok t46 := by kernel_rfl
theorem k46 : TreeOk Try.prog 31 ⟨18, none, none⟩ ownT 46 t46 (x46 Try.prog) w46 Try.f46 := ⟨rfl, rfl, rfl, (fun g r h => by cases h), by kernel_rfl, by decide, rfl, t46_ok⟩
def x47 (P : Program) : Ctx := { P := P, inl := [86, 87, 99, 100, 115, 116, 117, 123], own := [], ownc := [], ownr := [], diceT := 31, diceNew := ⟨18, none, none⟩ }
def w47 : Hints := { sites := [], np := [(47, 2, 5), (47, 3, 5), (87, 6, 18), (123, 3, 12)], thaw := [], skel := [] }
def t47 : Tree := (.prim (.agg 5 (tv 0))
(.prim (.agg 2 (tv 1))
(.ite (.proj (.var 3) 1)
(.ret (.tup [(tp 2 2), (tp 2 1)]))
(.ret (.tup [(tp 2 1), (tp 2 2)])))))
theorem t47_ok : compFun (x47 Try.prog) w47 47 = .ok t47 := by kernel_rfl
theorem k47 : TreeOk Try.prog 31 ⟨18, none, none⟩ ownT 47 t47 (x47 Try.prog) w47 Try.f47 := ⟨rfl, rfl, rfl, (fun g r h => by cases h), by kernel_rfl, by decide, rfl, t47_ok⟩
def x48 (P : Program) : Ctx := { P := P, inl := [86, 87, 99, 100, 115, 116, 117, 123], own := [], ownc := [], ownr := [], diceT := 31, diceNew := ⟨18, none, none⟩ }
def w48 : Hints := { sites := [], np := [(48, 9, 9), (87, 6, 18), (123, 3, 12)], thaw := [], skel := [(0, 253, ⟨[⟨false, 11, 0, (some (1, .nil0)), false⟩], [], [11], [], false⟩), (0, 506, ⟨[⟨false, 11, 0, (some (1, .nil0)), false⟩, ⟨false, 35, 0, none, false⟩], [], [5, 1, 8, 10, 34, 35, 11], [], false⟩), (0, 64819, ⟨[⟨false, 11, 0, (some (1, .nil0)), false⟩], [], [5, 1, 8, 10, 34, 11, 35], [], false⟩)] }
def t48 : Tree := (.prim (.agg 2 (tv 0))
(.prim (.agg 5 (tv 2))
(.prim (.one (tv 1))
(.call 67 [(.agg [(tp 3 0), (tp 3 1)]), (.lit 1 1 [(tv 5)]), (.lit 5 1 [(tp 4 0), (tp 4 1), (tp 4 2), (tp 4 3), (tp 4 4)])]
(.prim (.ext (tv 6) 0)
(.prim (.ext (tv 6) 1)
(.prim (.agg 2 (tv 7))
(.prim (.bin .neq 39 (tv 8) (tn 0))
(.ite (.var 10)
(.ret (.tup [(.e (.cst .snil)), (tv 8)]))
(.call 80 [(tp 9 0)]
(.prim (.agg 2 (tv 11))
(.prim (.len 25 (tp 4 0))
(.prim (.bin .shl 113 (.e (.cst (.int .u8 1))) (tv 13))
(.join 0
(.loop 1 [(.e (.cst (.agg []))), (.e (.cst (.int .u8 0)))]
(.prim (.bin .lss 113 (tv 16) (tv 14))
(.ite (.var 17)
(.prim (.row 3 (tp 9 1) (tv 1))
(.call 82 [(.agg [(tp 12 0), (tp 12 1)]), (.agg [(tp 18 0), (tp 18 1), (tp 18 2)]), (.agg [(tp 4 0), (tp 4 1), (tp 4 2), (tp 4 3), (tp 4 4)]), (tv 16)]
(.join 2
(.ite (.var 19)
(.call 91 [(tv 16)]
(.prim (.one (tv 20))
(.prim (.push 1 24 (.var 15) (.lit 1 1 [(tv 21)]))
(.jump 2 [(tv 22)]))))
(.jump 2 [(tv 15)]))
(.prim (.bin .add 113 (tv 16) (.e (.cst (.int .u8 1))))
(.jump 1 [(tv 20), (tv 21)])))))
(.jump 0 [(tv 15)]))))
(.prim (.frz 1 .nil0 (.var 15))
(.call 92 [(tv 16)]
(.prim (.ext (tv 17) 0)
(.prim (.ext (tv 17) 1)
(.prim (.un .not (tv 19))
(.ite (.var 20)
(.ret (.tup [(.e (.cst .snil)), (tn 11)]))
(.ret (.tup [(tv 18), (tn 0)]))))))))))))))))))))))
theorem t48_ok : compFun (x48 Try.prog) w48 48 = .ok t48 := by kernel_rfl
theorem k48 : TreeOk Try.prog 31 ⟨18, none, none⟩ ownT 48 t48 (x48 Try.prog) w48 Try.f48 := ⟨rfl, rfl, rfl, (fun g r h => by cases h), by kernel_rfl, by decide, rfl, t48_ok⟩
end Go.Proofs.Ytlminnpaeaganaa
