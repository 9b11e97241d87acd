/- Residual trees of functions. No condition. -/
import Derived.Test.YtlminnpaeaganaaMTrA
namespace Go.Proofs.Ytlminnpaeaganaa
open Go Go.RowKit
set_option maxRecDepth 100000
def x77 (P : Program) : Ctx := { P := P, inl := [86, 87, 99, 100, 115, 116, 117, 123], own := [], ownc := [], ownr := [], diceT := 31, diceNew := ⟨18, none, none⟩ }
def w77 : Hints := { sites := [], np := [(77, 10, 7), (87, 6, 18), (123, 3, 12)], thaw := [], skel := [(0, 29, ⟨[⟨false, 9, 0, (some (2, .nil0)), false⟩], [], [3, 6, 1, 4, 9], [], false⟩), (0, 58, ⟨[⟨false, 9, 0, (some (2, .nil0)), false⟩, ⟨false, 10, 0, none, false⟩], [], [3, 6, 1, 4, 10, 9], [], false⟩), (0, 1865, ⟨[⟨false, 9, 0, (some (2, .nil0)), false⟩], [], [3, 6, 1, 4, 9, 10], [], false⟩), (0, 122, ⟨[⟨false, 11, 0, none, false⟩], [0], [3, 6, 1, 4, 11, 9], [], false⟩), (0, 976, ⟨[⟨false, 36, 0, none, false⟩], [], [36, 3, 6, 1, 4, 11, 9], [], false⟩)] }
def t77 : Tree := (.prim (.agg 3 (tv 0))
(.prim (.agg 5 (tv 2))
(.join 0
(.loop 1 [(.e (.cst (.agg []))), (tn 0)]
(.prim (.bin .lss 3 (tv 7) (tp 4 1))
(.ite (.var 8)
(.call 101 [(.agg [(tp 4 0), (tp 4 1), (tp 4 2)]), (tv 1), (.agg [(tp 5 0), (tp 5 1), (tp 5 2), (tp 5 3), (tp 5 4)]), (tv 7), (tv 3)]
(.join 2
(.ite (.var 9)
(.prim (.one (tv 7))
(.prim (.push 2 16 (.var 6) (.lit 2 1 [(tv 10), (.e (.cst (.bool false)))]))
(.jump 2 [(tv 11)])))
(.jump 2 [(tv 6)]))
(.prim (.bin .add 3 (tv 7) (tn 1))
(.jump 1 [(tv 10), (tv 11)]))))
(.jump 0 [(tv 6)]))))
(.loop 1 [(tn 0), (tv 6)]
(.join 2
(.prim (.bin .lss 3 (tv 7) (tp 4 1))
(.ite (.var 9)
(.jump 2 [(tp 5 4)])
(.jump 2 [(.e (.cst (.bool false)))])))
(.ite (.var 9)
(.call 102 [(.agg [(tp 5 0), (tp 5 1), (tp 5 2), (tp 5 3), (tp 5 4)])]
(.call 103 [(tv 3)]
(.call 101 [(.agg [(tp 4 0), (tp 4 1), (tp 4 2)]), (tv 1), (tv 10), (tv 7), (tv 11)]
(.ite (.var 12)
(.prim (.one (tv 7))
(.prim (.push 2 16 (.var 8) (.lit 2 1 [(tv 13), (.e (.cst (.bool true)))]))
(.prim (.bin .add 3 (tv 7) (tn 1))
(.jump 1 [(tv 15), (tv 14)]))))
(.prim (.bin .add 3 (tv 7) (tn 1))
(.jump 1 [(tv 13), (tv 8)]))))))
(.prim (.frz 2 .nil0 (.var 8))
(.ret (tv 10)))))))))
theorem t77_ok : compFun (x77 Try.prog) w77 77 = .ok t77 := by kernel_rfl
theorem k77 : TreeOk Try.prog 31 ⟨18, none, none⟩ ownT 77 t77 (x77 Try.prog) w77 Try.f77 := ⟨rfl, rfl, rfl, (fun g r h => by cases h), by kernel_rfl, by decide, rfl, t77_ok⟩
def x78 (P : Program) : Ctx := { P := P, inl := [86, 87, 99, 100, 115, 116, 117, 123], own := [], ownc := [], ownr := [], diceT := 31, diceNew := ⟨18, none, none⟩ }
def w78 : Hints := { sites := [], np := [(87, 6, 18), (123, 3, 12)], thaw := [], skel := [] }
def t78 : Tree := (.prim (.agg 5 (tv 0))
(.prim (.len 25 (tp 1 0))
(.prim (.mk [(.bool false)] 1 (tv 2))
(.prim (.frz 1 .real (.var 3))
(.ret (tv 4))))))
theorem t78_ok : compFun (x78 Try.prog) w78 78 = .ok t78 := by kernel_rfl
theorem k78 : TreeOk Try.prog 31 ⟨18, none, none⟩ ownT 78 t78 (x78 Try.prog) w78 Try.f78 := ⟨rfl, rfl, rfl, (fun g r h => by cases h), by kernel_rfl, by decide, rfl, t78_ok⟩
def x79 (P : Program) : Ctx := { P := P, inl := [86, 87, 99, 100, 115, 116, 117, 123], own := [], ownc := [], ownr := [], diceT := 31, diceNew := ⟨18, none, none⟩ }
def w79 : Hints := { sites := [], np := [(79, 6, 11), (87, 6, 18), (123, 3, 12)], thaw := [], skel := [(0, 29, ⟨[], [], [], [], false⟩), (0, 58, ⟨[⟨false, 5, 0, none, false⟩], [], [1, 0, 5], [], false⟩), (0, 3730, ⟨[⟨false, 60, 0, none, false⟩], [], [60, 1, 0, 5], [], false⟩)] }
def t79 : Tree := (.prim (.len 29 (tv 0))
(.prim (.len 29 (tv 1))
(.prim (.bin .neq 3 (tv 2) (tv 3))
(.ite (.var 4)
(.ret (.e (.cst (.bool false))))
(.join 0
(.loop 1 [(tn 0)]
(.prim (.len 29 (tv 0))
(.prim (.bin .lss 3 (tv 5) (tv 6))
(.ite (.var 7)
(.prim (.row 5 (tv 0) (tv 5))
(.prim (.row 5 (tv 1) (tv 5))
(.join 2
(.call 30 [(tp 8 0), (tp 9 0)]
(.prim (.un .not (tv 10))
(.ite (.var 11)
(.jump 2 [(.e (.cst (.bool true)))])
(.prim (.bin .neq 3 (tp 8 1) (tp 9 1))
(.ite (.var 12)
(.jump 2 [(.e (.cst (.bool true)))])
(.prim (.bin .neq 3 (tp 8 2) (tp 9 2))
(.ite (.var 13)
(.jump 2 [(.e (.cst (.bool true)))])
(.prim (.bin .neq 3 (tp 8 3) (tp 9 3))
(.ite (.var 14)
(.jump 2 [(.e (.cst (.bool true)))])
(.prim (.bin .neq 4 (tp 8 4) (tp 9 4))
(.jump 2 [(tv 15)])))))))))))
(.ite (.var 10)
(.ret (.e (.cst (.bool false))))
(.prim (.bin .add 3 (tv 5) (tn 1))
(.jump 1 [(tv 11)]))))))
(.jump 0 [])))))
(.ret (.e (.cst (.bool true)))))))))
theorem t79_ok : compFun (x79 Try.prog) w79 79 = .ok t79 := by kernel_rfl
theorem k79 : TreeOk Try.prog 31 ⟨18, none, none⟩ ownT 79 t79 (x79 Try.prog) w79 Try.f79 := ⟨rfl, rfl, rfl, (fun g r h => by cases h), by kernel_rfl, by decide, rfl, t79_ok⟩
def x80 (P : Program) : Ctx := { P := P, inl := [86, 87, 99, 100, 115, 116, 117, 123], own := [], ownc := [], ownr := [], diceT := 31, diceNew := ⟨18, none, none⟩ }
def w80 : Hints := { sites := [], np := [(87, 6, 18), (123, 3, 12)], thaw := [], skel := [] }
def t80 : Tree := (.prim (.one (tv 0))
(.ret (.agg [(.fn 104 [(.ref [(tv 1)])]), (.fn 105 [(.ref [(tv 1)])])])))
theorem t80_ok : compFun (x80 Try.prog) w80 80 = .ok t80 := by kernel_rfl
theorem k80 : TreeOk Try.prog 31 ⟨18, none, none⟩ ownT 80 t80 (x80 Try.prog) w80 Try.f80 := ⟨rfl, rfl, rfl, (fun g r h => by cases h), by kernel_rfl, by decide, rfl, t80_ok⟩
def x81 (P : Program) : Ctx := { P := P, inl := [86, 87, 99, 100, 115, 116, 117, 123], own := [], ownc := [], ownr := [], diceT := 31, diceNew := ⟨18, none, none⟩ }
def w81 : Hints := { sites := [], np := [(81, 1, 7), (87, 6, 18), (123, 3, 12)], thaw := [], skel := [] }
def t81 : Tree := (.prim (.agg 3 (tv 0))
(.prim (.len 25 (tp 2 0))
(.prim (.bin .rem 3 (tv 1) (tv 3))
(.prim (.row 1 (tp 2 0) (tv 4))
(.ret (tp 5 0))))))
theorem t81_ok : compFun (x81 Try.prog) w81 81 = .ok t81 := by kernel_rfl
theorem k81 : TreeOk Try.prog 31 ⟨18, none, none⟩ ownT 81 t81 (x81 Try.prog) w81 Try.f81 := ⟨rfl, rfl, rfl, (fun g r h => by cases h), by kernel_rfl, by decide, rfl, t81_ok⟩
def x82 (P : Program) : Ctx := { P := P, inl := [86, 87, 99, 100, 115, 116, 117, 123], own := [], ownc := [], ownr := [], diceT := 31, diceNew := ⟨18, none, none⟩ }
def w82 : Hints := { sites := [1005, 700027, 700027002004, 700027002004004012, 700027010005, 700027010005004012], np := [(87, 6, 18), (123, 3, 12)], thaw := [], skel := [(0, 13, ⟨[], [], [8], [], false⟩), (700027, 125, ⟨[⟨false, 7, 0, none, false⟩], [], [7, 3, 6], [], false⟩), (700027, 250, ⟨[⟨false, 7, 0, none, false⟩, ⟨false, 23, 0, none, false⟩], [], [3, 4, 6, 22, 23, 7], [], false⟩), (700027, 32051, ⟨[⟨false, 7, 0, none, false⟩], [], [3, 4, 6, 22, 7, 23], [], false⟩), (700027002004, 13, ⟨[], [], [], [], false⟩), (700027002004, 26, ⟨[⟨false, 13, 0, none, false⟩], [], [2, 5, 1, 6, 3, 4, 12, 13], [], false⟩), (700027002004004012, 13, ⟨[], [], [8], [], false⟩), (700027010005, 13, ⟨[], [], [], [], false⟩), (700027010005, 26, ⟨[⟨false, 13, 0, none, false⟩], [], [2, 5, 1, 6, 3, 4, 12, 13], [], false⟩), (700027010005004012, 13, ⟨[], [], [8], [], false⟩)] }
def t82 : Tree := (.prim (.agg 2 (tv 0))
(.prim (.agg 3 (tv 1))
(.prim (.agg 5 (tv 2))
(.prim (.one (tv 3))
(.join 0
(.join 1
(.loop 2 [(tn 0)]
(.prim (.bin .lss 3 (tv 8) (tp 5 1))
(.ite (.var 9)
(.call 118 [(.agg [(tp 4 0), (tp 4 1)]), (.agg [(tp 5 0), (tp 5 1), (tp 5 2)]), (.agg [(tp 6 0), (tp 6 1), (tp 6 2), (tp 6 3), (tp 6 4)]), (tv 8), (tv 7)]
(.ite (.var 10)
(.prim (.one (tv 8))
(.ret (.e (.cst (.bool true)))))
(.prim (.bin .add 3 (tv 8) (tn 1))
(.jump 2 [(tv 11)]))))
(.jump 1 []))))
(.prim (.un .not (tp 6 4))
(.ite (.var 8)
(.jump 0 [])
(.prim (.len 25 (tp 6 0))
(.join 2
(.loop 3 [(.e (.cst (.int .u8 0))), (tn 0)]
(.prim (.bin .lss 3 (tv 11) (tv 9))
(.ite (.var 12)
(.call 106 [(tv 7), (tv 11)]
(.join 4
(.ite (.var 13)
(.prim (.len 25 (tp 6 0))
(.prim (.bin .sub 3 (tv 14) (tn 1))
(.prim (.bin .sub 3 (tv 15) (tv 11))
(.prim (.bin .shl 113 (.e (.cst (.int .u8 1))) (tv 16))
(.prim (.bin .or 113 (tv 10) (tv 17))
(.jump 4 [(tv 18)]))))))
(.jump 4 [(tv 10)]))
(.prim (.bin .add 3 (tv 11) (tn 1))
(.jump 3 [(tv 14), (tv 15)]))))
(.jump 2 [(tv 10)]))))
(.call 119 [(.agg [(tp 6 0), (tp 6 1), (tp 6 2), (tp 6 3), (tp 6 4)])]
(.prim (.agg 5 (tv 11))
(.join 3
(.loop 4 [(tn 0)]
(.prim (.bin .lss 3 (tv 13) (tp 5 1))
(.ite (.var 14)
(.call 118 [(.agg [(tp 4 0), (tp 4 1)]), (.agg [(tp 5 0), (tp 5 1), (tp 5 2)]), (.agg [(tp 12 0), (tp 12 1), (tp 12 2), (tp 12 3), (tp 12 4)]), (tv 13), (tv 10)]
(.ite (.var 15)
(.prim (.one (tv 13))
(.ret (.e (.cst (.bool true)))))
(.prim (.bin .add 3 (tv 13) (tn 1))
(.jump 4 [(tv 16)]))))
(.jump 3 []))))
(.jump 0 [])))))))))
(.ret (.e (.cst (.bool false)))))))))
theorem t82_ok : compFun (x82 Try.prog) w82 82 = .ok t82 := by kernel_rfl
theorem k82 : TreeOk Try.prog 31 ⟨18, none, none⟩ ownT 82 t82 (x82 Try.prog) w82 Try.f82 := ⟨rfl, rfl, rfl, (fun g r h => by cases h), by kernel_rfl, by decide, rfl, t82_ok⟩
def x83 (P : Program) : Ctx := { P := P, inl := [86, 87, 99, 100, 115, 116, 117, 123], own := [], ownc := [], ownr := [], diceT := 31, diceNew := ⟨18, none, none⟩ }
def w83 : Hints := { sites := [], np := [(83, 1, 7), (87, 6, 18), (123, 3, 12)], thaw := [], skel := [] }
def t83 : Tree := (.prim (.agg 3 (tv 0))
(.prim (.len 25 (tp 2 0))
(.prim (.bin .rem 3 (tv 1) (tv 3))
(.prim (.row 1 (tp 2 0) (tv 4))
(.ret (tp 5 0))))))
theorem t83_ok : compFun (x83 Try.prog) w83 83 = .ok t83 := by kernel_rfl
theorem k83 : TreeOk Try.prog 31 ⟨18, none, none⟩ ownT 83 t83 (x83 Try.prog) w83 Try.f83 := ⟨rfl, rfl, rfl, (fun g r h => by cases h), by kernel_rfl, by decide, rfl, t83_ok⟩
def x84 (P : Program) : Ctx := { P := P, inl := [86, 87, 99, 100, 115, 116, 117, 123], own := [], ownc := [], ownr := [], diceT := 31, diceNew := ⟨18, none, none⟩ }
def w84 : Hints := { sites := [], np := [(84, 5, 12), (87, 6, 18), (123, 3, 12)], thaw := [], skel := [(0, 29, ⟨[⟨true, 1, 0, (some (1, .nil0)), false⟩], [], [2, 3], [], false⟩), (0, 58, ⟨[⟨false, 4, 0, none, false⟩, ⟨true, 1, 0, (some (1, .nil0)), false⟩], [], [3, 0, 2, 4], [], false⟩)] }
def t84 : Tree := (.call 65 [(.e (.cst (.ptr 0 0))), (.lit 1 3 [(tn 6), (tn 9), (tn 12)])]
(.call 44 [(.e (.cst (.ptr 0 0))), (tn 2), (tv 1)]
(.call 44 [(.e (.cst (.ptr 0 0))), (tn 1), (tn 60)]
(.prim (.one (tv 3))
(.call 65 [(.e (.cst (.ptr 0 0))), (.lit 1 4 [(tn 30), (tn 32), (tn 40), (tv 4)])]
(.prim (.one (tv 2))
(.prim (.one (tv 5))
(.call 44 [(.e (.cst (.ptr 0 0))), (tn 1), (tn 3)]
(.join 0
(.loop 1 [(tv 8), (.e (.cst (.agg [])))]
(.prim (.bin .gtr 3 (tv 9) (tn 0))
(.ite (.var 11)
(.call 44 [(.e (.cst (.ptr 0 0))), (tn 5), (tn 9)]
(.call 44 [(.e (.cst (.ptr 0 0))), (tn 5), (tn 9)]
(.call 44 [(.e (.cst (.ptr 0 0))), (tn 2), (tn 20)]
(.prim (.one (tv 12))
(.prim (.one (tv 13))
(.prim (.one (tv 14))
(.call 65 [(.e (.cst (.ptr 0 0))), (.lit 1 3 [(tv 15), (tv 16), (tv 17)])]
(.prim (.one (tv 18))
(.prim (.push 1 8 (.var 10) (.lit 1 1 [(tv 19)]))
(.prim (.bin .sub 3 (tv 9) (tn 1))
(.jump 1 [(tv 21), (tv 20)])))))))))))
(.jump 0 [(tv 10)]))))
(.prim (.frz 1 .nil0 (.var 9))
(.ret (.agg [(tv 10), (tv 6), (tv 7)]))))))))))))
theorem t84_ok : compFun (x84 Try.prog) w84 84 = .ok t84 := by kernel_rfl
theorem k84 : TreeOk Try.prog 31 ⟨18, none, none⟩ ownT 84 t84 (x84 Try.prog) w84 Try.f84 := ⟨rfl, rfl, rfl, (fun g r h => by cases h), by kernel_rfl, by decide, rfl, t84_ok⟩
def x85 (P : Program) : Ctx := { P := P, inl := [86, 87, 99, 100, 115, 116, 117, 123], own := [], ownc := [], ownr := [], diceT := 31, diceNew := ⟨18, none, none⟩ }
def w85 : Hints := { sites := [], np := [(87, 6, 18), (123, 3, 12)], thaw := [], skel := [] }
def t85 : Tree := (.prim (.un .neg (tv 2))
(.call 44 [(.e (.cst (.ptr 0 0))), (tv 5), (tv 2)]
(.prim (.bin .add 3 (tv 1) (tv 6))
(.prim (.mm true [(tv 3), (tv 7)])
(.prim (.mm false [(tv 4), (tv 8)])
(.ret (tv 9)))))))
theorem t85_ok : compFun (x85 Try.prog) w85 85 = .ok t85 := by kernel_rfl
theorem k85 : TreeOk Try.prog 31 ⟨18, none, none⟩ ownT 85 t85 (x85 Try.prog) w85 Try.f85 := ⟨rfl, rfl, rfl, (fun g r h => by cases h), by kernel_rfl, by decide, rfl, t85_ok⟩
def x88 (P : Program) : Ctx := { P := P, inl := [86, 87, 99, 100, 115, 116, 117, 123], own := [], ownc := [], ownr := [], diceT := 31, diceNew := ⟨18, none, none⟩ }
def w88 : Hints := { sites := [], np := [(87, 6, 18), (88, 2, 5), (88, 3, 5), (123, 3, 12)], thaw := [], skel := [] }
def t88 : Tree := (.prim (.agg 5 (tv 0))
(.prim (.agg 2 (tv 1))
(.ite (.proj (.var 3) 1)
(.ret (.tup [(tp 2 2), (tp 2 1)]))
(.ret (.tup [(tp 2 1), (tp 2 2)])))))
theorem t88_ok : compFun (x88 Try.prog) w88 88 = .ok t88 := by kernel_rfl
theorem k88 : TreeOk Try.prog 31 ⟨18, none, none⟩ ownT 88 t88 (x88 Try.prog) w88 Try.f88 := ⟨rfl, rfl, rfl, (fun g r h => by cases h), by kernel_rfl, by decide, rfl, t88_ok⟩
def x89 (P : Program) : Ctx := { P := P, inl := [86, 87, 99, 100, 115, 116, 117, 123], own := [], ownc := [], ownr := [], diceT := 31, diceNew := ⟨18, none, none⟩ }
def w89 : Hints := { sites := [], np := [(87, 6, 18), (123, 3, 12)], thaw := [], skel := [(0, 13, ⟨[], [], [0], [], false⟩), (0, 61, ⟨[⟨false, 3, 0, none, false⟩], [], [3], [], false⟩), (0, 122, ⟨[⟨false, 3, 0, none, false⟩, ⟨false, 4, 0, none, false⟩], [], [0, 4, 3], [], false⟩)] }
def t89 : Tree := (.prim (.len 25 (tv 0))
(.prim (.bin .lss 3 (tv 1) (tn 1))
(.join 0
(.ite (.var 2)
.die
(.jump 0 []))
(.prim (.row 1 (tv 0) (tn 0))
(.join 1
(.loop 2 [(tp 3 0), (tn 1)]
(.prim (.len 25 (tv 0))
(.prim (.bin .lss 3 (tv 5) (tv 6))
(.ite (.var 7)
(.prim (.row 1 (tv 0) (tv 5))
(.prim (.mm false [(tv 4), (tp 8 0)])
(.prim (.bin .add 3 (tv 5) (tn 1))
(.jump 2 [(tv 9), (tv 10)]))))
(.jump 1 [(tv 4)])))))
(.ret (tv 4)))))))
theorem t89_ok : compFun (x89 Try.prog) w89 89 = .ok t89 := by kernel_rfl
theorem k89 : TreeOk Try.prog 31 ⟨18, none, none⟩ ownT 89 t89 (x89 Try.prog) w89 Try.f89 := ⟨rfl, rfl, rfl, (fun g r h => by cases h), by kernel_rfl, by decide, rfl, t89_ok⟩
def x90 (P : Program) : Ctx := { P := P, inl := [86, 87, 99, 100, 115, 116, 117, 123], own := [], ownc := [], ownr := [], diceT := 31, diceNew := ⟨18, none, none⟩ }
def w90 : Hints := { sites := [], np := [(87, 6, 18), (123, 3, 12)], thaw := [], skel := [(0, 13, ⟨[], [], [0], [], false⟩), (0, 61, ⟨[⟨false, 3, 0, none, false⟩], [], [3], [], false⟩), (0, 122, ⟨[⟨false, 3, 0, none, false⟩, ⟨false, 4, 0, none, false⟩], [], [0, 4, 3], [], false⟩)] }
def t90 : Tree := (.prim (.len 25 (tv 0))
(.prim (.bin .lss 3 (tv 1) (tn 1))
(.join 0
(.ite (.var 2)
.die
(.jump 0 []))
(.prim (.row 1 (tv 0) (tn 0))
(.join 1
(.loop 2 [(tp 3 0), (tn 1)]
(.prim (.len 25 (tv 0))
(.prim (.bin .lss 3 (tv 5) (tv 6))
(.ite (.var 7)
(.prim (.row 1 (tv 0) (tv 5))
(.prim (.mm true [(tv 4), (tp 8 0)])
(.prim (.bin .add 3 (tv 5) (tn 1))
(.jump 2 [(tv 9), (tv 10)]))))
(.jump 1 [(tv 4)])))))
(.ret (tv 4)))))))
theorem t90_ok : compFun (x90 Try.prog) w90 90 = .ok t90 := by kernel_rfl
theorem k90 : TreeOk Try.prog 31 ⟨18, none, none⟩ ownT 90 t90 (x90 Try.prog) w90 Try.f90 := ⟨rfl, rfl, rfl, (fun g r h => by cases h), by kernel_rfl, by decide, rfl, t90_ok⟩
def x91 (P : Program) : Ctx := { P := P, inl := [86, 87, 99, 100, 115, 116, 117, 123], own := [], ownc := [], ownr := [], diceT := 31, diceNew := ⟨18, none, none⟩ }
def w91 : Hints := { sites := [], np := [(87, 6, 18), (123, 3, 12)], thaw := [], skel := [(0, 29, ⟨[⟨false, 3, 0, (some (1, .nil0)), false⟩], [], [3], [], false⟩), (0, 58, ⟨[⟨false, 3, 0, (some (1, .nil0)), false⟩, ⟨false, 5, 0, none, false⟩], [], [0, 5, 3], [], false⟩), (0, 7475, ⟨[⟨false, 3, 0, (some (1, .nil0)), false⟩], [], [0, 3, 5], [], false⟩)] }
def t91 : Tree := (.join 0
(.loop 1 [(.e (.cst (.agg []))), (tn 0)]
(.prim (.bin .lss 3 (tv 2) (tn 5))
(.ite (.var 3)
(.call 106 [(tv 0), (tv 2)]
(.join 2
(.ite (.var 4)
(.prim (.one (tv 2))
(.prim (.push 1 8 (.var 1) (.lit 1 1 [(tv 5)]))
(.jump 2 [(tv 6)])))
(.jump 2 [(tv 1)]))
(.prim (.bin .add 3 (tv 2) (tn 1))
(.jump 1 [(tv 5), (tv 6)]))))
(.jump 0 [(tv 1)]))))
(.prim (.frz 1 .nil0 (.var 1))
(.ret (tv 2))))
theorem t91_ok : compFun (x91 Try.prog) w91 91 = .ok t91 := by kernel_rfl
theorem k91 : TreeOk Try.prog 31 ⟨18, none, none⟩ ownT 91 t91 (x91 Try.prog) w91 Try.f91 := ⟨rfl, rfl, rfl, (fun g r h => by cases h), by kernel_rfl, by decide, rfl, t91_ok⟩
def x92 (P : Program) : Ctx := { P := P, inl := [86, 87, 99, 100, 115, 116, 117, 123], own := [], ownc := [], ownr := [], diceT := 31, diceNew := ⟨18, none, none⟩ }
def w92 : Hints := { sites := [], np := [(87, 6, 18), (123, 3, 12)], thaw := [], skel := [] }
def t92 : Tree := (.prim (.len 73 (tv 0))
(.prim (.bin .eql 3 (tv 1) (tn 0))
(.ite (.var 2)
(.ret (.tup [(.e (.cst .snil)), (.e (.cst (.bool false)))]))
(.call 107 [(tv 0), (.fn 108 [])]
(.ret (.tup [(tv 3), (.e (.cst (.bool true)))]))))))
theorem t92_ok : compFun (x92 Try.prog) w92 92 = .ok t92 := by kernel_rfl
theorem k92 : TreeOk Try.prog 31 ⟨18, none, none⟩ ownT 92 t92 (x92 Try.prog) w92 Try.f92 := ⟨rfl, rfl, rfl, (fun g r h => by cases h), by kernel_rfl, by decide, rfl, t92_ok⟩
def x93 (P : Program) : Ctx := { P := P, inl := [86, 87, 99, 100, 115, 116, 117, 123], own := [], ownc := [], ownr := [], diceT := 31, diceNew := ⟨18, none, none⟩ }
def w93 : Hints := { sites := [], np := [(87, 6, 18), (123, 3, 12)], thaw := [], skel := [] }
def t93 : Tree := (.prim (.bin .rem 3 (tv 0) (tv 1))
(.prim (.bin .add 3 (tv 2) (tv 1))
(.prim (.bin .rem 3 (tv 3) (tv 1))
(.ret (tv 4)))))
theorem t93_ok : compFun (x93 Try.prog) w93 93 = .ok t93 := by kernel_rfl
theorem k93 : TreeOk Try.prog 31 ⟨18, none, none⟩ ownT 93 t93 (x93 Try.prog) w93 Try.f93 := ⟨rfl, rfl, rfl, (fun g r h => by cases h), by kernel_rfl, by decide, rfl, t93_ok⟩
def x94 (P : Program) : Ctx := { P := P, inl := [86, 87, 99, 100, 115, 116, 117, 123], own := [(0, 34)], ownc := [], ownr := [], diceT := 31, diceNew := ⟨18, none, none⟩ }
def w94 : Hints := { sites := [], np := [(87, 6, 18), (123, 3, 12)], thaw := [], skel := [(0, 61, ⟨[⟨false, 7, 0, (some (1, .nil0)), false⟩], [], [7], [], false⟩), (0, 122, ⟨[⟨false, 7, 0, (some (1, .nil0)), false⟩, ⟨false, 8, 0, none, false⟩], [], [8, 2, 1, 7], [], false⟩), (0, 7827, ⟨[⟨false, 7, 0, (some (1, .nil0)), false⟩], [], [2, 1, 7, 8], [], false⟩), (0, 15654, ⟨[⟨false, 7, 0, (some (1, .nil0)), false⟩, ⟨false, 10, 0, none, false⟩], [], [9, 8, 2, 1, 10, 7], [], false⟩)] }
def t94 : Tree := (.prim (.bin .eql 3 (tv 2) (tn 0))
(.ite (.var 3)
(.ret (.lit 1 1 [(.e (.cst .snil))]))
(.join 0
(.loop 1 [(.e (.cst (.agg []))), (tv 0)]
(.prim (.bin .lss 3 (tv 5) (tv 1))
(.ite (.var 6)
(.prim (.bin .add 3 (tv 5) (tn 1))
(.prim (.bin .sub 3 (tv 2) (tn 1))
(.call 94 [(tv 7), (tv 1), (tv 8)]
(.join 2
(.loop 3 [(tv 4), (tn 0)]
(.prim (.len 73 (tv 9))
(.prim (.bin .lss 3 (tv 11) (tv 12))
(.ite (.var 13)
(.prim (.one (tv 5))
(.prim (.lst [(tv 14)])
(.prim (.row 1 (tv 9) (tv 11))
(.prim (.push 1 8 (.var 15) (tp 16 0))
(.prim (.frz 1 .real (.var 17))
(.prim (.push 1 24 (.var 10) (.lit 1 1 [(tv 18)]))
(.prim (.bin .add 3 (tv 11) (tn 1))
(.jump 3 [(tv 19), (tv 20)]))))))))
(.jump 2 [(tv 10)])))))
(.prim (.bin .add 3 (tv 5) (tn 1))
(.jump 1 [(tv 10), (tv 11)]))))))
(.jump 0 [(tv 4)]))))
(.prim (.frz 1 .nil0 (.var 4))
(.ret (tv 5))))))
theorem t94_ok : compFun (x94 Try.prog) w94 94 = .ok t94 := by kernel_rfl
theorem k94 : TreeOk Try.prog 31 ⟨18, none, none⟩ ownT 94 t94 (x94 Try.prog) w94 Try.f94 := ⟨rfl, rfl, rfl, (fun g r h => by cases h), by kernel_rfl, by decide, rfl, t94_ok⟩
def x95 (P : Program) : Ctx := { P := P, inl := [86, 87, 99, 100, 115, 116, 117, 123], own := [], ownc := [], ownr := [], diceT := 31, diceNew := ⟨18, none, none⟩ }
def w95 : Hints := { sites := [], np := [(87, 6, 18), (123, 3, 12)], thaw := [], skel := [(0, 29, ⟨[⟨false, 9, 0, none, false⟩], [], [6, 9, 8], [], false⟩)] }
def t95 : Tree := (.prim (.agg 2 (tv 0))
(.prim (.one (tv 1))
(.call 67 [(.agg [(tp 3 0), (tp 3 1)]), (.lit 1 1 [(tv 4)]), (.e (.cst .snil))]
(.prim (.ext (tv 5) 0)
(.prim (.ext (tv 5) 1)
(.prim (.agg 2 (tv 6))
(.prim (.bin .eql 39 (tv 7) (tn 0))
(.join 0
(.ite (.var 9)
(.call 111 [(tv 2)]
(.jump 0 [(tv 10)]))
(.jump 0 [(tv 7)]))
(.ret (.tup [(.agg [(tp 8 0), (tp 8 1)]), (tv 10)]))))))))))
theorem t95_ok : compFun (x95 Try.prog) w95 95 = .ok t95 := by kernel_rfl
theorem k95 : TreeOk Try.prog 31 ⟨18, none, none⟩ ownT 95 t95 (x95 Try.prog) w95 Try.f95 := ⟨rfl, rfl, rfl, (fun g r h => by cases h), by kernel_rfl, by decide, rfl, t95_ok⟩
def x96 (P : Program) : Ctx := { P := P, inl := [86, 87, 99, 100, 115, 116, 117, 123], own := [], ownc := [], ownr := [], diceT := 31, diceNew := ⟨18, none, none⟩ }
def w96 : Hints := { sites := [], np := [(87, 6, 18), (123, 3, 12)], thaw := [], skel := [(0, 61, ⟨[⟨false, 10, 0, (some (1, .nil0)), false⟩], [], [10], [], false⟩), (0, 122, ⟨[⟨false, 10, 0, (some (1, .nil0)), false⟩, ⟨false, 25, 0, none, false⟩], [], [9, 6, 7, 23, 24, 25, 10], [3, 5, 7], false⟩), (0, 15667, ⟨[⟨false, 10, 0, (some (1, .nil0)), false⟩], [], [9, 6, 7, 23, 24, 10, 25], [], false⟩)] }
def t96 : Tree := (.prim (.agg 2 (tv 0))
(.prim (.one (tv 2))
(.prim (.one (tv 3))
(.call 80 [(tp 4 0)]
(.prim (.agg 2 (tv 7))
(.prim (.row 3 (tp 4 1) (tv 1))
(.call 68 [(.agg [(tp 9 0), (tp 9 1), (tp 9 2)])]
(.prim (.len 25 (tv 10))
(.join 0
(.loop 1 [(.e (.cst (.agg []))), (tn 0)]
(.prim (.bin .lss 3 (tv 13) (tv 11))
(.ite (.var 14)
(.prim (.row 1 (tv 10) (tv 13))
(.call 112 [(tv 5), (.fn 113 [(.ref [(tp 8 0), (tp 8 1)]), (.ref [(tv 5)]), (.ref [(tv 6)]), (.ref [(tp 15 0)])])]
(.prim (.un .not (tv 16))
(.join 2
(.ite (.var 17)
(.prim (.one (tv 13))
(.prim (.push 1 8 (.var 12) (.lit 1 1 [(tv 18)]))
(.jump 2 [(tv 19)])))
(.jump 2 [(tv 12)]))
(.prim (.bin .add 3 (tv 13) (tn 1))
(.jump 1 [(tv 18), (tv 19)]))))))
(.jump 0 [(tv 12)]))))
(.prim (.frz 1 .nil0 (.var 12))
(.ret (tv 13))))))))))))
theorem t96_ok : compFun (x96 Try.prog) w96 96 = .ok t96 := by kernel_rfl
theorem k96 : TreeOk Try.prog 31 ⟨18, none, none⟩ ownT 96 t96 (x96 Try.prog) w96 Try.f96 := ⟨rfl, rfl, rfl, (fun g r h => by cases h), by kernel_rfl, by decide, rfl, t96_ok⟩
def x97 (P : Program) : Ctx := { P := P, inl := [86, 87, 99, 100, 115, 116, 117, 123], own := [], ownc := [], ownr := [], diceT := 31, diceNew := ⟨18, none, none⟩ }
def w97 : Hints := { sites := [], np := [(87, 6, 18), (97, 11, 12), (123, 3, 12)], thaw := [], skel := [(0, 61, ⟨[], [], [], [], false⟩), (0, 122, ⟨[⟨false, 8, 0, none, false⟩], [], [2, 8], [], false⟩), (0, 7826, ⟨[⟨false, 44, 0, none, false⟩], [], [44, 2, 8], [], false⟩)] }
def t97 : Tree := (.prim (.agg 2 (tv 0))
(.prim (.one (tv 1))
(.call 69 [(.agg [(tp 3 0), (tp 3 1)]), (.lit 1 1 [(tv 4)]), (.e (.cst .snil))]
(.prim (.bin .neq 39 (tv 5) (tn 0))
(.ite (.var 6)
(.ret (tv 5))
(.prim (.len 25 (tv 2))
(.prim (.bin .gtr 3 (tv 7) (tn 16))
(.ite (.var 8)
(.ret (tn 6))
(.join 0
(.loop 1 [(tn 0)]
(.prim (.len 25 (tv 2))
(.prim (.bin .lss 3 (tv 9) (tv 10))
(.ite (.var 11)
(.prim (.row 1 (tv 2) (tv 9))
(.call 74 [(tp 12 0), (tn 0), (tn 300)]
(.prim (.un .not (tv 13))
(.ite (.var 14)
(.ret (tn 1))
(.join 2
(.prim (.bin .gtr 3 (tv 9) (tn 0))
(.ite (.var 15)
(.prim (.row 1 (tv 2) (tv 9))
(.prim (.bin .sub 3 (tv 9) (tn 1))
(.prim (.row 1 (tv 2) (tv 17))
(.prim (.bin .leq 3 (tp 16 0) (tp 18 0))
(.jump 2 [(tv 19)])))))
(.jump 2 [(.e (.cst (.bool false)))])))
(.ite (.var 15)
(.ret (tn 5))
(.prim (.bin .add 3 (tv 9) (tn 1))
(.jump 1 [(tv 16)]))))))))
(.jump 0 [])))))
(.ret (tn 0)))))))))))
theorem t97_ok : compFun (x97 Try.prog) w97 97 = .ok t97 := by kernel_rfl
theorem k97 : TreeOk Try.prog 31 ⟨18, none, none⟩ ownT 97 t97 (x97 Try.prog) w97 Try.f97 := ⟨rfl, rfl, rfl, (fun g r h => by cases h), by kernel_rfl, by decide, rfl, t97_ok⟩
def x98 (P : Program) : Ctx := { P := P, inl := [86, 87, 99, 100, 115, 116, 117, 123], own := [], ownc := [], ownr := [], diceT := 31, diceNew := ⟨18, none, none⟩ }
def w98 : Hints := { sites := [], np := [(87, 6, 18), (98, 10, 17), (123, 3, 12)], thaw := [], skel := [(0, 61, ⟨[⟨false, 10, 0, (some (1, .nil0)), false⟩], [], [10], [], false⟩), (0, 122, ⟨[⟨false, 10, 0, (some (1, .nil0)), false⟩, ⟨false, 11, 0, none, false⟩], [], [4, 11, 9, 3, 2, 10], [], false⟩), (0, 15653, ⟨[⟨false, 12, 0, none, false⟩], [], [4, 9, 3, 2, 11, 10, 12], [], false⟩), (0, 31306, ⟨[⟨false, 12, 0, none, false⟩, ⟨false, 13, 0, none, false⟩], [], [4, 11, 9, 3, 2, 10, 13, 12], [], false⟩), (0, 500900, ⟨[⟨false, 12, 0, none, false⟩], [], [4, 11, 9, 3, 2, 10, 12, 13], [], false⟩), (0, 15655, ⟨[⟨false, 10, 0, (some (1, .nil0)), false⟩], [], [4, 9, 3, 2, 10, 11], [], false⟩)] }
def t98 : Tree := (.prim (.agg 2 (tv 0))
(.prim (.row 3 (tp 4 1) (tv 1))
(.call 70 [(.agg [(tp 5 0), (tp 5 1), (tp 5 2)])]
(.join 0
(.loop 1 [(.e (.cst (.agg []))), (tn 0)]
(.prim (.len 25 (tv 6))
(.prim (.bin .lss 3 (tv 8) (tv 9))
(.ite (.var 10)
(.join 2
(.loop 3 [(.e (.cst (.bool false))), (tn 0)]
(.prim (.len 25 (tv 2))
(.prim (.bin .lss 3 (tv 12) (tv 13))
(.ite (.var 14)
(.join 4
(.ite (.var 11)
(.jump 4 [(.e (.cst (.bool true)))])
(.prim (.row 1 (tv 2) (tv 12))
(.prim (.row 1 (tv 2) (tv 3))
(.prim (.row 1 (tv 6) (tv 8))
(.prim (.bin .add 3 (tp 16 0) (tp 17 0))
(.call 114 [(tp 15 0), (tv 18), (tp 4 0)]
(.jump 4 [(tv 19)])))))))
(.prim (.bin .add 3 (tv 12) (tn 1))
(.jump 3 [(tv 15), (tv 16)])))
(.jump 2 [(tv 11)])))))
(.prim (.un .not (tv 11))
(.join 3
(.ite (.var 12)
(.prim (.one (tv 8))
(.prim (.push 1 8 (.var 7) (.lit 1 1 [(tv 13)]))
(.jump 3 [(tv 14)])))
(.jump 3 [(tv 7)]))
(.prim (.bin .add 3 (tv 8) (tn 1))
(.jump 1 [(tv 13), (tv 14)])))))
(.jump 0 [(tv 7)])))))
(.prim (.frz 1 .nil0 (.var 7))
(.ret (tv 8)))))))
theorem t98_ok : compFun (x98 Try.prog) w98 98 = .ok t98 := by kernel_rfl
theorem k98 : TreeOk Try.prog 31 ⟨18, none, none⟩ ownT 98 t98 (x98 Try.prog) w98 Try.f98 := ⟨rfl, rfl, rfl, (fun g r h => by cases h), by kernel_rfl, by decide, rfl, t98_ok⟩
def x101 (P : Program) : Ctx := { P := P, inl := [86, 87, 99, 100, 115, 116, 117, 123], own := [], ownc := [], ownr := [], diceT := 31, diceNew := ⟨18, none, none⟩ }
def w101 : Hints := { sites := [], np := [(87, 6, 18), (101, 7, 17), (101, 9, 11), (101, 11, 13), (123, 3, 12)], thaw := [], skel := [(0, 28, ⟨[⟨false, 26, 0, none, false⟩], [], [26, 1, 3, 5, 7, 4, 11], [], false⟩), (0, 61, ⟨[], [], [1, 5, 7, 11, 3], [], false⟩), (0, 122, ⟨[⟨false, 12, 0, none, false⟩], [], [1, 3, 5, 7, 4, 11, 12], [], false⟩), (0, 3912, ⟨[⟨false, 53, 0, none, false⟩], [], [53, 1, 3, 5, 7, 4, 11, 12], [], false⟩), (0, 124, ⟨[⟨false, 66, 0, none, false⟩], [], [66, 1, 5, 7, 11], [], false⟩), (0, 252, ⟨[⟨false, 81, 0, none, false⟩], [], [81, 1, 5, 7], [], false⟩), (0, 254, ⟨[⟨false, 10, 0, none, false⟩], [], [10], [], false⟩)] }
def t101 : Tree := (.prim (.agg 3 (tv 0))
(.prim (.agg 5 (tv 2))
(.prim (.len 25 (tp 6 0))
(.prim (.bin .add 3 (tv 3) (tv 7))
(.join 0
(.prim (.bin .lss 3 (tv 3) (tn 0))
(.ite (.var 9)
(.jump 0 [(.e (.cst (.bool true)))])
(.prim (.bin .sub 3 (tp 5 1) (tn 1))
(.prim (.bin .gtr 3 (tv 8) (tv 10))
(.jump 0 [(tv 11)])))))
(.ite (.var 9)
(.ret (.e (.cst (.bool false))))
(.join 1
(.loop 2 [(tn 0)]
(.prim (.len 25 (tp 6 0))
(.prim (.bin .lss 3 (tv 10) (tv 11))
(.ite (.var 12)
(.join 3
(.prim (.row 1 (tv 4) (tv 10))
(.prim (.un .not (tp 13 0))
(.ite (.var 14)
(.prim (.row 1 (tp 6 0) (tv 10))
(.prim (.bin .add 3 (tv 3) (tv 10))
(.call 83 [(.agg [(tp 5 0), (tp 5 1), (tp 5 2)]), (tv 16)]
(.call 114 [(tp 15 0), (tv 17), (tv 1)]
(.prim (.un .not (tv 18))
(.jump 3 [(tv 19)]))))))
(.jump 3 [(.e (.cst (.bool false)))]))))
(.ite (.var 13)
(.ret (.e (.cst (.bool false))))
(.prim (.bin .add 3 (tv 10) (tn 1))
(.jump 2 [(tv 14)]))))
(.jump 1 [])))))
(.join 2
(.prim (.bin .gtr 3 (tv 3) (tn 0))
(.ite (.var 10)
(.prim (.bin .sub 3 (tv 3) (tn 1))
(.call 83 [(.agg [(tp 5 0), (tp 5 1), (tp 5 2)]), (tv 11)]
(.prim (.bin .sub 3 (tp 6 1) (tv 1))
(.prim (.bin .leq 3 (tv 12) (tv 13))
(.jump 2 [(tv 14)])))))
(.jump 2 [(.e (.cst (.bool false)))])))
(.ite (.var 10)
(.ret (.e (.cst (.bool false))))
(.join 3
(.prim (.bin .sub 3 (tp 5 1) (tn 1))
(.prim (.bin .lss 3 (tv 8) (tv 11))
(.ite (.var 12)
(.call 83 [(.agg [(tp 5 0), (tp 5 1), (tp 5 2)]), (tv 8)]
(.prim (.bin .sub 3 (tp 6 2) (tv 1))
(.prim (.bin .leq 3 (tv 13) (tv 14))
(.jump 3 [(tv 15)]))))
(.jump 3 [(.e (.cst (.bool false)))]))))
(.ite (.var 11)
(.ret (.e (.cst (.bool false))))
(.join 4
(.prim (.bin .eql 3 (tp 6 3) (tn 0))
(.ite (.var 12)
(.jump 4 [(.e (.cst (.bool true)))])
(.call 114 [(tp 6 3), (tp 5 2), (tv 1)]
(.jump 4 [(tv 13)]))))
(.ret (tv 12))))))))))))))
theorem t101_ok : compFun (x101 Try.prog) w101 101 = .ok t101 := by kernel_rfl
theorem k101 : TreeOk Try.prog 31 ⟨18, none, none⟩ ownT 101 t101 (x101 Try.prog) w101 Try.f101 := ⟨rfl, rfl, rfl, (fun g r h => by cases h), by kernel_rfl, by decide, rfl, t101_ok⟩
def x102 (P : Program) : Ctx := { P := P, inl := [86, 87, 99, 100, 115, 116, 117, 123], own := [], ownc := [], ownr := [], diceT := 31, diceNew := ⟨18, none, none⟩ }
def w102 : Hints := { sites := [], np := [(87, 6, 18), (102, 5, 8), (123, 3, 12)], thaw := [], skel := [(0, 29, ⟨[⟨true, 2, 0, (some (1, .nil0)), false⟩], [], [2, 3], [], false⟩), (0, 58, ⟨[⟨false, 4, 0, none, false⟩, ⟨true, 2, 0, (some (1, .nil0)), false⟩], [], [3, 1, 2, 4], [], false⟩)] }
def t102 : Tree := (.prim (.agg 5 (tv 0))
(.prim (.len 25 (tp 1 0))
(.prim (.bin .sub 3 (tv 2) (tn 1))
(.join 0
(.loop 1 [(tv 3), (.e (.cst (.agg [])))]
(.prim (.bin .geq 3 (tv 4) (tn 0))
(.ite (.var 6)
(.prim (.row 1 (tp 1 0) (tv 4))
(.prim (.push 1 8 (.var 5) (.lit 1 1 [(tp 7 0)]))
(.prim (.bin .sub 3 (tv 4) (tn 1))
(.jump 1 [(tv 9), (tv 8)]))))
(.jump 0 [(tv 5)]))))
(.prim (.frz 1 .nil0 (.var 4))
(.ret (.agg [(tv 5), (tp 1 2), (tp 1 1), (tp 1 3), (tp 1 4)])))))))
theorem t102_ok : compFun (x102 Try.prog) w102 102 = .ok t102 := by kernel_rfl
theorem k102 : TreeOk Try.prog 31 ⟨18, none, none⟩ ownT 102 t102 (x102 Try.prog) w102 Try.f102 := ⟨rfl, rfl, rfl, (fun g r h => by cases h), by kernel_rfl, by decide, rfl, t102_ok⟩
def x103 (P : Program) : Ctx := { P := P, inl := [86, 87, 99, 100, 115, 116, 117, 123], own := [], ownc := [], ownr := [], diceT := 31, diceNew := ⟨18, none, none⟩ }
def w103 : Hints := { sites := [], np := [(87, 6, 18), (123, 3, 12)], thaw := [], skel := [(0, 29, ⟨[⟨false, 3, 0, (some (1, .nil0)), false⟩], [], [3], [], false⟩), (0, 58, ⟨[⟨false, 3, 0, (some (1, .nil0)), false⟩, ⟨false, 4, 0, none, false⟩], [], [0, 4, 3], [], false⟩)] }
def t103 : Tree := (.prim (.len 105 (tv 0))
(.prim (.bin .sub 3 (tv 1) (tn 1))
(.join 0
(.loop 1 [(.e (.cst (.agg []))), (tv 2)]
(.prim (.bin .geq 3 (tv 4) (tn 0))
(.ite (.var 5)
(.prim (.row 1 (tv 0) (tv 4))
(.prim (.push 1 1 (.var 3) (.lit 1 1 [(tp 6 0)]))
(.prim (.bin .sub 3 (tv 4) (tn 1))
(.jump 1 [(tv 7), (tv 8)]))))
(.jump 0 [(tv 3)]))))
(.prim (.frz 1 .nil0 (.var 3))
(.ret (tv 4))))))
theorem t103_ok : compFun (x103 Try.prog) w103 103 = .ok t103 := by kernel_rfl
theorem k103 : TreeOk Try.prog 31 ⟨18, none, none⟩ ownT 103 t103 (x103 Try.prog) w103 Try.f103 := ⟨rfl, rfl, rfl, (fun g r h => by cases h), by kernel_rfl, by decide, rfl, t103_ok⟩
def x104 (P : Program) : Ctx := { P := P, inl := [86, 87, 99, 100, 115, 116, 117, 123], own := [], ownc := [], ownr := [], diceT := 31, diceNew := ⟨18, none, none⟩ }
def w104 : Hints := { sites := [], np := [(87, 6, 18), (123, 3, 12)], thaw := [], skel := [(0, 6, ⟨[⟨false, 5, 0, none, false⟩], [], [5], [], false⟩)] }
def t104 : Tree := (.join 0
(.prim (.bin .sub 3 (tv 0) (tv 1))
(.prim (.deref 1 (tv 2))
(.prim (.bin .leq 3 (tv 3) (tp 4 0))
(.ite (.var 5)
(.prim (.bin .sub 3 (tv 1) (tv 0))
(.prim (.deref 1 (tv 2))
(.prim (.bin .leq 3 (tv 6) (tp 7 0))
(.jump 0 [(tv 8)]))))
(.jump 0 [(.e (.cst (.bool false)))])))))
(.ret (tv 3)))
theorem t104_ok : compFun (x104 Try.prog) w104 104 = .ok t104 := by kernel_rfl
theorem k104 : TreeOk Try.prog 31 ⟨18, none, none⟩ ownT 104 t104 (x104 Try.prog) w104 Try.f104 := ⟨rfl, rfl, rfl, (fun g r h => by cases h), by kernel_rfl, by decide, rfl, t104_ok⟩
def x105 (P : Program) : Ctx := { P := P, inl := [86, 87, 99, 100, 115, 116, 117, 123], own := [], ownc := [], ownr := [], diceT := 31, diceNew := ⟨18, none, none⟩ }
def w105 : Hints := { sites := [], np := [(87, 6, 18), (123, 3, 12)], thaw := [], skel := [] }
def t105 : Tree := (.prim (.deref 1 (tv 2))
(.prim (.bin .sub 3 (tv 0) (tp 3 0))
(.prim (.bin .gtr 3 (tv 1) (tv 4))
(.ret (tv 5)))))
theorem t105_ok : compFun (x105 Try.prog) w105 105 = .ok t105 := by kernel_rfl
theorem k105 : TreeOk Try.prog 31 ⟨18, none, none⟩ ownT 105 t105 (x105 Try.prog) w105 Try.f105 := ⟨rfl, rfl, rfl, (fun g r h => by cases h), by kernel_rfl, by decide, rfl, t105_ok⟩
def x106 (P : Program) : Ctx := { P := P, inl := [86, 87, 99, 100, 115, 116, 117, 123], own := [], ownc := [], ownr := [], diceT := 31, diceNew := ⟨18, none, none⟩ }
def w106 : Hints := { sites := [], np := [(87, 6, 18), (123, 3, 12)], thaw := [], skel := [] }
def t106 : Tree := (.prim (.bin .shr 113 (tv 0) (tv 1))
(.prim (.bin .and 113 (tv 2) (.e (.cst (.int .u8 1))))
(.prim (.bin .eql 113 (tv 3) (.e (.cst (.int .u8 1))))
(.ret (tv 4)))))
theorem t106_ok : compFun (x106 Try.prog) w106 106 = .ok t106 := by kernel_rfl
theorem k106 : TreeOk Try.prog 31 ⟨18, none, none⟩ ownT 106 t106 (x106 Try.prog) w106 Try.f106 := ⟨rfl, rfl, rfl, (fun g r h => by cases h), by kernel_rfl, by decide, rfl, t106_ok⟩
def x107 (P : Program) : Ctx := { P := P, inl := [86, 87, 99, 100, 115, 116, 117, 123], own := [], ownc := [], ownr := [], diceT := 31, diceNew := ⟨18, none, none⟩ }
def w107 : Hints := { sites := [], np := [(87, 6, 18), (123, 3, 12)], thaw := [], skel := [(0, 13, ⟨[], [], [0, 1], [], false⟩), (0, 61, ⟨[⟨false, 5, 0, none, false⟩], [], [5], [], false⟩), (0, 122, ⟨[⟨false, 5, 0, none, false⟩, ⟨false, 6, 0, none, false⟩], [], [0, 1, 6, 5], [], false⟩), (0, 3913, ⟨[⟨false, 5, 0, none, false⟩], [], [0, 1, 5, 6], [], false⟩)] }
def t107 : Tree := (.prim (.len 73 (tv 0))
(.prim (.bin .lss 3 (tv 2) (tn 1))
(.join 0
(.ite (.var 3)
.die
(.jump 0 []))
(.prim (.row 1 (tv 0) (tn 0))
(.join 1
(.loop 2 [(tp 4 0), (tn 1)]
(.prim (.len 73 (tv 0))
(.prim (.bin .lss 3 (tv 6) (tv 7))
(.ite (.var 8)
(.prim (.row 1 (tv 0) (tv 6))
(.callv (.var 1) [(tp 9 0), (tv 5)]
(.prim (.bin .lss 3 (tv 10) (tn 0))
(.join 3
(.ite (.var 11)
(.prim (.row 1 (tv 0) (tv 6))
(.jump 3 [(tp 12 0)]))
(.jump 3 [(tv 5)]))
(.prim (.bin .add 3 (tv 6) (tn 1))
(.jump 2 [(tv 12), (tv 13)]))))))
(.jump 1 [(tv 5)])))))
(.ret (tv 5)))))))
theorem t107_ok : compFun (x107 Try.prog) w107 107 = .ok t107 := by kernel_rfl
theorem k107 : TreeOk Try.prog 31 ⟨18, none, none⟩ ownT 107 t107 (x107 Try.prog) w107 Try.f107 := ⟨rfl, rfl, rfl, (fun g r h => by cases h), by kernel_rfl, by decide, rfl, t107_ok⟩
def x108 (P : Program) : Ctx := { P := P, inl := [86, 87, 99, 100, 115, 116, 117, 123], own := [], ownc := [], ownr := [], diceT := 31, diceNew := ⟨18, none, none⟩ }
def w108 : Hints := { sites := [], np := [(87, 6, 18), (123, 3, 12)], thaw := [], skel := [] }
def t108 : Tree := (.prim (.len 25 (tv 0))
(.prim (.len 25 (tv 1))
(.call 109 [(tv 2), (tv 3)]
(.prim (.bin .neq 3 (tv 4) (tn 0))
(.ite (.var 5)
(.ret (tv 4))
(.call 110 [(tv 0), (tv 1)]
(.ret (tv 6))))))))
theorem t108_ok : compFun (x108 Try.prog) w108 108 = .ok t108 := by kernel_rfl
theorem k108 : TreeOk Try.prog 31 ⟨18, none, none⟩ ownT 108 t108 (x108 Try.prog) w108 Try.f108 := ⟨rfl, rfl, rfl, (fun g r h => by cases h), by kernel_rfl, by decide, rfl, t108_ok⟩
def x109 (P : Program) : Ctx := { P := P, inl := [86, 87, 99, 100, 115, 116, 117, 123], own := [], ownc := [], ownr := [], diceT := 31, diceNew := ⟨18, none, none⟩ }
def w109 : Hints := { sites := [], np := [(87, 6, 18), (123, 3, 12)], thaw := [], skel := [] }
def t109 : Tree := (.call 120 [(tv 0)]
(.call 120 [(tv 1)]
(.ite (.var 2)
(.ite (.var 3)
(.ret (tn 0))
(.ret (tn (-1))))
(.ite (.var 3)
(.ret (tn 1))
(.prim (.bin .lss 3 (tv 0) (tv 1))
(.ite (.var 4)
(.ret (tn (-1)))
(.prim (.bin .gtr 3 (tv 0) (tv 1))
(.ite (.var 5)
(.ret (tn 1))
(.ret (tn 0))))))))))
theorem t109_ok : compFun (x109 Try.prog) w109 109 = .ok t109 := by kernel_rfl
theorem k109 : TreeOk Try.prog 31 ⟨18, none, none⟩ ownT 109 t109 (x109 Try.prog) w109 Try.f109 := ⟨rfl, rfl, rfl, (fun g r h => by cases h), by kernel_rfl, by decide, rfl, t109_ok⟩
def x110 (P : Program) : Ctx := { P := P, inl := [86, 87, 99, 100, 115, 116, 117, 123], own := [], ownc := [], ownr := [], diceT := 31, diceNew := ⟨18, none, none⟩ }
def w110 : Hints := { sites := [], np := [(87, 6, 18), (123, 3, 12)], thaw := [], skel := [(0, 13, ⟨[], [], [1, 0], [], false⟩), (0, 26, ⟨[⟨false, 11, 0, none, false⟩], [], [1, 9, 0, 10, 11], [], false⟩)] }
def t110 : Tree := (.prim (.len 25 (tv 0))
(.join 0
(.loop 1 [(tn 0)]
(.prim (.bin .lss 3 (tv 3) (tv 2))
(.ite (.var 4)
(.prim (.row 1 (tv 0) (tv 3))
(.prim (.len 25 (tv 1))
(.prim (.bin .geq 3 (tv 3) (tv 6))
(.ite (.var 7)
(.ret (tn 1))
(.prim (.row 1 (tv 1) (tv 3))
(.call 109 [(tp 5 0), (tp 8 0)]
(.prim (.bin .neq 3 (tv 9) (tn 0))
(.ite (.var 10)
(.ret (tv 9))
(.prim (.bin .add 3 (tv 3) (tn 1))
(.jump 1 [(tv 11)]))))))))))
(.jump 0 []))))
(.prim (.len 25 (tv 0))
(.prim (.len 25 (tv 1))
(.prim (.bin .lss 3 (tv 3) (tv 4))
(.ite (.var 5)
(.ret (tn (-1)))
(.ret (tn 0))))))))
theorem t110_ok : compFun (x110 Try.prog) w110 110 = .ok t110 := by kernel_rfl
theorem k110 : TreeOk Try.prog 31 ⟨18, none, none⟩ ownT 110 t110 (x110 Try.prog) w110 Try.f110 := ⟨rfl, rfl, rfl, (fun g r h => by cases h), by kernel_rfl, by decide, rfl, t110_ok⟩
def x111 (P : Program) : Ctx := { P := P, inl := [86, 87, 99, 100, 115, 116, 117, 123], own := [], ownc := [], ownr := [], diceT := 31, diceNew := ⟨18, none, none⟩ }
def w111 : Hints := { sites := [], np := [(87, 6, 18), (123, 3, 12)], thaw := [], skel := [(0, 29, ⟨[], [], [], [], false⟩), (0, 58, ⟨[⟨false, 10, 0, none, false⟩], [], [0, 8, 9, 10], [], false⟩), (0, 14950, ⟨[⟨false, 28, 0, none, false⟩], [], [28, 0, 8, 9, 10], [], false⟩)] }
def t111 : Tree := (.prim (.len 25 (tv 0))
(.prim (.bin .gtr 3 (tv 1) (tn 16))
(.ite (.var 2)
(.ret (tn 6))
(.prim (.len 25 (tv 0))
(.join 0
(.loop 1 [(tn 0)]
(.prim (.bin .lss 3 (tv 4) (tv 3))
(.ite (.var 5)
(.prim (.row 1 (tv 0) (tv 4))
(.call 71 [(tp 6 0), (tn 0), (tn 300)]
(.prim (.un .not (tv 7))
(.ite (.var 8)
(.ret (tn 1))
(.join 2
(.prim (.bin .gtr 3 (tv 4) (tn 0))
(.ite (.var 9)
(.prim (.bin .sub 3 (tv 4) (tn 1))
(.prim (.row 1 (tv 0) (tv 10))
(.prim (.bin .leq 3 (tp 6 0) (tp 11 0))
(.jump 2 [(tv 12)]))))
(.jump 2 [(.e (.cst (.bool false)))])))
(.ite (.var 9)
(.ret (tn 5))
(.prim (.bin .add 3 (tv 4) (tn 1))
(.jump 1 [(tv 10)]))))))))
(.jump 0 []))))
(.ret (tn 0)))))))
theorem t111_ok : compFun (x111 Try.prog) w111 111 = .ok t111 := by kernel_rfl
theorem k111 : TreeOk Try.prog 31 ⟨18, none, none⟩ ownT 111 t111 (x111 Try.prog) w111 Try.f111 := ⟨rfl, rfl, rfl, (fun g r h => by cases h), by kernel_rfl, by decide, rfl, t111_ok⟩
def x112 (P : Program) : Ctx := { P := P, inl := [86, 87, 99, 100, 115, 116, 117, 123], own := [], ownc := [], ownr := [], diceT := 31, diceNew := ⟨18, none, none⟩ }
def w112 : Hints := { sites := [], np := [(87, 6, 18), (123, 3, 12)], thaw := [], skel := [] }
def t112 : Tree := (.call 121 [(tv 0), (tv 1)]
(.prim (.bin .geq 3 (tv 2) (tn 0))
(.ret (tv 3))))
theorem t112_ok : compFun (x112 Try.prog) w112 112 = .ok t112 := by kernel_rfl
theorem k112 : TreeOk Try.prog 31 ⟨18, none, none⟩ ownT 112 t112 (x112 Try.prog) w112 Try.f112 := ⟨rfl, rfl, rfl, (fun g r h => by cases h), by kernel_rfl, by decide, rfl, t112_ok⟩
def x113 (P : Program) : Ctx := { P := P, inl := [86, 87, 99, 100, 115, 116, 117, 123], own := [], ownc := [], ownr := [], diceT := 31, diceNew := ⟨18, none, none⟩ }
def w113 : Hints := { sites := [], np := [(87, 6, 18), (113, 1, 9), (123, 3, 12)], thaw := [], skel := [] }
def t113 : Tree := (.prim (.deref 2 (tv 1))
(.prim (.deref 1 (tv 2))
(.prim (.deref 1 (tv 3))
(.prim (.row 1 (tp 6 0) (tp 7 0))
(.prim (.deref 1 (tv 4))
(.prim (.bin .add 3 (tp 8 0) (tp 9 0))
(.callv (.proj (.var 5) 0) [(tv 0), (tv 10)]
(.ret (tv 11)))))))))
theorem t113_ok : compFun (x113 Try.prog) w113 113 = .ok t113 := by kernel_rfl
theorem k113 : TreeOk Try.prog 31 ⟨18, none, none⟩ ownT 113 t113 (x113 Try.prog) w113 Try.f113 := ⟨rfl, rfl, rfl, (fun g r h => by cases h), by kernel_rfl, by decide, rfl, t113_ok⟩
def x114 (P : Program) : Ctx := { P := P, inl := [86, 87, 99, 100, 115, 116, 117, 123], own := [], ownc := [], ownr := [], diceT := 31, diceNew := ⟨18, none, none⟩ }
def w114 : Hints := { sites := [], np := [(87, 6, 18), (123, 3, 12)], thaw := [], skel := [(0, 6, ⟨[⟨false, 6, 0, none, false⟩], [], [6], [], false⟩)] }
def t114 : Tree := (.join 0
(.prim (.bin .sub 3 (tv 0) (tv 1))
(.prim (.bin .leq 3 (tv 3) (tv 2))
(.ite (.var 4)
(.prim (.bin .sub 3 (tv 1) (tv 0))
(.prim (.bin .leq 3 (tv 5) (tv 2))
(.jump 0 [(tv 6)])))
(.jump 0 [(.e (.cst (.bool false)))]))))
(.ret (tv 3)))
theorem t114_ok : compFun (x114 Try.prog) w114 114 = .ok t114 := by kernel_rfl
theorem k114 : TreeOk Try.prog 31 ⟨18, none, none⟩ ownT 114 t114 (x114 Try.prog) w114 Try.f114 := ⟨rfl, rfl, rfl, (fun g r h => by cases h), by kernel_rfl, by decide, rfl, t114_ok⟩
end Go.Proofs.Ytlminnpaeaganaa
