/- Residual trees of functions. No condition. -/
import Derived.Test.YtlminnpaeaganaaGreatMTrA
namespace Go.Proofs.YtlminnpaeaganaaGreat
open Go Go.RowKit
set_option maxRecDepth 100000
def x68 (P : Program) : Ctx := { P := P, inl := [85, 75, 76, 100, 101, 127, 128, 129, 164], own := [], ownc := [], ownr := [], diceT := 23, diceNew := ⟨11, (some 86), (some 87)⟩ }
def w68 : Hints := { sites := [], np := [(68, 6, 13), (76, 6, 18), (164, 3, 12)], thaw := [], skel := [(0, 12, ⟨[⟨false, 21, 0, none, false⟩], [], [21, 3, 2], [], false⟩), (0, 29, ⟨[], [], [], [], false⟩), (0, 58, ⟨[⟨false, 5, 0, none, false⟩], [], [3, 2, 5], [], false⟩), (0, 3730, ⟨[⟨false, 58, 0, none, false⟩], [], [58, 3, 2, 5], [], false⟩)] }
def t68 : Tree := (.prim (.agg 2 (tv 0))
(.prim (.agg 2 (tv 1))
(.join 0
(.prim (.bin .neq 3 (tp 2 0) (tp 3 0))
(.ite (.var 4)
(.jump 0 [(.e (.cst (.bool true)))])
(.prim (.len 25 (tp 2 1))
(.prim (.len 25 (tp 3 1))
(.prim (.bin .neq 3 (tv 5) (tv 6))
(.jump 0 [(tv 7)]))))))
(.ite (.var 4)
(.ret (.e (.cst (.bool false))))
(.join 1
(.loop 2 [(tn 0)]
(.prim (.len 25 (tp 2 1))
(.prim (.bin .lss 3 (tv 5) (tv 6))
(.ite (.var 7)
(.prim (.row 3 (tp 2 1) (tv 5))
(.prim (.row 3 (tp 3 1) (tv 5))
(.join 3
(.call 16 [(tp 8 0), (tp 9 0)]
(.prim (.un .not (tv 10))
(.ite (.var 11)
(.jump 3 [(.e (.cst (.bool true)))])
(.prim (.bin .neq 3 (tp 8 1) (tp 9 1))
(.ite (.var 12)
(.jump 3 [(.e (.cst (.bool true)))])
(.prim (.bin .neq 3 (tp 8 2) (tp 9 2))
(.jump 3 [(tv 13)])))))))
(.ite (.var 10)
(.ret (.e (.cst (.bool false))))
(.prim (.bin .add 3 (tv 5) (tn 1))
(.jump 2 [(tv 11)]))))))
(.jump 1 [])))))
(.ret (.e (.cst (.bool true)))))))))
theorem t68_ok : compFun (x68 Tryz.prog) w68 68 = .ok t68 := by kernel_rfl
theorem k68 : TreeOk Tryz.prog 23 ⟨11, some 86, some 87⟩ ownT 68 t68 (x68 Tryz.prog) w68 Tryz.f68 := ⟨rfl, rfl, rfl, (fun g r h => by cases h), by kernel_rfl, by decide, rfl, t68_ok⟩
def x69 (P : Program) : Ctx := { P := P, inl := [85, 75, 76, 100, 101, 127, 128, 129, 164], own := [], ownc := [], ownr := [], diceT := 23, diceNew := ⟨11, (some 86), (some 87)⟩ }
def w69 : Hints := { sites := [], np := [(69, 6, 11), (76, 6, 18), (164, 3, 12)], thaw := [], skel := [(0, 29, ⟨[], [], [], [], false⟩), (0, 58, ⟨[⟨false, 5, 0, none, false⟩], [], [1, 0, 5], [], false⟩), (0, 3730, ⟨[⟨false, 60, 0, none, false⟩], [], [60, 1, 0, 5], [], false⟩)] }
def t69 : Tree := (.prim (.len 47 (tv 0))
(.prim (.len 47 (tv 1))
(.prim (.bin .neq 3 (tv 2) (tv 3))
(.ite (.var 4)
(.ret (.e (.cst (.bool false))))
(.join 0
(.loop 1 [(tn 0)]
(.prim (.len 47 (tv 0))
(.prim (.bin .lss 3 (tv 5) (tv 6))
(.ite (.var 7)
(.prim (.row 5 (tv 0) (tv 5))
(.prim (.row 5 (tv 1) (tv 5))
(.join 2
(.call 16 [(tp 8 0), (tp 9 0)]
(.prim (.un .not (tv 10))
(.ite (.var 11)
(.jump 2 [(.e (.cst (.bool true)))])
(.prim (.bin .neq 3 (tp 8 1) (tp 9 1))
(.ite (.var 12)
(.jump 2 [(.e (.cst (.bool true)))])
(.prim (.bin .neq 3 (tp 8 2) (tp 9 2))
(.ite (.var 13)
(.jump 2 [(.e (.cst (.bool true)))])
(.prim (.bin .neq 3 (tp 8 3) (tp 9 3))
(.ite (.var 14)
(.jump 2 [(.e (.cst (.bool true)))])
(.prim (.bin .neq 4 (tp 8 4) (tp 9 4))
(.jump 2 [(tv 15)])))))))))))
(.ite (.var 10)
(.ret (.e (.cst (.bool false))))
(.prim (.bin .add 3 (tv 5) (tn 1))
(.jump 1 [(tv 11)]))))))
(.jump 0 [])))))
(.ret (.e (.cst (.bool true)))))))))
theorem t69_ok : compFun (x69 Tryz.prog) w69 69 = .ok t69 := by kernel_rfl
theorem k69 : TreeOk Tryz.prog 23 ⟨11, some 86, some 87⟩ ownT 69 t69 (x69 Tryz.prog) w69 Tryz.f69 := ⟨rfl, rfl, rfl, (fun g r h => by cases h), by kernel_rfl, by decide, rfl, t69_ok⟩
def x70 (P : Program) : Ctx := { P := P, inl := [85, 75, 76, 100, 101, 127, 128, 129, 164], own := [], ownc := [], ownr := [], diceT := 23, diceNew := ⟨11, (some 86), (some 87)⟩ }
def w70 : Hints := { sites := [], np := [(76, 6, 18), (164, 3, 12)], thaw := [], skel := [] }
def t70 : Tree := (.call 109 [(tv 0), (tv 1)]
(.prim (.bin .geq 3 (tv 2) (tn 0))
(.ret (tv 3))))
theorem t70_ok : compFun (x70 Tryz.prog) w70 70 = .ok t70 := by kernel_rfl
theorem k70 : TreeOk Tryz.prog 23 ⟨11, some 86, some 87⟩ ownT 70 t70 (x70 Tryz.prog) w70 Tryz.f70 := ⟨rfl, rfl, rfl, (fun g r h => by cases h), by kernel_rfl, by decide, rfl, t70_ok⟩
def x72 (P : Program) : Ctx := { P := P, inl := [85, 75, 76, 100, 101, 127, 128, 129, 164], own := [], ownc := [], ownr := [], diceT := 23, diceNew := ⟨11, (some 86), (some 87)⟩ }
def w72 : Hints := { sites := [], np := [(76, 6, 18), (164, 3, 12)], thaw := [], skel := [] }
def t72 : Tree := (.prim (.len 64 (tv 0))
(.prim (.bin .eql 3 (tv 1) (tn 0))
(.ite (.var 2)
(.ret (.tup [(.e (.cst .snil)), (.e (.cst (.bool false)))]))
(.call 110 [(tv 0), (.fn 111 [])]
(.ret (.tup [(tv 3), (.e (.cst (.bool true)))]))))))
theorem t72_ok : compFun (x72 Tryz.prog) w72 72 = .ok t72 := by kernel_rfl
theorem k72 : TreeOk Tryz.prog 23 ⟨11, some 86, some 87⟩ ownT 72 t72 (x72 Tryz.prog) w72 Tryz.f72 := ⟨rfl, rfl, rfl, (fun g r h => by cases h), by kernel_rfl, by decide, rfl, t72_ok⟩
def x73 (P : Program) : Ctx := { P := P, inl := [85, 75, 76, 100, 101, 127, 128, 129, 164], own := [], ownc := [], ownr := [], diceT := 23, diceNew := ⟨11, (some 86), (some 87)⟩ }
def w73 : Hints := { sites := [], np := [(76, 6, 18), (164, 3, 12)], thaw := [], skel := [(0, 125, ⟨[], [], [], [], false⟩), (0, 250, ⟨[⟨false, 3, 0, none, false⟩], [], [1, 3], [], false⟩)] }
def t73 : Tree := (.prim (.agg 2 (tv 0))
(.call 106 [(tp 1 0), (tn 0), (tn 3)]
(.prim (.un .not (tv 2))
(.ite (.var 3)
(.ret (tn 1))
(.prim (.len 25 (tp 1 1))
(.prim (.bin .eql 3 (tv 4) (tn 0))
(.ite (.var 5)
(.ret (tn 7))
(.prim (.len 25 (tp 1 1))
(.prim (.bin .gtr 3 (tv 6) (tn 4))
(.ite (.var 7)
(.ret (tn 6))
(.join 0
(.loop 1 [(tn 0)]
(.prim (.len 25 (tp 1 1))
(.prim (.bin .lss 3 (tv 8) (tv 9))
(.ite (.var 10)
(.prim (.row 3 (tp 1 1) (tv 8))
(.call 114 [(.agg [(tp 11 0), (tp 11 1), (tp 11 2)])]
(.prim (.bin .neq 32 (tv 12) (tn 0))
(.ite (.var 13)
(.ret (tv 12))
(.prim (.bin .add 3 (tv 8) (tn 1))
(.jump 1 [(tv 14)]))))))
(.jump 0 [])))))
(.ret (tn 0)))))))))))))
theorem t73_ok : compFun (x73 Tryz.prog) w73 73 = .ok t73 := by kernel_rfl
theorem k73 : TreeOk Tryz.prog 23 ⟨11, some 86, some 87⟩ ownT 73 t73 (x73 Tryz.prog) w73 Tryz.f73 := ⟨rfl, rfl, rfl, (fun g r h => by cases h), by kernel_rfl, by decide, rfl, t73_ok⟩
def x77 (P : Program) : Ctx := { P := P, inl := [85, 75, 76, 100, 101, 127, 128, 129, 164], own := [(0, 5)], ownc := [], ownr := [], diceT := 23, diceNew := ⟨11, (some 86), (some 87)⟩ }
def w77 : Hints := { sites := [], np := [(76, 6, 18), (77, 5, 8), (164, 3, 12)], thaw := [], skel := [(0, 58, ⟨[⟨false, 9, 0, none, false⟩], [0], [1, 8, 9, 3], [], false⟩)] }
def t77 : Tree := (.prim (.agg 3 (tv 0))
(.prim (.lst [(tn 0)])
(.prim (.bin .sub 3 (tp 1 1) (tn 1))
(.loop 0 [(tn 0), (tv 2)]
(.prim (.bin .lss 3 (tv 4) (tv 3))
(.ite (.var 6)
(.prim (.chk 1 (.var 5) (tv 4))
(.prim (.get 1 0 1 (.var 5) (.var 7))
(.call 96 [(.agg [(tp 1 0), (tp 1 1), (tp 1 2)]), (tv 4)]
(.prim (.bin .add 3 (tp 8 0) (tv 9))
(.prim (.push 1 8 (.var 5) (.lit 1 1 [(tv 10)]))
(.prim (.bin .add 3 (tv 4) (tn 1))
(.jump 0 [(tv 12), (tv 11)])))))))
(.prim (.frz 1 .real (.var 5))
(.ret (tv 7)))))))))
theorem t77_ok : compFun (x77 Tryz.prog) w77 77 = .ok t77 := by kernel_rfl
theorem k77 : TreeOk Tryz.prog 23 ⟨11, some 86, some 87⟩ ownT 77 t77 (x77 Tryz.prog) w77 Tryz.f77 := ⟨rfl, rfl, rfl, (fun g r h => by cases h), by kernel_rfl, by decide, rfl, t77_ok⟩
def x78 (P : Program) : Ctx := { P := P, inl := [85, 75, 76, 100, 101, 127, 128, 129, 164], own := [], ownc := [], ownr := [], diceT := 23, diceNew := ⟨11, (some 86), (some 87)⟩ }
def w78 : Hints := { sites := [], np := [(76, 6, 18), (78, 2, 5), (78, 3, 5), (164, 3, 12)], thaw := [], skel := [] }
def t78 : Tree := (.prim (.agg 5 (tv 0))
(.prim (.agg 2 (tv 1))
(.ite (.proj (.var 3) 1)
(.ret (.tup [(tp 2 2), (tp 2 1)]))
(.ret (.tup [(tp 2 1), (tp 2 2)])))))
theorem t78_ok : compFun (x78 Tryz.prog) w78 78 = .ok t78 := by kernel_rfl
theorem k78 : TreeOk Tryz.prog 23 ⟨11, some 86, some 87⟩ ownT 78 t78 (x78 Tryz.prog) w78 Tryz.f78 := ⟨rfl, rfl, rfl, (fun g r h => by cases h), by kernel_rfl, by decide, rfl, t78_ok⟩
def x79 (P : Program) : Ctx := { P := P, inl := [85, 75, 76, 100, 101, 127, 128, 129, 164], own := [], ownc := [], ownr := [], diceT := 23, diceNew := ⟨11, (some 86), (some 87)⟩ }
def w79 : Hints := { sites := [], np := [(76, 6, 18), (164, 3, 12)], thaw := [], skel := [(0, 13, ⟨[], [], [0], [], false⟩), (0, 61, ⟨[⟨false, 3, 0, none, false⟩], [], [3], [], false⟩), (0, 122, ⟨[⟨false, 3, 0, none, false⟩, ⟨false, 4, 0, none, false⟩], [], [0, 4, 3], [], false⟩)] }
def t79 : Tree := (.prim (.len 22 (tv 0))
(.prim (.bin .lss 3 (tv 1) (tn 1))
(.join 0
(.ite (.var 2)
.die
(.jump 0 []))
(.prim (.row 1 (tv 0) (tn 0))
(.join 1
(.loop 2 [(tp 3 0), (tn 1)]
(.prim (.len 22 (tv 0))
(.prim (.bin .lss 3 (tv 5) (tv 6))
(.ite (.var 7)
(.prim (.row 1 (tv 0) (tv 5))
(.prim (.mm false [(tv 4), (tp 8 0)])
(.prim (.bin .add 3 (tv 5) (tn 1))
(.jump 2 [(tv 9), (tv 10)]))))
(.jump 1 [(tv 4)])))))
(.ret (tv 4)))))))
theorem t79_ok : compFun (x79 Tryz.prog) w79 79 = .ok t79 := by kernel_rfl
theorem k79 : TreeOk Tryz.prog 23 ⟨11, some 86, some 87⟩ ownT 79 t79 (x79 Tryz.prog) w79 Tryz.f79 := ⟨rfl, rfl, rfl, (fun g r h => by cases h), by kernel_rfl, by decide, rfl, t79_ok⟩
def x80 (P : Program) : Ctx := { P := P, inl := [85, 75, 76, 100, 101, 127, 128, 129, 164], own := [], ownc := [], ownr := [], diceT := 23, diceNew := ⟨11, (some 86), (some 87)⟩ }
def w80 : Hints := { sites := [], np := [(76, 6, 18), (164, 3, 12)], thaw := [], skel := [(0, 13, ⟨[], [], [0], [], false⟩), (0, 61, ⟨[⟨false, 3, 0, none, false⟩], [], [3], [], false⟩), (0, 122, ⟨[⟨false, 3, 0, none, false⟩, ⟨false, 4, 0, none, false⟩], [], [0, 4, 3], [], false⟩)] }
def t80 : Tree := (.prim (.len 22 (tv 0))
(.prim (.bin .lss 3 (tv 1) (tn 1))
(.join 0
(.ite (.var 2)
.die
(.jump 0 []))
(.prim (.row 1 (tv 0) (tn 0))
(.join 1
(.loop 2 [(tp 3 0), (tn 1)]
(.prim (.len 22 (tv 0))
(.prim (.bin .lss 3 (tv 5) (tv 6))
(.ite (.var 7)
(.prim (.row 1 (tv 0) (tv 5))
(.prim (.mm true [(tv 4), (tp 8 0)])
(.prim (.bin .add 3 (tv 5) (tn 1))
(.jump 2 [(tv 9), (tv 10)]))))
(.jump 1 [(tv 4)])))))
(.ret (tv 4)))))))
theorem t80_ok : compFun (x80 Tryz.prog) w80 80 = .ok t80 := by kernel_rfl
theorem k80 : TreeOk Tryz.prog 23 ⟨11, some 86, some 87⟩ ownT 80 t80 (x80 Tryz.prog) w80 Tryz.f80 := ⟨rfl, rfl, rfl, (fun g r h => by cases h), by kernel_rfl, by decide, rfl, t80_ok⟩
def x81 (P : Program) : Ctx := { P := P, inl := [85, 75, 76, 100, 101, 127, 128, 129, 164], own := [], ownc := [], ownr := [], diceT := 23, diceNew := ⟨11, (some 86), (some 87)⟩ }
def w81 : Hints := { sites := [], np := [(76, 6, 18), (81, 10, 7), (164, 3, 12)], thaw := [], skel := [(0, 29, ⟨[⟨false, 9, 0, (some (2, .nil0)), false⟩], [], [3, 6, 1, 4, 9], [], false⟩), (0, 58, ⟨[⟨false, 9, 0, (some (2, .nil0)), false⟩, ⟨false, 10, 0, none, false⟩], [], [3, 6, 1, 4, 10, 9], [], false⟩), (0, 1865, ⟨[⟨false, 9, 0, (some (2, .nil0)), false⟩], [], [3, 6, 1, 4, 9, 10], [], false⟩), (0, 122, ⟨[⟨false, 11, 0, none, false⟩], [0], [3, 6, 1, 4, 11, 9], [], false⟩), (0, 976, ⟨[⟨false, 36, 0, none, false⟩], [], [36, 3, 6, 1, 4, 11, 9], [], false⟩)] }
def t81 : Tree := (.prim (.agg 3 (tv 0))
(.prim (.agg 5 (tv 2))
(.join 0
(.loop 1 [(.e (.cst (.agg []))), (tn 0)]
(.prim (.bin .lss 3 (tv 7) (tp 4 1))
(.ite (.var 8)
(.call 115 [(.agg [(tp 4 0), (tp 4 1), (tp 4 2)]), (tv 1), (.agg [(tp 5 0), (tp 5 1), (tp 5 2), (tp 5 3), (tp 5 4)]), (tv 7), (tv 3)]
(.join 2
(.ite (.var 9)
(.prim (.one (tv 7))
(.prim (.push 2 16 (.var 6) (.lit 2 1 [(tv 10), (.e (.cst (.bool false)))]))
(.jump 2 [(tv 11)])))
(.jump 2 [(tv 6)]))
(.prim (.bin .add 3 (tv 7) (tn 1))
(.jump 1 [(tv 10), (tv 11)]))))
(.jump 0 [(tv 6)]))))
(.loop 1 [(tn 0), (tv 6)]
(.join 2
(.prim (.bin .lss 3 (tv 7) (tp 4 1))
(.ite (.var 9)
(.jump 2 [(tp 5 4)])
(.jump 2 [(.e (.cst (.bool false)))])))
(.ite (.var 9)
(.call 116 [(.agg [(tp 5 0), (tp 5 1), (tp 5 2), (tp 5 3), (tp 5 4)])]
(.call 117 [(tv 3)]
(.call 115 [(.agg [(tp 4 0), (tp 4 1), (tp 4 2)]), (tv 1), (tv 10), (tv 7), (tv 11)]
(.ite (.var 12)
(.prim (.one (tv 7))
(.prim (.push 2 16 (.var 8) (.lit 2 1 [(tv 13), (.e (.cst (.bool true)))]))
(.prim (.bin .add 3 (tv 7) (tn 1))
(.jump 1 [(tv 15), (tv 14)]))))
(.prim (.bin .add 3 (tv 7) (tn 1))
(.jump 1 [(tv 13), (tv 8)]))))))
(.prim (.frz 2 .nil0 (.var 8))
(.ret (tv 10)))))))))
theorem t81_ok : compFun (x81 Tryz.prog) w81 81 = .ok t81 := by kernel_rfl
theorem k81 : TreeOk Tryz.prog 23 ⟨11, some 86, some 87⟩ ownT 81 t81 (x81 Tryz.prog) w81 Tryz.f81 := ⟨rfl, rfl, rfl, (fun g r h => by cases h), by kernel_rfl, by decide, rfl, t81_ok⟩
def x82 (P : Program) : Ctx := { P := P, inl := [85, 75, 76, 100, 101, 127, 128, 129, 164], own := [], ownc := [], ownr := [], diceT := 23, diceNew := ⟨11, (some 86), (some 87)⟩ }
def w82 : Hints := { sites := [], np := [(76, 6, 18), (164, 3, 12)], thaw := [], skel := [] }
def t82 : Tree := (.prim (.agg 5 (tv 0))
(.prim (.len 22 (tp 1 0))
(.prim (.mk [(.bool false)] 1 (tv 2))
(.prim (.frz 1 .real (.var 3))
(.ret (tv 4))))))
theorem t82_ok : compFun (x82 Tryz.prog) w82 82 = .ok t82 := by kernel_rfl
theorem k82 : TreeOk Tryz.prog 23 ⟨11, some 86, some 87⟩ ownT 82 t82 (x82 Tryz.prog) w82 Tryz.f82 := ⟨rfl, rfl, rfl, (fun g r h => by cases h), by kernel_rfl, by decide, rfl, t82_ok⟩
def x83 (P : Program) : Ctx := { P := P, inl := [85, 75, 76, 100, 101, 127, 128, 129, 164], own := [(0, 5)], ownc := [], ownr := [], diceT := 23, diceNew := ⟨11, (some 86), (some 87)⟩ }
def w83 : Hints := { sites := [], np := [(76, 6, 18), (83, 5, 8), (164, 3, 12)], thaw := [], skel := [(0, 58, ⟨[⟨false, 4, 0, none, false⟩], [0], [1, 4, 3], [], false⟩)] }
def t83 : Tree := (.prim (.agg 3 (tv 0))
(.prim (.lst [(tn 0)])
(.loop 0 [(tn 0), (tv 2)]
(.prim (.bin .sub 3 (tp 1 1) (tn 1))
(.prim (.bin .lss 3 (tv 3) (tv 5))
(.ite (.var 6)
(.prim (.chk 1 (.var 4) (tv 3))
(.prim (.get 1 0 1 (.var 4) (.var 7))
(.call 118 [(.agg [(tp 1 0), (tp 1 1), (tp 1 2)]), (tv 3)]
(.prim (.bin .add 3 (tp 8 0) (tv 9))
(.prim (.push 1 8 (.var 4) (.lit 1 1 [(tv 10)]))
(.prim (.bin .add 3 (tv 3) (tn 1))
(.jump 0 [(tv 12), (tv 11)])))))))
(.prim (.frz 1 .real (.var 4))
(.ret (tv 7)))))))))
theorem t83_ok : compFun (x83 Tryz.prog) w83 83 = .ok t83 := by kernel_rfl
theorem k83 : TreeOk Tryz.prog 23 ⟨11, some 86, some 87⟩ ownT 83 t83 (x83 Tryz.prog) w83 Tryz.f83 := ⟨rfl, rfl, rfl, (fun g r h => by cases h), by kernel_rfl, by decide, rfl, t83_ok⟩
def x84 (P : Program) : Ctx := { P := P, inl := [85, 75, 76, 100, 101, 127, 128, 129, 164], own := [], ownc := [], ownr := [], diceT := 23, diceNew := ⟨11, (some 86), (some 87)⟩ }
def w84 : Hints := { sites := [], np := [(76, 6, 18), (164, 3, 12)], thaw := [], skel := [] }
def t84 : Tree := (.prim (.agg 5 (tv 0))
(.prim (.agg 2 (tv 1))
(.ite (.proj (.var 3) 1)
(.call 116 [(.agg [(tp 2 0), (tp 2 1), (tp 2 2), (tp 2 3), (tp 2 4)])]
(.prim (.agg 5 (tv 4))
(.ret (.agg [(tp 5 0), (tp 5 1), (tp 5 2), (tp 5 3), (tp 5 4)]))))
(.ret (.agg [(tp 2 0), (tp 2 1), (tp 2 2), (tp 2 3), (tp 2 4)])))))
theorem t84_ok : compFun (x84 Tryz.prog) w84 84 = .ok t84 := by kernel_rfl
theorem k84 : TreeOk Tryz.prog 23 ⟨11, some 86, some 87⟩ ownT 84 t84 (x84 Tryz.prog) w84 Tryz.f84 := ⟨rfl, rfl, rfl, (fun g r h => by cases h), by kernel_rfl, by decide, rfl, t84_ok⟩
def x88 (P : Program) : Ctx := { P := P, inl := [85, 75, 76, 100, 101, 127, 128, 129, 164], own := [], ownc := [], ownr := [], diceT := 23, diceNew := ⟨11, (some 86), (some 87)⟩ }
def w88 : Hints := { sites := [], np := [(76, 6, 18), (164, 3, 12)], thaw := [], skel := [(0, 6, ⟨[⟨false, 6, 0, none, false⟩], [], [6], [], false⟩)] }
def t88 : Tree := (.join 0
(.prim (.bin .leq 3 (tv 1) (tv 0))
(.ite (.var 3)
(.prim (.bin .leq 3 (tv 0) (tv 2))
(.jump 0 [(tv 4)]))
(.jump 0 [(.e (.cst (.bool false)))])))
(.ret (tv 3)))
theorem t88_ok : compFun (x88 Tryz.prog) w88 88 = .ok t88 := by kernel_rfl
theorem k88 : TreeOk Tryz.prog 23 ⟨11, some 86, some 87⟩ ownT 88 t88 (x88 Tryz.prog) w88 Tryz.f88 := ⟨rfl, rfl, rfl, (fun g r h => by cases h), by kernel_rfl, by decide, rfl, t88_ok⟩
def x89 (P : Program) : Ctx := { P := P, inl := [85, 75, 76, 100, 101, 127, 128, 129, 164], own := [], ownc := [], ownr := [], diceT := 23, diceNew := ⟨11, (some 86), (some 87)⟩ }
def w89 : Hints := { sites := [], np := [(76, 6, 18), (164, 3, 12)], thaw := [], skel := [] }
def t89 : Tree := (.prim (.bin .lss 3 (tv 0) (tn 1))
(.ite (.var 2)
(.ret (tn 7))
(.prim (.bin .gtr 3 (tv 0) (tv 1))
(.ite (.var 3)
(.ret (tn 6))
(.ret (tn 0))))))
theorem t89_ok : compFun (x89 Tryz.prog) w89 89 = .ok t89 := by kernel_rfl
theorem k89 : TreeOk Tryz.prog 23 ⟨11, some 86, some 87⟩ ownT 89 t89 (x89 Tryz.prog) w89 Tryz.f89 := ⟨rfl, rfl, rfl, (fun g r h => by cases h), by kernel_rfl, by decide, rfl, t89_ok⟩
def x90 (P : Program) : Ctx := { P := P, inl := [85, 75, 76, 100, 101, 127, 128, 129, 164], own := [], ownc := [], ownr := [], diceT := 23, diceNew := ⟨11, (some 86), (some 87)⟩ }
def w90 : Hints := { sites := [], np := [(76, 6, 18), (164, 3, 12)], thaw := [], skel := [(0, 29, ⟨[], [], [1], [], false⟩), (0, 58, ⟨[⟨false, 16, 0, none, false⟩], [], [14, 1, 15, 16], [], false⟩), (0, 60, ⟨[⟨false, 33, 0, none, false⟩], [], [33], [], false⟩)] }
def t90 : Tree := (.prim (.agg 3 (tv 0))
(.prim (.len 22 (tp 1 0))
(.call 89 [(tv 2), (tn 3)]
(.prim (.bin .neq 32 (tv 3) (tn 0))
(.ite (.var 4)
(.ret (tv 3))
(.prim (.len 22 (tp 1 0))
(.join 0
(.loop 1 [(tn 0)]
(.prim (.bin .lss 3 (tv 6) (tv 5))
(.ite (.var 7)
(.prim (.row 1 (tp 1 0) (tv 6))
(.call 88 [(tp 8 0), (tn 2), (tn 20)]
(.prim (.un .not (tv 9))
(.ite (.var 10)
(.ret (tn 1))
(.prim (.bin .add 3 (tv 6) (tn 1))
(.jump 1 [(tv 11)]))))))
(.jump 0 []))))
(.join 1
(.call 88 [(tp 1 1), (tn 2), (tn 12)]
(.prim (.un .not (tv 6))
(.ite (.var 7)
(.jump 1 [(.e (.cst (.bool true)))])
(.call 88 [(tp 1 2), (tn 1), (tn 60)]
(.prim (.un .not (tv 8))
(.jump 1 [(tv 9)]))))))
(.ite (.var 6)
(.ret (tn 1))
(.ret (tn 0)))))))))))
theorem t90_ok : compFun (x90 Tryz.prog) w90 90 = .ok t90 := by kernel_rfl
theorem k90 : TreeOk Tryz.prog 23 ⟨11, some 86, some 87⟩ ownT 90 t90 (x90 Tryz.prog) w90 Tryz.f90 := ⟨rfl, rfl, rfl, (fun g r h => by cases h), by kernel_rfl, by decide, rfl, t90_ok⟩
def x91 (P : Program) : Ctx := { P := P, inl := [85, 75, 76, 100, 101, 127, 128, 129, 164], own := [], ownc := [], ownr := [], diceT := 23, diceNew := ⟨11, (some 86), (some 87)⟩ }
def w91 : Hints := { sites := [], np := [(76, 6, 18), (164, 3, 12)], thaw := [], skel := [] }
def t91 : Tree := (.prim (.one (tv 0))
(.ret (.agg [(.fn 121 [(.ref [(tv 1)])]), (.fn 122 [(.ref [(tv 1)])])])))
theorem t91_ok : compFun (x91 Tryz.prog) w91 91 = .ok t91 := by kernel_rfl
theorem k91 : TreeOk Tryz.prog 23 ⟨11, some 86, some 87⟩ ownT 91 t91 (x91 Tryz.prog) w91 Tryz.f91 := ⟨rfl, rfl, rfl, (fun g r h => by cases h), by kernel_rfl, by decide, rfl, t91_ok⟩
def x92 (P : Program) : Ctx := { P := P, inl := [85, 75, 76, 100, 101, 127, 128, 129, 164], own := [], ownc := [], ownr := [], diceT := 23, diceNew := ⟨11, (some 86), (some 87)⟩ }
def w92 : Hints := { sites := [1005, 700027, 700027002004, 700027002004004012, 700027010005, 700027010005004012], np := [(76, 6, 18), (164, 3, 12)], thaw := [], skel := [(0, 13, ⟨[], [], [8], [], false⟩), (700027, 125, ⟨[⟨false, 7, 0, none, false⟩], [], [7, 3, 6], [], false⟩), (700027, 250, ⟨[⟨false, 7, 0, none, false⟩, ⟨false, 23, 0, none, false⟩], [], [3, 4, 6, 22, 23, 7], [], false⟩), (700027, 32051, ⟨[⟨false, 7, 0, none, false⟩], [], [3, 4, 6, 22, 7, 23], [], false⟩), (700027002004, 13, ⟨[], [], [], [], false⟩), (700027002004, 26, ⟨[⟨false, 13, 0, none, false⟩], [], [2, 5, 1, 6, 3, 4, 12, 13], [], false⟩), (700027002004004012, 13, ⟨[], [], [8], [], false⟩), (700027010005, 13, ⟨[], [], [], [], false⟩), (700027010005, 26, ⟨[⟨false, 13, 0, none, false⟩], [], [2, 5, 1, 6, 3, 4, 12, 13], [], false⟩), (700027010005004012, 13, ⟨[], [], [8], [], false⟩)] }
def t92 : Tree := (.prim (.agg 2 (tv 0))
(.prim (.agg 3 (tv 1))
(.prim (.agg 5 (tv 2))
(.prim (.one (tv 3))
(.join 0
(.join 1
(.loop 2 [(tn 0)]
(.prim (.bin .lss 3 (tv 8) (tp 5 1))
(.ite (.var 9)
(.call 130 [(.agg [(tp 4 0), (tp 4 1)]), (.agg [(tp 5 0), (tp 5 1), (tp 5 2)]), (.agg [(tp 6 0), (tp 6 1), (tp 6 2), (tp 6 3), (tp 6 4)]), (tv 8), (tv 7)]
(.ite (.var 10)
(.prim (.one (tv 8))
(.ret (.e (.cst (.bool true)))))
(.prim (.bin .add 3 (tv 8) (tn 1))
(.jump 2 [(tv 11)]))))
(.jump 1 []))))
(.prim (.un .not (tp 6 4))
(.ite (.var 8)
(.jump 0 [])
(.prim (.len 22 (tp 6 0))
(.join 2
(.loop 3 [(.e (.cst (.int .u8 0))), (tn 0)]
(.prim (.bin .lss 3 (tv 11) (tv 9))
(.ite (.var 12)
(.call 123 [(tv 7), (tv 11)]
(.join 4
(.ite (.var 13)
(.prim (.len 22 (tp 6 0))
(.prim (.bin .sub 3 (tv 14) (tn 1))
(.prim (.bin .sub 3 (tv 15) (tv 11))
(.prim (.bin .shl 130 (.e (.cst (.int .u8 1))) (tv 16))
(.prim (.bin .or 130 (tv 10) (tv 17))
(.jump 4 [(tv 18)]))))))
(.jump 4 [(tv 10)]))
(.prim (.bin .add 3 (tv 11) (tn 1))
(.jump 3 [(tv 14), (tv 15)]))))
(.jump 2 [(tv 10)]))))
(.call 131 [(.agg [(tp 6 0), (tp 6 1), (tp 6 2), (tp 6 3), (tp 6 4)])]
(.prim (.agg 5 (tv 11))
(.join 3
(.loop 4 [(tn 0)]
(.prim (.bin .lss 3 (tv 13) (tp 5 1))
(.ite (.var 14)
(.call 130 [(.agg [(tp 4 0), (tp 4 1)]), (.agg [(tp 5 0), (tp 5 1), (tp 5 2)]), (.agg [(tp 12 0), (tp 12 1), (tp 12 2), (tp 12 3), (tp 12 4)]), (tv 13), (tv 10)]
(.ite (.var 15)
(.prim (.one (tv 13))
(.ret (.e (.cst (.bool true)))))
(.prim (.bin .add 3 (tv 13) (tn 1))
(.jump 4 [(tv 16)]))))
(.jump 3 []))))
(.jump 0 [])))))))))
(.ret (.e (.cst (.bool false)))))))))
theorem t92_ok : compFun (x92 Tryz.prog) w92 92 = .ok t92 := by kernel_rfl
theorem k92 : TreeOk Tryz.prog 23 ⟨11, some 86, some 87⟩ ownT 92 t92 (x92 Tryz.prog) w92 Tryz.f92 := ⟨rfl, rfl, rfl, (fun g r h => by cases h), by kernel_rfl, by decide, rfl, t92_ok⟩
def x93 (P : Program) : Ctx := { P := P, inl := [85, 75, 76, 100, 101, 127, 128, 129, 164], own := [], ownc := [], ownr := [], diceT := 23, diceNew := ⟨11, (some 86), (some 87)⟩ }
def w93 : Hints := { sites := [], np := [(76, 6, 18), (164, 3, 12)], thaw := [], skel := [(0, 29, ⟨[⟨false, 3, 0, (some (1, .nil0)), false⟩], [], [3], [], false⟩), (0, 58, ⟨[⟨false, 3, 0, (some (1, .nil0)), false⟩, ⟨false, 5, 0, none, false⟩], [], [0, 5, 3], [], false⟩), (0, 7475, ⟨[⟨false, 3, 0, (some (1, .nil0)), false⟩], [], [0, 3, 5], [], false⟩)] }
def t93 : Tree := (.join 0
(.loop 1 [(.e (.cst (.agg []))), (tn 0)]
(.prim (.bin .lss 3 (tv 2) (tn 5))
(.ite (.var 3)
(.call 123 [(tv 0), (tv 2)]
(.join 2
(.ite (.var 4)
(.prim (.one (tv 2))
(.prim (.push 1 8 (.var 1) (.lit 1 1 [(tv 5)]))
(.jump 2 [(tv 6)])))
(.jump 2 [(tv 1)]))
(.prim (.bin .add 3 (tv 2) (tn 1))
(.jump 1 [(tv 5), (tv 6)]))))
(.jump 0 [(tv 1)]))))
(.prim (.frz 1 .nil0 (.var 1))
(.ret (tv 2))))
theorem t93_ok : compFun (x93 Tryz.prog) w93 93 = .ok t93 := by kernel_rfl
theorem k93 : TreeOk Tryz.prog 23 ⟨11, some 86, some 87⟩ ownT 93 t93 (x93 Tryz.prog) w93 Tryz.f93 := ⟨rfl, rfl, rfl, (fun g r h => by cases h), by kernel_rfl, by decide, rfl, t93_ok⟩
def x94 (P : Program) : Ctx := { P := P, inl := [85, 75, 76, 100, 101, 127, 128, 129, 164], own := [], ownc := [], ownr := [], diceT := 23, diceNew := ⟨11, (some 86), (some 87)⟩ }
def w94 : Hints := { sites := [], np := [(76, 6, 18), (164, 3, 12)], thaw := [], skel := [(0, 29, ⟨[⟨false, 9, 0, none, false⟩], [], [6, 9, 8], [], false⟩)] }
def t94 : Tree := (.prim (.agg 2 (tv 0))
(.prim (.one (tv 1))
(.call 56 [(.agg [(tp 3 0), (tp 3 1)]), (.lit 1 1 [(tv 4)]), (.e (.cst .snil))]
(.prim (.ext (tv 5) 0)
(.prim (.ext (tv 5) 1)
(.prim (.agg 2 (tv 6))
(.prim (.bin .eql 32 (tv 7) (tn 0))
(.join 0
(.ite (.var 9)
(.call 124 [(tv 2)]
(.jump 0 [(tv 10)]))
(.jump 0 [(tv 7)]))
(.ret (.tup [(.agg [(tp 8 0), (tp 8 1)]), (tv 10)]))))))))))
theorem t94_ok : compFun (x94 Tryz.prog) w94 94 = .ok t94 := by kernel_rfl
theorem k94 : TreeOk Tryz.prog 23 ⟨11, some 86, some 87⟩ ownT 94 t94 (x94 Tryz.prog) w94 Tryz.f94 := ⟨rfl, rfl, rfl, (fun g r h => by cases h), by kernel_rfl, by decide, rfl, t94_ok⟩
def x95 (P : Program) : Ctx := { P := P, inl := [85, 75, 76, 100, 101, 127, 128, 129, 164], own := [], ownc := [], ownr := [], diceT := 23, diceNew := ⟨11, (some 86), (some 87)⟩ }
def w95 : Hints := { sites := [], np := [(76, 6, 18), (164, 3, 12)], thaw := [], skel := [(0, 61, ⟨[⟨false, 10, 0, (some (1, .nil0)), false⟩], [], [10], [], false⟩), (0, 122, ⟨[⟨false, 10, 0, (some (1, .nil0)), false⟩, ⟨false, 25, 0, none, false⟩], [], [9, 6, 7, 23, 24, 25, 10], [3, 5, 7], false⟩), (0, 15667, ⟨[⟨false, 10, 0, (some (1, .nil0)), false⟩], [], [9, 6, 7, 23, 24, 10, 25], [], false⟩)] }
def t95 : Tree := (.prim (.agg 2 (tv 0))
(.prim (.one (tv 2))
(.prim (.one (tv 3))
(.call 91 [(tp 4 0)]
(.prim (.agg 2 (tv 7))
(.prim (.row 3 (tp 4 1) (tv 1))
(.call 77 [(.agg [(tp 9 0), (tp 9 1), (tp 9 2)])]
(.prim (.len 22 (tv 10))
(.join 0
(.loop 1 [(.e (.cst (.agg []))), (tn 0)]
(.prim (.bin .lss 3 (tv 13) (tv 11))
(.ite (.var 14)
(.prim (.row 1 (tv 10) (tv 13))
(.call 70 [(tv 5), (.fn 125 [(.ref [(tp 8 0), (tp 8 1)]), (.ref [(tv 5)]), (.ref [(tv 6)]), (.ref [(tp 15 0)])])]
(.prim (.un .not (tv 16))
(.join 2
(.ite (.var 17)
(.prim (.one (tv 13))
(.prim (.push 1 8 (.var 12) (.lit 1 1 [(tv 18)]))
(.jump 2 [(tv 19)])))
(.jump 2 [(tv 12)]))
(.prim (.bin .add 3 (tv 13) (tn 1))
(.jump 1 [(tv 18), (tv 19)]))))))
(.jump 0 [(tv 12)]))))
(.prim (.frz 1 .nil0 (.var 12))
(.ret (tv 13))))))))))))
theorem t95_ok : compFun (x95 Tryz.prog) w95 95 = .ok t95 := by kernel_rfl
theorem k95 : TreeOk Tryz.prog 23 ⟨11, some 86, some 87⟩ ownT 95 t95 (x95 Tryz.prog) w95 Tryz.f95 := ⟨rfl, rfl, rfl, (fun g r h => by cases h), by kernel_rfl, by decide, rfl, t95_ok⟩
def x96 (P : Program) : Ctx := { P := P, inl := [85, 75, 76, 100, 101, 127, 128, 129, 164], own := [], ownc := [], ownr := [], diceT := 23, diceNew := ⟨11, (some 86), (some 87)⟩ }
def w96 : Hints := { sites := [], np := [(76, 6, 18), (96, 1, 7), (164, 3, 12)], thaw := [], skel := [] }
def t96 : Tree := (.prim (.agg 3 (tv 0))
(.prim (.len 22 (tp 2 0))
(.prim (.bin .rem 3 (tv 1) (tv 3))
(.prim (.row 1 (tp 2 0) (tv 4))
(.ret (tp 5 0))))))
theorem t96_ok : compFun (x96 Tryz.prog) w96 96 = .ok t96 := by kernel_rfl
theorem k96 : TreeOk Tryz.prog 23 ⟨11, some 86, some 87⟩ ownT 96 t96 (x96 Tryz.prog) w96 Tryz.f96 := ⟨rfl, rfl, rfl, (fun g r h => by cases h), by kernel_rfl, by decide, rfl, t96_ok⟩
def x97 (P : Program) : Ctx := { P := P, inl := [85, 75, 76, 100, 101, 127, 128, 129, 164], own := [], ownc := [], ownr := [], diceT := 23, diceNew := ⟨11, (some 86), (some 87)⟩ }
def w97 : Hints := { sites := [], np := [(76, 6, 18), (164, 3, 12)], thaw := [], skel := [] }
def t97 : Tree := (.prim (.un .neg (tv 2))
(.call 52 [(.e (.cst (.ptr 0 0))), (tv 5), (tv 2)]
(.prim (.bin .add 3 (tv 1) (tv 6))
(.prim (.mm true [(tv 3), (tv 7)])
(.prim (.mm false [(tv 4), (tv 8)])
(.ret (tv 9)))))))
theorem t97_ok : compFun (x97 Tryz.prog) w97 97 = .ok t97 := by kernel_rfl
theorem k97 : TreeOk Tryz.prog 23 ⟨11, some 86, some 87⟩ ownT 97 t97 (x97 Tryz.prog) w97 Tryz.f97 := ⟨rfl, rfl, rfl, (fun g r h => by cases h), by kernel_rfl, by decide, rfl, t97_ok⟩
def x98 (P : Program) : Ctx := { P := P, inl := [85, 75, 76, 100, 101, 127, 128, 129, 164], own := [], ownc := [], ownr := [], diceT := 23, diceNew := ⟨11, (some 86), (some 87)⟩ }
def w98 : Hints := { sites := [], np := [(76, 6, 18), (98, 1, 7), (164, 3, 12)], thaw := [], skel := [] }
def t98 : Tree := (.prim (.agg 3 (tv 0))
(.prim (.len 22 (tp 2 0))
(.call 126 [(tv 1), (tv 3)]
(.prim (.row 1 (tp 2 0) (tv 4))
(.ret (tp 5 0))))))
theorem t98_ok : compFun (x98 Tryz.prog) w98 98 = .ok t98 := by kernel_rfl
theorem k98 : TreeOk Tryz.prog 23 ⟨11, some 86, some 87⟩ ownT 98 t98 (x98 Tryz.prog) w98 Tryz.f98 := ⟨rfl, rfl, rfl, (fun g r h => by cases h), by kernel_rfl, by decide, rfl, t98_ok⟩
def x99 (P : Program) : Ctx := { P := P, inl := [85, 75, 76, 100, 101, 127, 128, 129, 164], own := [], ownc := [], ownr := [], diceT := 23, diceNew := ⟨11, (some 86), (some 87)⟩ }
def w99 : Hints := { sites := [], np := [(76, 6, 18), (164, 3, 12)], thaw := [], skel := [(0, 29, ⟨[], [], [1], [], false⟩), (0, 58, ⟨[⟨false, 12, 0, none, false⟩], [], [10, 1, 11, 12], [], false⟩), (0, 60, ⟨[⟨false, 35, 0, none, false⟩], [], [35], [], false⟩)] }
def t99 : Tree := (.prim (.agg 5 (tv 0))
(.prim (.len 22 (tp 1 0))
(.prim (.bin .gtr 3 (tv 2) (tn 5))
(.ite (.var 3)
(.ret (tn 6))
(.prim (.len 22 (tp 1 0))
(.join 0
(.loop 1 [(tn 0)]
(.prim (.bin .lss 3 (tv 5) (tv 4))
(.ite (.var 6)
(.prim (.row 1 (tp 1 0) (tv 5))
(.call 88 [(tp 7 0), (tn 1), (tn 30)]
(.prim (.un .not (tv 8))
(.ite (.var 9)
(.ret (tn 1))
(.prim (.bin .add 3 (tv 5) (tn 1))
(.jump 1 [(tv 10)]))))))
(.jump 0 []))))
(.join 1
(.call 88 [(tp 1 1), (tn 0), (tn 30)]
(.prim (.un .not (tv 5))
(.ite (.var 6)
(.jump 1 [(.e (.cst (.bool true)))])
(.call 88 [(tp 1 2), (tn 0), (tn 30)]
(.prim (.un .not (tv 7))
(.ite (.var 8)
(.jump 1 [(.e (.cst (.bool true)))])
(.call 88 [(tp 1 3), (tn 0), (tn 60)]
(.prim (.un .not (tv 9))
(.jump 1 [(tv 10)])))))))))
(.ite (.var 5)
(.ret (tn 1))
(.ret (tn 0))))))))))
theorem t99_ok : compFun (x99 Tryz.prog) w99 99 = .ok t99 := by kernel_rfl
theorem k99 : TreeOk Tryz.prog 23 ⟨11, some 86, some 87⟩ ownT 99 t99 (x99 Tryz.prog) w99 Tryz.f99 := ⟨rfl, rfl, rfl, (fun g r h => by cases h), by kernel_rfl, by decide, rfl, t99_ok⟩
def x106 (P : Program) : Ctx := { P := P, inl := [85, 75, 76, 100, 101, 127, 128, 129, 164], own := [], ownc := [], ownr := [], diceT := 23, diceNew := ⟨11, (some 86), (some 87)⟩ }
def w106 : Hints := { sites := [], np := [(76, 6, 18), (164, 3, 12)], thaw := [], skel := [(0, 6, ⟨[⟨false, 6, 0, none, false⟩], [], [6], [], false⟩)] }
def t106 : Tree := (.join 0
(.prim (.bin .geq 3 (tv 0) (tv 1))
(.ite (.var 3)
(.prim (.bin .leq 3 (tv 0) (tv 2))
(.jump 0 [(tv 4)]))
(.jump 0 [(.e (.cst (.bool false)))])))
(.ret (tv 3)))
theorem t106_ok : compFun (x106 Tryz.prog) w106 106 = .ok t106 := by kernel_rfl
theorem k106 : TreeOk Tryz.prog 23 ⟨11, some 86, some 87⟩ ownT 106 t106 (x106 Tryz.prog) w106 Tryz.f106 := ⟨rfl, rfl, rfl, (fun g r h => by cases h), by kernel_rfl, by decide, rfl, t106_ok⟩
def x107 (P : Program) : Ctx := { P := P, inl := [85, 75, 76, 100, 101, 127, 128, 129, 164], own := [], ownc := [], ownr := [], diceT := 23, diceNew := ⟨11, (some 86), (some 87)⟩ }
def w107 : Hints := { sites := [], np := [(76, 6, 18), (164, 3, 12)], thaw := [], skel := [(0, 29, ⟨[], [], [1], [], false⟩), (0, 58, ⟨[⟨false, 3, 0, none, false⟩], [], [1, 3], [], false⟩), (0, 60, ⟨[⟨false, 37, 0, none, false⟩], [], [37], [], false⟩)] }
def t107 : Tree := (.prim (.agg 5 (tv 0))
(.prim (.len 22 (tp 1 0))
(.prim (.bin .gtr 3 (tv 2) (tn 5))
(.ite (.var 3)
(.ret (tn 6))
(.join 0
(.loop 1 [(tn 0)]
(.prim (.len 22 (tp 1 0))
(.prim (.bin .lss 3 (tv 4) (tv 5))
(.ite (.var 6)
(.prim (.row 1 (tp 1 0) (tv 4))
(.call 106 [(tp 7 0), (tn 1), (tn 30)]
(.prim (.un .not (tv 8))
(.ite (.var 9)
(.ret (tn 1))
(.prim (.bin .add 3 (tv 4) (tn 1))
(.jump 1 [(tv 10)]))))))
(.jump 0 [])))))
(.join 1
(.call 106 [(tp 1 1), (tn 0), (tn 30)]
(.prim (.un .not (tv 4))
(.ite (.var 5)
(.jump 1 [(.e (.cst (.bool true)))])
(.call 106 [(tp 1 2), (tn 0), (tn 30)]
(.prim (.un .not (tv 6))
(.ite (.var 7)
(.jump 1 [(.e (.cst (.bool true)))])
(.call 106 [(tp 1 3), (tn 0), (tn 60)]
(.prim (.un .not (tv 8))
(.jump 1 [(tv 9)])))))))))
(.ite (.var 4)
(.ret (tn 1))
(.ret (tn 0)))))))))
theorem t107_ok : compFun (x107 Tryz.prog) w107 107 = .ok t107 := by kernel_rfl
theorem k107 : TreeOk Tryz.prog 23 ⟨11, some 86, some 87⟩ ownT 107 t107 (x107 Tryz.prog) w107 Tryz.f107 := ⟨rfl, rfl, rfl, (fun g r h => by cases h), by kernel_rfl, by decide, rfl, t107_ok⟩
def x109 (P : Program) : Ctx := { P := P, inl := [85, 75, 76, 100, 101, 127, 128, 129, 164], own := [], ownc := [], ownr := [], diceT := 23, diceNew := ⟨11, (some 86), (some 87)⟩ }
def w109 : Hints := { sites := [], np := [(76, 6, 18), (164, 3, 12)], thaw := [], skel := [(0, 13, ⟨[], [], [], [], false⟩), (0, 26, ⟨[⟨false, 8, 0, none, false⟩], [], [0, 1, 7, 8], [], false⟩)] }
def t109 : Tree := (.prim (.len 22 (tv 0))
(.join 0
(.loop 1 [(tn 0)]
(.prim (.bin .lss 3 (tv 3) (tv 2))
(.ite (.var 4)
(.prim (.row 1 (tv 0) (tv 3))
(.callv (.var 1) [(tp 5 0)]
(.ite (.var 6)
(.ret (tv 3))
(.prim (.bin .add 3 (tv 3) (tn 1))
(.jump 1 [(tv 7)])))))
(.jump 0 []))))
(.ret (tn (-1)))))
theorem t109_ok : compFun (x109 Tryz.prog) w109 109 = .ok t109 := by kernel_rfl
theorem k109 : TreeOk Tryz.prog 23 ⟨11, some 86, some 87⟩ ownT 109 t109 (x109 Tryz.prog) w109 Tryz.f109 := ⟨rfl, rfl, rfl, (fun g r h => by cases h), by kernel_rfl, by decide, rfl, t109_ok⟩
def x110 (P : Program) : Ctx := { P := P, inl := [85, 75, 76, 100, 101, 127, 128, 129, 164], own := [], ownc := [], ownr := [], diceT := 23, diceNew := ⟨11, (some 86), (some 87)⟩ }
def w110 : Hints := { sites := [], np := [(76, 6, 18), (164, 3, 12)], thaw := [], skel := [(0, 13, ⟨[], [], [0, 1], [], false⟩), (0, 61, ⟨[⟨false, 5, 0, none, false⟩], [], [5], [], false⟩), (0, 122, ⟨[⟨false, 5, 0, none, false⟩, ⟨false, 6, 0, none, false⟩], [], [0, 1, 6, 5], [], false⟩), (0, 3913, ⟨[⟨false, 5, 0, none, false⟩], [], [0, 1, 5, 6], [], false⟩)] }
def t110 : Tree := (.prim (.len 64 (tv 0))
(.prim (.bin .lss 3 (tv 2) (tn 1))
(.join 0
(.ite (.var 3)
.die
(.jump 0 []))
(.prim (.row 1 (tv 0) (tn 0))
(.join 1
(.loop 2 [(tp 4 0), (tn 1)]
(.prim (.len 64 (tv 0))
(.prim (.bin .lss 3 (tv 6) (tv 7))
(.ite (.var 8)
(.prim (.row 1 (tv 0) (tv 6))
(.callv (.var 1) [(tp 9 0), (tv 5)]
(.prim (.bin .lss 3 (tv 10) (tn 0))
(.join 3
(.ite (.var 11)
(.prim (.row 1 (tv 0) (tv 6))
(.jump 3 [(tp 12 0)]))
(.jump 3 [(tv 5)]))
(.prim (.bin .add 3 (tv 6) (tn 1))
(.jump 2 [(tv 12), (tv 13)]))))))
(.jump 1 [(tv 5)])))))
(.ret (tv 5)))))))
theorem t110_ok : compFun (x110 Tryz.prog) w110 110 = .ok t110 := by kernel_rfl
theorem k110 : TreeOk Tryz.prog 23 ⟨11, some 86, some 87⟩ ownT 110 t110 (x110 Tryz.prog) w110 Tryz.f110 := ⟨rfl, rfl, rfl, (fun g r h => by cases h), by kernel_rfl, by decide, rfl, t110_ok⟩
def x111 (P : Program) : Ctx := { P := P, inl := [85, 75, 76, 100, 101, 127, 128, 129, 164], own := [], ownc := [], ownr := [], diceT := 23, diceNew := ⟨11, (some 86), (some 87)⟩ }
def w111 : Hints := { sites := [], np := [(76, 6, 18), (164, 3, 12)], thaw := [], skel := [] }
def t111 : Tree := (.prim (.len 22 (tv 0))
(.prim (.len 22 (tv 1))
(.call 112 [(tv 2), (tv 3)]
(.prim (.bin .neq 3 (tv 4) (tn 0))
(.ite (.var 5)
(.ret (tv 4))
(.call 113 [(tv 0), (tv 1)]
(.ret (tv 6))))))))
theorem t111_ok : compFun (x111 Tryz.prog) w111 111 = .ok t111 := by kernel_rfl
theorem k111 : TreeOk Tryz.prog 23 ⟨11, some 86, some 87⟩ ownT 111 t111 (x111 Tryz.prog) w111 Tryz.f111 := ⟨rfl, rfl, rfl, (fun g r h => by cases h), by kernel_rfl, by decide, rfl, t111_ok⟩
def x112 (P : Program) : Ctx := { P := P, inl := [85, 75, 76, 100, 101, 127, 128, 129, 164], own := [], ownc := [], ownr := [], diceT := 23, diceNew := ⟨11, (some 86), (some 87)⟩ }
def w112 : Hints := { sites := [], np := [(76, 6, 18), (164, 3, 12)], thaw := [], skel := [] }
def t112 : Tree := (.call 150 [(tv 0)]
(.call 150 [(tv 1)]
(.ite (.var 2)
(.ite (.var 3)
(.ret (tn 0))
(.ret (tn (-1))))
(.ite (.var 3)
(.ret (tn 1))
(.prim (.bin .lss 3 (tv 0) (tv 1))
(.ite (.var 4)
(.ret (tn (-1)))
(.prim (.bin .gtr 3 (tv 0) (tv 1))
(.ite (.var 5)
(.ret (tn 1))
(.ret (tn 0))))))))))
theorem t112_ok : compFun (x112 Tryz.prog) w112 112 = .ok t112 := by kernel_rfl
theorem k112 : TreeOk Tryz.prog 23 ⟨11, some 86, some 87⟩ ownT 112 t112 (x112 Tryz.prog) w112 Tryz.f112 := ⟨rfl, rfl, rfl, (fun g r h => by cases h), by kernel_rfl, by decide, rfl, t112_ok⟩
def x113 (P : Program) : Ctx := { P := P, inl := [85, 75, 76, 100, 101, 127, 128, 129, 164], own := [], ownc := [], ownr := [], diceT := 23, diceNew := ⟨11, (some 86), (some 87)⟩ }
def w113 : Hints := { sites := [], np := [(76, 6, 18), (164, 3, 12)], thaw := [], skel := [(0, 13, ⟨[], [], [1, 0], [], false⟩), (0, 26, ⟨[⟨false, 11, 0, none, false⟩], [], [1, 9, 0, 10, 11], [], false⟩)] }
def t113 : Tree := (.prim (.len 22 (tv 0))
(.join 0
(.loop 1 [(tn 0)]
(.prim (.bin .lss 3 (tv 3) (tv 2))
(.ite (.var 4)
(.prim (.row 1 (tv 0) (tv 3))
(.prim (.len 22 (tv 1))
(.prim (.bin .geq 3 (tv 3) (tv 6))
(.ite (.var 7)
(.ret (tn 1))
(.prim (.row 1 (tv 1) (tv 3))
(.call 112 [(tp 5 0), (tp 8 0)]
(.prim (.bin .neq 3 (tv 9) (tn 0))
(.ite (.var 10)
(.ret (tv 9))
(.prim (.bin .add 3 (tv 3) (tn 1))
(.jump 1 [(tv 11)]))))))))))
(.jump 0 []))))
(.prim (.len 22 (tv 0))
(.prim (.len 22 (tv 1))
(.prim (.bin .lss 3 (tv 3) (tv 4))
(.ite (.var 5)
(.ret (tn (-1)))
(.ret (tn 0))))))))
theorem t113_ok : compFun (x113 Tryz.prog) w113 113 = .ok t113 := by kernel_rfl
theorem k113 : TreeOk Tryz.prog 23 ⟨11, some 86, some 87⟩ ownT 113 t113 (x113 Tryz.prog) w113 Tryz.f113 := ⟨rfl, rfl, rfl, (fun g r h => by cases h), by kernel_rfl, by decide, rfl, t113_ok⟩
def x114 (P : Program) : Ctx := { P := P, inl := [85, 75, 76, 100, 101, 127, 128, 129, 164], own := [], ownc := [], ownr := [], diceT := 23, diceNew := ⟨11, (some 86), (some 87)⟩ }
def w114 : Hints := { sites := [], np := [(76, 6, 18), (164, 3, 12)], thaw := [], skel := [(0, 61, ⟨[], [], [1], [], false⟩), (0, 122, ⟨[⟨false, 3, 0, none, false⟩], [], [1, 3], [], false⟩), (0, 124, ⟨[⟨false, 35, 0, none, false⟩], [], [35], [], false⟩)] }
def t114 : Tree := (.prim (.agg 3 (tv 0))
(.prim (.len 22 (tp 1 0))
(.prim (.bin .eql 3 (tv 2) (tn 0))
(.ite (.var 3)
(.ret (tn 7))
(.prim (.len 22 (tp 1 0))
(.prim (.bin .gtr 3 (tv 4) (tn 3))
(.ite (.var 5)
(.ret (tn 6))
(.join 0
(.loop 1 [(tn 0)]
(.prim (.len 22 (tp 1 0))
(.prim (.bin .lss 3 (tv 6) (tv 7))
(.ite (.var 8)
(.prim (.row 1 (tp 1 0) (tv 6))
(.call 106 [(tp 9 0), (tn 2), (tn 20)]
(.prim (.un .not (tv 10))
(.ite (.var 11)
(.ret (tn 1))
(.prim (.bin .add 3 (tv 6) (tn 1))
(.jump 1 [(tv 12)]))))))
(.jump 0 [])))))
(.join 1
(.call 106 [(tp 1 1), (tn 2), (tn 12)]
(.prim (.un .not (tv 6))
(.ite (.var 7)
(.jump 1 [(.e (.cst (.bool true)))])
(.call 106 [(tp 1 2), (tn 1), (tn 60)]
(.prim (.un .not (tv 8))
(.jump 1 [(tv 9)]))))))
(.ite (.var 6)
(.ret (tn 1))
(.ret (tn 0))))))))))))
theorem t114_ok : compFun (x114 Tryz.prog) w114 114 = .ok t114 := by kernel_rfl
theorem k114 : TreeOk Tryz.prog 23 ⟨11, some 86, some 87⟩ ownT 114 t114 (x114 Tryz.prog) w114 Tryz.f114 := ⟨rfl, rfl, rfl, (fun g r h => by cases h), by kernel_rfl, by decide, rfl, t114_ok⟩
def x115 (P : Program) : Ctx := { P := P, inl := [85, 75, 76, 100, 101, 127, 128, 129, 164], own := [], ownc := [], ownr := [], diceT := 23, diceNew := ⟨11, (some 86), (some 87)⟩ }
def w115 : Hints := { sites := [], np := [(76, 6, 18), (115, 7, 17), (115, 9, 11), (115, 11, 13), (164, 3, 12)], thaw := [], skel := [(0, 28, ⟨[⟨false, 26, 0, none, false⟩], [], [26, 1, 3, 5, 7, 4, 11], [], false⟩), (0, 61, ⟨[], [], [1, 5, 7, 11, 3], [], false⟩), (0, 122, ⟨[⟨false, 12, 0, none, false⟩], [], [1, 3, 5, 7, 4, 11, 12], [], false⟩), (0, 3912, ⟨[⟨false, 53, 0, none, false⟩], [], [53, 1, 3, 5, 7, 4, 11, 12], [], false⟩), (0, 124, ⟨[⟨false, 66, 0, none, false⟩], [], [66, 1, 5, 7, 11], [], false⟩), (0, 252, ⟨[⟨false, 81, 0, none, false⟩], [], [81, 1, 5, 7], [], false⟩), (0, 254, ⟨[⟨false, 10, 0, none, false⟩], [], [10], [], false⟩)] }
def t115 : Tree := (.prim (.agg 3 (tv 0))
(.prim (.agg 5 (tv 2))
(.prim (.len 22 (tp 6 0))
(.prim (.bin .add 3 (tv 3) (tv 7))
(.join 0
(.prim (.bin .lss 3 (tv 3) (tn 0))
(.ite (.var 9)
(.jump 0 [(.e (.cst (.bool true)))])
(.prim (.bin .sub 3 (tp 5 1) (tn 1))
(.prim (.bin .gtr 3 (tv 8) (tv 10))
(.jump 0 [(tv 11)])))))
(.ite (.var 9)
(.ret (.e (.cst (.bool false))))
(.join 1
(.loop 2 [(tn 0)]
(.prim (.len 22 (tp 6 0))
(.prim (.bin .lss 3 (tv 10) (tv 11))
(.ite (.var 12)
(.join 3
(.prim (.row 1 (tv 4) (tv 10))
(.prim (.un .not (tp 13 0))
(.ite (.var 14)
(.prim (.row 1 (tp 6 0) (tv 10))
(.prim (.bin .add 3 (tv 3) (tv 10))
(.call 118 [(.agg [(tp 5 0), (tp 5 1), (tp 5 2)]), (tv 16)]
(.call 151 [(tp 15 0), (tv 17), (tv 1)]
(.prim (.un .not (tv 18))
(.jump 3 [(tv 19)]))))))
(.jump 3 [(.e (.cst (.bool false)))]))))
(.ite (.var 13)
(.ret (.e (.cst (.bool false))))
(.prim (.bin .add 3 (tv 10) (tn 1))
(.jump 2 [(tv 14)]))))
(.jump 1 [])))))
(.join 2
(.prim (.bin .gtr 3 (tv 3) (tn 0))
(.ite (.var 10)
(.prim (.bin .sub 3 (tv 3) (tn 1))
(.call 118 [(.agg [(tp 5 0), (tp 5 1), (tp 5 2)]), (tv 11)]
(.prim (.bin .sub 3 (tp 6 1) (tv 1))
(.prim (.bin .leq 3 (tv 12) (tv 13))
(.jump 2 [(tv 14)])))))
(.jump 2 [(.e (.cst (.bool false)))])))
(.ite (.var 10)
(.ret (.e (.cst (.bool false))))
(.join 3
(.prim (.bin .sub 3 (tp 5 1) (tn 1))
(.prim (.bin .lss 3 (tv 8) (tv 11))
(.ite (.var 12)
(.call 118 [(.agg [(tp 5 0), (tp 5 1), (tp 5 2)]), (tv 8)]
(.prim (.bin .sub 3 (tp 6 2) (tv 1))
(.prim (.bin .leq 3 (tv 13) (tv 14))
(.jump 3 [(tv 15)]))))
(.jump 3 [(.e (.cst (.bool false)))]))))
(.ite (.var 11)
(.ret (.e (.cst (.bool false))))
(.join 4
(.prim (.bin .eql 3 (tp 6 3) (tn 0))
(.ite (.var 12)
(.jump 4 [(.e (.cst (.bool true)))])
(.call 151 [(tp 6 3), (tp 5 2), (tv 1)]
(.jump 4 [(tv 13)]))))
(.ret (tv 12))))))))))))))
theorem t115_ok : compFun (x115 Tryz.prog) w115 115 = .ok t115 := by kernel_rfl
theorem k115 : TreeOk Tryz.prog 23 ⟨11, some 86, some 87⟩ ownT 115 t115 (x115 Tryz.prog) w115 Tryz.f115 := ⟨rfl, rfl, rfl, (fun g r h => by cases h), by kernel_rfl, by decide, rfl, t115_ok⟩
def x116 (P : Program) : Ctx := { P := P, inl := [85, 75, 76, 100, 101, 127, 128, 129, 164], own := [], ownc := [], ownr := [], diceT := 23, diceNew := ⟨11, (some 86), (some 87)⟩ }
def w116 : Hints := { sites := [], np := [(76, 6, 18), (116, 5, 8), (164, 3, 12)], thaw := [], skel := [(0, 29, ⟨[⟨true, 2, 0, (some (1, .nil0)), false⟩], [], [2, 3], [], false⟩), (0, 58, ⟨[⟨false, 4, 0, none, false⟩, ⟨true, 2, 0, (some (1, .nil0)), false⟩], [], [3, 1, 2, 4], [], false⟩)] }
def t116 : Tree := (.prim (.agg 5 (tv 0))
(.prim (.len 22 (tp 1 0))
(.prim (.bin .sub 3 (tv 2) (tn 1))
(.join 0
(.loop 1 [(tv 3), (.e (.cst (.agg [])))]
(.prim (.bin .geq 3 (tv 4) (tn 0))
(.ite (.var 6)
(.prim (.row 1 (tp 1 0) (tv 4))
(.prim (.push 1 8 (.var 5) (.lit 1 1 [(tp 7 0)]))
(.prim (.bin .sub 3 (tv 4) (tn 1))
(.jump 1 [(tv 9), (tv 8)]))))
(.jump 0 [(tv 5)]))))
(.prim (.frz 1 .nil0 (.var 4))
(.ret (.agg [(tv 5), (tp 1 2), (tp 1 1), (tp 1 3), (tp 1 4)])))))))
theorem t116_ok : compFun (x116 Tryz.prog) w116 116 = .ok t116 := by kernel_rfl
theorem k116 : TreeOk Tryz.prog 23 ⟨11, some 86, some 87⟩ ownT 116 t116 (x116 Tryz.prog) w116 Tryz.f116 := ⟨rfl, rfl, rfl, (fun g r h => by cases h), by kernel_rfl, by decide, rfl, t116_ok⟩
end Go.Proofs.YtlminnpaeaganaaGreat
