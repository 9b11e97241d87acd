/- Residual trees of functions. No condition. -/
import Derived.Test.YtlminnpaeaganaaMTrA
namespace Go.Proofs.Ytlminnpaeaganaa
open Go Go.RowKit
set_option maxRecDepth 100000
def x49 (P : Program) : Ctx := { P := P, inl := [86, 87, 99, 100, 115, 116, 117, 123, 56], own := [], ownc := [], ownr := [], diceT := 31, diceNew := ⟨18, none, none⟩ }
def w49 : Hints := { sites := [15006], np := [(87, 6, 18), (123, 3, 12)], thaw := [], skel := [(0, 29, ⟨[⟨false, 5, 0, none, false⟩], [], [5], [], false⟩), (0, 58, ⟨[⟨false, 5, 0, none, true⟩, ⟨false, 6, 0, none, false⟩], [], [5, 0, 6, 1], [], false⟩), (0, 7461, ⟨[⟨false, 7, 0, (some (1, .nil0)), false⟩], [], [0, 1, 6, 7], [], false⟩), (0, 14922, ⟨[⟨false, 7, 0, (some (1, .nil0)), false⟩, ⟨false, 8, 0, none, false⟩], [], [8, 5, 0, 6, 1, 7], [], false⟩), (0, 1910053, ⟨[⟨false, 9, 0, none, false⟩], [], [8, 5, 0, 6, 1, 7, 9], [], false⟩), (0, 1910055, ⟨[⟨false, 7, 0, (some (1, .nil0)), false⟩], [], [5, 0, 6, 1, 7, 8], [], false⟩), (0, 3820110, ⟨[⟨false, 7, 0, (some (1, .nil0)), false⟩, ⟨false, 10, 0, none, false⟩], [], [8, 5, 0, 6, 1, 10, 7], [], false⟩), (15006, 58, ⟨[⟨false, 4, 0, none, false⟩], [2], [0, 3, 4], [], false⟩)] }
def t49 : Tree := (.join 0
(.loop 1 [(.lit 1 1 [(.e (.cst .snil))]), (tn 0)]
(.prim (.bin .lss 3 (tv 3) (tv 1))
(.ite (.var 4)
(.join 2
(.loop 3 [(.e (.cst (.agg []))), (tn 0)]
(.prim (.len 73 (tv 2))
(.prim (.bin .lss 3 (tv 6) (tv 7))
(.ite (.var 8)
(.prim (.bin .gtr 3 (tv 3) (tn 0))
(.join 4
(.ite (.var 9)
(.prim (.row 1 (tv 2) (tv 6))
(.prim (.bin .sub 3 (tv 3) (tn 1))
(.prim (.row 1 (tp 10 0) (tv 11))
(.prim (.bin .add 3 (tp 12 0) (tn 1))
(.jump 4 [(tv 13)])))))
(.jump 4 [(tn 0)]))
(.join 5
(.loop 6 [(tv 5), (tv 10)]
(.prim (.bin .lss 3 (tv 12) (tv 0))
(.ite (.var 13)
(.prim (.row 1 (tv 2) (tv 6))
(.prim (.len 25 (tp 14 0))
(.prim (.mk [(.int .i64 0)] 8 (tv 15))
(.loop 7 [(tn 0), (tv 16)]
(.prim (.len 25 (tp 14 0))
(.prim (.bin .lss 3 (tv 17) (tv 19))
(.ite (.var 20)
(.prim (.row 1 (tp 14 0) (tv 17))
(.prim (.chk 1 (.var 18) (tv 17))
(.prim (.put 1 0 (.var 18) (.var 22) [(tp 21 0)])
(.prim (.bin .add 3 (tv 17) (tn 1))
(.jump 7 [(tv 24), (tv 23)])))))
(.prim (.one (tv 12))
(.prim (.push 1 8 (.var 18) (.lit 1 1 [(tv 21)]))
(.prim (.frz 1 .real (.var 22))
(.prim (.push 1 24 (.var 11) (.lit 1 1 [(tv 23)]))
(.prim (.bin .add 3 (tv 12) (tn 1))
(.jump 6 [(tv 24), (tv 25)])))))))))))))
(.jump 5 [(tv 11)]))))
(.prim (.bin .add 3 (tv 6) (tn 1))
(.jump 3 [(tv 11), (tv 12)])))))
(.jump 2 [(tv 5)])))))
(.prim (.bin .add 3 (tv 3) (tn 1))
(.prim (.frz 1 .nil0 (.var 5))
(.jump 1 [(tv 7), (tv 6)]))))
(.jump 0 [(tv 2)]))))
(.ret (tv 2)))
theorem t49_ok : compFun (x49 Try.prog) w49 49 = .ok t49 := by kernel_rfl
theorem k49 : TreeOk Try.prog 31 ⟨18, none, none⟩ ownT 49 t49 (x49 Try.prog) w49 Try.f49 := ⟨rfl, rfl, rfl, (fun g r h => by cases h), by kernel_rfl, by decide, rfl, t49_ok⟩
def x50 (P : Program) : Ctx := { P := P, inl := [86, 87, 99, 100, 115, 116, 117, 123], own := [], ownc := [], ownr := [], diceT := 31, diceNew := ⟨18, none, none⟩ }
def w50 : Hints := { sites := [], np := [(50, 7, 19), (50, 10, 42), (87, 6, 18), (123, 3, 12)], thaw := [], skel := [(0, 61, ⟨[], [], [2, 9, 1, 13, 0, 4], [], false⟩), (0, 122, ⟨[⟨false, 14, 0, none, false⟩], [], [2, 5, 4, 0, 9, 1, 13, 14], [], false⟩), (0, 7826, ⟨[⟨false, 68, 0, none, false⟩], [], [68, 2, 5, 4, 0, 9, 1, 13, 14], [], false⟩), (0, 62, ⟨[⟨false, 16, 0, none, false⟩, ⟨false, 17, 0, none, false⟩], [], [2, 9, 1, 17, 16], [], false⟩), (0, 126, ⟨[⟨false, 12, 0, none, false⟩], [], [12], [], false⟩)] }
def t50 : Tree := (.prim (.agg 5 (tv 3))
(.prim (.len 25 (tp 6 0))
(.prim (.bin .add 3 (tv 4) (tv 7))
(.prim (.len 25 (tv 0))
(.prim (.bin .geq 3 (tv 8) (tv 9))
(.ite (.var 10)
(.ret (.e (.cst (.bool false))))
(.join 0
(.loop 1 [(tn 0)]
(.prim (.len 25 (tp 6 0))
(.prim (.bin .lss 3 (tv 11) (tv 12))
(.ite (.var 13)
(.prim (.row 1 (tp 6 0) (tv 11))
(.prim (.bin .add 3 (tv 4) (tv 11))
(.prim (.bin .add 3 (tv 15) (tn 1))
(.prim (.row 1 (tv 0) (tv 16))
(.prim (.bin .add 3 (tv 4) (tv 11))
(.prim (.row 1 (tv 0) (tv 18))
(.prim (.bin .sub 3 (tp 17 0) (tp 19 0))
(.prim (.bin .sub 3 (tp 14 0) (tv 20))
(.join 2
(.call 61 [(tv 5), (tv 11)]
(.prim (.bin .lss 3 (tv 22) (tn 0))
(.ite (.var 23)
(.prim (.bin .gtr 3 (tv 21) (tv 2))
(.ite (.var 24)
(.jump 2 [(.e (.cst (.bool true)))])
(.prim (.un .neg (tv 2))
(.prim (.bin .lss 3 (tv 21) (tv 25))
(.jump 2 [(tv 26)])))))
(.jump 2 [(.e (.cst (.bool false)))]))))
(.ite (.var 22)
(.ret (.e (.cst (.bool false))))
(.prim (.bin .add 3 (tv 11) (tn 1))
(.jump 1 [(tv 23)]))))))))))))
(.jump 0 [])))))
(.join 1
(.prim (.bin .eql 3 (tv 4) (tn 0))
(.ite (.var 11)
(.prim (.len 25 (tv 0))
(.prim (.bin .sub 3 (tv 12) (tn 1))
(.prim (.bin .eql 3 (tv 8) (tv 13))
(.ite (.var 14)
(.jump 1 [(.e (.cst (.bool true))), (.e (.cst (.bool true)))])
(.prim (.bin .add 3 (tv 8) (tn 1))
(.prim (.row 1 (tv 0) (tv 15))
(.prim (.row 1 (tv 0) (tv 8))
(.prim (.bin .sub 3 (tp 16 0) (tp 17 0))
(.prim (.bin .add 3 (tv 18) (tv 2))
(.prim (.bin .gtr 3 (tv 19) (tp 6 2))
(.jump 1 [(.e (.cst (.bool true))), (tv 20)])))))))))))
(.prim (.row 1 (tv 0) (tv 4))
(.prim (.bin .sub 3 (tv 4) (tn 1))
(.prim (.row 1 (tv 0) (tv 13))
(.prim (.bin .sub 3 (tp 12 0) (tp 14 0))
(.prim (.bin .add 3 (tv 15) (tv 2))
(.prim (.bin .gtr 3 (tv 16) (tp 6 1))
(.prim (.len 25 (tv 0))
(.prim (.bin .sub 3 (tv 18) (tn 1))
(.prim (.bin .eql 3 (tv 8) (tv 19))
(.ite (.var 20)
(.jump 1 [(tv 17), (.e (.cst (.bool true)))])
(.prim (.bin .add 3 (tv 8) (tn 1))
(.prim (.row 1 (tv 0) (tv 21))
(.prim (.row 1 (tv 0) (tv 8))
(.prim (.bin .sub 3 (tp 22 0) (tp 23 0))
(.prim (.bin .add 3 (tv 24) (tv 2))
(.prim (.bin .gtr 3 (tv 25) (tp 6 2))
(.jump 1 [(tv 17), (tv 26)])))))))))))))))))))
(.join 2
(.ite (.var 11)
(.ite (.var 12)
(.prim (.bin .eql 3 (tp 6 3) (tn 0))
(.ite (.var 13)
(.jump 2 [(.e (.cst (.bool true)))])
(.prim (.bin .sub 3 (tp 6 3) (tv 1))
(.prim (.bin .leq 3 (tv 14) (tv 2))
(.ite (.var 15)
(.prim (.bin .sub 3 (tv 1) (tp 6 3))
(.prim (.bin .leq 3 (tv 16) (tv 2))
(.jump 2 [(tv 17)])))
(.jump 2 [(.e (.cst (.bool false)))]))))))
(.jump 2 [(.e (.cst (.bool false)))]))
(.jump 2 [(.e (.cst (.bool false)))]))
(.ret (tv 13)))))))))))
theorem t50_ok : compFun (x50 Try.prog) w50 50 = .ok t50 := by kernel_rfl
theorem k50 : TreeOk Try.prog 31 ⟨18, none, none⟩ ownT 50 t50 (x50 Try.prog) w50 Try.f50 := ⟨rfl, rfl, rfl, (fun g r h => by cases h), by kernel_rfl, by decide, rfl, t50_ok⟩
def x51 (P : Program) : Ctx := { P := P, inl := [86, 87, 99, 100, 115, 116, 117, 123], own := [], ownc := [], ownr := [], diceT := 31, diceNew := ⟨18, none, none⟩ }
def w51 : Hints := { sites := [], np := [(51, 1, 7), (87, 6, 18), (123, 3, 12)], thaw := [], skel := [] }
def t51 : Tree := (.prim (.agg 3 (tv 0))
(.prim (.len 25 (tp 2 0))
(.call 93 [(tv 1), (tv 3)]
(.prim (.row 1 (tp 2 0) (tv 4))
(.ret (tp 5 0))))))
theorem t51_ok : compFun (x51 Try.prog) w51 51 = .ok t51 := by kernel_rfl
theorem k51 : TreeOk Try.prog 31 ⟨18, none, none⟩ ownT 51 t51 (x51 Try.prog) w51 Try.f51 := ⟨rfl, rfl, rfl, (fun g r h => by cases h), by kernel_rfl, by decide, rfl, t51_ok⟩
def x52 (P : Program) : Ctx := { P := P, inl := [86, 87, 99, 100, 115, 116, 117, 123, 78], own := [], ownc := [], ownr := [], diceT := 31, diceNew := ⟨18, none, none⟩ }
def w52 : Hints := { sites := [11002], np := [(52, 16, 9), (87, 6, 18), (123, 3, 12)], thaw := [], skel := [(0, 29, ⟨[], [], [], [], false⟩), (0, 58, ⟨[⟨false, 9, 0, none, false⟩], [], [5, 3, 1, 9], [], false⟩), (0, 3731, ⟨[], [], [5, 3, 1, 9], [], false⟩), (0, 7462, ⟨[⟨false, 11, 0, none, false⟩], [], [11, 10, 5, 3, 1, 9], [], false⟩), (0, 955173, ⟨[], [0], [11, 10, 5, 3, 1, 9, 12], [], false⟩), (0, 1910346, ⟨[⟨false, 13, 0, none, false⟩], [0], [11, 10, 12, 5, 3, 1, 9, 13], [], false⟩)] }
def t52 : Tree := (.prim (.agg 2 (tv 0))
(.prim (.agg 5 (tv 2))
(.prim (.one (tv 1))
(.call 69 [(.agg [(tp 3 0), (tp 3 1)]), (.lit 1 1 [(tv 5)]), (.lit 5 1 [(tp 4 0), (tp 4 1), (tp 4 2), (tp 4 3), (tp 4 4)])]
(.prim (.bin .neq 39 (tv 6) (tn 0))
(.ite (.var 7)
(.ret (.tup [(.e (.cst .snil)), (tv 6)]))
(.join 0
(.loop 1 [(tn 0)]
(.prim (.len 25 (tp 4 0))
(.prim (.bin .leq 3 (tv 8) (tv 9))
(.ite (.var 10)
(.prim (.len 25 (tp 4 0))
(.call 94 [(tn 0), (tv 11), (tv 8)]
(.join 2
(.loop 3 [(tn 0)]
(.prim (.len 73 (tv 12))
(.prim (.bin .lss 3 (tv 13) (tv 14))
(.ite (.var 15)
(.prim (.len 25 (tp 4 0))
(.prim (.mk [(.bool false)] 1 (tv 16))
(.join 4
(.loop 5 [(tn 0), (tv 17)]
(.prim (.bin .lss 3 (tv 18) (tv 8))
(.ite (.var 20)
(.prim (.row 1 (tv 12) (tv 13))
(.prim (.row 1 (tp 21 0) (tv 18))
(.prim (.chk 1 (.var 19) (tp 22 0))
(.prim (.put 1 0 (.var 19) (.var 23) [(.e (.cst (.bool true)))])
(.prim (.bin .add 3 (tv 18) (tn 1))
(.jump 5 [(tv 25), (tv 24)]))))))
(.jump 4 [(tv 19)]))))
(.prim (.row 3 (tp 3 1) (tv 1))
(.prim (.frz 1 .real (.var 18))
(.call 77 [(.agg [(tp 19 0), (tp 19 1), (tp 19 2)]), (tp 3 0), (.agg [(tp 4 0), (tp 4 1), (tp 4 2), (tp 4 3), (tp 4 4)]), (tv 20)]
(.prim (.len 45 (tv 21))
(.prim (.bin .gtr 3 (tv 22) (tn 0))
(.ite (.var 23)
(.prim (.row 1 (tv 12) (tv 13))
(.ret (.tup [(tp 24 0), (tn 0)])))
(.prim (.bin .add 3 (tv 13) (tn 1))
(.jump 3 [(tv 24)])))))))))))
(.jump 2 [])))))
(.prim (.bin .add 3 (tv 8) (tn 1))
(.jump 1 [(tv 13)])))))
(.jump 0 [])))))
(.ret (.tup [(.e (.cst .snil)), (tn 11)])))))))))
theorem t52_ok : compFun (x52 Try.prog) w52 52 = .ok t52 := by kernel_rfl
theorem k52 : TreeOk Try.prog 31 ⟨18, none, none⟩ ownT 52 t52 (x52 Try.prog) w52 Try.f52 := ⟨rfl, rfl, rfl, (fun g r h => by cases h), by kernel_rfl, by decide, rfl, t52_ok⟩
def x53 (P : Program) : Ctx := { P := P, inl := [86, 87, 99, 100, 115, 116, 117, 123], own := [], ownc := [], ownr := [], diceT := 31, diceNew := ⟨18, none, none⟩ }
def w53 : Hints := { sites := [], np := [(53, 7, 9), (87, 6, 18), (123, 3, 12)], thaw := [], skel := [(0, 61, ⟨[], [], [], [], false⟩), (0, 122, ⟨[⟨false, 23, 0, none, false⟩], [], [5, 1, 8, 23], [], false⟩)] }
def t53 : Tree := (.prim (.agg 2 (tv 0))
(.prim (.agg 5 (tv 2))
(.prim (.one (tv 1))
(.call 67 [(.agg [(tp 3 0), (tp 3 1)]), (.lit 1 1 [(tv 5)]), (.lit 5 1 [(tp 4 0), (tp 4 1), (tp 4 2), (tp 4 3), (tp 4 4)])]
(.prim (.ext (tv 6) 0)
(.prim (.ext (tv 6) 1)
(.prim (.agg 2 (tv 7))
(.prim (.bin .neq 39 (tv 8) (tn 0))
(.ite (.var 10)
(.ret (.tup [(tn 0), (tv 8)]))
(.join 0
(.loop 1 [(tn 0)]
(.prim (.bin .lss 3 (tv 11) (tn 4))
(.ite (.var 12)
(.call 80 [(tv 11)]
(.prim (.row 3 (tp 9 1) (tv 1))
(.call 82 [(tv 13), (.agg [(tp 14 0), (tp 14 1), (tp 14 2)]), (.agg [(tp 4 0), (tp 4 1), (tp 4 2), (tp 4 3), (tp 4 4)]), (.e (.cst (.int .u8 0)))]
(.ite (.var 15)
(.ret (.tup [(tv 11), (tn 0)]))
(.prim (.bin .add 3 (tv 11) (tn 1))
(.jump 1 [(tv 16)]))))))
(.jump 0 []))))
(.ret (.tup [(tn 0), (tn 11)]))))))))))))
theorem t53_ok : compFun (x53 Try.prog) w53 53 = .ok t53 := by kernel_rfl
theorem k53 : TreeOk Try.prog 31 ⟨18, none, none⟩ ownT 53 t53 (x53 Try.prog) w53 Try.f53 := ⟨rfl, rfl, rfl, (fun g r h => by cases h), by kernel_rfl, by decide, rfl, t53_ok⟩
def x54 (P : Program) : Ctx := { P := P, inl := [86, 87, 99, 100, 115, 116, 117, 123], own := [], ownc := [], ownr := [], diceT := 31, diceNew := ⟨18, none, none⟩ }
def w54 : Hints := { sites := [], np := [(54, 7, 9), (87, 6, 18), (123, 3, 12)], thaw := [], skel := [(0, 29, ⟨[], [], [], [], false⟩), (0, 58, ⟨[⟨false, 9, 0, none, false⟩], [], [9, 5, 1, 3], [], false⟩)] }
def t54 : Tree := (.prim (.agg 2 (tv 0))
(.prim (.agg 5 (tv 2))
(.prim (.one (tv 1))
(.call 69 [(.agg [(tp 3 0), (tp 3 1)]), (.lit 1 1 [(tv 5)]), (.lit 5 1 [(tp 4 0), (tp 4 1), (tp 4 2), (tp 4 3), (tp 4 4)])]
(.prim (.bin .neq 39 (tv 6) (tn 0))
(.ite (.var 7)
(.ret (.tup [(tn 0), (tv 6)]))
(.join 0
(.loop 1 [(tn 0)]
(.prim (.bin .leq 3 (tv 8) (tn 3))
(.ite (.var 9)
(.prim (.row 3 (tp 3 1) (tv 1))
(.call 78 [(.agg [(tp 4 0), (tp 4 1), (tp 4 2), (tp 4 3), (tp 4 4)])]
(.call 77 [(.agg [(tp 10 0), (tp 10 1), (tp 10 2)]), (tv 8), (.agg [(tp 4 0), (tp 4 1), (tp 4 2), (tp 4 3), (tp 4 4)]), (tv 11)]
(.prim (.len 45 (tv 12))
(.prim (.bin .gtr 3 (tv 13) (tn 0))
(.ite (.var 14)
(.ret (.tup [(tv 8), (tn 0)]))
(.prim (.bin .add 3 (tv 8) (tn 1))
(.jump 1 [(tv 15)]))))))))
(.jump 0 []))))
(.ret (.tup [(tn 0), (tn 11)])))))))))
theorem t54_ok : compFun (x54 Try.prog) w54 54 = .ok t54 := by kernel_rfl
theorem k54 : TreeOk Try.prog 31 ⟨18, none, none⟩ ownT 54 t54 (x54 Try.prog) w54 Try.f54 := ⟨rfl, rfl, rfl, (fun g r h => by cases h), by kernel_rfl, by decide, rfl, t54_ok⟩
def x55 (P : Program) : Ctx := { P := P, inl := [86, 87, 99, 100, 115, 116, 117, 123], own := [], ownc := [], ownr := [], diceT := 31, diceNew := ⟨18, none, none⟩ }
def w55 : Hints := { sites := [], np := [(87, 6, 18), (123, 3, 12)], thaw := [], skel := [(0, 61, ⟨[⟨false, 7, 0, (some (1, .nil0)), false⟩], [], [7], [], false⟩), (0, 122, ⟨[⟨false, 7, 0, (some (1, .nil0)), false⟩, ⟨false, 8, 0, none, false⟩, ⟨false, 9, 0, none, false⟩], [], [2, 4, 0, 9, 8, 7], [], false⟩), (0, 976, ⟨[⟨false, 24, 0, none, false⟩], [], [24, 2, 4, 0, 9, 8, 7], [], false⟩), (0, 7825, ⟨[⟨false, 7, 0, (some (1, .nil0)), false⟩], [], [2, 4, 0, 9, 7, 8], [], false⟩), (0, 15652, ⟨[⟨false, 40, 0, none, false⟩], [], [40, 2, 4, 0, 9, 7, 8], [], false⟩)] }
def t55 : Tree := (.prim (.agg 2 (tv 1))
(.call 21 [(.e (.cst (.ptr 0 0))), (tn 9)]
(.join 0
(.loop 1 [(.e (.cst (.agg []))), (tv 4), (tn 0)]
(.join 2
(.prim (.row 3 (tp 3 1) (tv 2))
(.prim (.bin .lss 3 (tv 7) (tp 8 1))
(.ite (.var 9)
(.prim (.lenc 1 (.var 5))
(.prim (.bin .lss 3 (tv 10) (tn 16))
(.jump 2 [(tv 11)])))
(.jump 2 [(.e (.cst (.bool false)))]))))
(.ite (.var 8)
(.call 45 [(.e (.cst (.ptr 0 0))), (tn 9)]
(.prim (.un .not (tv 9))
(.join 3
(.ite (.var 10)
(.prim (.one (tv 6))
(.prim (.push 1 8 (.var 5) (.lit 1 1 [(tv 11)]))
(.jump 3 [(tv 12)])))
(.jump 3 [(tv 5)]))
(.join 4
(.call 45 [(.e (.cst (.ptr 0 0))), (tn 6)]
(.ite (.var 12)
(.prim (.lenc 1 (.var 11))
(.prim (.bin .lss 3 (tv 13) (tn 16))
(.jump 4 [(tv 14)])))
(.jump 4 [(.e (.cst (.bool false)))])))
(.ite (.var 12)
(.prim (.bin .add 3 (tv 6) (tn 1))
(.prim (.push 1 8 (.var 11) (.lit 1 1 [(tv 13)]))
(.prim (.row 3 (tp 3 1) (tv 2))
(.call 51 [(.agg [(tp 15 0), (tp 15 1), (tp 15 2)]), (tv 7)]
(.prim (.bin .add 3 (tv 13) (tv 16))
(.prim (.bin .add 3 (tv 7) (tn 1))
(.jump 1 [(tv 14), (tv 17), (tv 18)])))))))
(.prim (.row 3 (tp 3 1) (tv 2))
(.call 51 [(.agg [(tp 13 0), (tp 13 1), (tp 13 2)]), (tv 7)]
(.prim (.bin .add 3 (tv 6) (tv 14))
(.prim (.bin .add 3 (tv 7) (tn 1))
(.jump 1 [(tv 11), (tv 15), (tv 16)]))))))))))
(.jump 0 [(tv 5)]))))
(.prim (.frz 1 .nil0 (.var 5))
(.ret (tv 6))))))
theorem t55_ok : compFun (x55 Try.prog) w55 55 = .ok t55 := by kernel_rfl
theorem k55 : TreeOk Try.prog 31 ⟨18, none, none⟩ ownT 55 t55 (x55 Try.prog) w55 Try.f55 := ⟨rfl, rfl, rfl, (fun g r h => by cases h), by kernel_rfl, by decide, rfl, t55_ok⟩
def x56 (P : Program) : Ctx := { P := P, inl := [86, 87, 99, 100, 115, 116, 117, 123], own := [], ownc := [], ownr := [], diceT := 31, diceNew := ⟨18, none, none⟩ }
def w56 : Hints := { sites := [], np := [(87, 6, 18), (123, 3, 12)], thaw := [], skel := [(0, 29, ⟨[], [0], [3], [], false⟩), (0, 58, ⟨[⟨false, 4, 0, none, false⟩], [0], [0, 3, 4], [], false⟩)] }
def t56 : Tree := (.prim (.len 25 (tv 0))
(.prim (.mk [(.int .i64 0)] 8 (tv 1))
(.join 0
(.loop 1 [(tn 0), (tv 2)]
(.prim (.len 25 (tv 0))
(.prim (.bin .lss 3 (tv 3) (tv 5))
(.ite (.var 6)
(.prim (.row 1 (tv 0) (tv 3))
(.prim (.chk 1 (.var 4) (tv 3))
(.prim (.put 1 0 (.var 4) (.var 8) [(tp 7 0)])
(.prim (.bin .add 3 (tv 3) (tn 1))
(.jump 1 [(tv 10), (tv 9)])))))
(.jump 0 [(tv 4)])))))
(.prim (.frz 1 .real (.var 3))
(.ret (tv 4))))))
theorem t56_ok : compFunO (x56 Try.prog) w56 none 56 = .ok t56 := by kernel_rfl
theorem k56 : TreeOk Try.prog 31 ⟨18, none, none⟩ ownT 56 t56 (x56 Try.prog) w56 Try.f56 := ⟨rfl, rfl, rfl, (fun g r h => by cases h), by kernel_rfl, by decide, rfl, t56_ok⟩
def x57 (P : Program) : Ctx := { P := P, inl := [86, 87, 99, 100, 115, 116, 117, 123], own := [], ownc := [], ownr := [], diceT := 31, diceNew := ⟨18, none, none⟩ }
def w57 : Hints := { sites := [], np := [(87, 6, 18), (123, 3, 12)], thaw := [], skel := [(0, 125, ⟨[⟨false, 10, 0, (some (1, .nil0)), false⟩], [], [10], [], false⟩), (0, 250, ⟨[⟨false, 10, 0, (some (1, .nil0)), false⟩, ⟨false, 24, 0, none, false⟩], [], [2, 1, 8, 23, 24, 10], [], false⟩), (0, 32051, ⟨[⟨false, 10, 0, (some (1, .nil0)), false⟩], [], [2, 1, 8, 23, 10, 24], [], false⟩)] }
def t57 : Tree := (.prim (.agg 2 (tv 0))
(.call 95 [(.agg [(tp 3 0), (tp 3 1)]), (tv 1), (tv 2)]
(.prim (.ext (tv 4) 0)
(.prim (.ext (tv 4) 1)
(.prim (.agg 2 (tv 5))
(.prim (.bin .neq 39 (tv 6) (tn 0))
(.ite (.var 8)
(.ret (.tup [(.e (.cst .snil)), (tv 6)]))
(.prim (.len 25 (tv 2))
(.join 0
(.loop 1 [(.e (.cst (.agg []))), (tn 0)]
(.prim (.bin .lss 3 (tv 11) (tv 9))
(.ite (.var 12)
(.call 96 [(.agg [(tp 7 0), (tp 7 1)]), (tv 1), (tv 2), (tv 11)]
(.prim (.len 25 (tv 13))
(.prim (.bin .eql 3 (tv 14) (tn 0))
(.join 2
(.ite (.var 15)
(.prim (.one (tv 11))
(.prim (.push 1 8 (.var 10) (.lit 1 1 [(tv 16)]))
(.jump 2 [(tv 17)])))
(.jump 2 [(tv 10)]))
(.prim (.bin .add 3 (tv 11) (tn 1))
(.jump 1 [(tv 16), (tv 17)]))))))
(.jump 0 [(tv 10)]))))
(.prim (.frz 1 .nil0 (.var 10))
(.ret (.tup [(tv 11), (tn 0)]))))))))))))
theorem t57_ok : compFun (x57 Try.prog) w57 57 = .ok t57 := by kernel_rfl
theorem k57 : TreeOk Try.prog 31 ⟨18, none, none⟩ ownT 57 t57 (x57 Try.prog) w57 Try.f57 := ⟨rfl, rfl, rfl, (fun g r h => by cases h), by kernel_rfl, by decide, rfl, t57_ok⟩
def x58 (P : Program) : Ctx := { P := P, inl := [86, 87, 99, 100, 115, 116, 117, 123], own := [], ownc := [], ownr := [], diceT := 31, diceNew := ⟨18, none, none⟩ }
def w58 : Hints := { sites := [], np := [(87, 6, 18), (123, 3, 12)], thaw := [], skel := [(0, 61, ⟨[⟨false, 9, 0, (some (1, .nil0)), false⟩], [], [9], [], false⟩), (0, 122, ⟨[⟨false, 9, 0, (some (1, .nil0)), false⟩, ⟨false, 10, 0, none, false⟩], [], [2, 1, 3, 10, 9], [], false⟩), (0, 3913, ⟨[⟨false, 9, 0, (some (1, .nil0)), false⟩], [], [2, 1, 3, 9, 10], [], false⟩)] }
def t58 : Tree := (.prim (.agg 2 (tv 0))
(.call 97 [(.agg [(tp 3 0), (tp 3 1)]), (tv 1), (tv 2)]
(.prim (.bin .neq 39 (tv 4) (tn 0))
(.ite (.var 5)
(.ret (.tup [(.e (.cst .snil)), (tv 4)]))
(.join 0
(.loop 1 [(.e (.cst (.agg []))), (tn 0)]
(.prim (.len 25 (tv 2))
(.prim (.bin .lss 3 (tv 7) (tv 8))
(.ite (.var 9)
(.call 98 [(.agg [(tp 3 0), (tp 3 1)]), (tv 1), (tv 2), (tv 7)]
(.prim (.len 25 (tv 10))
(.prim (.bin .eql 3 (tv 11) (tn 0))
(.join 2
(.ite (.var 12)
(.prim (.one (tv 7))
(.prim (.push 1 8 (.var 6) (.lit 1 1 [(tv 13)]))
(.jump 2 [(tv 14)])))
(.jump 2 [(tv 6)]))
(.prim (.bin .add 3 (tv 7) (tn 1))
(.jump 1 [(tv 13), (tv 14)]))))))
(.jump 0 [(tv 6)])))))
(.prim (.frz 1 .nil0 (.var 6))
(.ret (.tup [(tv 7), (tn 0)]))))))))
theorem t58_ok : compFun (x58 Try.prog) w58 58 = .ok t58 := by kernel_rfl
theorem k58 : TreeOk Try.prog 31 ⟨18, none, none⟩ ownT 58 t58 (x58 Try.prog) w58 Try.f58 := ⟨rfl, rfl, rfl, (fun g r h => by cases h), by kernel_rfl, by decide, rfl, t58_ok⟩
def x59 (P : Program) : Ctx := { P := P, inl := [86, 87, 99, 100, 115, 116, 117, 123], own := [], ownc := [], ownr := [], diceT := 31, diceNew := ⟨18, none, none⟩ }
def w59 : Hints := { sites := [], np := [(87, 6, 18), (123, 3, 12)], thaw := [], skel := [] }
def t59 : Tree := (.prim (.agg 2 (tv 0))
(.call 95 [(.agg [(tp 4 0), (tp 4 1)]), (tv 1), (tv 2)]
(.prim (.ext (tv 5) 0)
(.prim (.ext (tv 5) 1)
(.prim (.agg 2 (tv 6))
(.prim (.bin .neq 39 (tv 7) (tn 0))
(.ite (.var 9)
(.ret (.tup [(.e (.cst .snil)), (tv 7)]))
(.prim (.len 25 (tv 2))
(.prim (.bin .sub 3 (tv 10) (tn 1))
(.call 71 [(tv 3), (tn 0), (tv 11)]
(.prim (.un .not (tv 12))
(.ite (.var 13)
(.ret (.tup [(.e (.cst .snil)), (tn 3)]))
(.call 96 [(.agg [(tp 8 0), (tp 8 1)]), (tv 1), (tv 2), (tv 3)]
(.ret (.tup [(tv 14), (tn 0)])))))))))))))))
theorem t59_ok : compFun (x59 Try.prog) w59 59 = .ok t59 := by kernel_rfl
theorem k59 : TreeOk Try.prog 31 ⟨18, none, none⟩ ownT 59 t59 (x59 Try.prog) w59 Try.f59 := ⟨rfl, rfl, rfl, (fun g r h => by cases h), by kernel_rfl, by decide, rfl, t59_ok⟩
def x60 (P : Program) : Ctx := { P := P, inl := [86, 87, 99, 100, 115, 116, 117, 123], own := [], ownc := [], ownr := [], diceT := 31, diceNew := ⟨18, none, none⟩ }
def w60 : Hints := { sites := [], np := [(87, 6, 18), (123, 3, 12)], thaw := [], skel := [] }
def t60 : Tree := (.prim (.agg 2 (tv 0))
(.call 97 [(.agg [(tp 4 0), (tp 4 1)]), (tv 1), (tv 2)]
(.prim (.bin .neq 39 (tv 5) (tn 0))
(.ite (.var 6)
(.ret (.tup [(.e (.cst .snil)), (tv 5)]))
(.prim (.len 25 (tv 2))
(.prim (.bin .sub 3 (tv 7) (tn 1))
(.call 74 [(tv 3), (tn 0), (tv 8)]
(.prim (.un .not (tv 9))
(.ite (.var 10)
(.ret (.tup [(.e (.cst .snil)), (tn 3)]))
(.call 98 [(.agg [(tp 4 0), (tp 4 1)]), (tv 1), (tv 2), (tv 3)]
(.ret (.tup [(tv 11), (tn 0)]))))))))))))
theorem t60_ok : compFun (x60 Try.prog) w60 60 = .ok t60 := by kernel_rfl
theorem k60 : TreeOk Try.prog 31 ⟨18, none, none⟩ ownT 60 t60 (x60 Try.prog) w60 Try.f60 := ⟨rfl, rfl, rfl, (fun g r h => by cases h), by kernel_rfl, by decide, rfl, t60_ok⟩
def x61 (P : Program) : Ctx := { P := P, inl := [86, 87, 99, 100, 115, 116, 117, 123], own := [], ownc := [], ownr := [], diceT := 31, diceNew := ⟨18, none, none⟩ }
def w61 : Hints := { sites := [], np := [(87, 6, 18), (123, 3, 12)], thaw := [], skel := [(0, 14, ⟨[⟨false, 5, 0, none, false⟩], [], [5, 0], [], false⟩), (0, 28, ⟨[⟨false, 5, 0, none, false⟩], [], [0, 1, 5], [], false⟩), (0, 224, ⟨[⟨false, 17, 0, none, false⟩], [], [17, 0, 1, 5], [], false⟩)] }
def t61 : Tree := (.join 0
(.loop 1 [(tn 0)]
(.join 2
(.prim (.len 25 (tv 0))
(.prim (.bin .lss 3 (tv 2) (tv 3))
(.ite (.var 4)
(.prim (.row 1 (tv 0) (tv 2))
(.prim (.bin .neq 3 (tp 5 0) (tv 1))
(.jump 2 [(tv 6)])))
(.jump 2 [(.e (.cst (.bool false)))]))))
(.ite (.var 3)
(.prim (.bin .add 3 (tv 2) (tn 1))
(.jump 1 [(tv 4)]))
(.jump 0 [(tv 2)]))))
(.prim (.len 25 (tv 0))
(.prim (.bin .eql 3 (tv 2) (tv 3))
(.ite (.var 4)
(.ret (tn (-1)))
(.ret (tv 2))))))
theorem t61_ok : compFun (x61 Try.prog) w61 61 = .ok t61 := by kernel_rfl
theorem k61 : TreeOk Try.prog 31 ⟨18, none, none⟩ ownT 61 t61 (x61 Try.prog) w61 Try.f61 := ⟨rfl, rfl, rfl, (fun g r h => by cases h), by kernel_rfl, by decide, rfl, t61_ok⟩
def x62 (P : Program) : Ctx := { P := P, inl := [86, 87, 99, 100, 115, 116, 117, 123], own := [], ownc := [], ownr := [], diceT := 31, diceNew := ⟨18, none, none⟩ }
def w62 : Hints := { sites := [], np := [(87, 6, 18), (123, 3, 12)], thaw := [], skel := [] }
def t62 : Tree := (.ret (.agg [(tn 1), (.lit 3 3 [(.lit 1 1 [(tn 6)]), (tn 8), (tn 30), (.lit 1 2 [(tn 6), (tn 8)]), (tn 6), (tn 30), (.lit 1 3 [(tn 5), (tn 7), (tn 9)]), (tn 7), (tn 40)])]))
theorem t62_ok : compFun (x62 Try.prog) w62 62 = .ok t62 := by kernel_rfl
theorem k62 : TreeOk Try.prog 31 ⟨18, none, none⟩ ownT 62 t62 (x62 Try.prog) w62 Try.f62 := ⟨rfl, rfl, rfl, (fun g r h => by cases h), by kernel_rfl, by decide, rfl, t62_ok⟩
def x63 (P : Program) : Ctx := { P := P, inl := [86, 87, 99, 100, 115, 116, 117, 123], own := [], ownc := [], ownr := [], diceT := 31, diceNew := ⟨18, none, none⟩ }
def w63 : Hints := { sites := [], np := [(87, 6, 18), (123, 3, 12)], thaw := [], skel := [] }
def t63 : Tree := (.prim (.one (tv 0))
(.ret (.agg [(tv 1), (tn 0), (tn 0), (tn 0), (.e (.cst (.bool false)))])))
theorem t63_ok : compFun (x63 Try.prog) w63 63 = .ok t63 := by kernel_rfl
theorem k63 : TreeOk Try.prog 31 ⟨18, none, none⟩ ownT 63 t63 (x63 Try.prog) w63 Try.f63 := ⟨rfl, rfl, rfl, (fun g r h => by cases h), by kernel_rfl, by decide, rfl, t63_ok⟩
def x64 (P : Program) : Ctx := { P := P, inl := [86, 87, 99, 100, 115, 116, 117, 123], own := [], ownc := [(0, 1002)], ownr := [(56, none, 1, false)], diceT := 31, diceNew := ⟨18, none, none⟩ }
def w64 : Hints := { sites := [], np := [(87, 6, 18), (123, 3, 12)], thaw := [], skel := [] }
def t64 : Tree := (.prim (.agg 3 (tv 0))
(.call 56 [(tp 1 0)]
(.prim (.cont false 1 (tv 2))
(.prim (.isnil (tv 2))
(.prim (.frz 1 (.dyn (.var 4)) (.var 3))
(.ret (.agg [(tv 5), (tp 1 1), (tp 1 2)])))))))
theorem t64_ok : compFunO (x64 Try.prog) w64 (some (3, 0)) 64 = .ok t64 := by kernel_rfl
theorem k64 : TreeOk Try.prog 31 ⟨18, none, none⟩ ownT 64 t64 (x64 Try.prog) w64 Try.f64 := ⟨rfl, rfl, rfl, (fun g r h => by simp only [x64, findOr] at h; split at h <;> cases h; rename_i e; subst e; rfl), by kernel_rfl, by decide, rfl, t64_ok⟩
def x65 (P : Program) : Ctx := { P := P, inl := [86, 87, 99, 100, 115, 116, 117, 123], own := [], ownc := [], ownr := [], diceT := 31, diceNew := ⟨18, none, none⟩ }
def w65 : Hints := { sites := [], np := [(87, 6, 18), (123, 3, 12)], thaw := [], skel := [] }
def t65 : Tree := (.prim (.len 25 (tv 1))
(.prim (.bin .sub 3 (tv 2) (tn 1))
(.call 21 [(.e (.cst (.ptr 0 0))), (tv 3)]
(.prim (.row 1 (tv 1) (tv 4))
(.ret (tp 5 0))))))
theorem t65_ok : compFun (x65 Try.prog) w65 65 = .ok t65 := by kernel_rfl
theorem k65 : TreeOk Try.prog 31 ⟨18, none, none⟩ ownT 65 t65 (x65 Try.prog) w65 Try.f65 := ⟨rfl, rfl, rfl, (fun g r h => by cases h), by kernel_rfl, by decide, rfl, t65_ok⟩
def x67 (P : Program) : Ctx := { P := P, inl := [86, 87, 99, 100, 115, 116, 117, 123], own := [], ownc := [], ownr := [], diceT := 31, diceNew := ⟨18, none, none⟩ }
def w67 : Hints := { sites := [], np := [(87, 6, 18), (123, 3, 12)], thaw := [], skel := [(0, 29, ⟨[], [], [6, 3, 2], [], false⟩), (0, 58, ⟨[⟨false, 22, 0, none, false⟩], [], [6, 3, 20, 2, 21, 22], [], false⟩), (0, 61, ⟨[], [], [6, 3], [], false⟩), (0, 122, ⟨[⟨false, 37, 0, none, false⟩], [], [6, 35, 3, 36, 37], [], false⟩)] }
def t67 : Tree := (.prim (.agg 2 (tv 0))
(.call 26 [(.agg [(tp 3 0), (tp 3 1)])]
(.prim (.bin .neq 39 (tv 4) (tn 0))
(.ite (.var 5)
(.ret (.tup [(.agg [(tn 0), (.e (.cst .snil))]), (tv 4)]))
(.prim (.len 25 (tv 1))
(.join 0
(.loop 1 [(tn 0)]
(.prim (.bin .lss 3 (tv 7) (tv 6))
(.ite (.var 8)
(.prim (.row 1 (tv 1) (tv 7))
(.prim (.len 22 (tp 3 1))
(.prim (.bin .sub 3 (tv 10) (tn 1))
(.call 71 [(tp 9 0), (tn 0), (tv 11)]
(.prim (.un .not (tv 12))
(.ite (.var 13)
(.ret (.tup [(.agg [(tn 0), (.e (.cst .snil))]), (tn 3)]))
(.prim (.bin .add 3 (tv 7) (tn 1))
(.jump 1 [(tv 14)]))))))))
(.jump 0 []))))
(.prim (.len 29 (tv 2))
(.join 1
(.loop 2 [(tn 0)]
(.prim (.bin .lss 3 (tv 8) (tv 7))
(.ite (.var 9)
(.prim (.row 5 (tv 2) (tv 8))
(.call 28 [(.agg [(tp 10 0), (tp 10 1), (tp 10 2), (tp 10 3), (tp 10 4)])]
(.prim (.bin .neq 39 (tv 11) (tn 0))
(.ite (.var 12)
(.ret (.tup [(.agg [(tn 0), (.e (.cst .snil))]), (tv 11)]))
(.prim (.bin .add 3 (tv 8) (tn 1))
(.jump 2 [(tv 13)]))))))
(.jump 1 []))))
(.ret (.tup [(.agg [(tp 3 0), (tp 3 1)]), (tn 0)]))))))))))
theorem t67_ok : compFun (x67 Try.prog) w67 67 = .ok t67 := by kernel_rfl
theorem k67 : TreeOk Try.prog 31 ⟨18, none, none⟩ ownT 67 t67 (x67 Try.prog) w67 Try.f67 := ⟨rfl, rfl, rfl, (fun g r h => by cases h), by kernel_rfl, by decide, rfl, t67_ok⟩
def x68 (P : Program) : Ctx := { P := P, inl := [86, 87, 99, 100, 115, 116, 117, 123], own := [(0, 5)], ownc := [], ownr := [], diceT := 31, diceNew := ⟨18, none, none⟩ }
def w68 : Hints := { sites := [], np := [(68, 5, 8), (87, 6, 18), (123, 3, 12)], thaw := [], skel := [(0, 58, ⟨[⟨false, 9, 0, none, false⟩], [0], [1, 8, 9, 3], [], false⟩)] }
def t68 : Tree := (.prim (.agg 3 (tv 0))
(.prim (.lst [(tn 0)])
(.prim (.bin .sub 3 (tp 1 1) (tn 1))
(.loop 0 [(tn 0), (tv 2)]
(.prim (.bin .lss 3 (tv 4) (tv 3))
(.ite (.var 6)
(.prim (.chk 1 (.var 5) (tv 4))
(.prim (.get 1 0 1 (.var 5) (.var 7))
(.call 81 [(.agg [(tp 1 0), (tp 1 1), (tp 1 2)]), (tv 4)]
(.prim (.bin .add 3 (tp 8 0) (tv 9))
(.prim (.push 1 8 (.var 5) (.lit 1 1 [(tv 10)]))
(.prim (.bin .add 3 (tv 4) (tn 1))
(.jump 0 [(tv 12), (tv 11)])))))))
(.prim (.frz 1 .real (.var 5))
(.ret (tv 7)))))))))
theorem t68_ok : compFun (x68 Try.prog) w68 68 = .ok t68 := by kernel_rfl
theorem k68 : TreeOk Try.prog 31 ⟨18, none, none⟩ ownT 68 t68 (x68 Try.prog) w68 Try.f68 := ⟨rfl, rfl, rfl, (fun g r h => by cases h), by kernel_rfl, by decide, rfl, t68_ok⟩
def x69 (P : Program) : Ctx := { P := P, inl := [86, 87, 99, 100, 115, 116, 117, 123], own := [], ownc := [], ownr := [], diceT := 31, diceNew := ⟨18, none, none⟩ }
def w69 : Hints := { sites := [], np := [(69, 7, 8), (87, 6, 18), (123, 3, 12)], thaw := [], skel := [(0, 29, ⟨[], [], [2], [], false⟩), (0, 58, ⟨[⟨false, 8, 0, none, false⟩], [], [3, 1, 2, 8], [], false⟩), (0, 61, ⟨[], [], [], [], false⟩), (0, 122, ⟨[⟨false, 9, 0, none, false⟩], [], [2, 9], [], false⟩)] }
def t69 : Tree := (.prim (.agg 2 (tv 0))
(.call 27 [(.agg [(tp 3 0), (tp 3 1)])]
(.prim (.bin .neq 39 (tv 4) (tn 0))
(.ite (.var 5)
(.ret (tv 4))
(.join 0
(.loop 1 [(tn 0)]
(.prim (.len 25 (tv 1))
(.prim (.bin .lss 3 (tv 6) (tv 7))
(.ite (.var 8)
(.prim (.row 1 (tv 1) (tv 6))
(.prim (.len 22 (tp 3 1))
(.prim (.bin .sub 3 (tv 10) (tn 1))
(.call 74 [(tp 9 0), (tn 0), (tv 11)]
(.prim (.un .not (tv 12))
(.ite (.var 13)
(.ret (tn 3))
(.prim (.bin .add 3 (tv 6) (tn 1))
(.jump 1 [(tv 14)]))))))))
(.jump 0 [])))))
(.join 1
(.loop 2 [(tn 0)]
(.prim (.len 29 (tv 2))
(.prim (.bin .lss 3 (tv 6) (tv 7))
(.ite (.var 8)
(.prim (.row 5 (tv 2) (tv 6))
(.call 29 [(.agg [(tp 9 0), (tp 9 1), (tp 9 2), (tp 9 3), (tp 9 4)])]
(.prim (.bin .neq 39 (tv 10) (tn 0))
(.ite (.var 11)
(.ret (tv 10))
(.prim (.bin .add 3 (tv 6) (tn 1))
(.jump 2 [(tv 12)]))))))
(.jump 1 [])))))
(.ret (tn 0))))))))
theorem t69_ok : compFun (x69 Try.prog) w69 69 = .ok t69 := by kernel_rfl
theorem k69 : TreeOk Try.prog 31 ⟨18, none, none⟩ ownT 69 t69 (x69 Try.prog) w69 Try.f69 := ⟨rfl, rfl, rfl, (fun g r h => by cases h), by kernel_rfl, by decide, rfl, t69_ok⟩
def x70 (P : Program) : Ctx := { P := P, inl := [86, 87, 99, 100, 115, 116, 117, 123], own := [(0, 5)], ownc := [], ownr := [], diceT := 31, diceNew := ⟨18, none, none⟩ }
def w70 : Hints := { sites := [], np := [(70, 5, 8), (87, 6, 18), (123, 3, 12)], thaw := [], skel := [(0, 58, ⟨[⟨false, 4, 0, none, false⟩], [0], [1, 4, 3], [], false⟩)] }
def t70 : Tree := (.prim (.agg 3 (tv 0))
(.prim (.lst [(tn 0)])
(.loop 0 [(tn 0), (tv 2)]
(.prim (.bin .sub 3 (tp 1 1) (tn 1))
(.prim (.bin .lss 3 (tv 3) (tv 5))
(.ite (.var 6)
(.prim (.chk 1 (.var 4) (tv 3))
(.prim (.get 1 0 1 (.var 4) (.var 7))
(.call 83 [(.agg [(tp 1 0), (tp 1 1), (tp 1 2)]), (tv 3)]
(.prim (.bin .add 3 (tp 8 0) (tv 9))
(.prim (.push 1 8 (.var 4) (.lit 1 1 [(tv 10)]))
(.prim (.bin .add 3 (tv 3) (tn 1))
(.jump 0 [(tv 12), (tv 11)])))))))
(.prim (.frz 1 .real (.var 4))
(.ret (tv 7)))))))))
theorem t70_ok : compFun (x70 Try.prog) w70 70 = .ok t70 := by kernel_rfl
theorem k70 : TreeOk Try.prog 31 ⟨18, none, none⟩ ownT 70 t70 (x70 Try.prog) w70 Try.f70 := ⟨rfl, rfl, rfl, (fun g r h => by cases h), by kernel_rfl, by decide, rfl, t70_ok⟩
def x71 (P : Program) : Ctx := { P := P, inl := [86, 87, 99, 100, 115, 116, 117, 123], own := [], ownc := [], ownr := [], diceT := 31, diceNew := ⟨18, none, none⟩ }
def w71 : Hints := { sites := [], np := [(87, 6, 18), (123, 3, 12)], thaw := [], skel := [(0, 6, ⟨[⟨false, 6, 0, none, false⟩], [], [6], [], false⟩)] }
def t71 : Tree := (.join 0
(.prim (.bin .leq 3 (tv 1) (tv 0))
(.ite (.var 3)
(.prim (.bin .leq 3 (tv 0) (tv 2))
(.jump 0 [(tv 4)]))
(.jump 0 [(.e (.cst (.bool false)))])))
(.ret (tv 3)))
theorem t71_ok : compFun (x71 Try.prog) w71 71 = .ok t71 := by kernel_rfl
theorem k71 : TreeOk Try.prog 31 ⟨18, none, none⟩ ownT 71 t71 (x71 Try.prog) w71 Try.f71 := ⟨rfl, rfl, rfl, (fun g r h => by cases h), by kernel_rfl, by decide, rfl, t71_ok⟩
def x72 (P : Program) : Ctx := { P := P, inl := [86, 87, 99, 100, 115, 116, 117, 123], own := [], ownc := [], ownr := [], diceT := 31, diceNew := ⟨18, none, none⟩ }
def w72 : Hints := { sites := [], np := [(87, 6, 18), (123, 3, 12)], thaw := [], skel := [] }
def t72 : Tree := (.prim (.bin .lss 3 (tv 0) (tn 1))
(.ite (.var 2)
(.ret (tn 7))
(.prim (.bin .gtr 3 (tv 0) (tv 1))
(.ite (.var 3)
(.ret (tn 6))
(.ret (tn 0))))))
theorem t72_ok : compFun (x72 Try.prog) w72 72 = .ok t72 := by kernel_rfl
theorem k72 : TreeOk Try.prog 31 ⟨18, none, none⟩ ownT 72 t72 (x72 Try.prog) w72 Try.f72 := ⟨rfl, rfl, rfl, (fun g r h => by cases h), by kernel_rfl, by decide, rfl, t72_ok⟩
def x73 (P : Program) : Ctx := { P := P, inl := [86, 87, 99, 100, 115, 116, 117, 123], own := [], ownc := [], ownr := [], diceT := 31, diceNew := ⟨18, none, none⟩ }
def w73 : Hints := { sites := [], np := [(87, 6, 18), (123, 3, 12)], thaw := [], skel := [(0, 29, ⟨[], [], [1], [], false⟩), (0, 58, ⟨[⟨false, 16, 0, none, false⟩], [], [14, 1, 15, 16], [], false⟩), (0, 60, ⟨[⟨false, 33, 0, none, false⟩], [], [33], [], false⟩)] }
def t73 : Tree := (.prim (.agg 3 (tv 0))
(.prim (.len 25 (tp 1 0))
(.call 72 [(tv 2), (tn 3)]
(.prim (.bin .neq 39 (tv 3) (tn 0))
(.ite (.var 4)
(.ret (tv 3))
(.prim (.len 25 (tp 1 0))
(.join 0
(.loop 1 [(tn 0)]
(.prim (.bin .lss 3 (tv 6) (tv 5))
(.ite (.var 7)
(.prim (.row 1 (tp 1 0) (tv 6))
(.call 71 [(tp 8 0), (tn 2), (tn 20)]
(.prim (.un .not (tv 9))
(.ite (.var 10)
(.ret (tn 1))
(.prim (.bin .add 3 (tv 6) (tn 1))
(.jump 1 [(tv 11)]))))))
(.jump 0 []))))
(.join 1
(.call 71 [(tp 1 1), (tn 2), (tn 12)]
(.prim (.un .not (tv 6))
(.ite (.var 7)
(.jump 1 [(.e (.cst (.bool true)))])
(.call 71 [(tp 1 2), (tn 1), (tn 60)]
(.prim (.un .not (tv 8))
(.jump 1 [(tv 9)]))))))
(.ite (.var 6)
(.ret (tn 1))
(.ret (tn 0)))))))))))
theorem t73_ok : compFun (x73 Try.prog) w73 73 = .ok t73 := by kernel_rfl
theorem k73 : TreeOk Try.prog 31 ⟨18, none, none⟩ ownT 73 t73 (x73 Try.prog) w73 Try.f73 := ⟨rfl, rfl, rfl, (fun g r h => by cases h), by kernel_rfl, by decide, rfl, t73_ok⟩
def x74 (P : Program) : Ctx := { P := P, inl := [86, 87, 99, 100, 115, 116, 117, 123], own := [], ownc := [], ownr := [], diceT := 31, diceNew := ⟨18, none, none⟩ }
def w74 : Hints := { sites := [], np := [(87, 6, 18), (123, 3, 12)], thaw := [], skel := [(0, 6, ⟨[⟨false, 6, 0, none, false⟩], [], [6], [], false⟩)] }
def t74 : Tree := (.join 0
(.prim (.bin .geq 3 (tv 0) (tv 1))
(.ite (.var 3)
(.prim (.bin .leq 3 (tv 0) (tv 2))
(.jump 0 [(tv 4)]))
(.jump 0 [(.e (.cst (.bool false)))])))
(.ret (tv 3)))
theorem t74_ok : compFun (x74 Try.prog) w74 74 = .ok t74 := by kernel_rfl
theorem k74 : TreeOk Try.prog 31 ⟨18, none, none⟩ ownT 74 t74 (x74 Try.prog) w74 Try.f74 := ⟨rfl, rfl, rfl, (fun g r h => by cases h), by kernel_rfl, by decide, rfl, t74_ok⟩
def x75 (P : Program) : Ctx := { P := P, inl := [86, 87, 99, 100, 115, 116, 117, 123], own := [], ownc := [], ownr := [], diceT := 31, diceNew := ⟨18, none, none⟩ }
def w75 : Hints := { sites := [], np := [(87, 6, 18), (123, 3, 12)], thaw := [], skel := [(0, 61, ⟨[], [], [1], [], false⟩), (0, 122, ⟨[⟨false, 3, 0, none, false⟩], [], [1, 3], [], false⟩), (0, 124, ⟨[⟨false, 35, 0, none, false⟩], [], [35], [], false⟩)] }
def t75 : Tree := (.prim (.agg 3 (tv 0))
(.prim (.len 25 (tp 1 0))
(.prim (.bin .eql 3 (tv 2) (tn 0))
(.ite (.var 3)
(.ret (tn 7))
(.prim (.len 25 (tp 1 0))
(.prim (.bin .gtr 3 (tv 4) (tn 3))
(.ite (.var 5)
(.ret (tn 6))
(.join 0
(.loop 1 [(tn 0)]
(.prim (.len 25 (tp 1 0))
(.prim (.bin .lss 3 (tv 6) (tv 7))
(.ite (.var 8)
(.prim (.row 1 (tp 1 0) (tv 6))
(.call 74 [(tp 9 0), (tn 2), (tn 20)]
(.prim (.un .not (tv 10))
(.ite (.var 11)
(.ret (tn 1))
(.prim (.bin .add 3 (tv 6) (tn 1))
(.jump 1 [(tv 12)]))))))
(.jump 0 [])))))
(.join 1
(.call 74 [(tp 1 1), (tn 2), (tn 12)]
(.prim (.un .not (tv 6))
(.ite (.var 7)
(.jump 1 [(.e (.cst (.bool true)))])
(.call 74 [(tp 1 2), (tn 1), (tn 60)]
(.prim (.un .not (tv 8))
(.jump 1 [(tv 9)]))))))
(.ite (.var 6)
(.ret (tn 1))
(.ret (tn 0))))))))))))
theorem t75_ok : compFun (x75 Try.prog) w75 75 = .ok t75 := by kernel_rfl
theorem k75 : TreeOk Try.prog 31 ⟨18, none, none⟩ ownT 75 t75 (x75 Try.prog) w75 Try.f75 := ⟨rfl, rfl, rfl, (fun g r h => by cases h), by kernel_rfl, by decide, rfl, t75_ok⟩
def x76 (P : Program) : Ctx := { P := P, inl := [86, 87, 99, 100, 115, 116, 117, 123], own := [], ownc := [], ownr := [], diceT := 31, diceNew := ⟨18, none, none⟩ }
def w76 : Hints := { sites := [1012, 1013, 1013001002, 1013001002700027, 1013001002700027002004, 1013001002700027002004004012, 1013001002700027010005, 1013001002700027010005004012], np := [(76, 1, 11), (87, 6, 18), (123, 3, 12)], thaw := [], skel := [(1013001002, 13, ⟨[⟨true, 6, 0, (some (2, .nil0)), false⟩], [], [2], [], true⟩), (1013001002700027, 28, ⟨[⟨false, 19, 0, none, false⟩, ⟨true, 6, 0, (some (2, .nil0)), false⟩], [], [19, 3, 4, 6], [], true⟩), (1013001002700027, 125, ⟨[⟨false, 7, 0, none, false⟩], [], [7, 3, 6], [], true⟩), (1013001002700027, 250, ⟨[⟨false, 7, 0, none, false⟩, ⟨false, 23, 0, none, false⟩], [], [3, 4, 6, 22, 23, 7], [], true⟩), (1013001002700027, 32051, ⟨[⟨false, 7, 0, none, false⟩], [], [3, 4, 6, 22, 7, 23], [], true⟩), (1013001002700027002004, 13, ⟨[⟨true, 6, 0, (some (2, .nil0)), false⟩], [], [], [], true⟩), (1013001002700027002004, 26, ⟨[⟨false, 13, 0, none, false⟩, ⟨true, 6, 0, (some (2, .nil0)), false⟩], [], [2, 5, 1, 6, 3, 4, 12, 13], [], true⟩), (1013001002700027002004, 3378, ⟨[⟨false, 29, 0, none, false⟩, ⟨true, 6, 0, (some (2, .nil0)), false⟩], [], [29, 2, 5, 1, 6, 3, 4, 12, 13], [], true⟩), (1013001002700027002004004012, 13, ⟨[], [], [2], [], false⟩), (1013001002700027010005, 13, ⟨[], [0], [], [], true⟩), (1013001002700027010005, 26, ⟨[⟨false, 13, 0, none, false⟩], [0], [2, 5, 1, 6, 3, 4, 12, 13], [], true⟩), (1013001002700027010005, 3378, ⟨[⟨false, 29, 0, none, false⟩], [0], [29, 2, 5, 1, 6, 3, 4, 12, 13], [], true⟩), (1013001002700027010005004012, 13, ⟨[], [], [2], [], false⟩)] }
def t76 : Tree := (.prim (.agg 2 (tv 0))
(.prim (.agg 5 (tv 2))
(.call 80 [(tp 3 0)]
(.prim (.row 3 (tp 3 1) (tv 1))
(.prim (.agg 2 (tv 5))
(.join 0
(.join 1
(.join 2
(.loop 3 [(tn 0), (.e (.cst (.agg [])))]
(.prim (.bin .lss 3 (tv 8) (tp 6 1))
(.ite (.var 10)
(.join 4
(.call 118 [(.agg [(tp 7 0), (tp 7 1)]), (.agg [(tp 6 0), (tp 6 1), (tp 6 2)]), (.agg [(tp 4 0), (tp 4 1), (tp 4 2), (tp 4 3), (tp 4 4)]), (tv 8), (.e (.cst (.int .u8 0)))]
(.ite (.var 11)
(.prim (.one (tv 8))
(.prim (.push 2 16 (.var 9) (.lit 2 1 [(tv 12), (.e (.cst (.bool false)))]))
(.jump 4 [(.e (.cst (.bool false))), (tv 13)])))
(.jump 4 [(.e (.cst (.bool false))), (tv 9)])))
(.ite (.var 11)
(.jump 1 [(.e (.cst (.bool true))), (tv 12)])
(.prim (.bin .add 3 (tv 8) (tn 1))
(.jump 3 [(tv 13), (tv 12)]))))
(.jump 2 [(tv 9)]))))
(.prim (.un .not (tp 4 4))
(.jump 1 [(tv 9), (tv 8)])))
(.ite (.var 8)
(.jump 0 [(tv 9)])
(.prim (.len 25 (tp 4 0))
(.join 2
(.loop 3 [(.e (.cst (.int .u8 0))), (tn 0)]
(.prim (.bin .lss 3 (tv 12) (tv 10))
(.ite (.var 13)
(.call 106 [(.e (.cst (.int .u8 0))), (tv 12)]
(.join 4
(.ite (.var 14)
(.prim (.len 25 (tp 4 0))
(.prim (.bin .sub 3 (tv 15) (tn 1))
(.prim (.bin .sub 3 (tv 16) (tv 12))
(.prim (.bin .shl 113 (.e (.cst (.int .u8 1))) (tv 17))
(.prim (.bin .or 113 (tv 11) (tv 18))
(.jump 4 [(tv 19)]))))))
(.jump 4 [(tv 11)]))
(.prim (.bin .add 3 (tv 12) (tn 1))
(.jump 3 [(tv 15), (tv 16)]))))
(.jump 2 [(tv 11)]))))
(.call 119 [(.agg [(tp 4 0), (tp 4 1), (tp 4 2), (tp 4 3), (tp 4 4)])]
(.prim (.agg 5 (tv 12))
(.join 3
(.loop 4 [(tn 0), (tv 9)]
(.prim (.bin .lss 3 (tv 14) (tp 6 1))
(.ite (.var 16)
(.join 5
(.call 118 [(.agg [(tp 7 0), (tp 7 1)]), (.agg [(tp 6 0), (tp 6 1), (tp 6 2)]), (.agg [(tp 13 0), (tp 13 1), (tp 13 2), (tp 13 3), (tp 13 4)]), (tv 14), (tv 11)]
(.ite (.var 17)
(.prim (.one (tv 14))
(.prim (.push 2 16 (.var 15) (.lit 2 1 [(tv 18), (.e (.cst (.bool true)))]))
(.jump 5 [(.e (.cst (.bool false))), (tv 19)])))
(.jump 5 [(.e (.cst (.bool false))), (tv 15)])))
(.ite (.var 17)
(.jump 0 [(tv 18)])
(.prim (.bin .add 3 (tv 14) (tn 1))
(.jump 4 [(tv 19), (tv 18)]))))
(.jump 3 [(tv 15)]))))
(.jump 0 [(tv 14)]))))))))
(.prim (.frz 2 .nil0 (.var 8))
(.ret (tv 9)))))))))
theorem t76_ok : compFun (x76 Try.prog) w76 76 = .ok t76 := by kernel_rfl
theorem k76 : TreeOk Try.prog 31 ⟨18, none, none⟩ ownT 76 t76 (x76 Try.prog) w76 Try.f76 := ⟨rfl, rfl, rfl, (fun g r h => by cases h), by kernel_rfl, by decide, rfl, t76_ok⟩
end Go.Proofs.Ytlminnpaeaganaa
