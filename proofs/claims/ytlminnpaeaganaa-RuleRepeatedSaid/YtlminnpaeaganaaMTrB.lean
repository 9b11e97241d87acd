/- Residual trees of functions. No condition. -/
import Derived.Test.YtlminnpaeaganaaMTrA
namespace Go.Proofs.Ytlminnpaeaganaa
open Go Go.RowKit
set_option maxRecDepth 100000
def x10 (P : Program) : Ctx := { P := P, inl := [86, 87, 99, 100, 115, 116, 117, 123], own := [], ownc := [], ownr := [], diceT := 31, diceNew := ⟨18, none, none⟩ }
def w10 : Hints := { sites := [], np := [(10, 23, 8), (87, 6, 18), (123, 3, 12)], thaw := [], skel := [(0, 29, ⟨[], [], [], [], false⟩), (0, 58, ⟨[⟨false, 4, 0, none, false⟩], [], [3, 4], [], false⟩), (0, 1865, ⟨[], [], [3, 4], [], false⟩), (0, 3730, ⟨[⟨false, 5, 0, none, false⟩], [], [5, 3, 4], [], false⟩), (0, 477476, ⟨[⟨false, 55, 0, none, false⟩], [], [55, 7, 6, 8, 5, 3, 4], [], false⟩), (0, 1909917, ⟨[], [], [3, 4, 5, 9, 6, 7, 8], [], false⟩), (0, 3819834, ⟨[⟨false, 10, 0, none, false⟩], [], [9, 7, 6, 10, 8, 5, 3, 4], [], false⟩), (0, 122234697, ⟨[], [], [9, 7, 6, 8, 5, 3, 4, 10], [], false⟩), (0, 244469394, ⟨[⟨false, 11, 0, none, false⟩], [], [9, 7, 6, 10, 8, 5, 3, 4, 11], [], false⟩), (0, 15646041232, ⟨[⟨false, 89, 0, none, false⟩], [], [89, 9, 7, 6, 10, 8, 5, 3, 4, 11], [], false⟩), (0, 62584164941, ⟨[⟨true, 3, 0, (some (1, .nil0)), false⟩], [], [9, 7, 6, 10, 8, 5, 3, 4, 11, 12], [], false⟩), (0, 125168329882, ⟨[⟨false, 13, 0, none, false⟩, ⟨true, 3, 0, (some (1, .nil0)), false⟩], [], [12, 11, 9, 7, 6, 10, 8, 5, 3, 4, 13], [], false⟩), (0, 125168329886, ⟨[⟨false, 131, 0, none, false⟩], [], [131, 9, 7, 6, 10, 8, 5, 3, 4, 11], [], false⟩), (0, 1909918, ⟨[⟨false, 153, 0, none, false⟩], [], [153, 3, 4, 5], [], false⟩)] }
def t10 : Tree := (.prim (.ints (tv 0))
(.call 38 [(.e (.cst (.ptr 0 0))), (tn 3)]
(.prim (.agg 2 (tv 2))
(.join 0
(.loop 1 [(tn 0)]
(.prim (.len 22 (tp 3 1))
(.prim (.bin .lss 3 (tv 4) (tv 5))
(.ite (.var 6)
(.join 2
(.loop 3 [(tn 0)]
(.prim (.len 22 (tp 3 1))
(.prim (.bin .lss 3 (tv 7) (tv 8))
(.ite (.var 9)
(.call 35 [(.agg [(tp 3 0), (tp 3 1)]), (tv 4), (tv 7)]
(.prim (.ext (tv 10) 0)
(.prim (.ext (tv 10) 1)
(.prim (.ext (tv 10) 2)
(.join 4
(.prim (.bin .neq 39 (tv 13) (tn 0))
(.ite (.var 14)
(.prim (.bin .neq 39 (tv 13) (tn 11))
(.ite (.var 15)
(.jump 4 [(.e (.cst (.bool true)))])
(.prim (.bin .eql 3 (tv 4) (tv 7))
(.ite (.var 16)
(.prim (.bin .eql 39 (tv 13) (tn 0))
(.jump 4 [(tv 17)]))
(.jump 4 [(.e (.cst (.bool false)))])))))
(.prim (.bin .eql 3 (tv 4) (tv 7))
(.ite (.var 15)
(.prim (.bin .eql 39 (tv 13) (tn 0))
(.jump 4 [(tv 16)]))
(.jump 4 [(.e (.cst (.bool false)))])))))
(.ite (.var 14)
(.ret (.e (.cst (.bool false))))
(.prim (.row 3 (tp 3 1) (tv 4))
(.join 5
(.loop 6 [(tn 0)]
(.prim (.bin .leq 3 (tv 16) (tn 5))
(.ite (.var 17)
(.join 7
(.loop 8 [(tn 0)]
(.prim (.bin .add 3 (tv 18) (tv 16))
(.prim (.bin .lss 3 (tv 19) (tp 15 1))
(.ite (.var 20)
(.join 9
(.prim (.bin .eql 39 (tv 13) (tn 0))
(.ite (.var 21)
(.prim (.bin .gtr 3 (tv 16) (tv 11))
(.ite (.var 22)
(.jump 9 [(.e (.cst (.bool true)))])
(.prim (.bin .eql 3 (tv 16) (tv 11))
(.ite (.var 23)
(.prim (.bin .gtr 3 (tv 18) (tv 12))
(.jump 9 [(tv 24)]))
(.jump 9 [(.e (.cst (.bool false)))])))))
(.jump 9 [(.e (.cst (.bool false)))])))
(.ite (.var 21)
(.prim (.bin .add 3 (tv 18) (tn 1))
(.jump 8 [(tv 22)]))
(.join 10
(.loop 11 [(tn 0), (.e (.cst (.agg [])))]
(.prim (.bin .lss 3 (tv 22) (tv 16))
(.ite (.var 24)
(.prim (.bin .add 3 (tv 18) (tv 22))
(.call 51 [(.agg [(tp 15 0), (tp 15 1), (tp 15 2)]), (tv 25)]
(.prim (.one (tv 26))
(.prim (.push 1 8 (.var 23) (.lit 1 1 [(tv 27)]))
(.prim (.bin .add 3 (tv 22) (tn 1))
(.jump 11 [(tv 29), (tv 28)]))))))
(.jump 10 [(tv 23)]))))
(.prim (.frz 1 .nil0 (.var 22))
(.call 31 [(.agg [(tp 3 0), (tp 3 1)]), (tv 7), (.agg [(tv 23), (tn 0), (tn 0), (tn 0), (.e (.cst (.bool false)))])]
(.prim (.ext (tv 24) 0)
(.prim (.ext (tv 24) 1)
(.join 11
(.prim (.bin .neq 39 (tv 26) (tn 0))
(.ite (.var 27)
(.jump 11 [(.e (.cst (.bool true)))])
(.prim (.len 45 (tv 25))
(.prim (.bin .eql 3 (tv 28) (tn 0))
(.prim (.bin .eql 39 (tv 13) (tn 0))
(.ite (.var 30)
(.prim (.bin .eql 3 (tv 16) (tv 11))
(.ite (.var 31)
(.prim (.bin .eql 3 (tv 18) (tv 12))
(.prim (.bin .neq 4 (tv 29) (tv 32))
(.jump 11 [(tv 33)])))
(.prim (.bin .neq 4 (tv 29) (.e (.cst (.bool false))))
(.jump 11 [(tv 32)]))))
(.prim (.bin .neq 4 (tv 29) (.e (.cst (.bool false))))
(.jump 11 [(tv 31)]))))))))
(.ite (.var 27)
(.ret (.e (.cst (.bool false))))
(.prim (.bin .add 3 (tv 18) (tn 1))
(.jump 8 [(tv 28)])))))))))))
(.jump 7 [])))))
(.prim (.bin .add 3 (tv 16) (tn 1))
(.jump 6 [(tv 18)])))
(.jump 5 []))))
(.join 6
(.prim (.bin .eql 39 (tv 13) (tn 0))
(.ite (.var 16)
(.prim (.bin .lss 3 (tv 11) (tn 0))
(.ite (.var 17)
(.jump 6 [(.e (.cst (.bool true)))])
(.prim (.bin .gtr 3 (tv 11) (tn 5))
(.ite (.var 18)
(.jump 6 [(.e (.cst (.bool true)))])
(.prim (.bin .lss 3 (tv 12) (tn 0))
(.ite (.var 19)
(.jump 6 [(.e (.cst (.bool true)))])
(.prim (.bin .add 3 (tv 12) (tv 11))
(.prim (.bin .geq 3 (tv 20) (tp 15 1))
(.jump 6 [(tv 21)])))))))))
(.jump 6 [(.e (.cst (.bool false)))])))
(.ite (.var 16)
(.ret (.e (.cst (.bool false))))
(.prim (.bin .add 3 (tv 7) (tn 1))
(.jump 3 [(tv 17)]))))))))))))
(.jump 2 [])))))
(.prim (.bin .add 3 (tv 4) (tn 1))
(.jump 1 [(tv 7)])))
(.jump 0 [])))))
(.call 17 []
(.ret (tv 4)))))))
theorem t10_ok : compFun (x10 Try.prog) w10 10 = .ok t10 := by kernel_rfl
theorem k10 : TreeOk Try.prog 31 ⟨18, none, none⟩ ownT 10 t10 (x10 Try.prog) w10 Try.f10 := ⟨rfl, rfl, rfl, (fun g r h => by cases h), by kernel_rfl, by decide, rfl, t10_ok⟩
def x12 (P : Program) : Ctx := { P := P, inl := [86, 87, 99, 100, 115, 116, 117, 123], own := [], ownc := [], ownr := [], diceT := 31, diceNew := ⟨18, none, none⟩ }
def w12 : Hints := { sites := [], np := [(12, 6, 25), (12, 10, 12), (12, 11, 11), (12, 12, 17), (12, 13, 11), (12, 14, 17), (12, 15, 32), (87, 6, 18), (123, 3, 12)], thaw := [], skel := [(0, 509, ⟨[], [], [], [], false⟩), (0, 1018, ⟨[⟨false, 14, 0, none, false⟩], [], [12, 10, 13, 14], [], false⟩), (0, 1042750, ⟨[⟨false, 166, 0, none, false⟩], [], [166, 12, 10, 13, 14], [], false⟩)] }
def t12 : Tree := (.prim (.agg 2 (tv 0))
(.prim (.agg 5 (tv 1))
(.call 16 [(.agg [(tp 4 0), (tp 4 1)]), (.lit 5 1 [(tp 5 0), (tp 5 1), (tp 5 2), (tp 5 3), (tp 5 4)])]
(.ite (.var 6)
(.call 17 []
(.ret (tv 7)))
(.prim (.ints (tv 3))
(.call 19 [(.agg [(tp 4 0), (tp 4 1)]), (.e (.cst (.ptr 0 0)))]
(.prim (.row 2 (tv 8) (tn 1))
(.call 20 [(.e (.cst (.ptr 0 0))), (.agg [(tp 9 0), (tp 9 1)])]
(.prim (.agg 5 (tv 10))
(.prim (.row 2 (tv 8) (tn 1))
(.prim (.len 22 (tp 12 1))
(.prim (.bin .sub 3 (tv 13) (tn 1))
(.call 21 [(.e (.cst (.ptr 0 0))), (tv 14)]
(.prim (.row 2 (tv 8) (tn 1))
(.prim (.len 22 (tp 16 1))
(.prim (.bin .sub 3 (tv 17) (tn 1))
(.call 21 [(.e (.cst (.ptr 0 0))), (tv 18)]
(.prim (.one (tv 2))
(.prim (.one (tv 15))
(.prim (.one (tv 19))
(.prim (.one (tv 2))
(.join 0
(.loop 1 [(tn 0)]
(.prim (.len 33 (tv 8))
(.prim (.bin .lss 3 (tv 24) (tv 25))
(.ite (.var 26)
(.prim (.row 2 (tv 8) (tv 24))
(.call 22 [(.agg [(tp 27 0), (tp 27 1)])]
(.prim (.row 5 (.lit 5 4 [(tp 5 0), (tp 5 1), (tp 5 2), (tp 5 3), (tp 5 4), (tp 11 0), (tp 11 1), (tp 11 2), (tp 11 3), (tp 11 4), (tp 11 0), (tp 11 1), (tp 11 2), (tp 11 3), (tp 11 4), (tp 5 0), (tp 5 1), (tp 5 2), (tp 5 3), (tp 5 4)]) (tv 24))
(.call 23 [(.agg [(tp 29 0), (tp 29 1), (tp 29 2), (tp 29 3), (tp 29 4)])]
(.prim (.agg 2 (tv 28))
(.prim (.agg 5 (tv 30))
(.prim (.row 1 (.lit 1 4 [(tv 20), (tv 21), (tv 22), (tv 23)]) (tv 24))
(.call 48 [(.agg [(tp 31 0), (tp 31 1)]), (tp 33 0), (.agg [(tp 32 0), (tp 32 1), (tp 32 2), (tp 32 3), (tp 32 4)])]
(.prim (.ext (tv 34) 0)
(.prim (.ext (tv 34) 1)
(.prim (.row 2 (tv 8) (tv 24))
(.prim (.row 1 (.lit 1 4 [(tv 20), (tv 21), (tv 22), (tv 23)]) (tv 24))
(.prim (.row 5 (.lit 5 4 [(tp 5 0), (tp 5 1), (tp 5 2), (tp 5 3), (tp 5 4), (tp 11 0), (tp 11 1), (tp 11 2), (tp 11 3), (tp 11 4), (tp 11 0), (tp 11 1), (tp 11 2), (tp 11 3), (tp 11 4), (tp 5 0), (tp 5 1), (tp 5 2), (tp 5 3), (tp 5 4)]) (tv 24))
(.call 52 [(.agg [(tp 37 0), (tp 37 1)]), (tp 38 0), (.agg [(tp 39 0), (tp 39 1), (tp 39 2), (tp 39 3), (tp 39 4)])]
(.prim (.ext (tv 40) 0)
(.prim (.ext (tv 40) 1)
(.prim (.row 1 (.lit 1 4 [(tv 20), (tv 21), (tv 22), (tv 23)]) (tv 24))
(.call 53 [(.agg [(tp 31 0), (tp 31 1)]), (tp 43 0), (.agg [(tp 32 0), (tp 32 1), (tp 32 2), (tp 32 3), (tp 32 4)])]
(.prim (.ext (tv 44) 0)
(.prim (.ext (tv 44) 1)
(.prim (.row 2 (tv 8) (tv 24))
(.prim (.row 1 (.lit 1 4 [(tv 20), (tv 21), (tv 22), (tv 23)]) (tv 24))
(.prim (.row 5 (.lit 5 4 [(tp 5 0), (tp 5 1), (tp 5 2), (tp 5 3), (tp 5 4), (tp 11 0), (tp 11 1), (tp 11 2), (tp 11 3), (tp 11 4), (tp 11 0), (tp 11 1), (tp 11 2), (tp 11 3), (tp 11 4), (tp 5 0), (tp 5 1), (tp 5 2), (tp 5 3), (tp 5 4)]) (tv 24))
(.call 54 [(.agg [(tp 47 0), (tp 47 1)]), (tp 48 0), (.agg [(tp 49 0), (tp 49 1), (tp 49 2), (tp 49 3), (tp 49 4)])]
(.prim (.ext (tv 50) 0)
(.prim (.ext (tv 50) 1)
(.join 2
(.prim (.bin .neq 39 (tv 36) (tv 42))
(.ite (.var 53)
(.jump 2 [(.e (.cst (.bool true)))])
(.prim (.bin .neq 39 (tv 46) (tv 52))
(.ite (.var 54)
(.jump 2 [(.e (.cst (.bool true)))])
(.prim (.bin .neq 3 (tv 45) (tv 51))
(.ite (.var 55)
(.jump 2 [(.e (.cst (.bool true)))])
(.call 30 [(tv 35), (tv 41)]
(.prim (.un .not (tv 56))
(.ite (.var 57)
(.jump 2 [(.e (.cst (.bool true)))])
(.prim (.row 2 (tv 8) (tv 24))
(.prim (.row 5 (.lit 5 4 [(tp 5 0), (tp 5 1), (tp 5 2), (tp 5 3), (tp 5 4), (tp 11 0), (tp 11 1), (tp 11 2), (tp 11 3), (tp 11 4), (tp 11 0), (tp 11 1), (tp 11 2), (tp 11 3), (tp 11 4), (tp 5 0), (tp 5 1), (tp 5 2), (tp 5 3), (tp 5 4)]) (tv 24))
(.call 34 [(.agg [(tp 58 0), (tp 58 1)]), (.agg [(tp 31 0), (tp 31 1)]), (.lit 5 1 [(tp 59 0), (tp 59 1), (tp 59 2), (tp 59 3), (tp 59 4)]), (.lit 5 1 [(tp 32 0), (tp 32 1), (tp 32 2), (tp 32 3), (tp 32 4)])]
(.prim (.un .not (tv 60))
(.jump 2 [(tv 61)]))))))))))))))
(.ite (.var 53)
(.ret (.e (.cst (.bool false))))
(.prim (.bin .add 3 (tv 24) (tn 1))
(.jump 1 [(tv 54)]))))))))))))))))))))))))))))))
(.jump 0 [])))))
(.call 17 []
(.ret (tv 24)))))))))))))))))))))))))
theorem t12_ok : compFun (x12 Try.prog) w12 12 = .ok t12 := by kernel_rfl
theorem k12 : TreeOk Try.prog 31 ⟨18, none, none⟩ ownT 12 t12 (x12 Try.prog) w12 Try.f12 := ⟨rfl, rfl, rfl, (fun g r h => by cases h), by kernel_rfl, by decide, rfl, t12_ok⟩
def x13 (P : Program) : Ctx := { P := P, inl := [86, 87, 99, 100, 115, 116, 117, 123], own := [], ownc := [], ownr := [], diceT := 31, diceNew := ⟨18, none, none⟩ }
def w13 : Hints := { sites := [], np := [(87, 6, 18), (123, 3, 12)], thaw := [], skel := [(0, 125, ⟨[], [], [], [], false⟩), (0, 250, ⟨[⟨false, 6, 0, none, false⟩], [], [5, 6, 4], [], false⟩), (0, 32036, ⟨[⟨false, 41, 0, none, false⟩], [], [41, 7, 8, 5, 6, 4], [], false⟩), (0, 64079, ⟨[], [], [5, 4, 6], [], false⟩), (0, 128158, ⟨[⟨false, 9, 0, none, false⟩, ⟨false, 10, 0, none, false⟩], [], [9, 7, 8, 5, 6, 4, 10], [], false⟩), (0, 65617052, ⟨[⟨false, 71, 0, none, false⟩], [], [71, 9, 12, 7, 8, 5, 6, 4, 10], [], false⟩), (0, 131234109, ⟨[], [], [7, 8, 5, 6, 4, 10, 12], [], false⟩), (0, 262468218, ⟨[⟨false, 14, 0, none, false⟩], [], [9, 12, 7, 8, 5, 6, 4, 10, 14], [], false⟩)] }
def t13 : Tree := (.prim (.ints (tv 0))
(.call 38 [(.e (.cst (.ptr 0 0))), (tn 2)]
(.prim (.agg 2 (tv 2))
(.call 20 [(.e (.cst (.ptr 0 0))), (.agg [(tp 3 0), (tp 3 1)])]
(.prim (.agg 5 (tv 4))
(.join 0
(.loop 1 [(tn 0)]
(.prim (.len 22 (tp 3 1))
(.prim (.bin .lss 3 (tv 6) (tv 7))
(.ite (.var 8)
(.call 53 [(.agg [(tp 3 0), (tp 3 1)]), (tv 6), (.agg [(tp 5 0), (tp 5 1), (tp 5 2), (tp 5 3), (tp 5 4)])]
(.prim (.ext (tv 9) 0)
(.prim (.ext (tv 9) 1)
(.join 2
(.prim (.bin .neq 39 (tv 11) (tn 0))
(.ite (.var 12)
(.prim (.bin .neq 39 (tv 11) (tn 11))
(.jump 2 [(tv 13)]))
(.jump 2 [(.e (.cst (.bool false)))])))
(.ite (.var 12)
(.ret (.e (.cst (.bool false))))
(.join 3
(.loop 4 [(.e (.cst .snil)), (tn 0)]
(.prim (.bin .leq 3 (tv 14) (tn 3))
(.ite (.var 15)
(.call 22 [(.agg [(tp 3 0), (tp 3 1)])]
(.prim (.agg 2 (tv 16))
(.prim (.one (tv 14))
(.call 31 [(.agg [(tv 18), (tp 17 1)]), (tv 6), (.agg [(tp 5 0), (tp 5 1), (tp 5 2), (tp 5 3), (tp 5 4)])]
(.prim (.ext (tv 19) 0)
(.prim (.ext (tv 19) 1)
(.join 5
(.prim (.bin .neq 39 (tv 21) (tn 0))
(.ite (.var 22)
(.jump 5 [(.e (.cst (.bool true)))])
(.prim (.len 45 (tv 20))
(.prim (.bin .gtr 3 (tv 23) (tn 0))
(.prim (.bin .eql 39 (tv 11) (tn 0))
(.ite (.var 25)
(.prim (.bin .geq 3 (tv 14) (tv 10))
(.prim (.bin .neq 4 (tv 24) (tv 26))
(.jump 5 [(tv 27)])))
(.prim (.bin .neq 4 (tv 24) (.e (.cst (.bool false))))
(.jump 5 [(tv 26)]))))))))
(.ite (.var 22)
(.ret (.e (.cst (.bool false))))
(.join 6
(.loop 7 [(tn 0)]
(.prim (.len 45 (tv 13))
(.prim (.bin .lss 3 (tv 23) (tv 24))
(.ite (.var 25)
(.prim (.row 2 (tv 13) (tv 23))
(.call 43 [(tv 20), (.agg [(tp 26 0), (tp 26 1)])]
(.prim (.un .not (tv 27))
(.ite (.var 28)
(.ret (.e (.cst (.bool false))))
(.prim (.bin .add 3 (tv 23) (tn 1))
(.jump 7 [(tv 29)]))))))
(.jump 6 [])))))
(.prim (.bin .add 3 (tv 14) (tn 1))
(.jump 4 [(tv 20), (tv 23)])))))))))))
(.jump 3 []))))
(.prim (.bin .add 3 (tv 6) (tn 1))
(.jump 1 [(tv 13)]))))))))
(.jump 0 [])))))
(.call 17 []
(.ret (tv 6)))))))))
theorem t13_ok : compFun (x13 Try.prog) w13 13 = .ok t13 := by kernel_rfl
theorem k13 : TreeOk Try.prog 31 ⟨18, none, none⟩ ownT 13 t13 (x13 Try.prog) w13 Try.f13 := ⟨rfl, rfl, rfl, (fun g r h => by cases h), by kernel_rfl, by decide, rfl, t13_ok⟩
def x14 (P : Program) : Ctx := { P := P, inl := [86, 87, 99, 100, 115, 116, 117, 123, 56], own := [], ownc := [], ownr := [], diceT := 31, diceNew := ⟨18, none, none⟩ }
def w14 : Hints := { sites := [7002], np := [(14, 14, 11), (14, 15, 11), (14, 16, 17), (14, 19, 15), (14, 20, 21), (14, 21, 24), (87, 6, 18), (123, 3, 12)], thaw := [], skel := [(0, 12, ⟨[⟨false, 32, 0, none, false⟩], [], [32, 3, 2, 1, 5, 4], [], false⟩), (0, 4093, ⟨[], [], [], [], false⟩), (0, 8186, ⟨[⟨false, 19, 0, none, false⟩], [], [17, 12, 18, 16, 19], [], false⟩), (0, 4191388, ⟨[⟨false, 136, 0, none, false⟩], [], [136, 17, 12, 18, 16, 19, 21, 20], [], false⟩), (0, 16765566, ⟨[⟨false, 197, 0, none, false⟩], [], [197, 17, 12, 18, 16, 19], [], false⟩), (7002, 29, ⟨[], [0], [3], [], false⟩), (7002, 58, ⟨[⟨false, 4, 0, none, false⟩], [0], [0, 3, 4], [], false⟩)] }
def t14 : Tree := (.prim (.agg 2 (tv 0))
(.join 0
(.call 16 [(.agg [(tp 5 0), (tp 5 1)]), (.e (.cst .snil))]
(.ite (.var 6)
(.jump 0 [(.e (.cst (.bool true)))])
(.prim (.len 25 (tv 2))
(.prim (.bin .gtr 3 (tv 7) (tn 40))
(.jump 0 [(tv 8)])))))
(.ite (.var 6)
(.call 17 []
(.ret (tv 7)))
(.prim (.ints (tv 4))
(.call 19 [(.agg [(tp 5 0), (tp 5 1)]), (.e (.cst (.ptr 0 0)))]
(.prim (.row 2 (tv 8) (tn 1))
(.prim (.len 22 (tp 9 1))
(.prim (.bin .sub 3 (tv 10) (tn 1))
(.call 21 [(.e (.cst (.ptr 0 0))), (tv 11)]
(.prim (.row 2 (tv 8) (tn 1))
(.call 55 [(.e (.cst (.ptr 0 0))), (.agg [(tp 13 0), (tp 13 1)]), (tv 12)]
(.prim (.len 25 (tv 14))
(.prim (.mk [(.int .i64 0)] 8 (tv 15))
(.join 1
(.loop 2 [(tn 0), (tv 16)]
(.prim (.len 25 (tv 14))
(.prim (.bin .lss 3 (tv 17) (tv 19))
(.ite (.var 20)
(.prim (.row 1 (tv 14) (tv 17))
(.prim (.chk 1 (.var 18) (tv 17))
(.prim (.put 1 0 (.var 18) (.var 22) [(tp 21 0)])
(.prim (.bin .add 3 (tv 17) (tn 1))
(.jump 2 [(tv 24), (tv 23)])))))
(.jump 1 [(tv 18)])))))
(.prim (.len 25 (tv 2))
(.prim (.bin .gtr 3 (tv 18) (tn 0))
(.ite (.var 19)
(.prim (.row 1 (tv 2) (tn 0))
(.prim (.push 1 8 (.var 17) (.lit 1 1 [(tp 20 0)]))
(.prim (.one (tv 1))
(.prim (.one (tv 12))
(.prim (.one (tv 12))
(.prim (.one (tv 12))
(.prim (.frz 1 .real (.var 21))
(.prim (.one (tv 2))
(.prim (.one (tv 14))
(.prim (.one (tv 14))
(.prim (.len 25 (tv 14))
(.call 21 [(.e (.cst (.ptr 0 0))), (tv 30)]
(.prim (.len 25 (tv 14))
(.prim (.bin .sub 3 (tv 32) (tn 1))
(.call 21 [(.e (.cst (.ptr 0 0))), (tv 33)]
(.prim (.one (tv 3))
(.prim (.one (tv 31))
(.prim (.one (tv 34))
(.prim (.one (tv 3))
(.join 2
(.loop 3 [(tn 0)]
(.prim (.len 33 (tv 8))
(.prim (.bin .lss 3 (tv 39) (tv 40))
(.ite (.var 41)
(.prim (.row 2 (tv 8) (tv 39))
(.call 22 [(.agg [(tp 42 0), (tp 42 1)])]
(.prim (.row 1 (.lit 1 4 [(tv 27), (tv 28), (tv 29), (tv 26)]) (tv 39))
(.call 56 [(tp 44 0)]
(.prim (.agg 2 (tv 43))
(.prim (.row 1 (.lit 1 4 [(tv 22), (tv 23), (tv 24), (tv 25)]) (tv 39))
(.call 57 [(.agg [(tp 46 0), (tp 46 1)]), (tp 47 0), (tv 45)]
(.prim (.ext (tv 48) 0)
(.prim (.ext (tv 48) 1)
(.prim (.row 2 (tv 8) (tv 39))
(.prim (.row 1 (.lit 1 4 [(tv 22), (tv 23), (tv 24), (tv 25)]) (tv 39))
(.prim (.row 1 (.lit 1 4 [(tv 27), (tv 28), (tv 29), (tv 26)]) (tv 39))
(.call 58 [(.agg [(tp 51 0), (tp 51 1)]), (tp 52 0), (tp 53 0)]
(.prim (.ext (tv 54) 0)
(.prim (.ext (tv 54) 1)
(.join 4
(.prim (.bin .neq 39 (tv 50) (tv 56))
(.ite (.var 57)
(.jump 4 [(.e (.cst (.bool true)))])
(.call 30 [(tv 49), (tv 55)]
(.prim (.un .not (tv 58))
(.jump 4 [(tv 59)])))))
(.ite (.var 57)
(.ret (.e (.cst (.bool false))))
(.prim (.row 1 (.lit 1 4 [(tv 22), (tv 23), (tv 24), (tv 25)]) (tv 39))
(.prim (.row 1 (.lit 1 4 [(tv 35), (tv 36), (tv 37), (tv 38)]) (tv 39))
(.call 59 [(.agg [(tp 46 0), (tp 46 1)]), (tp 58 0), (tv 45), (tp 59 0)]
(.prim (.ext (tv 60) 0)
(.prim (.ext (tv 60) 1)
(.prim (.row 2 (tv 8) (tv 39))
(.prim (.row 1 (.lit 1 4 [(tv 22), (tv 23), (tv 24), (tv 25)]) (tv 39))
(.prim (.row 1 (.lit 1 4 [(tv 27), (tv 28), (tv 29), (tv 26)]) (tv 39))
(.prim (.row 1 (.lit 1 4 [(tv 35), (tv 36), (tv 37), (tv 38)]) (tv 39))
(.call 60 [(.agg [(tp 63 0), (tp 63 1)]), (tp 64 0), (tp 65 0), (tp 66 0)]
(.prim (.ext (tv 67) 0)
(.prim (.ext (tv 67) 1)
(.join 5
(.prim (.bin .neq 39 (tv 62) (tv 69))
(.ite (.var 70)
(.jump 5 [(.e (.cst (.bool true)))])
(.call 30 [(tv 61), (tv 68)]
(.prim (.un .not (tv 71))
(.ite (.var 72)
(.jump 5 [(.e (.cst (.bool true)))])
(.prim (.row 2 (tv 8) (tv 39))
(.call 37 [(.agg [(tp 46 0), (tp 46 1)]), (.agg [(tp 73 0), (tp 73 1)])]
(.prim (.un .not (tv 74))
(.ite (.var 75)
(.jump 5 [(.e (.cst (.bool true)))])
(.prim (.row 1 (.lit 1 4 [(tv 27), (tv 28), (tv 29), (tv 26)]) (tv 39))
(.call 30 [(tv 45), (tp 76 0)]
(.prim (.un .not (tv 77))
(.jump 5 [(tv 78)])))))))))))))
(.ite (.var 70)
(.ret (.e (.cst (.bool false))))
(.prim (.bin .add 3 (tv 39) (tn 1))
(.jump 3 [(tv 71)])))))))))))))))))))))))))))))))))
(.jump 2 [])))))
(.call 17 []
(.ret (tv 39)))))))))))))))))))))))
(.prim (.one (tv 1))
(.prim (.one (tv 12))
(.prim (.one (tv 12))
(.prim (.one (tv 12))
(.prim (.frz 1 .real (.var 17))
(.prim (.one (tv 2))
(.prim (.one (tv 14))
(.prim (.one (tv 14))
(.prim (.len 25 (tv 14))
(.call 21 [(.e (.cst (.ptr 0 0))), (tv 28)]
(.prim (.len 25 (tv 14))
(.prim (.bin .sub 3 (tv 30) (tn 1))
(.call 21 [(.e (.cst (.ptr 0 0))), (tv 31)]
(.prim (.one (tv 3))
(.prim (.one (tv 29))
(.prim (.one (tv 32))
(.prim (.one (tv 3))
(.join 2
(.loop 3 [(tn 0)]
(.prim (.len 33 (tv 8))
(.prim (.bin .lss 3 (tv 37) (tv 38))
(.ite (.var 39)
(.prim (.row 2 (tv 8) (tv 37))
(.call 22 [(.agg [(tp 40 0), (tp 40 1)])]
(.prim (.row 1 (.lit 1 4 [(tv 25), (tv 26), (tv 27), (tv 24)]) (tv 37))
(.call 56 [(tp 42 0)]
(.prim (.agg 2 (tv 41))
(.prim (.row 1 (.lit 1 4 [(tv 20), (tv 21), (tv 22), (tv 23)]) (tv 37))
(.call 57 [(.agg [(tp 44 0), (tp 44 1)]), (tp 45 0), (tv 43)]
(.prim (.ext (tv 46) 0)
(.prim (.ext (tv 46) 1)
(.prim (.row 2 (tv 8) (tv 37))
(.prim (.row 1 (.lit 1 4 [(tv 20), (tv 21), (tv 22), (tv 23)]) (tv 37))
(.prim (.row 1 (.lit 1 4 [(tv 25), (tv 26), (tv 27), (tv 24)]) (tv 37))
(.call 58 [(.agg [(tp 49 0), (tp 49 1)]), (tp 50 0), (tp 51 0)]
(.prim (.ext (tv 52) 0)
(.prim (.ext (tv 52) 1)
(.join 4
(.prim (.bin .neq 39 (tv 48) (tv 54))
(.ite (.var 55)
(.jump 4 [(.e (.cst (.bool true)))])
(.call 30 [(tv 47), (tv 53)]
(.prim (.un .not (tv 56))
(.jump 4 [(tv 57)])))))
(.ite (.var 55)
(.ret (.e (.cst (.bool false))))
(.prim (.row 1 (.lit 1 4 [(tv 20), (tv 21), (tv 22), (tv 23)]) (tv 37))
(.prim (.row 1 (.lit 1 4 [(tv 33), (tv 34), (tv 35), (tv 36)]) (tv 37))
(.call 59 [(.agg [(tp 44 0), (tp 44 1)]), (tp 56 0), (tv 43), (tp 57 0)]
(.prim (.ext (tv 58) 0)
(.prim (.ext (tv 58) 1)
(.prim (.row 2 (tv 8) (tv 37))
(.prim (.row 1 (.lit 1 4 [(tv 20), (tv 21), (tv 22), (tv 23)]) (tv 37))
(.prim (.row 1 (.lit 1 4 [(tv 25), (tv 26), (tv 27), (tv 24)]) (tv 37))
(.prim (.row 1 (.lit 1 4 [(tv 33), (tv 34), (tv 35), (tv 36)]) (tv 37))
(.call 60 [(.agg [(tp 61 0), (tp 61 1)]), (tp 62 0), (tp 63 0), (tp 64 0)]
(.prim (.ext (tv 65) 0)
(.prim (.ext (tv 65) 1)
(.join 5
(.prim (.bin .neq 39 (tv 60) (tv 67))
(.ite (.var 68)
(.jump 5 [(.e (.cst (.bool true)))])
(.call 30 [(tv 59), (tv 66)]
(.prim (.un .not (tv 69))
(.ite (.var 70)
(.jump 5 [(.e (.cst (.bool true)))])
(.prim (.row 2 (tv 8) (tv 37))
(.call 37 [(.agg [(tp 44 0), (tp 44 1)]), (.agg [(tp 71 0), (tp 71 1)])]
(.prim (.un .not (tv 72))
(.ite (.var 73)
(.jump 5 [(.e (.cst (.bool true)))])
(.prim (.row 1 (.lit 1 4 [(tv 25), (tv 26), (tv 27), (tv 24)]) (tv 37))
(.call 30 [(tv 43), (tp 74 0)]
(.prim (.un .not (tv 75))
(.jump 5 [(tv 76)])))))))))))))
(.ite (.var 68)
(.ret (.e (.cst (.bool false))))
(.prim (.bin .add 3 (tv 37) (tn 1))
(.jump 3 [(tv 69)])))))))))))))))))))))))))))))))))
(.jump 2 [])))))
(.call 17 []
(.ret (tv 37))))))))))))))))))))))))))))))))))))))
theorem t14_ok : compFun (x14 Try.prog) w14 14 = .ok t14 := by kernel_rfl
theorem k14 : TreeOk Try.prog 31 ⟨18, none, none⟩ ownT 14 t14 (x14 Try.prog) w14 Try.f14 := ⟨rfl, rfl, rfl, (fun g r h => by cases h), by kernel_rfl, by decide, rfl, t14_ok⟩
def x15 (P : Program) : Ctx := { P := P, inl := [86, 87, 99, 100, 115, 116, 117, 123, 56], own := [], ownc := [], ownr := [], diceT := 31, diceNew := ⟨18, none, none⟩ }
def w15 : Hints := { sites := [14002], np := [(87, 6, 18), (123, 3, 12)], thaw := [], skel := [(0, 252, ⟨[⟨false, 47, 0, none, false⟩], [], [47, 5, 4, 3, 6], [], false⟩), (0, 1020, ⟨[⟨false, 67, 0, none, false⟩], [], [67, 5, 4, 3], [], false⟩), (0, 524245, ⟨[⟨false, 11, 0, none, false⟩], [], [8, 5, 4, 9, 3, 11, 10], [], false⟩), (0, 131069, ⟨[⟨false, 12, 0, none, false⟩], [], [8, 12], [], false⟩), (0, 262138, ⟨[⟨false, 10, 0, none, true⟩, ⟨false, 12, 0, none, false⟩, ⟨false, 13, 0, none, false⟩], [], [8, 10, 5, 4, 9, 13, 12], [], false⟩), (0, 67107404, ⟨[⟨false, 130, 0, none, false⟩], [], [130, 16, 14, 8, 10, 5, 4, 9, 13, 12], [], false⟩), (0, 134214813, ⟨[], [], [8, 10, 5, 4, 9, 13, 12, 14], [], false⟩), (0, 268429626, ⟨[⟨false, 18, 0, none, false⟩], [], [16, 14, 8, 10, 5, 4, 9, 13, 12, 18], [], false⟩), (0, 134214815, ⟨[⟨false, 12, 0, none, false⟩], [], [8, 10, 5, 4, 9, 12, 13], [], false⟩), (0, 1073718520, ⟨[⟨false, 158, 0, none, false⟩], [], [158, 8, 10, 5, 4, 9, 13, 12], [], false⟩), (0, 131070, ⟨[⟨false, 2, 0, none, false⟩], [], [2], [], false⟩), (14002, 29, ⟨[], [0], [3], [], false⟩), (14002, 58, ⟨[⟨false, 4, 0, none, false⟩], [0], [0, 3, 4], [], false⟩)] }
def t15 : Tree := (.prim (.ints (tv 0))
(.call 38 [(.e (.cst (.ptr 0 0))), (tn 2)]
(.prim (.agg 2 (tv 2))
(.prim (.len 22 (tp 3 1))
(.prim (.bin .sub 3 (tv 4) (tn 1))
(.call 21 [(.e (.cst (.ptr 0 0))), (tv 5)]
(.call 24 [(.agg [(tp 3 0), (tp 3 1)]), (tv 6)]
(.prim (.ext (tv 7) 0)
(.prim (.ext (tv 7) 1)
(.join 0
(.prim (.bin .neq 39 (tv 9) (tn 0))
(.ite (.var 10)
(.jump 0 [(.e (.cst (.bool true)))])
(.prim (.len 25 (tv 8))
(.prim (.row 3 (tp 3 1) (tv 6))
(.prim (.bin .neq 3 (tv 11) (tp 12 1))
(.jump 0 [(tv 13)]))))))
(.ite (.var 10)
(.ret (.e (.cst (.bool false))))
(.call 57 [(.agg [(tp 3 0), (tp 3 1)]), (tv 6), (tv 8)]
(.prim (.ext (tv 11) 0)
(.prim (.ext (tv 11) 1)
(.join 1
(.prim (.bin .neq 39 (tv 13) (tn 0))
(.ite (.var 14)
(.jump 1 [(.e (.cst (.bool true)))])
(.prim (.len 25 (tv 12))
(.prim (.bin .eql 3 (tv 15) (tn 0))
(.ite (.var 16)
(.jump 1 [(.e (.cst (.bool true)))])
(.prim (.row 1 (tv 12) (tn 0))
(.prim (.bin .neq 3 (tp 17 0) (tn 0))
(.jump 1 [(tv 18)]))))))))
(.ite (.var 14)
(.ret (.e (.cst (.bool false))))
(.call 55 [(.e (.cst (.ptr 0 0))), (.agg [(tp 3 0), (tp 3 1)]), (tv 6)]
(.call 57 [(.agg [(tp 3 0), (tp 3 1)]), (tv 6), (tv 15)]
(.prim (.ext (tv 16) 0)
(.prim (.ext (tv 16) 1)
(.prim (.bin .neq 39 (tv 18) (tn 0))
(.ite (.var 19)
(.ret (.e (.cst (.bool false))))
(.prim (.len 25 (tv 15))
(.prim (.mk [(.int .i64 0)] 8 (tv 20))
(.join 2
(.loop 3 [(tn 0), (tv 21)]
(.prim (.len 25 (tv 15))
(.prim (.bin .lss 3 (tv 22) (tv 24))
(.ite (.var 25)
(.prim (.row 1 (tv 15) (tv 22))
(.prim (.chk 1 (.var 23) (tv 22))
(.prim (.put 1 0 (.var 23) (.var 27) [(tp 26 0)])
(.prim (.bin .add 3 (tv 22) (tn 1))
(.jump 3 [(tv 29), (tv 28)])))))
(.jump 2 [(tv 23)])))))
(.prim (.lenc 1 (.var 22))
(.prim (.bin .lss 3 (tv 23) (tn 16))
(.ite (.var 24)
(.prim (.lenc 1 (.var 22))
(.prim (.bin .gtr 3 (tv 25) (tn 0))
(.join 3
(.ite (.var 26)
(.prim (.lenc 1 (.var 22))
(.prim (.bin .sub 3 (tv 27) (tn 1))
(.prim (.chk 1 (.var 22) (tv 28))
(.prim (.get 1 0 1 (.var 22) (.var 29))
(.prim (.bin .add 3 (tp 30 0) (tn 1))
(.jump 3 [(tv 31)]))))))
(.jump 3 [(tn 0)]))
(.call 21 [(.e (.cst (.ptr 0 0))), (tn 9)]
(.prim (.bin .add 3 (tv 27) (tv 28))
(.prim (.push 1 8 (.var 22) (.lit 1 1 [(tv 29)]))
(.join 4
(.prim (.frz 1 .real (.var 30))
(.loop 5 [(tv 31), (tn 0), (tn 0)]
(.prim (.len 25 (tv 15))
(.prim (.bin .lss 3 (tv 34) (tv 35))
(.ite (.var 36)
(.call 59 [(.agg [(tp 3 0), (tp 3 1)]), (tv 6), (tv 15), (tv 34)]
(.prim (.ext (tv 37) 0)
(.prim (.ext (tv 37) 1)
(.call 59 [(.agg [(tp 3 0), (tp 3 1)]), (tv 6), (tv 32), (tv 34)]
(.prim (.ext (tv 40) 0)
(.prim (.ext (tv 40) 1)
(.join 6
(.prim (.bin .neq 39 (tv 39) (tn 0))
(.ite (.var 43)
(.jump 6 [(.e (.cst (.bool true)))])
(.prim (.bin .neq 39 (tv 42) (tn 0))
(.jump 6 [(tv 44)]))))
(.ite (.var 43)
(.ret (.e (.cst (.bool false))))
(.join 7
(.loop 8 [(tn 0)]
(.prim (.len 25 (tv 41))
(.prim (.bin .lss 3 (tv 44) (tv 45))
(.ite (.var 46)
(.prim (.row 1 (tv 41) (tv 44))
(.call 61 [(tv 38), (tp 47 0)]
(.prim (.bin .lss 3 (tv 48) (tn 0))
(.ite (.var 49)
(.ret (.e (.cst (.bool false))))
(.prim (.bin .add 3 (tv 44) (tn 1))
(.jump 8 [(tv 50)]))))))
(.jump 7 [])))))
(.prim (.len 25 (tv 38))
(.prim (.bin .eql 3 (tv 44) (tn 0))
(.join 8
(.ite (.var 45)
(.join 9
(.prim (.len 25 (tv 17))
(.prim (.bin .geq 3 (tv 33) (tv 46))
(.ite (.var 47)
(.jump 9 [(.e (.cst (.bool true)))])
(.prim (.row 1 (tv 17) (tv 33))
(.prim (.bin .neq 3 (tp 48 0) (tv 34))
(.jump 9 [(tv 49)]))))))
(.ite (.var 46)
(.ret (.e (.cst (.bool false))))
(.prim (.bin .add 3 (tv 33) (tn 1))
(.jump 8 [(tv 47)]))))
(.jump 8 [(tv 33)]))
(.prim (.bin .add 3 (tv 34) (tn 1))
(.jump 5 [(tv 32), (tv 46), (tv 47)]))))))))))))))
(.jump 4 [(tv 33)]))))))
(.join 5
(.prim (.len 25 (tv 17))
(.prim (.bin .eql 3 (tv 31) (tv 32))
(.ite (.var 33)
(.call 17 []
(.jump 5 [(tv 34)]))
(.jump 5 [(.e (.cst (.bool false)))]))))
(.ret (tv 32))))))))))
(.join 3
(.prim (.frz 1 .real (.var 22))
(.loop 4 [(tv 25), (tn 0), (tn 0)]
(.prim (.len 25 (tv 15))
(.prim (.bin .lss 3 (tv 28) (tv 29))
(.ite (.var 30)
(.call 59 [(.agg [(tp 3 0), (tp 3 1)]), (tv 6), (tv 15), (tv 28)]
(.prim (.ext (tv 31) 0)
(.prim (.ext (tv 31) 1)
(.call 59 [(.agg [(tp 3 0), (tp 3 1)]), (tv 6), (tv 26), (tv 28)]
(.prim (.ext (tv 34) 0)
(.prim (.ext (tv 34) 1)
(.join 5
(.prim (.bin .neq 39 (tv 33) (tn 0))
(.ite (.var 37)
(.jump 5 [(.e (.cst (.bool true)))])
(.prim (.bin .neq 39 (tv 36) (tn 0))
(.jump 5 [(tv 38)]))))
(.ite (.var 37)
(.ret (.e (.cst (.bool false))))
(.join 6
(.loop 7 [(tn 0)]
(.prim (.len 25 (tv 35))
(.prim (.bin .lss 3 (tv 38) (tv 39))
(.ite (.var 40)
(.prim (.row 1 (tv 35) (tv 38))
(.call 61 [(tv 32), (tp 41 0)]
(.prim (.bin .lss 3 (tv 42) (tn 0))
(.ite (.var 43)
(.ret (.e (.cst (.bool false))))
(.prim (.bin .add 3 (tv 38) (tn 1))
(.jump 7 [(tv 44)]))))))
(.jump 6 [])))))
(.prim (.len 25 (tv 32))
(.prim (.bin .eql 3 (tv 38) (tn 0))
(.join 7
(.ite (.var 39)
(.join 8
(.prim (.len 25 (tv 17))
(.prim (.bin .geq 3 (tv 27) (tv 40))
(.ite (.var 41)
(.jump 8 [(.e (.cst (.bool true)))])
(.prim (.row 1 (tv 17) (tv 27))
(.prim (.bin .neq 3 (tp 42 0) (tv 28))
(.jump 8 [(tv 43)]))))))
(.ite (.var 40)
(.ret (.e (.cst (.bool false))))
(.prim (.bin .add 3 (tv 27) (tn 1))
(.jump 7 [(tv 41)]))))
(.jump 7 [(tv 27)]))
(.prim (.bin .add 3 (tv 28) (tn 1))
(.jump 4 [(tv 26), (tv 40), (tv 41)]))))))))))))))
(.jump 3 [(tv 27)]))))))
(.join 4
(.prim (.len 25 (tv 17))
(.prim (.bin .eql 3 (tv 25) (tv 26))
(.ite (.var 27)
(.call 17 []
(.jump 4 [(tv 28)]))
(.jump 4 [(.e (.cst (.bool false)))]))))
(.ret (tv 26))))))))))))))))))))))))))))))))
theorem t15_ok : compFun (x15 Try.prog) w15 15 = .ok t15 := by kernel_rfl
theorem k15 : TreeOk Try.prog 31 ⟨18, none, none⟩ ownT 15 t15 (x15 Try.prog) w15 Try.f15 := ⟨rfl, rfl, rfl, (fun g r h => by cases h), by kernel_rfl, by decide, rfl, t15_ok⟩
def x16 (P : Program) : Ctx := { P := P, inl := [86, 87, 99, 100, 115, 116, 117, 123], own := [], ownc := [], ownr := [], diceT := 31, diceNew := ⟨18, none, none⟩ }
def w16 : Hints := { sites := [], np := [(87, 6, 18), (123, 3, 12)], thaw := [], skel := [(0, 12, ⟨[⟨false, 15, 0, none, false⟩], [], [15, 2, 1], [], false⟩), (0, 29, ⟨[], [], [1], [], false⟩), (0, 58, ⟨[⟨false, 5, 0, none, false⟩], [], [2, 1, 5], [], false⟩), (0, 61, ⟨[], [], [], [], false⟩), (0, 122, ⟨[⟨false, 6, 0, none, false⟩], [], [1, 6], [], false⟩)] }
def t16 : Tree := (.prim (.agg 2 (tv 0))
(.join 0
(.prim (.len 22 (tp 2 1))
(.prim (.bin .gtr 3 (tv 3) (tn 20))
(.ite (.var 4)
(.jump 0 [(.e (.cst (.bool true)))])
(.prim (.len 29 (tv 1))
(.prim (.bin .gtr 3 (tv 5) (tn 20))
(.jump 0 [(tv 6)]))))))
(.ite (.var 3)
(.ret (.e (.cst (.bool true))))
(.join 1
(.loop 2 [(tn 0)]
(.prim (.len 22 (tp 2 1))
(.prim (.bin .lss 3 (tv 4) (tv 5))
(.ite (.var 6)
(.prim (.row 3 (tp 2 1) (tv 4))
(.prim (.len 25 (tp 7 0))
(.prim (.bin .gtr 3 (tv 8) (tn 20))
(.ite (.var 9)
(.ret (.e (.cst (.bool true))))
(.prim (.bin .add 3 (tv 4) (tn 1))
(.jump 2 [(tv 10)]))))))
(.jump 1 [])))))
(.join 2
(.loop 3 [(tn 0)]
(.prim (.len 29 (tv 1))
(.prim (.bin .lss 3 (tv 4) (tv 5))
(.ite (.var 6)
(.prim (.row 5 (tv 1) (tv 4))
(.prim (.len 25 (tp 7 0))
(.prim (.bin .gtr 3 (tv 8) (tn 20))
(.ite (.var 9)
(.ret (.e (.cst (.bool true))))
(.prim (.bin .add 3 (tv 4) (tn 1))
(.jump 3 [(tv 10)]))))))
(.jump 2 [])))))
(.ret (.e (.cst (.bool false)))))))))
theorem t16_ok : compFun (x16 Try.prog) w16 16 = .ok t16 := by kernel_rfl
theorem k16 : TreeOk Try.prog 31 ⟨18, none, none⟩ ownT 16 t16 (x16 Try.prog) w16 Try.f16 := ⟨rfl, rfl, rfl, (fun g r h => by cases h), by kernel_rfl, by decide, rfl, t16_ok⟩
def x17 (P : Program) : Ctx := { P := P, inl := [86, 87, 99, 100, 115, 116, 117, 123], own := [], ownc := [], ownr := [], diceT := 31, diceNew := ⟨18, none, none⟩ }
def w17 : Hints := { sites := [], np := [(87, 6, 18), (123, 3, 12)], thaw := [], skel := [(0, 510, ⟨[⟨false, 0, 0, none, false⟩], [], [0], [], false⟩)] }
def t17 : Tree := (.call 62 []
(.call 24 [(tv 0), (tn 1)]
(.prim (.ext (tv 1) 0)
(.prim (.ext (tv 1) 1)
(.call 62 []
(.call 63 [(.lit 1 2 [(tn 9), (tn 6)])]
(.call 41 [(tv 5)]
(.call 31 [(tv 4), (tn 2), (tv 6)]
(.prim (.ext (tv 7) 0)
(.prim (.ext (tv 7) 1)
(.call 62 []
(.call 63 [(.lit 1 1 [(tn 6)])]
(.call 63 [(.lit 1 1 [(tn 8)])]
(.call 46 [(tv 10), (tv 11), (tv 12)]
(.prim (.ext (tv 13) 0)
(.prim (.ext (tv 13) 1)
(.prim (.agg 2 (tv 14))
(.call 62 []
(.call 63 [(.lit 1 3 [(tn 6), (tn 12), (tn 6)])]
(.call 48 [(tv 17), (tn 0), (tv 18)]
(.prim (.ext (tv 19) 0)
(.prim (.ext (tv 19) 1)
(.call 62 []
(.call 35 [(tv 22), (tn 0), (tn 1)]
(.prim (.ext (tv 23) 0)
(.prim (.ext (tv 23) 1)
(.prim (.ext (tv 23) 2)
(.call 62 []
(.call 59 [(tv 27), (tn 1), (.lit 1 7 [(tn 0), (tn 6), (tn 14), (tn 15), (tn 20), (tn 28), (tn 34)]), (tn 1)]
(.prim (.ext (tv 28) 0)
(.prim (.ext (tv 28) 1)
(.join 0
(.prim (.bin .eql 39 (tv 3) (tn 0))
(.ite (.var 31)
(.prim (.bin .eql 39 (tv 9) (tn 0))
(.ite (.var 32)
(.prim (.bin .eql 39 (tv 15) (tn 0))
(.ite (.var 33)
(.prim (.bin .eql 39 (tv 21) (tn 0))
(.ite (.var 34)
(.prim (.bin .eql 39 (tv 26) (tn 0))
(.ite (.var 35)
(.prim (.bin .eql 39 (tv 30) (tn 0))
(.ite (.var 36)
(.prim (.bin .eql 67 (.agg [(tp 16 0), (tp 16 1)]) (.agg [(tn 0), (tn 3)]))
(.ite (.var 37)
(.prim (.bin .eql 3 (tv 24) (tn 2))
(.ite (.var 38)
(.prim (.bin .eql 3 (tv 25) (tn 0))
(.ite (.var 39)
(.call 30 [(tv 2), (.lit 1 6 [(tn 0), (tn 6), (tn 14), (tn 20), (tn 28), (tn 34)])]
(.ite (.var 40)
(.call 33 [(tv 8), (.lit 2 3 [(tn 2), (.e (.cst (.bool false))), (tn 1), (.e (.cst (.bool true))), (tn 4), (.e (.cst (.bool true)))])]
(.ite (.var 41)
(.call 30 [(tv 20), (.lit 1 1 [(tn 1)])]
(.ite (.var 42)
(.call 30 [(tv 29), (.lit 1 3 [(tn 1), (tn 3), (tn 5)])]
(.jump 0 [(tv 43)]))
(.jump 0 [(.e (.cst (.bool false)))])))
(.jump 0 [(.e (.cst (.bool false)))])))
(.jump 0 [(.e (.cst (.bool false)))])))
(.jump 0 [(.e (.cst (.bool false)))])))
(.jump 0 [(.e (.cst (.bool false)))])))
(.jump 0 [(.e (.cst (.bool false)))])))
(.jump 0 [(.e (.cst (.bool false)))])))
(.jump 0 [(.e (.cst (.bool false)))])))
(.jump 0 [(.e (.cst (.bool false)))])))
(.jump 0 [(.e (.cst (.bool false)))])))
(.jump 0 [(.e (.cst (.bool false)))])))
(.jump 0 [(.e (.cst (.bool false)))])))
(.ret (tv 31))))))))))))))))))))))))))))))))))
theorem t17_ok : compFun (x17 Try.prog) w17 17 = .ok t17 := by kernel_rfl
theorem k17 : TreeOk Try.prog 31 ⟨18, none, none⟩ ownT 17 t17 (x17 Try.prog) w17 Try.f17 := ⟨rfl, rfl, rfl, (fun g r h => by cases h), by kernel_rfl, by decide, rfl, t17_ok⟩
def x19 (P : Program) : Ctx := { P := P, inl := [86, 87, 99, 100, 115, 116, 117, 123, 22], own := [], ownc := [], ownr := [], diceT := 31, diceNew := ⟨18, none, none⟩ }
def w19 : Hints := { sites := [2002], np := [(19, 4, 13), (87, 6, 18), (123, 3, 12)], thaw := [], skel := [(0, 61, ⟨[], [0], [5, 6, 2], [], false⟩), (2002, 29, ⟨[], [0], [2, 1, 3], [], false⟩), (2002, 58, ⟨[⟨false, 4, 0, none, false⟩], [0], [1, 3, 2, 4], [], false⟩)] }
def t19 : Tree := (.prim (.agg 2 (tv 0))
(.call 38 [(.e (.cst (.ptr 0 0))), (tn 3)]
(.prim (.agg 2 (tv 3))
(.prim (.len 22 (tp 4 1))
(.prim (.mk [.snil, (.int .i64 0), (.int .i64 0)] 40 (tv 5))
(.join 0
(.loop 1 [(tn 0), (tv 6)]
(.prim (.lenc 3 (.var 8))
(.prim (.bin .lss 3 (tv 7) (tv 9))
(.ite (.var 10)
(.prim (.row 3 (tp 4 1) (tv 7))
(.call 64 [(.agg [(tp 11 0), (tp 11 1), (tp 11 2)])]
(.prim (.chk 3 (.var 8) (tv 7))
(.prim (.agg 3 (tv 12))
(.prim (.put 3 0 (.var 8) (.var 13) [(tp 14 0), (tp 14 1), (tp 14 2)])
(.prim (.bin .add 3 (tv 7) (tn 1))
(.jump 1 [(tv 16), (tv 15)])))))))
(.jump 0 [(tv 8)])))))
(.prim (.len 22 (tp 2 1))
(.prim (.bin .gtr 3 (tv 8) (tn 0))
(.join 1
(.ite (.var 9)
(.prim (.lenc 3 (.var 7))
(.prim (.bin .sub 3 (tv 10) (tn 1))
(.call 21 [(.e (.cst (.ptr 0 0))), (tv 11)]
(.prim (.row 3 (tp 2 1) (tn 0))
(.call 64 [(.agg [(tp 13 0), (tp 13 1), (tp 13 2)])]
(.prim (.chk 3 (.var 7) (tv 12))
(.prim (.agg 3 (tv 14))
(.prim (.put 3 0 (.var 7) (.var 15) [(tp 16 0), (tp 16 1), (tp 16 2)])
(.jump 1 [(tv 17)])))))))))
(.jump 1 [(tv 7)]))
(.prim (.frz 3 .real (.var 10))
(.ret (.lit 2 4 [(tp 2 0), (tp 2 1), (tp 4 0), (tp 4 1), (tp 4 0), (tv 11), (tp 4 0), (tp 4 1)]))))))))))))
theorem t19_ok : compFun (x19 Try.prog) w19 19 = .ok t19 := by kernel_rfl
theorem k19 : TreeOk Try.prog 31 ⟨18, none, none⟩ ownT 19 t19 (x19 Try.prog) w19 Try.f19 := ⟨rfl, rfl, rfl, (fun g r h => by cases h), by kernel_rfl, by decide, rfl, t19_ok⟩
def x20 (P : Program) : Ctx := { P := P, inl := [86, 87, 99, 100, 115, 116, 117, 123], own := [], ownc := [(0, 3018)], ownr := [(39, (some (5, 0)), 1, true)], diceT := 31, diceNew := ⟨18, none, none⟩ }
def w20 : Hints := { sites := [], np := [(20, 1, 11), (20, 3, 20), (20, 7, 10), (87, 6, 18), (123, 3, 12)], thaw := [], skel := [(0, 125, ⟨[⟨true, 3, 1, none, false⟩, ⟨true, 3, 2, none, false⟩], [], [4, 7, 0], [], false⟩), (0, 252, ⟨[⟨false, 53, 0, none, false⟩], [], [53, 4, 7, 0], [], false⟩), (0, 253, ⟨[], [0], [4, 7, 0], [], false⟩)] }
def t20 : Tree := (.prim (.agg 2 (tv 1))
(.prim (.len 22 (tp 2 1))
(.prim (.bin .sub 3 (tv 3) (tn 1))
(.call 21 [(.e (.cst (.ptr 0 0))), (tv 4)]
(.prim (.row 3 (tp 2 1) (tv 5))
(.prim (.bin .sub 3 (tp 6 1) (tn 1))
(.call 21 [(.e (.cst (.ptr 0 0))), (tv 7)]
(.prim (.bin .sub 3 (tp 6 1) (tn 1))
(.call 65 [(.e (.cst (.ptr 0 0))), (.lit 1 3 [(tn 1), (tn 2), (tn 5)])]
(.call 21 [(.e (.cst (.ptr 0 0))), (tv 10)]
(.prim (.bin .add 3 (tv 8) (tv 11))
(.prim (.mm false [(tv 9), (tv 12)])
(.call 40 [(.e (.cst (.ptr 0 0))), (.agg [(tp 6 0), (tp 6 1), (tp 6 2)]), (tv 8), (tv 13)]
(.call 39 [(.e (.cst (.ptr 0 0))), (tv 14), (tp 2 0)]
(.prim (.agg 5 (tv 15))
(.prim (.cont true 1 (tp 16 0))
(.call 45 [(.e (.cst (.ptr 0 0))), (tn 3)]
(.join 0
(.ite (.var 18)
(.jump 0 [(tn 0), (tn 0)])
(.jump 0 [(tp 16 1), (tp 16 2)]))
(.join 1
(.prim (.lenc 1 (.var 17))
(.prim (.bin .gtr 3 (tv 21) (tn 0))
(.ite (.var 22)
(.call 45 [(.e (.cst (.ptr 0 0))), (tn 4)]
(.jump 1 [(tv 23)]))
(.jump 1 [(.e (.cst (.bool false)))]))))
(.join 2
(.ite (.var 21)
(.prim (.lenc 1 (.var 17))
(.prim (.bin .sub 3 (tv 22) (tn 1))
(.call 21 [(.e (.cst (.ptr 0 0))), (tv 23)]
(.call 44 [(.e (.cst (.ptr 0 0))), (tn 1), (tn 12)]
(.prim (.chk 1 (.var 17) (tv 24))
(.prim (.one (tv 25))
(.prim (.put 1 0 (.var 17) (.var 26) [(tv 27)])
(.jump 2 [(tv 28)]))))))))
(.jump 2 [(tv 17)]))
(.call 45 [(.e (.cst (.ptr 0 0))), (tn 3)]
(.prim (.one (tv 23))
(.prim (.frz 1 .real (.var 22))
(.ret (.agg [(tv 25), (tv 19), (tv 20), (tp 16 3), (tv 24)])))))))))))))))))))))))))
theorem t20_ok : compFun (x20 Try.prog) w20 20 = .ok t20 := by kernel_rfl
theorem k20 : TreeOk Try.prog 31 ⟨18, none, none⟩ ownT 20 t20 (x20 Try.prog) w20 Try.f20 := ⟨rfl, rfl, rfl, (fun g r h => by simp only [x20, findOr] at h; split at h <;> cases h; rename_i e; subst e; rfl), by kernel_rfl, by decide, rfl, t20_ok⟩
end Go.Proofs.Ytlminnpaeaganaa
