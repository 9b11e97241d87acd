/- Residual trees of functions. No condition. -/
import Derived.Test.YtlminnpaeaganaaGreatMTrA
namespace Go.Proofs.YtlminnpaeaganaaGreat
open Go Go.RowKit
set_option maxRecDepth 100000
def x37 (P : Program) : Ctx := { P := P, inl := [85, 75, 76, 100, 101, 127, 128, 129, 164], own := [], ownc := [], ownr := [], diceT := 23, diceNew := ⟨11, (some 86), (some 87)⟩ }
def w37 : Hints := { sites := [5005, 5005011005], np := [(76, 6, 18), (164, 3, 12)], thaw := [], skel := [(5005, 7, ⟨[⟨true, 4, 0, (some (1, .nil0)), false⟩], [], [], [], true⟩), (5005, 14, ⟨[⟨false, 18, 0, none, false⟩, ⟨true, 4, 0, (some (1, .nil0)), false⟩], [], [3, 5, 4, 6, 17, 18], [], true⟩), (5005, 3687, ⟨[⟨true, 4, 0, (some (1, .nil0)), false⟩], [], [3, 5, 4, 6, 17, 18], [], true⟩), (5005, 7374, ⟨[⟨false, 30, 0, none, false⟩, ⟨true, 4, 0, (some (1, .nil0)), false⟩], [], [8, 3, 9, 28, 5, 4, 6, 17, 18, 29, 30], [], true⟩), (5005, 943923, ⟨[⟨true, 4, 0, (some (1, .nil0)), false⟩], [], [8, 3, 9, 28, 5, 4, 6, 17, 18, 29, 30], [], true⟩), (5005, 1887846, ⟨[⟨false, 36, 0, none, false⟩, ⟨true, 4, 0, (some (1, .nil0)), false⟩], [], [11, 8, 3, 34, 9, 28, 5, 4, 6, 17, 18, 29, 30, 35, 36], [], true⟩), (5005011005, 6, ⟨[⟨false, 28, 0, none, false⟩], [], [28, 5, 7, 8], [], false⟩), (5005011005, 7, ⟨[⟨true, 4, 0, (some (1, .nil0)), false⟩], [], [], [], true⟩)] }
def t37 : Tree := (.prim (.agg 2 (tv 0))
(.prim (.agg 5 (tv 1))
(.prim (.agg 5 (tv 2))
(.call 56 [(.agg [(tp 3 0), (tp 3 1)]), (.e (.cst .snil)), (.lit 5 2 [(tp 4 0), (tp 4 1), (tp 4 2), (tp 4 3), (tp 4 4), (tp 5 0), (tp 5 1), (tp 5 2), (tp 5 3), (tp 5 4)])]
(.prim (.ext (tv 6) 0)
(.prim (.ext (tv 6) 1)
(.prim (.agg 2 (tv 7))
(.prim (.bin .neq 32 (tv 8) (tn 0))
(.ite (.var 10)
(.ret (.tup [(.e (.cst .snil)), (tv 8)]))
(.prim (.len 25 (tp 9 1))
(.join 0
(.loop 1 [(tn 0), (.e (.cst (.agg [])))]
(.prim (.bin .lss 3 (tv 12) (tv 11))
(.ite (.var 14)
(.call 57 [(.agg [(tp 9 0), (tp 9 1)]), (tv 12), (.agg [(tp 5 0), (tp 5 1), (tp 5 2), (tp 5 3), (tp 5 4)])]
(.call 57 [(.agg [(tp 9 0), (tp 9 1)]), (tv 12), (.agg [(tp 4 0), (tp 4 1), (tp 4 2), (tp 4 3), (tp 4 4)])]
(.prim (.len 38 (tv 16))
(.join 2
(.loop 3 [(tn 0), (tv 13)]
(.prim (.bin .lss 3 (tv 18) (tv 17))
(.ite (.var 20)
(.prim (.row 2 (tv 16) (tv 18))
(.prim (.len 38 (tv 15))
(.join 4
(.loop 5 [(tn 0), (tv 19)]
(.prim (.bin .lss 3 (tv 23) (tv 22))
(.ite (.var 25)
(.prim (.row 2 (tv 15) (tv 23))
(.join 6
(.prim (.len 22 (tp 5 0))
(.prim (.bin .add 3 (tp 26 0) (tv 27))
(.prim (.bin .leq 3 (tp 21 0) (tv 28))
(.ite (.var 29)
(.prim (.len 22 (tp 4 0))
(.prim (.bin .add 3 (tp 21 0) (tv 30))
(.prim (.bin .leq 3 (tp 26 0) (tv 31))
(.jump 6 [(tv 32)]))))
(.jump 6 [(.e (.cst (.bool false)))])))))
(.join 7
(.ite (.var 27)
(.prim (.bin .sub 3 (tp 26 0) (tp 21 0))
(.prim (.push 1 8 (.var 24) (.lit 1 1 [(tv 28)]))
(.jump 7 [(tv 29)])))
(.jump 7 [(tv 24)]))
(.prim (.bin .add 3 (tv 23) (tn 1))
(.jump 5 [(tv 29), (tv 28)])))))
(.jump 4 [(tv 24)]))))
(.prim (.bin .add 3 (tv 18) (tn 1))
(.jump 3 [(tv 24), (tv 23)])))))
(.jump 2 [(tv 19)]))))
(.prim (.bin .add 3 (tv 12) (tn 1))
(.jump 1 [(tv 19), (tv 18)]))))))
(.jump 0 [(tv 13)]))))
(.prim (.srt (.var 12))
(.prim (.cpt .nil0 (.var 13))
(.ret (.tup [(tv 14), (tn 0)])))))))))))))))
theorem t37_ok : compFun (x37 Tryz.prog) w37 37 = .ok t37 := by kernel_rfl
theorem k37 : TreeOk Tryz.prog 23 ⟨11, some 86, some 87⟩ ownT 37 t37 (x37 Tryz.prog) w37 Tryz.f37 := ⟨rfl, rfl, rfl, (fun g r h => by cases h), by kernel_rfl, by decide, rfl, t37_ok⟩
def x38 (P : Program) : Ctx := { P := P, inl := [85, 75, 76, 100, 101, 127, 128, 129, 164], own := [], ownc := [], ownr := [], diceT := 23, diceNew := ⟨11, (some 86), (some 87)⟩ }
def w38 : Hints := { sites := [], np := [(38, 8, 21), (38, 15, 30), (38, 16, 11), (76, 6, 18), (164, 3, 12)], thaw := [], skel := [(0, 61, ⟨[⟨false, 9, 0, (some (1, .nil0)), false⟩], [], [9, 10], [], false⟩), (0, 122, ⟨[⟨false, 9, 0, (some (1, .nil0)), false⟩, ⟨false, 11, 0, none, false⟩], [], [5, 4, 3, 10, 11, 9], [], false⟩), (0, 7827, ⟨[⟨false, 9, 0, (some (1, .nil0)), false⟩], [], [5, 4, 3, 10, 9, 11], [], false⟩), (0, 15654, ⟨[⟨false, 9, 0, (some (1, .nil0)), false⟩, ⟨false, 14, 0, none, false⟩], [], [14, 12, 13, 5, 4, 3, 10, 11, 9], [], false⟩), (0, 500937, ⟨[⟨false, 9, 0, (some (1, .nil0)), false⟩], [], [12, 13, 5, 4, 3, 10, 11, 9, 14], [], false⟩), (0, 1001874, ⟨[⟨false, 9, 0, (some (1, .nil0)), false⟩, ⟨false, 15, 0, none, false⟩], [], [14, 12, 13, 5, 4, 3, 10, 11, 15, 9], [], false⟩), (0, 32059976, ⟨[⟨false, 97, 0, none, false⟩], [], [97, 14, 12, 13, 5, 4, 3, 10, 11, 15, 9], [], false⟩), (0, 32059977, ⟨[⟨false, 9, 0, (some (1, .nil0)), false⟩], [], [14, 12, 13, 5, 4, 3, 10, 11, 9, 15], [], false⟩), (0, 125, ⟨[⟨false, 10, 0, (some (1, .nil0)), false⟩], [], [10], [], false⟩), (0, 250, ⟨[⟨false, 9, 0, none, true⟩, ⟨false, 10, 0, (some (1, .nil0)), false⟩, ⟨false, 16, 0, none, false⟩], [], [9, 16, 10], [], false⟩), (0, 8009, ⟨[⟨false, 10, 0, (some (1, .nil0)), false⟩], [], [9, 10, 16], [], false⟩)] }
def t38 : Tree := (.prim (.agg 2 (tv 0))
(.prim (.agg 5 (tv 1))
(.prim (.agg 5 (tv 2))
(.call 64 [(.agg [(tp 3 0), (tp 3 1)]), (.e (.cst .snil)), (.lit 5 2 [(tp 4 0), (tp 4 1), (tp 4 2), (tp 4 3), (tp 4 4), (tp 5 0), (tp 5 1), (tp 5 2), (tp 5 3), (tp 5 4)])]
(.prim (.bin .neq 32 (tv 6) (tn 0))
(.ite (.var 7)
(.ret (.tup [(.e (.cst .snil)), (tv 6)]))
(.join 0
(.loop 1 [(.e (.cst (.agg []))), (tn 0)]
(.prim (.len 25 (tp 3 1))
(.prim (.bin .lss 3 (tv 9) (tv 10))
(.ite (.var 11)
(.prim (.row 3 (tp 3 1) (tv 9))
(.call 82 [(.agg [(tp 4 0), (tp 4 1), (tp 4 2), (tp 4 3), (tp 4 4)])]
(.call 81 [(.agg [(tp 12 0), (tp 12 1), (tp 12 2)]), (tp 3 0), (.agg [(tp 4 0), (tp 4 1), (tp 4 2), (tp 4 3), (tp 4 4)]), (tv 13)]
(.prim (.row 3 (tp 3 1) (tv 9))
(.call 82 [(.agg [(tp 5 0), (tp 5 1), (tp 5 2), (tp 5 3), (tp 5 4)])]
(.call 81 [(.agg [(tp 15 0), (tp 15 1), (tp 15 2)]), (tp 3 0), (.agg [(tp 5 0), (tp 5 1), (tp 5 2), (tp 5 3), (tp 5 4)]), (tv 16)]
(.join 2
(.loop 3 [(tv 8), (tn 0)]
(.prim (.len 38 (tv 14))
(.prim (.bin .lss 3 (tv 19) (tv 20))
(.ite (.var 21)
(.join 4
(.loop 5 [(tv 18), (tn 0)]
(.prim (.len 38 (tv 17))
(.prim (.bin .lss 3 (tv 23) (tv 24))
(.ite (.var 25)
(.join 6
(.prim (.row 2 (tv 17) (tv 23))
(.prim (.row 2 (tv 14) (tv 19))
(.prim (.len 22 (tp 4 0))
(.prim (.bin .add 3 (tp 27 0) (tv 28))
(.prim (.bin .leq 3 (tp 26 0) (tv 29))
(.ite (.var 30)
(.prim (.row 2 (tv 14) (tv 19))
(.prim (.row 2 (tv 17) (tv 23))
(.prim (.len 22 (tp 5 0))
(.prim (.bin .add 3 (tp 32 0) (tv 33))
(.prim (.bin .leq 3 (tp 31 0) (tv 34))
(.jump 6 [(tv 35)]))))))
(.jump 6 [(.e (.cst (.bool false)))])))))))
(.join 7
(.ite (.var 26)
(.prim (.row 2 (tv 17) (tv 23))
(.prim (.row 2 (tv 14) (tv 19))
(.prim (.bin .sub 3 (tp 27 0) (tp 28 0))
(.prim (.push 1 8 (.var 22) (.lit 1 1 [(tv 29)]))
(.jump 7 [(tv 30)])))))
(.jump 7 [(tv 22)]))
(.prim (.bin .add 3 (tv 23) (tn 1))
(.jump 5 [(tv 27), (tv 28)]))))
(.jump 4 [(tv 22)])))))
(.prim (.bin .add 3 (tv 19) (tn 1))
(.jump 3 [(tv 22), (tv 23)])))
(.jump 2 [(tv 18)])))))
(.prim (.bin .add 3 (tv 9) (tn 1))
(.jump 1 [(tv 18), (tv 19)])))))))))
(.jump 0 [(tv 8)])))))
(.join 1
(.prim (.frz 1 .nil0 (.var 8))
(.loop 2 [(tv 9), (.e (.cst (.agg []))), (tn (-12))]
(.prim (.bin .leq 3 (tv 12) (tn 12))
(.ite (.var 13)
(.call 67 [(tv 10), (tv 12)]
(.join 3
(.ite (.var 14)
(.prim (.one (tv 12))
(.prim (.push 1 8 (.var 11) (.lit 1 1 [(tv 15)]))
(.jump 3 [(tv 16)])))
(.jump 3 [(tv 11)]))
(.prim (.bin .add 3 (tv 12) (tn 1))
(.jump 2 [(tv 10), (tv 15), (tv 16)]))))
(.jump 1 [(tv 11)])))))
(.prim (.frz 1 .nil0 (.var 9))
(.ret (.tup [(tv 10), (tn 0)])))))))))))
theorem t38_ok : compFun (x38 Tryz.prog) w38 38 = .ok t38 := by kernel_rfl
theorem k38 : TreeOk Tryz.prog 23 ⟨11, some 86, some 87⟩ ownT 38 t38 (x38 Tryz.prog) w38 Tryz.f38 := ⟨rfl, rfl, rfl, (fun g r h => by cases h), by kernel_rfl, by decide, rfl, t38_ok⟩
def x39 (P : Program) : Ctx := { P := P, inl := [85, 75, 76, 100, 101, 127, 128, 129, 164], own := [], ownc := [], ownr := [], diceT := 23, diceNew := ⟨11, (some 86), (some 87)⟩ }
def w39 : Hints := { sites := [], np := [(39, 8, 21), (39, 16, 10), (76, 6, 18), (164, 3, 12)], thaw := [], skel := [(0, 61, ⟨[⟨false, 9, 0, (some (1, .nil0)), false⟩], [], [9], [], false⟩), (0, 122, ⟨[⟨false, 9, 0, (some (1, .nil0)), false⟩, ⟨false, 10, 0, none, false⟩], [], [5, 3, 4, 10, 9], [], false⟩), (0, 31309, ⟨[⟨false, 13, 0, none, false⟩], [], [5, 3, 4, 10, 9, 13], [], false⟩), (0, 62618, ⟨[⟨false, 13, 0, none, false⟩, ⟨false, 14, 0, none, false⟩], [], [12, 14, 11, 5, 3, 4, 10, 9, 13], [], false⟩), (0, 2003785, ⟨[⟨false, 13, 0, none, false⟩], [], [12, 11, 5, 3, 4, 10, 9, 13, 14], [], false⟩), (0, 4007570, ⟨[⟨false, 13, 0, none, false⟩, ⟨false, 15, 0, none, false⟩], [], [12, 14, 11, 5, 3, 4, 10, 9, 15, 13], [], false⟩), (0, 64121124, ⟨[⟨false, 13, 0, none, false⟩], [], [12, 14, 11, 5, 3, 4, 10, 9, 13, 15], [], false⟩), (0, 31311, ⟨[⟨false, 9, 0, (some (1, .nil0)), false⟩], [], [5, 3, 4, 9, 10], [], false⟩)] }
def t39 : Tree := (.prim (.agg 2 (tv 0))
(.prim (.agg 5 (tv 1))
(.prim (.agg 5 (tv 2))
(.call 64 [(.agg [(tp 3 0), (tp 3 1)]), (.e (.cst .snil)), (.lit 5 2 [(tp 4 0), (tp 4 1), (tp 4 2), (tp 4 3), (tp 4 4), (tp 5 0), (tp 5 1), (tp 5 2), (tp 5 3), (tp 5 4)])]
(.prim (.bin .neq 32 (tv 6) (tn 0))
(.ite (.var 7)
(.ret (.tup [(.e (.cst .snil)), (tv 6)]))
(.join 0
(.loop 1 [(.e (.cst (.agg []))), (tn 0)]
(.prim (.len 25 (tp 3 1))
(.prim (.bin .lss 3 (tv 9) (tv 10))
(.ite (.var 11)
(.prim (.row 3 (tp 3 1) (tv 9))
(.call 82 [(.agg [(tp 4 0), (tp 4 1), (tp 4 2), (tp 4 3), (tp 4 4)])]
(.call 81 [(.agg [(tp 12 0), (tp 12 1), (tp 12 2)]), (tp 3 0), (.agg [(tp 4 0), (tp 4 1), (tp 4 2), (tp 4 3), (tp 4 4)]), (tv 13)]
(.prim (.row 3 (tp 3 1) (tv 9))
(.call 82 [(.agg [(tp 5 0), (tp 5 1), (tp 5 2), (tp 5 3), (tp 5 4)])]
(.call 81 [(.agg [(tp 15 0), (tp 15 1), (tp 15 2)]), (tp 3 0), (.agg [(tp 5 0), (tp 5 1), (tp 5 2), (tp 5 3), (tp 5 4)]), (tv 16)]
(.join 2
(.loop 3 [(.e (.cst (.bool false))), (tn 0)]
(.prim (.len 38 (tv 14))
(.prim (.bin .lss 3 (tv 19) (tv 20))
(.ite (.var 21)
(.join 4
(.loop 5 [(tv 18), (tn 0)]
(.prim (.len 38 (tv 17))
(.prim (.bin .lss 3 (tv 23) (tv 24))
(.ite (.var 25)
(.join 6
(.ite (.var 22)
(.jump 6 [(.e (.cst (.bool true)))])
(.prim (.row 2 (tv 14) (tv 19))
(.prim (.row 2 (tv 17) (tv 23))
(.prim (.bin .eql 43 (.agg [(tp 26 0), (tp 26 1)]) (.agg [(tp 27 0), (tp 27 1)]))
(.jump 6 [(tv 28)])))))
(.prim (.bin .add 3 (tv 23) (tn 1))
(.jump 5 [(tv 26), (tv 27)])))
(.jump 4 [(tv 22)])))))
(.prim (.bin .add 3 (tv 19) (tn 1))
(.jump 3 [(tv 22), (tv 23)])))
(.jump 2 [(tv 18)])))))
(.join 3
(.ite (.var 18)
(.prim (.one (tv 9))
(.prim (.push 1 8 (.var 8) (.lit 1 1 [(tv 19)]))
(.jump 3 [(tv 20)])))
(.jump 3 [(tv 8)]))
(.prim (.bin .add 3 (tv 9) (tn 1))
(.jump 1 [(tv 19), (tv 20)]))))))))))
(.jump 0 [(tv 8)])))))
(.prim (.frz 1 .nil0 (.var 8))
(.ret (.tup [(tv 9), (tn 0)]))))))))))
theorem t39_ok : compFun (x39 Tryz.prog) w39 39 = .ok t39 := by kernel_rfl
theorem k39 : TreeOk Tryz.prog 23 ⟨11, some 86, some 87⟩ ownT 39 t39 (x39 Tryz.prog) w39 Tryz.f39 := ⟨rfl, rfl, rfl, (fun g r h => by cases h), by kernel_rfl, by decide, rfl, t39_ok⟩
def x40 (P : Program) : Ctx := { P := P, inl := [85, 75, 76, 100, 101, 127, 128, 129, 164], own := [], ownc := [], ownr := [], diceT := 23, diceNew := ⟨11, (some 86), (some 87)⟩ }
def w40 : Hints := { sites := [], np := [(76, 6, 18), (164, 3, 12)], thaw := [], skel := [] }
def t40 : Tree := (.ret (.agg [(tn 1), (.lit 3 3 [(.lit 1 1 [(tn 6)]), (tn 8), (tn 30), (.lit 1 2 [(tn 6), (tn 8)]), (tn 6), (tn 30), (.lit 1 3 [(tn 5), (tn 7), (tn 9)]), (tn 7), (tn 40)])]))
theorem t40_ok : compFun (x40 Tryz.prog) w40 40 = .ok t40 := by kernel_rfl
theorem k40 : TreeOk Tryz.prog 23 ⟨11, some 86, some 87⟩ ownT 40 t40 (x40 Tryz.prog) w40 Tryz.f40 := ⟨rfl, rfl, rfl, (fun g r h => by cases h), by kernel_rfl, by decide, rfl, t40_ok⟩
def x41 (P : Program) : Ctx := { P := P, inl := [85, 75, 76, 100, 101, 127, 128, 129, 164], own := [], ownc := [], ownr := [], diceT := 23, diceNew := ⟨11, (some 86), (some 87)⟩ }
def w41 : Hints := { sites := [], np := [(76, 6, 18), (164, 3, 12)], thaw := [], skel := [(0, 61, ⟨[], [], [], [], false⟩), (0, 122, ⟨[⟨false, 21, 0, none, false⟩], [], [19, 20, 21], [], false⟩)] }
def t41 : Tree := (.prim (.agg 2 (tv 0))
(.call 88 [(tp 1 0), (tn 0), (tn 3)]
(.prim (.un .not (tv 2))
(.ite (.var 3)
(.ret (tn 1))
(.prim (.len 25 (tp 1 1))
(.call 89 [(tv 4), (tn 4)]
(.prim (.bin .neq 32 (tv 5) (tn 0))
(.ite (.var 6)
(.ret (tv 5))
(.prim (.len 25 (tp 1 1))
(.join 0
(.loop 1 [(tn 0)]
(.prim (.bin .lss 3 (tv 8) (tv 7))
(.ite (.var 9)
(.prim (.row 3 (tp 1 1) (tv 8))
(.call 90 [(.agg [(tp 10 0), (tp 10 1), (tp 10 2)])]
(.prim (.bin .neq 32 (tv 11) (tn 0))
(.ite (.var 12)
(.ret (tv 11))
(.prim (.bin .add 3 (tv 8) (tn 1))
(.jump 1 [(tv 13)]))))))
(.jump 0 []))))
(.ret (tn 0))))))))))))
theorem t41_ok : compFun (x41 Tryz.prog) w41 41 = .ok t41 := by kernel_rfl
theorem k41 : TreeOk Tryz.prog 23 ⟨11, some 86, some 87⟩ ownT 41 t41 (x41 Tryz.prog) w41 Tryz.f41 := ⟨rfl, rfl, rfl, (fun g r h => by cases h), by kernel_rfl, by decide, rfl, t41_ok⟩
def x42 (P : Program) : Ctx := { P := P, inl := [85, 75, 76, 100, 101, 127, 128, 129, 164], own := [], ownc := [], ownr := [], diceT := 23, diceNew := ⟨11, (some 86), (some 87)⟩ }
def w42 : Hints := { sites := [], np := [(76, 6, 18), (164, 3, 12)], thaw := [], skel := [] }
def t42 : Tree := (.prim (.agg 2 (tv 0))
(.prim (.one (tv 1))
(.call 56 [(.agg [(tp 2 0), (tp 2 1)]), (.lit 1 1 [(tv 3)]), (.e (.cst .snil))]
(.prim (.ext (tv 4) 0)
(.prim (.ext (tv 4) 1)
(.prim (.agg 2 (tv 5))
(.prim (.bin .neq 32 (tv 6) (tn 0))
(.ite (.var 8)
(.ret (.tup [(.e (.cst .snil)), (tv 6)]))
(.prim (.row 3 (tp 7 1) (tv 1))
(.call 77 [(.agg [(tp 9 0), (tp 9 1), (tp 9 2)])]
(.ret (.tup [(tv 10), (tn 0)]))))))))))))
theorem t42_ok : compFun (x42 Tryz.prog) w42 42 = .ok t42 := by kernel_rfl
theorem k42 : TreeOk Tryz.prog 23 ⟨11, some 86, some 87⟩ ownT 42 t42 (x42 Tryz.prog) w42 Tryz.f42 := ⟨rfl, rfl, rfl, (fun g r h => by cases h), by kernel_rfl, by decide, rfl, t42_ok⟩
def x43 (P : Program) : Ctx := { P := P, inl := [85, 75, 76, 100, 101, 127, 128, 129, 164], own := [], ownc := [], ownr := [], diceT := 23, diceNew := ⟨11, (some 86), (some 87)⟩ }
def w43 : Hints := { sites := [], np := [(76, 6, 18), (164, 3, 12)], thaw := [], skel := [] }
def t43 : Tree := (.prim (.one (tv 0))
(.ret (.agg [(tv 1), (tn 0), (tn 0), (tn 0), (.e (.cst (.bool false)))])))
theorem t43_ok : compFun (x43 Tryz.prog) w43 43 = .ok t43 := by kernel_rfl
theorem k43 : TreeOk Tryz.prog 23 ⟨11, some 86, some 87⟩ ownT 43 t43 (x43 Tryz.prog) w43 Tryz.f43 := ⟨rfl, rfl, rfl, (fun g r h => by cases h), by kernel_rfl, by decide, rfl, t43_ok⟩
def x45 (P : Program) : Ctx := { P := P, inl := [85, 75, 76, 100, 101, 127, 128, 129, 164], own := [], ownc := [], ownr := [], diceT := 23, diceNew := ⟨11, (some 86), (some 87)⟩ }
def w45 : Hints := { sites := [], np := [(45, 6, 8), (76, 6, 18), (164, 3, 12)], thaw := [], skel := [(0, 29, ⟨[], [], [], [], false⟩), (0, 58, ⟨[⟨false, 5, 0, none, false⟩], [], [1, 0, 5], [], false⟩)] }
def t45 : Tree := (.prim (.len 38 (tv 0))
(.prim (.len 38 (tv 1))
(.prim (.bin .neq 3 (tv 2) (tv 3))
(.ite (.var 4)
(.ret (.e (.cst (.bool false))))
(.join 0
(.loop 1 [(tn 0)]
(.prim (.len 38 (tv 0))
(.prim (.bin .lss 3 (tv 5) (tv 6))
(.ite (.var 7)
(.prim (.row 2 (tv 0) (tv 5))
(.prim (.row 2 (tv 1) (tv 5))
(.prim (.bin .neq 43 (.agg [(tp 8 0), (tp 8 1)]) (.agg [(tp 9 0), (tp 9 1)]))
(.ite (.var 10)
(.ret (.e (.cst (.bool false))))
(.prim (.bin .add 3 (tv 5) (tn 1))
(.jump 1 [(tv 11)]))))))
(.jump 0 [])))))
(.ret (.e (.cst (.bool true)))))))))
theorem t45_ok : compFun (x45 Tryz.prog) w45 45 = .ok t45 := by kernel_rfl
theorem k45 : TreeOk Tryz.prog 23 ⟨11, some 86, some 87⟩ ownT 45 t45 (x45 Tryz.prog) w45 Tryz.f45 := ⟨rfl, rfl, rfl, (fun g r h => by cases h), by kernel_rfl, by decide, rfl, t45_ok⟩
def x47 (P : Program) : Ctx := { P := P, inl := [85, 75, 76, 100, 101, 127, 128, 129, 164], own := [], ownc := [], ownr := [], diceT := 23, diceNew := ⟨11, (some 86), (some 87)⟩ }
def w47 : Hints := { sites := [], np := [(47, 9, 9), (76, 6, 18), (164, 3, 12)], thaw := [], skel := [(0, 253, ⟨[⟨false, 11, 0, (some (1, .nil0)), false⟩], [], [11], [], false⟩), (0, 506, ⟨[⟨false, 11, 0, (some (1, .nil0)), false⟩, ⟨false, 35, 0, none, false⟩], [], [5, 1, 8, 10, 34, 35, 11], [], false⟩), (0, 64819, ⟨[⟨false, 11, 0, (some (1, .nil0)), false⟩], [], [5, 1, 8, 10, 34, 11, 35], [], false⟩)] }
def t47 : Tree := (.prim (.agg 2 (tv 0))
(.prim (.agg 5 (tv 2))
(.prim (.one (tv 1))
(.call 56 [(.agg [(tp 3 0), (tp 3 1)]), (.lit 1 1 [(tv 5)]), (.lit 5 1 [(tp 4 0), (tp 4 1), (tp 4 2), (tp 4 3), (tp 4 4)])]
(.prim (.ext (tv 6) 0)
(.prim (.ext (tv 6) 1)
(.prim (.agg 2 (tv 7))
(.prim (.bin .neq 32 (tv 8) (tn 0))
(.ite (.var 10)
(.ret (.tup [(.e (.cst .snil)), (tv 8)]))
(.call 91 [(tp 9 0)]
(.prim (.agg 2 (tv 11))
(.prim (.len 22 (tp 4 0))
(.prim (.bin .shl 130 (.e (.cst (.int .u8 1))) (tv 13))
(.join 0
(.loop 1 [(.e (.cst (.agg []))), (.e (.cst (.int .u8 0)))]
(.prim (.bin .lss 130 (tv 16) (tv 14))
(.ite (.var 17)
(.prim (.row 3 (tp 9 1) (tv 1))
(.call 92 [(.agg [(tp 12 0), (tp 12 1)]), (.agg [(tp 18 0), (tp 18 1), (tp 18 2)]), (.agg [(tp 4 0), (tp 4 1), (tp 4 2), (tp 4 3), (tp 4 4)]), (tv 16)]
(.join 2
(.ite (.var 19)
(.call 93 [(tv 16)]
(.prim (.one (tv 20))
(.prim (.push 1 24 (.var 15) (.lit 1 1 [(tv 21)]))
(.jump 2 [(tv 22)]))))
(.jump 2 [(tv 15)]))
(.prim (.bin .add 130 (tv 16) (.e (.cst (.int .u8 1))))
(.jump 1 [(tv 20), (tv 21)])))))
(.jump 0 [(tv 15)]))))
(.prim (.frz 1 .nil0 (.var 15))
(.call 72 [(tv 16)]
(.prim (.ext (tv 17) 0)
(.prim (.ext (tv 17) 1)
(.prim (.un .not (tv 19))
(.ite (.var 20)
(.ret (.tup [(.e (.cst .snil)), (tn 11)]))
(.ret (.tup [(tv 18), (tn 0)]))))))))))))))))))))))
theorem t47_ok : compFun (x47 Tryz.prog) w47 47 = .ok t47 := by kernel_rfl
theorem k47 : TreeOk Tryz.prog 23 ⟨11, some 86, some 87⟩ ownT 47 t47 (x47 Tryz.prog) w47 Tryz.f47 := ⟨rfl, rfl, rfl, (fun g r h => by cases h), by kernel_rfl, by decide, rfl, t47_ok⟩
def x50 (P : Program) : Ctx := { P := P, inl := [85, 75, 76, 100, 101, 127, 128, 129, 164], own := [], ownc := [], ownr := [], diceT := 23, diceNew := ⟨11, (some 86), (some 87)⟩ }
def w50 : Hints := { sites := [], np := [(50, 4, 13), (50, 15, 8), (50, 17, 8), (76, 6, 18), (164, 3, 12)], thaw := [], skel := [(0, 125, ⟨[], [], [], [], false⟩), (0, 250, ⟨[⟨false, 37, 0, none, false⟩], [], [11, 2, 9, 10, 37], [], false⟩), (0, 32051, ⟨[], [], [11, 2, 9, 10, 37], [], false⟩), (0, 64102, ⟨[⟨false, 13, 0, none, false⟩], [], [13, 11, 12, 2, 9, 10, 37], [], false⟩), (0, 8205093, ⟨[⟨true, 4, 0, (some (1, .nil0)), false⟩], [], [13, 12, 11, 2, 9, 10, 37, 14], [], false⟩), (0, 16410186, ⟨[⟨false, 50, 0, none, false⟩, ⟨true, 4, 0, (some (1, .nil0)), false⟩], [], [14, 13, 11, 12, 2, 9, 10, 37, 49, 50], [], false⟩)] }
def t50 : Tree := (.prim (.agg 2 (tv 0))
(.prim (.one (tv 1))
(.prim (.one (tv 2))
(.call 56 [(.agg [(tp 3 0), (tp 3 1)]), (.lit 1 2 [(tv 4), (tv 5)]), (.e (.cst .snil))]
(.prim (.ext (tv 6) 0)
(.prim (.ext (tv 6) 1)
(.prim (.agg 2 (tv 7))
(.prim (.bin .neq 32 (tv 8) (tn 0))
(.ite (.var 10)
(.ret (.tup [(tn 0), (tn 0), (tv 8)]))
(.call 91 [(tp 9 0)]
(.prim (.row 3 (tp 9 1) (tv 1))
(.prim (.agg 2 (tv 11))
(.join 0
(.loop 1 [(tn 0)]
(.prim (.bin .lss 3 (tv 14) (tn 6))
(.ite (.var 15)
(.join 2
(.loop 3 [(tn 0)]
(.prim (.bin .add 3 (tv 16) (tv 14))
(.prim (.bin .sub 3 (tp 12 1) (tn 1))
(.prim (.bin .leq 3 (tv 17) (tv 18))
(.ite (.var 19)
(.join 4
(.loop 5 [(tn 0), (.e (.cst (.agg [])))]
(.prim (.bin .lss 3 (tv 20) (tv 14))
(.ite (.var 22)
(.prim (.bin .add 3 (tv 16) (tv 20))
(.call 96 [(.agg [(tp 12 0), (tp 12 1), (tp 12 2)]), (tv 23)]
(.prim (.one (tv 24))
(.prim (.push 1 8 (.var 21) (.lit 1 1 [(tv 25)]))
(.prim (.bin .add 3 (tv 20) (tn 1))
(.jump 5 [(tv 27), (tv 26)]))))))
(.jump 4 [(tv 21)]))))
(.prim (.row 3 (tp 9 1) (tv 2))
(.prim (.frz 1 .nil0 (.var 20))
(.call 92 [(.agg [(tp 13 0), (tp 13 1)]), (.agg [(tp 21 0), (tp 21 1), (tp 21 2)]), (.agg [(tv 22), (tn 0), (tn 0), (tn 0), (.e (.cst (.bool false)))]), (.e (.cst (.int .u8 0)))]
(.prim (.un .not (tv 23))
(.ite (.var 24)
(.ret (.tup [(tv 14), (tv 16), (tn 0)]))
(.prim (.bin .add 3 (tv 16) (tn 1))
(.jump 3 [(tv 25)]))))))))
(.jump 2 []))))))
(.prim (.bin .add 3 (tv 14) (tn 1))
(.jump 1 [(tv 16)])))
(.jump 0 []))))
(.ret (.tup [(tn 0), (tn 0), (tn 11)])))))))))))))))
theorem t50_ok : compFun (x50 Tryz.prog) w50 50 = .ok t50 := by kernel_rfl
theorem k50 : TreeOk Tryz.prog 23 ⟨11, some 86, some 87⟩ ownT 50 t50 (x50 Tryz.prog) w50 Tryz.f50 := ⟨rfl, rfl, rfl, (fun g r h => by cases h), by kernel_rfl, by decide, rfl, t50_ok⟩
def x51 (P : Program) : Ctx := { P := P, inl := [85, 75, 76, 100, 101, 127, 128, 129, 164], own := [], ownc := [], ownr := [], diceT := 23, diceNew := ⟨11, (some 86), (some 87)⟩ }
def w51 : Hints := { sites := [], np := [(76, 6, 18), (164, 3, 12)], thaw := [], skel := [] }
def t51 : Tree := (.prim (.len 22 (tv 1))
(.prim (.bin .sub 3 (tv 2) (tn 1))
(.call 23 [(.e (.cst (.ptr 0 0))), (tv 3)]
(.prim (.row 1 (tv 1) (tv 4))
(.ret (tp 5 0))))))
theorem t51_ok : compFun (x51 Tryz.prog) w51 51 = .ok t51 := by kernel_rfl
theorem k51 : TreeOk Tryz.prog 23 ⟨11, some 86, some 87⟩ ownT 51 t51 (x51 Tryz.prog) w51 Tryz.f51 := ⟨rfl, rfl, rfl, (fun g r h => by cases h), by kernel_rfl, by decide, rfl, t51_ok⟩
def x52 (P : Program) : Ctx := { P := P, inl := [85, 75, 76, 100, 101, 127, 128, 129, 164], own := [], ownc := [], ownr := [], diceT := 23, diceNew := ⟨11, (some 86), (some 87)⟩ }
def w52 : Hints := { sites := [], np := [(76, 6, 18), (164, 3, 12)], thaw := [], skel := [] }
def t52 : Tree := (.prim (.bin .sub 3 (tv 2) (tv 1))
(.call 23 [(.e (.cst (.ptr 0 0))), (tv 3)]
(.prim (.bin .add 3 (tv 1) (tv 4))
(.ret (tv 5)))))
theorem t52_ok : compFun (x52 Tryz.prog) w52 52 = .ok t52 := by kernel_rfl
theorem k52 : TreeOk Tryz.prog 23 ⟨11, some 86, some 87⟩ ownT 52 t52 (x52 Tryz.prog) w52 Tryz.f52 := ⟨rfl, rfl, rfl, (fun g r h => by cases h), by kernel_rfl, by decide, rfl, t52_ok⟩
def x53 (P : Program) : Ctx := { P := P, inl := [85, 75, 76, 100, 101, 127, 128, 129, 164, 63], own := [], ownc := [], ownr := [], diceT := 23, diceNew := ⟨11, (some 86), (some 87)⟩ }
def w53 : Hints := { sites := [1003], np := [(53, 5, 11), (53, 6, 11), (76, 6, 18), (164, 3, 12)], thaw := [], skel := [(0, 29, ⟨[], [0], [6, 4, 2, 0], [], false⟩), (0, 58, ⟨[⟨false, 7, 0, none, false⟩], [0], [2, 4, 0, 6, 7], [], false⟩), (0, 125, ⟨[⟨true, 0, 3, none, false⟩], [], [6, 4], [], false⟩), (1003, 29, ⟨[], [0], [3], [], false⟩), (1003, 58, ⟨[⟨false, 4, 0, none, false⟩], [0], [0, 3, 4], [], false⟩)] }
def t53 : Tree := (.prim (.agg 5 (tv 1))
(.prim (.len 22 (tp 3 0))
(.prim (.mk [(.int .i64 0)] 8 (tv 4))
(.join 0
(.loop 1 [(tn 0), (tv 5)]
(.prim (.len 22 (tp 3 0))
(.prim (.bin .lss 3 (tv 6) (tv 8))
(.ite (.var 9)
(.prim (.row 1 (tp 3 0) (tv 6))
(.prim (.chk 1 (.var 7) (tv 6))
(.prim (.put 1 0 (.var 7) (.var 11) [(tp 10 0)])
(.prim (.bin .add 3 (tv 6) (tn 1))
(.jump 1 [(tv 13), (tv 12)])))))
(.jump 0 [(tv 7)])))))
(.join 1
(.loop 2 [(tn 0), (tv 6)]
(.prim (.lenc 1 (.var 8))
(.prim (.bin .lss 3 (tv 7) (tv 9))
(.ite (.var 10)
(.prim (.chk 1 (.var 8) (tv 7))
(.prim (.get 1 0 1 (.var 8) (.var 11))
(.call 97 [(.e (.cst (.ptr 0 0))), (tp 12 0), (tv 2), (tn 1), (tn 30)]
(.prim (.chk 1 (.var 8) (tv 7))
(.prim (.one (tv 13))
(.prim (.put 1 0 (.var 8) (.var 14) [(tv 15)])
(.prim (.bin .add 3 (tv 7) (tn 1))
(.jump 2 [(tv 17), (tv 16)]))))))))
(.jump 1 [(tv 8)])))))
(.call 97 [(.e (.cst (.ptr 0 0))), (tp 3 1), (tv 2), (tn 0), (tn 30)]
(.call 97 [(.e (.cst (.ptr 0 0))), (tp 3 2), (tv 2), (tn 0), (tn 30)]
(.prim (.one (tv 8))
(.prim (.one (tv 9))
(.prim (.bin .gtr 3 (tp 3 3) (tn 0))
(.join 2
(.ite (.var 12)
(.call 97 [(.e (.cst (.ptr 0 0))), (tp 3 3), (tv 2), (tn 1), (tn 60)]
(.prim (.one (tv 13))
(.jump 2 [(tv 14)])))
(.jump 2 [(tp 3 3)]))
(.prim (.frz 1 .real (.var 7))
(.ret (.agg [(tv 14), (tv 10), (tv 11), (tv 13), (tp 3 4)]))))))))))))))
theorem t53_ok : compFunO (x53 Tryz.prog) w53 (some (5, 0)) 53 = .ok t53 := by kernel_rfl
theorem k53 : TreeOk Tryz.prog 23 ⟨11, some 86, some 87⟩ ownT 53 t53 (x53 Tryz.prog) w53 Tryz.f53 := ⟨rfl, rfl, rfl, (fun g r h => by cases h), by kernel_rfl, by decide, rfl, t53_ok⟩
def x54 (P : Program) : Ctx := { P := P, inl := [85, 75, 76, 100, 101, 127, 128, 129, 164], own := [], ownc := [], ownr := [], diceT := 23, diceNew := ⟨11, (some 86), (some 87)⟩ }
def w54 : Hints := { sites := [], np := [(54, 5, 6), (76, 6, 18), (164, 3, 12)], thaw := [], skel := [(0, 29, ⟨[⟨true, 2, 0, (some (1, .nil0)), false⟩], [], [8, 9, 5, 0, 3, 2], [], false⟩), (0, 58, ⟨[⟨false, 10, 0, none, false⟩, ⟨true, 2, 0, (some (1, .nil0)), false⟩], [], [9, 5, 8, 0, 3, 2, 10], [], false⟩), (0, 125, ⟨[⟨true, 2, 1, none, false⟩], [], [8, 9, 5, 0, 3], [], false⟩), (0, 253, ⟨[⟨true, 2, 2, none, false⟩], [], [8, 9, 5, 0], [], false⟩)] }
def t54 : Tree := (.prim (.agg 3 (tv 1))
(.join 0
(.loop 1 [(tv 2), (.e (.cst (.agg [])))]
(.prim (.bin .lss 3 (tv 5) (tv 3))
(.ite (.var 7)
(.call 98 [(.agg [(tp 4 0), (tp 4 1), (tp 4 2)]), (tv 5)]
(.prim (.one (tv 8))
(.prim (.push 1 8 (.var 6) (.lit 1 1 [(tv 9)]))
(.prim (.bin .add 3 (tv 5) (tn 1))
(.jump 1 [(tv 11), (tv 10)])))))
(.jump 0 [(tv 6)]))))
(.call 23 [(.e (.cst (.ptr 0 0))), (tn 30)]
(.call 23 [(.e (.cst (.ptr 0 0))), (tn 30)]
(.prim (.one (tv 6))
(.prim (.one (tv 7))
(.prim (.bin .gtr 3 (tv 2) (tn 0))
(.join 1
(.ite (.var 10)
(.prim (.bin .sub 3 (tv 2) (tn 1))
(.call 98 [(.agg [(tp 4 0), (tp 4 1), (tp 4 2)]), (tv 11)]
(.prim (.bin .sub 3 (tv 12) (tn 1))
(.call 23 [(.e (.cst (.ptr 0 0))), (tv 13)]
(.prim (.one (tv 14))
(.jump 1 [(tv 15)]))))))
(.jump 1 [(tv 8)]))
(.prim (.bin .sub 3 (tp 4 1) (tn 1))
(.prim (.bin .lss 3 (tv 3) (tv 12))
(.join 2
(.ite (.var 13)
(.call 98 [(.agg [(tp 4 0), (tp 4 1), (tp 4 2)]), (tv 3)]
(.prim (.bin .sub 3 (tv 14) (tn 1))
(.call 23 [(.e (.cst (.ptr 0 0))), (tv 15)]
(.prim (.one (tv 16))
(.jump 2 [(tv 17)])))))
(.jump 2 [(tv 9)]))
(.call 51 [(.e (.cst (.ptr 0 0))), (.lit 1 2 [(tn 0), (tp 4 2)])]
(.prim (.one (tv 15))
(.prim (.frz 1 .nil0 (.var 5))
(.ret (.agg [(tv 17), (tv 11), (tv 14), (tv 16), (.e (.cst (.bool false)))]))))))))))))))))
theorem t54_ok : compFun (x54 Tryz.prog) w54 54 = .ok t54 := by kernel_rfl
theorem k54 : TreeOk Tryz.prog 23 ⟨11, some 86, some 87⟩ ownT 54 t54 (x54 Tryz.prog) w54 Tryz.f54 := ⟨rfl, rfl, rfl, (fun g r h => by cases h), by kernel_rfl, by decide, rfl, t54_ok⟩
def x55 (P : Program) : Ctx := { P := P, inl := [85, 75, 76, 100, 101, 127, 128, 129, 164], own := [], ownc := [], ownr := [], diceT := 23, diceNew := ⟨11, (some 86), (some 87)⟩ }
def w55 : Hints := { sites := [], np := [(76, 6, 18), (164, 3, 12)], thaw := [], skel := [] }
def t55 : Tree := (.prim (.bin .sub 3 (tv 1) (tn 1))
(.call 23 [(.e (.cst (.ptr 0 0))), (tv 2)]
(.prim (.bin .quo 3 (tv 1) (tn 2))
(.prim (.bin .eql 3 (tv 3) (tv 4))
(.ret (tv 5))))))
theorem t55_ok : compFun (x55 Tryz.prog) w55 55 = .ok t55 := by kernel_rfl
theorem k55 : TreeOk Tryz.prog 23 ⟨11, some 86, some 87⟩ ownT 55 t55 (x55 Tryz.prog) w55 Tryz.f55 := ⟨rfl, rfl, rfl, (fun g r h => by cases h), by kernel_rfl, by decide, rfl, t55_ok⟩
def x56 (P : Program) : Ctx := { P := P, inl := [85, 75, 76, 100, 101, 127, 128, 129, 164], own := [], ownc := [], ownr := [], diceT := 23, diceNew := ⟨11, (some 86), (some 87)⟩ }
def w56 : Hints := { sites := [], np := [(76, 6, 18), (164, 3, 12)], thaw := [], skel := [(0, 29, ⟨[], [], [6, 3, 2], [], false⟩), (0, 58, ⟨[⟨false, 22, 0, none, false⟩], [], [6, 3, 20, 2, 21, 22], [], false⟩), (0, 61, ⟨[], [], [6, 3], [], false⟩), (0, 122, ⟨[⟨false, 37, 0, none, false⟩], [], [6, 35, 3, 36, 37], [], false⟩)] }
def t56 : Tree := (.prim (.agg 2 (tv 0))
(.call 41 [(.agg [(tp 3 0), (tp 3 1)])]
(.prim (.bin .neq 32 (tv 4) (tn 0))
(.ite (.var 5)
(.ret (.tup [(.agg [(tn 0), (.e (.cst .snil))]), (tv 4)]))
(.prim (.len 22 (tv 1))
(.join 0
(.loop 1 [(tn 0)]
(.prim (.bin .lss 3 (tv 7) (tv 6))
(.ite (.var 8)
(.prim (.row 1 (tv 1) (tv 7))
(.prim (.len 25 (tp 3 1))
(.prim (.bin .sub 3 (tv 10) (tn 1))
(.call 88 [(tp 9 0), (tn 0), (tv 11)]
(.prim (.un .not (tv 12))
(.ite (.var 13)
(.ret (.tup [(.agg [(tn 0), (.e (.cst .snil))]), (tn 3)]))
(.prim (.bin .add 3 (tv 7) (tn 1))
(.jump 1 [(tv 14)]))))))))
(.jump 0 []))))
(.prim (.len 47 (tv 2))
(.join 1
(.loop 2 [(tn 0)]
(.prim (.bin .lss 3 (tv 8) (tv 7))
(.ite (.var 9)
(.prim (.row 5 (tv 2) (tv 8))
(.call 99 [(.agg [(tp 10 0), (tp 10 1), (tp 10 2), (tp 10 3), (tp 10 4)])]
(.prim (.bin .neq 32 (tv 11) (tn 0))
(.ite (.var 12)
(.ret (.tup [(.agg [(tn 0), (.e (.cst .snil))]), (tv 11)]))
(.prim (.bin .add 3 (tv 8) (tn 1))
(.jump 2 [(tv 13)]))))))
(.jump 1 []))))
(.ret (.tup [(.agg [(tp 3 0), (tp 3 1)]), (tn 0)]))))))))))
theorem t56_ok : compFun (x56 Tryz.prog) w56 56 = .ok t56 := by kernel_rfl
theorem k56 : TreeOk Tryz.prog 23 ⟨11, some 86, some 87⟩ ownT 56 t56 (x56 Tryz.prog) w56 Tryz.f56 := ⟨rfl, rfl, rfl, (fun g r h => by cases h), by kernel_rfl, by decide, rfl, t56_ok⟩
def x57 (P : Program) : Ctx := { P := P, inl := [85, 75, 76, 100, 101, 127, 128, 129, 164], own := [], ownc := [], ownr := [], diceT := 23, diceNew := ⟨11, (some 86), (some 87)⟩ }
def w57 : Hints := { sites := [1012, 1013, 1013001002, 1013001002700027, 1013001002700027002004, 1013001002700027002004004012, 1013001002700027010005, 1013001002700027010005004012], np := [(57, 1, 11), (76, 6, 18), (164, 3, 12)], thaw := [], skel := [(1013001002, 13, ⟨[⟨true, 6, 0, (some (2, .nil0)), false⟩], [], [2], [], true⟩), (1013001002700027, 28, ⟨[⟨false, 19, 0, none, false⟩, ⟨true, 6, 0, (some (2, .nil0)), false⟩], [], [19, 3, 4, 6], [], true⟩), (1013001002700027, 125, ⟨[⟨false, 7, 0, none, false⟩], [], [7, 3, 6], [], true⟩), (1013001002700027, 250, ⟨[⟨false, 7, 0, none, false⟩, ⟨false, 23, 0, none, false⟩], [], [3, 4, 6, 22, 23, 7], [], true⟩), (1013001002700027, 32051, ⟨[⟨false, 7, 0, none, false⟩], [], [3, 4, 6, 22, 7, 23], [], true⟩), (1013001002700027002004, 13, ⟨[⟨true, 6, 0, (some (2, .nil0)), false⟩], [], [], [], true⟩), (1013001002700027002004, 26, ⟨[⟨false, 13, 0, none, false⟩, ⟨true, 6, 0, (some (2, .nil0)), false⟩], [], [2, 5, 1, 6, 3, 4, 12, 13], [], true⟩), (1013001002700027002004, 3378, ⟨[⟨false, 29, 0, none, false⟩, ⟨true, 6, 0, (some (2, .nil0)), false⟩], [], [29, 2, 5, 1, 6, 3, 4, 12, 13], [], true⟩), (1013001002700027002004004012, 13, ⟨[], [], [2], [], false⟩), (1013001002700027010005, 13, ⟨[], [0], [], [], true⟩), (1013001002700027010005, 26, ⟨[⟨false, 13, 0, none, false⟩], [0], [2, 5, 1, 6, 3, 4, 12, 13], [], true⟩), (1013001002700027010005, 3378, ⟨[⟨false, 29, 0, none, false⟩], [0], [29, 2, 5, 1, 6, 3, 4, 12, 13], [], true⟩), (1013001002700027010005004012, 13, ⟨[], [], [2], [], false⟩)] }
def t57 : Tree := (.prim (.agg 2 (tv 0))
(.prim (.agg 5 (tv 2))
(.call 91 [(tp 3 0)]
(.prim (.row 3 (tp 3 1) (tv 1))
(.prim (.agg 2 (tv 5))
(.join 0
(.join 1
(.join 2
(.loop 3 [(tn 0), (.e (.cst (.agg [])))]
(.prim (.bin .lss 3 (tv 8) (tp 6 1))
(.ite (.var 10)
(.join 4
(.call 130 [(.agg [(tp 7 0), (tp 7 1)]), (.agg [(tp 6 0), (tp 6 1), (tp 6 2)]), (.agg [(tp 4 0), (tp 4 1), (tp 4 2), (tp 4 3), (tp 4 4)]), (tv 8), (.e (.cst (.int .u8 0)))]
(.ite (.var 11)
(.prim (.one (tv 8))
(.prim (.push 2 16 (.var 9) (.lit 2 1 [(tv 12), (.e (.cst (.bool false)))]))
(.jump 4 [(.e (.cst (.bool false))), (tv 13)])))
(.jump 4 [(.e (.cst (.bool false))), (tv 9)])))
(.ite (.var 11)
(.jump 1 [(.e (.cst (.bool true))), (tv 12)])
(.prim (.bin .add 3 (tv 8) (tn 1))
(.jump 3 [(tv 13), (tv 12)]))))
(.jump 2 [(tv 9)]))))
(.prim (.un .not (tp 4 4))
(.jump 1 [(tv 9), (tv 8)])))
(.ite (.var 8)
(.jump 0 [(tv 9)])
(.prim (.len 22 (tp 4 0))
(.join 2
(.loop 3 [(.e (.cst (.int .u8 0))), (tn 0)]
(.prim (.bin .lss 3 (tv 12) (tv 10))
(.ite (.var 13)
(.call 123 [(.e (.cst (.int .u8 0))), (tv 12)]
(.join 4
(.ite (.var 14)
(.prim (.len 22 (tp 4 0))
(.prim (.bin .sub 3 (tv 15) (tn 1))
(.prim (.bin .sub 3 (tv 16) (tv 12))
(.prim (.bin .shl 130 (.e (.cst (.int .u8 1))) (tv 17))
(.prim (.bin .or 130 (tv 11) (tv 18))
(.jump 4 [(tv 19)]))))))
(.jump 4 [(tv 11)]))
(.prim (.bin .add 3 (tv 12) (tn 1))
(.jump 3 [(tv 15), (tv 16)]))))
(.jump 2 [(tv 11)]))))
(.call 131 [(.agg [(tp 4 0), (tp 4 1), (tp 4 2), (tp 4 3), (tp 4 4)])]
(.prim (.agg 5 (tv 12))
(.join 3
(.loop 4 [(tn 0), (tv 9)]
(.prim (.bin .lss 3 (tv 14) (tp 6 1))
(.ite (.var 16)
(.join 5
(.call 130 [(.agg [(tp 7 0), (tp 7 1)]), (.agg [(tp 6 0), (tp 6 1), (tp 6 2)]), (.agg [(tp 13 0), (tp 13 1), (tp 13 2), (tp 13 3), (tp 13 4)]), (tv 14), (tv 11)]
(.ite (.var 17)
(.prim (.one (tv 14))
(.prim (.push 2 16 (.var 15) (.lit 2 1 [(tv 18), (.e (.cst (.bool true)))]))
(.jump 5 [(.e (.cst (.bool false))), (tv 19)])))
(.jump 5 [(.e (.cst (.bool false))), (tv 15)])))
(.ite (.var 17)
(.jump 0 [(tv 18)])
(.prim (.bin .add 3 (tv 14) (tn 1))
(.jump 4 [(tv 19), (tv 18)]))))
(.jump 3 [(tv 15)]))))
(.jump 0 [(tv 14)]))))))))
(.prim (.frz 2 .nil0 (.var 8))
(.ret (tv 9)))))))))
theorem t57_ok : compFun (x57 Tryz.prog) w57 57 = .ok t57 := by kernel_rfl
theorem k57 : TreeOk Tryz.prog 23 ⟨11, some 86, some 87⟩ ownT 57 t57 (x57 Tryz.prog) w57 Tryz.f57 := ⟨rfl, rfl, rfl, (fun g r h => by cases h), by kernel_rfl, by decide, rfl, t57_ok⟩
def x59 (P : Program) : Ctx := { P := P, inl := [85, 75, 76, 100, 101, 127, 128, 129, 164], own := [], ownc := [], ownr := [], diceT := 23, diceNew := ⟨11, (some 86), (some 87)⟩ }
def w59 : Hints := { sites := [], np := [(76, 6, 18), (164, 3, 12)], thaw := [], skel := [] }
def t59 : Tree := (.prim (.agg 5 (tv 0))
(.ret (.agg [(tp 1 0), (tp 1 1), (tp 1 2), (tp 1 3), (.e (.cst (.bool true)))])))
theorem t59_ok : compFun (x59 Tryz.prog) w59 59 = .ok t59 := by kernel_rfl
theorem k59 : TreeOk Tryz.prog 23 ⟨11, some 86, some 87⟩ ownT 59 t59 (x59 Tryz.prog) w59 Tryz.f59 := ⟨rfl, rfl, rfl, (fun g r h => by cases h), by kernel_rfl, by decide, rfl, t59_ok⟩
def x60 (P : Program) : Ctx := { P := P, inl := [85, 75, 76, 100, 101, 127, 128, 129, 164], own := [], ownc := [], ownr := [], diceT := 23, diceNew := ⟨11, (some 86), (some 87)⟩ }
def w60 : Hints := { sites := [], np := [(76, 6, 18), (164, 3, 12)], thaw := [], skel := [] }
def t60 : Tree := (.prim (.agg 2 (tv 0))
(.call 94 [(.agg [(tp 4 0), (tp 4 1)]), (tv 1), (tv 2)]
(.prim (.ext (tv 5) 0)
(.prim (.ext (tv 5) 1)
(.prim (.agg 2 (tv 6))
(.prim (.bin .neq 32 (tv 7) (tn 0))
(.ite (.var 9)
(.ret (.tup [(.e (.cst .snil)), (tv 7)]))
(.prim (.len 22 (tv 2))
(.prim (.bin .sub 3 (tv 10) (tn 1))
(.call 88 [(tv 3), (tn 0), (tv 11)]
(.prim (.un .not (tv 12))
(.ite (.var 13)
(.ret (.tup [(.e (.cst .snil)), (tn 3)]))
(.call 95 [(.agg [(tp 8 0), (tp 8 1)]), (tv 1), (tv 2), (tv 3)]
(.ret (.tup [(tv 14), (tn 0)])))))))))))))))
theorem t60_ok : compFun (x60 Tryz.prog) w60 60 = .ok t60 := by kernel_rfl
theorem k60 : TreeOk Tryz.prog 23 ⟨11, some 86, some 87⟩ ownT 60 t60 (x60 Tryz.prog) w60 Tryz.f60 := ⟨rfl, rfl, rfl, (fun g r h => by cases h), by kernel_rfl, by decide, rfl, t60_ok⟩
def x61 (P : Program) : Ctx := { P := P, inl := [85, 75, 76, 100, 101, 127, 128, 129, 164], own := [], ownc := [], ownr := [], diceT := 23, diceNew := ⟨11, (some 86), (some 87)⟩ }
def w61 : Hints := { sites := [], np := [(76, 6, 18), (164, 3, 12)], thaw := [], skel := [] }
def t61 : Tree := (.prim (.agg 3 (tv 0))
(.call 63 [(tp 1 0)]
(.prim (.one (tv 2))
(.ret (.agg [(tv 3), (tp 1 1), (tp 1 2)])))))
theorem t61_ok : compFun (x61 Tryz.prog) w61 61 = .ok t61 := by kernel_rfl
theorem k61 : TreeOk Tryz.prog 23 ⟨11, some 86, some 87⟩ ownT 61 t61 (x61 Tryz.prog) w61 Tryz.f61 := ⟨rfl, rfl, rfl, (fun g r h => by cases h), by kernel_rfl, by decide, rfl, t61_ok⟩
def x63 (P : Program) : Ctx := { P := P, inl := [85, 75, 76, 100, 101, 127, 128, 129, 164], own := [], ownc := [], ownr := [], diceT := 23, diceNew := ⟨11, (some 86), (some 87)⟩ }
def w63 : Hints := { sites := [], np := [(76, 6, 18), (164, 3, 12)], thaw := [], skel := [(0, 29, ⟨[], [0], [3], [], false⟩), (0, 58, ⟨[⟨false, 4, 0, none, false⟩], [0], [0, 3, 4], [], false⟩)] }
def t63 : Tree := (.prim (.len 22 (tv 0))
(.prim (.mk [(.int .i64 0)] 8 (tv 1))
(.join 0
(.loop 1 [(tn 0), (tv 2)]
(.prim (.len 22 (tv 0))
(.prim (.bin .lss 3 (tv 3) (tv 5))
(.ite (.var 6)
(.prim (.row 1 (tv 0) (tv 3))
(.prim (.chk 1 (.var 4) (tv 3))
(.prim (.put 1 0 (.var 4) (.var 8) [(tp 7 0)])
(.prim (.bin .add 3 (tv 3) (tn 1))
(.jump 1 [(tv 10), (tv 9)])))))
(.jump 0 [(tv 4)])))))
(.prim (.frz 1 .real (.var 3))
(.ret (tv 4))))))
theorem t63_ok : compFun (x63 Tryz.prog) w63 63 = .ok t63 := by kernel_rfl
theorem k63 : TreeOk Tryz.prog 23 ⟨11, some 86, some 87⟩ ownT 63 t63 (x63 Tryz.prog) w63 Tryz.f63 := ⟨rfl, rfl, rfl, (fun g r h => by cases h), by kernel_rfl, by decide, rfl, t63_ok⟩
def x64 (P : Program) : Ctx := { P := P, inl := [85, 75, 76, 100, 101, 127, 128, 129, 164], own := [], ownc := [], ownr := [], diceT := 23, diceNew := ⟨11, (some 86), (some 87)⟩ }
def w64 : Hints := { sites := [], np := [(64, 7, 8), (76, 6, 18), (164, 3, 12)], thaw := [], skel := [(0, 29, ⟨[], [], [2], [], false⟩), (0, 58, ⟨[⟨false, 8, 0, none, false⟩], [], [3, 1, 2, 8], [], false⟩), (0, 61, ⟨[], [], [], [], false⟩), (0, 122, ⟨[⟨false, 9, 0, none, false⟩], [], [2, 9], [], false⟩)] }
def t64 : Tree := (.prim (.agg 2 (tv 0))
(.call 73 [(.agg [(tp 3 0), (tp 3 1)])]
(.prim (.bin .neq 32 (tv 4) (tn 0))
(.ite (.var 5)
(.ret (tv 4))
(.join 0
(.loop 1 [(tn 0)]
(.prim (.len 22 (tv 1))
(.prim (.bin .lss 3 (tv 6) (tv 7))
(.ite (.var 8)
(.prim (.row 1 (tv 1) (tv 6))
(.prim (.len 25 (tp 3 1))
(.prim (.bin .sub 3 (tv 10) (tn 1))
(.call 106 [(tp 9 0), (tn 0), (tv 11)]
(.prim (.un .not (tv 12))
(.ite (.var 13)
(.ret (tn 3))
(.prim (.bin .add 3 (tv 6) (tn 1))
(.jump 1 [(tv 14)]))))))))
(.jump 0 [])))))
(.join 1
(.loop 2 [(tn 0)]
(.prim (.len 47 (tv 2))
(.prim (.bin .lss 3 (tv 6) (tv 7))
(.ite (.var 8)
(.prim (.row 5 (tv 2) (tv 6))
(.call 107 [(.agg [(tp 9 0), (tp 9 1), (tp 9 2), (tp 9 3), (tp 9 4)])]
(.prim (.bin .neq 32 (tv 10) (tn 0))
(.ite (.var 11)
(.ret (tv 10))
(.prim (.bin .add 3 (tv 6) (tn 1))
(.jump 2 [(tv 12)]))))))
(.jump 1 [])))))
(.ret (tn 0))))))))
theorem t64_ok : compFun (x64 Tryz.prog) w64 64 = .ok t64 := by kernel_rfl
theorem k64 : TreeOk Tryz.prog 23 ⟨11, some 86, some 87⟩ ownT 64 t64 (x64 Tryz.prog) w64 Tryz.f64 := ⟨rfl, rfl, rfl, (fun g r h => by cases h), by kernel_rfl, by decide, rfl, t64_ok⟩
def x67 (P : Program) : Ctx := { P := P, inl := [85, 75, 76, 100, 101, 127, 128, 129, 164], own := [], ownc := [], ownr := [], diceT := 23, diceNew := ⟨11, (some 86), (some 87)⟩ }
def w67 : Hints := { sites := [], np := [(76, 6, 18), (164, 3, 12)], thaw := [], skel := [(0, 13, ⟨[], [], [], [], false⟩), (0, 26, ⟨[⟨false, 5, 0, none, false⟩], [], [1, 0, 5], [], false⟩)] }
def t67 : Tree := (.join 0
(.loop 1 [(tn 0)]
(.prim (.len 22 (tv 0))
(.prim (.bin .lss 3 (tv 2) (tv 3))
(.ite (.var 4)
(.prim (.row 1 (tv 0) (tv 2))
(.prim (.bin .eql 3 (tp 5 0) (tv 1))
(.ite (.var 6)
(.ret (.e (.cst (.bool true))))
(.prim (.bin .add 3 (tv 2) (tn 1))
(.jump 1 [(tv 7)])))))
(.jump 0 [])))))
(.ret (.e (.cst (.bool false)))))
theorem t67_ok : compFun (x67 Tryz.prog) w67 67 = .ok t67 := by kernel_rfl
theorem k67 : TreeOk Tryz.prog 23 ⟨11, some 86, some 87⟩ ownT 67 t67 (x67 Tryz.prog) w67 Tryz.f67 := ⟨rfl, rfl, rfl, (fun g r h => by cases h), by kernel_rfl, by decide, rfl, t67_ok⟩
end Go.Proofs.YtlminnpaeaganaaGreat
