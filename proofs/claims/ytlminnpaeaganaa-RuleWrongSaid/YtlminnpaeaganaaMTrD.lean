/- Residual trees of functions. No condition. -/
import Derived.Test.YtlminnpaeaganaaMTrA
namespace Go.Proofs.Ytlminnpaeaganaa
open Go Go.RowKit
set_option maxRecDepth 100000
def x40 (P : Program) : Ctx := { P := P, inl := [86, 87, 99, 100, 115, 116, 117, 123], own := [], ownc := [], ownr := [], diceT := 31, diceNew := 18 }
def w40 : Hints := { sites := [], np := [(40, 5, 6), (87, 6, 18), (123, 3, 12)], thaw := [], skel := [(0, 29, ⟨[⟨true, 2, 0, (some (1, .nil0)), false⟩], [], [8, 9, 5, 0, 3, 2], [], false⟩), (0, 58, ⟨[⟨false, 10, 0, none, false⟩, ⟨true, 2, 0, (some (1, .nil0)), false⟩], [], [9, 5, 8, 0, 3, 2, 10], [], false⟩), (0, 125, ⟨[⟨true, 2, 1, none, false⟩], [], [8, 9, 5, 0, 3], [], false⟩), (0, 253, ⟨[⟨true, 2, 2, none, false⟩], [], [8, 9, 5, 0], [], false⟩)] }
def t40 : Tree := (.prim (.agg 3 (tv 1))
(.join 0
(.loop 1 [(tv 2), (.e (.cst (.agg [])))]
(.prim (.bin .lss 3 (tv 5) (tv 3))
(.ite (.var 7)
(.call 51 [(.agg [(tp 4 0), (tp 4 1), (tp 4 2)]), (tv 5)]
(.prim (.one (tv 8))
(.prim (.push 1 8 (.var 6) (.lit 1 1 [(tv 9)]))
(.prim (.bin .add 3 (tv 5) (tn 1))
(.jump 1 [(tv 11), (tv 10)])))))
(.jump 0 [(tv 6)]))))
(.call 21 [(.e (.cst (.ptr 0 0))), (tn 30)]
(.call 21 [(.e (.cst (.ptr 0 0))), (tn 30)]
(.prim (.one (tv 6))
(.prim (.one (tv 7))
(.prim (.bin .gtr 3 (tv 2) (tn 0))
(.join 1
(.ite (.var 10)
(.prim (.bin .sub 3 (tv 2) (tn 1))
(.call 51 [(.agg [(tp 4 0), (tp 4 1), (tp 4 2)]), (tv 11)]
(.prim (.bin .sub 3 (tv 12) (tn 1))
(.call 21 [(.e (.cst (.ptr 0 0))), (tv 13)]
(.prim (.one (tv 14))
(.jump 1 [(tv 15)]))))))
(.jump 1 [(tv 8)]))
(.prim (.bin .sub 3 (tp 4 1) (tn 1))
(.prim (.bin .lss 3 (tv 3) (tv 12))
(.join 2
(.ite (.var 13)
(.call 51 [(.agg [(tp 4 0), (tp 4 1), (tp 4 2)]), (tv 3)]
(.prim (.bin .sub 3 (tv 14) (tn 1))
(.call 21 [(.e (.cst (.ptr 0 0))), (tv 15)]
(.prim (.one (tv 16))
(.jump 2 [(tv 17)])))))
(.jump 2 [(tv 9)]))
(.call 65 [(.e (.cst (.ptr 0 0))), (.lit 1 2 [(tn 0), (tp 4 2)])]
(.prim (.one (tv 15))
(.prim (.frz 1 .nil0 (.var 5))
(.ret (.agg [(tv 17), (tv 11), (tv 14), (tv 16), (.e (.cst (.bool false)))]))))))))))))))))
theorem t40_ok : compFun (x40 Try.prog) w40 40 = .ok t40 := by kernel_rfl
theorem k40 : TreeOk Try.prog 31 18 ownT 40 t40 (x40 Try.prog) w40 Try.f40 := ⟨rfl, rfl, rfl, (fun g r h => by cases h), by kernel_rfl, by decide, rfl, t40_ok⟩
def x41 (P : Program) : Ctx := { P := P, inl := [86, 87, 99, 100, 115, 116, 117, 123], own := [], ownc := [], ownr := [], diceT := 31, diceNew := 18 }
def w41 : Hints := { sites := [], np := [(87, 6, 18), (123, 3, 12)], thaw := [], skel := [] }
def t41 : Tree := (.prim (.agg 5 (tv 0))
(.ret (.agg [(tp 1 0), (tp 1 1), (tp 1 2), (tp 1 3), (.e (.cst (.bool true)))])))
theorem t41_ok : compFun (x41 Try.prog) w41 41 = .ok t41 := by kernel_rfl
theorem k41 : TreeOk Try.prog 31 18 ownT 41 t41 (x41 Try.prog) w41 Try.f41 := ⟨rfl, rfl, rfl, (fun g r h => by cases h), by kernel_rfl, by decide, rfl, t41_ok⟩
def x42 (P : Program) : Ctx := { P := P, inl := [86, 87, 99, 100, 115, 116, 117, 123], own := [], ownc := [], ownr := [], diceT := 31, diceNew := 18 }
def w42 : Hints := { sites := [], np := [(42, 5, 9), (87, 6, 18), (123, 3, 12)], thaw := [], skel := [(0, 29, ⟨[⟨true, 2, 0, (some (1, .nil0)), false⟩], [], [2, 3], [], false⟩), (0, 58, ⟨[⟨false, 4, 0, none, false⟩, ⟨true, 2, 0, (some (1, .nil0)), false⟩], [], [3, 1, 2, 4], [], false⟩)] }
def t42 : Tree := (.prim (.agg 5 (tv 0))
(.prim (.len 25 (tp 1 0))
(.join 0
(.loop 1 [(tv 2), (.e (.cst (.agg [])))]
(.prim (.bin .gtr 3 (tv 3) (tn 0))
(.ite (.var 5)
(.prim (.bin .sub 3 (tv 3) (tn 1))
(.prim (.row 1 (tp 1 0) (tv 6))
(.prim (.push 1 8 (.var 4) (.lit 1 1 [(tp 7 0)]))
(.prim (.bin .sub 3 (tv 3) (tn 1))
(.jump 1 [(tv 9), (tv 8)])))))
(.jump 0 [(tv 4)]))))
(.prim (.frz 1 .nil0 (.var 3))
(.ret (.agg [(tv 4), (tp 1 2), (tp 1 1), (tp 1 3), (tp 1 4)]))))))
theorem t42_ok : compFun (x42 Try.prog) w42 42 = .ok t42 := by kernel_rfl
theorem k42 : TreeOk Try.prog 31 18 ownT 42 t42 (x42 Try.prog) w42 Try.f42 := ⟨rfl, rfl, rfl, (fun g r h => by cases h), by kernel_rfl, by decide, rfl, t42_ok⟩
def x43 (P : Program) : Ctx := { P := P, inl := [86, 87, 99, 100, 115, 116, 117, 123], own := [], ownc := [], ownr := [], diceT := 31, diceNew := 18 }
def w43 : Hints := { sites := [], np := [(43, 4, 5), (87, 6, 18), (123, 3, 12)], thaw := [], skel := [(0, 13, ⟨[], [], [], [], false⟩), (0, 26, ⟨[⟨false, 5, 0, none, false⟩], [], [3, 0, 5], [], false⟩)] }
def t43 : Tree := (.prim (.agg 2 (tv 1))
(.join 0
(.loop 1 [(tn 0)]
(.prim (.len 45 (tv 0))
(.prim (.bin .lss 3 (tv 3) (tv 4))
(.ite (.var 5)
(.prim (.row 2 (tv 0) (tv 3))
(.prim (.bin .eql 62 (.agg [(tp 6 0), (tp 6 1)]) (.agg [(tp 2 0), (tp 2 1)]))
(.ite (.var 7)
(.ret (.e (.cst (.bool true))))
(.prim (.bin .add 3 (tv 3) (tn 1))
(.jump 1 [(tv 8)])))))
(.jump 0 [])))))
(.ret (.e (.cst (.bool false))))))
theorem t43_ok : compFun (x43 Try.prog) w43 43 = .ok t43 := by kernel_rfl
theorem k43 : TreeOk Try.prog 31 18 ownT 43 t43 (x43 Try.prog) w43 Try.f43 := ⟨rfl, rfl, rfl, (fun g r h => by cases h), by kernel_rfl, by decide, rfl, t43_ok⟩
def x44 (P : Program) : Ctx := { P := P, inl := [86, 87, 99, 100, 115, 116, 117, 123], own := [], ownc := [], ownr := [], diceT := 31, diceNew := 18 }
def w44 : Hints := { sites := [], np := [(87, 6, 18), (123, 3, 12)], thaw := [], skel := [] }
def t44 : Tree := (.prim (.bin .sub 3 (tv 2) (tv 1))
(.call 21 [(.e (.cst (.ptr 0 0))), (tv 3)]
(.prim (.bin .add 3 (tv 1) (tv 4))
(.ret (tv 5)))))
theorem t44_ok : compFun (x44 Try.prog) w44 44 = .ok t44 := by kernel_rfl
theorem k44 : TreeOk Try.prog 31 18 ownT 44 t44 (x44 Try.prog) w44 Try.f44 := ⟨rfl, rfl, rfl, (fun g r h => by cases h), by kernel_rfl, by decide, rfl, t44_ok⟩
def x45 (P : Program) : Ctx := { P := P, inl := [86, 87, 99, 100, 115, 116, 117, 123], own := [], ownc := [], ownr := [], diceT := 31, diceNew := 18 }
def w45 : Hints := { sites := [], np := [(87, 6, 18), (123, 3, 12)], thaw := [], skel := [] }
def t45 : Tree := (.prim (.bin .sub 3 (tv 1) (tn 1))
(.call 21 [(.e (.cst (.ptr 0 0))), (tv 2)]
(.prim (.bin .quo 3 (tv 1) (tn 2))
(.prim (.bin .eql 3 (tv 3) (tv 4))
(.ret (tv 5))))))
theorem t45_ok : compFun (x45 Try.prog) w45 45 = .ok t45 := by kernel_rfl
theorem k45 : TreeOk Try.prog 31 18 ownT 45 t45 (x45 Try.prog) w45 Try.f45 := ⟨rfl, rfl, rfl, (fun g r h => by cases h), by kernel_rfl, by decide, rfl, t45_ok⟩
def x46 (P : Program) : Ctx := { P := P, inl := [86, 87, 99, 100, 115, 116, 117, 123], own := [], ownc := [], ownr := [], diceT := 31, diceNew := 18 }
def w46 : Hints := { sites := [5005, 5005011005], np := [(46, 8, 3), (87, 6, 18), (123, 3, 12)], thaw := [(0, 8, 0)], skel := [(5005, 7, ⟨[⟨true, 5, 0, (some (1, .nil0)), false⟩], [], [], [], true⟩), (5005, 14, ⟨[⟨false, 18, 0, none, false⟩, ⟨true, 5, 0, (some (1, .nil0)), false⟩], [], [3, 5, 4, 6, 17, 18], [], true⟩), (5005, 3687, ⟨[⟨true, 5, 0, (some (1, .nil0)), false⟩], [], [3, 5, 4, 6, 17, 18], [], true⟩), (5005, 7374, ⟨[⟨false, 30, 0, none, false⟩, ⟨true, 5, 0, (some (1, .nil0)), false⟩], [], [8, 3, 9, 28, 5, 4, 6, 17, 18, 29, 30], [], true⟩), (5005, 943923, ⟨[⟨true, 5, 0, (some (1, .nil0)), false⟩], [], [8, 3, 9, 28, 5, 4, 6, 17, 18, 29, 30], [], true⟩), (5005, 1887846, ⟨[⟨false, 36, 0, none, false⟩, ⟨true, 5, 0, (some (1, .nil0)), false⟩], [], [11, 8, 3, 34, 9, 28, 5, 4, 6, 17, 18, 29, 30, 35, 36], [], true⟩), (5005011005, 255, ⟨[⟨true, 5, 0, (some (1, .nil0)), false⟩], [], [], [], true⟩)] }
def t46 : Tree := (.prim (.agg 2 (tv 0))
(.prim (.agg 5 (tv 1))
(.prim (.agg 5 (tv 2))
(.call 67 [(.agg [(tp 3 0), (tp 3 1)]), (.e (.cst .snil)), (.lit 5 2 [(tp 4 0), (tp 4 1), (tp 4 2), (tp 4 3), (tp 4 4), (tp 5 0), (tp 5 1), (tp 5 2), (tp 5 3), (tp 5 4)])]
(.prim (.ext (tv 6) 0)
(.prim (.ext (tv 6) 1)
(.prim (.agg 2 (tv 7))
(.prim (.bin .neq 39 (tv 8) (tn 0))
(.ite (.var 10)
(.ret (.tup [(.agg [(tn 0), (tn 0)]), (tv 8)]))
(.prim (.len 22 (tp 9 1))
(.join 0
(.loop 1 [(tn 0), (.e (.cst (.agg [])))]
(.prim (.bin .lss 3 (tv 12) (tv 11))
(.ite (.var 14)
(.call 76 [(.agg [(tp 9 0), (tp 9 1)]), (tv 12), (.agg [(tp 5 0), (tp 5 1), (tp 5 2), (tp 5 3), (tp 5 4)])]
(.call 76 [(.agg [(tp 9 0), (tp 9 1)]), (tv 12), (.agg [(tp 4 0), (tp 4 1), (tp 4 2), (tp 4 3), (tp 4 4)])]
(.prim (.len 45 (tv 16))
(.join 2
(.loop 3 [(tn 0), (tv 13)]
(.prim (.bin .lss 3 (tv 18) (tv 17))
(.ite (.var 20)
(.prim (.row 2 (tv 16) (tv 18))
(.prim (.len 45 (tv 15))
(.join 4
(.loop 5 [(tn 0), (tv 19)]
(.prim (.bin .lss 3 (tv 23) (tv 22))
(.ite (.var 25)
(.prim (.row 2 (tv 15) (tv 23))
(.prim (.len 25 (tp 4 0))
(.prim (.bin .add 3 (tp 21 0) (tv 27))
(.prim (.bin .leq 3 (tp 26 0) (tv 28))
(.ite (.var 29)
(.prim (.bin .add 3 (tv 23) (tn 1))
(.jump 5 [(tv 30), (tv 24)]))
(.prim (.row 3 (tp 9 1) (tv 12))
(.call 68 [(.agg [(tp 30 0), (tp 30 1), (tp 30 2)])]
(.call 88 [(.agg [(tp 4 0), (tp 4 1), (tp 4 2), (tp 4 3), (tp 4 4)]), (.agg [(tp 21 0), (tp 21 1)])]
(.prim (.ext (tv 32) 0)
(.prim (.ext (tv 32) 1)
(.call 88 [(.agg [(tp 5 0), (tp 5 1), (tp 5 2), (tp 5 3), (tp 5 4)]), (.agg [(tp 26 0), (tp 26 1)])]
(.prim (.ext (tv 35) 0)
(.prim (.ext (tv 35) 1)
(.prim (.row 1 (tv 31) (tp 26 0))
(.prim (.row 1 (tv 31) (tv 28))
(.prim (.bin .sub 3 (tp 38 0) (tp 39 0))
(.prim (.bin .add 3 (tv 34) (tv 36))
(.prim (.bin .mul 3 (tn 2) (tp 9 0))
(.prim (.bin .sub 3 (tv 41) (tv 42))
(.prim (.bin .geq 3 (tv 40) (tv 43))
(.join 6
(.ite (.var 44)
(.prim (.bin .sub 3 (tp 26 0) (tv 28))
(.prim (.bin .sub 3 (tv 45) (tn 1))
(.prim (.push 1 8 (.var 24) (.lit 1 1 [(tv 46)]))
(.jump 6 [(tv 47)]))))
(.jump 6 [(tv 24)]))
(.prim (.bin .add 3 (tv 23) (tn 1))
(.jump 5 [(tv 46), (tv 45)])))))))))))))))))))))))
(.jump 4 [(tv 24)]))))
(.prim (.bin .add 3 (tv 18) (tn 1))
(.jump 3 [(tv 24), (tv 23)])))))
(.jump 2 [(tv 19)]))))
(.prim (.bin .add 3 (tv 12) (tn 1))
(.jump 1 [(tv 19), (tv 18)]))))))
(.jump 0 [(tv 13)]))))
(.prim (.lenc 1 (.var 12))
(.prim (.bin .eql 3 (tv 13) (tn 0))
(.ite (.var 14)
(.ret (.tup [(.agg [(tn 0), (tn 0)]), (tn 11)]))
(.prim (.frz 1 .nil0 (.var 12))
(.call 89 [(tv 15)]
(.call 90 [(tv 15)]
(.prim (.one (tv 16))
(.prim (.one (tv 17))
(.ret (.tup [(.agg [(tv 18), (tv 19)]), (tn 0)])))))))))))))))))))))
theorem t46_ok : compFun (x46 Try.prog) w46 46 = .ok t46 := by kernel_rfl
theorem k46 : TreeOk Try.prog 31 18 ownT 46 t46 (x46 Try.prog) w46 Try.f46 := ⟨rfl, rfl, rfl, (fun g r h => by cases h), by kernel_rfl, by decide, rfl, t46_ok⟩
def x47 (P : Program) : Ctx := { P := P, inl := [86, 87, 99, 100, 115, 116, 117, 123], own := [], ownc := [], ownr := [], diceT := 31, diceNew := 18 }
def w47 : Hints := { sites := [], np := [(47, 2, 5), (47, 3, 5), (87, 6, 18), (123, 3, 12)], thaw := [], skel := [] }
def t47 : Tree := (.prim (.agg 5 (tv 0))
(.prim (.agg 2 (tv 1))
(.ite (.proj (.var 3) 1)
(.ret (.tup [(tp 2 2), (tp 2 1)]))
(.ret (.tup [(tp 2 1), (tp 2 2)])))))
theorem t47_ok : compFun (x47 Try.prog) w47 47 = .ok t47 := by kernel_rfl
theorem k47 : TreeOk Try.prog 31 18 ownT 47 t47 (x47 Try.prog) w47 Try.f47 := ⟨rfl, rfl, rfl, (fun g r h => by cases h), by kernel_rfl, by decide, rfl, t47_ok⟩
def x48 (P : Program) : Ctx := { P := P, inl := [86, 87, 99, 100, 115, 116, 117, 123], own := [], ownc := [], ownr := [], diceT := 31, diceNew := 18 }
def w48 : Hints := { sites := [], np := [(48, 9, 9), (87, 6, 18), (123, 3, 12)], thaw := [], skel := [(0, 253, ⟨[⟨false, 11, 0, (some (1, .nil0)), false⟩], [], [11], [], false⟩), (0, 506, ⟨[⟨false, 11, 0, (some (1, .nil0)), false⟩, ⟨false, 35, 0, none, false⟩], [], [5, 1, 8, 10, 34, 35, 11], [], false⟩), (0, 64819, ⟨[⟨false, 11, 0, (some (1, .nil0)), false⟩], [], [5, 1, 8, 10, 34, 11, 35], [], false⟩)] }
def t48 : Tree := (.prim (.agg 2 (tv 0))
(.prim (.agg 5 (tv 2))
(.prim (.one (tv 1))
(.call 67 [(.agg [(tp 3 0), (tp 3 1)]), (.lit 1 1 [(tv 5)]), (.lit 5 1 [(tp 4 0), (tp 4 1), (tp 4 2), (tp 4 3), (tp 4 4)])]
(.prim (.ext (tv 6) 0)
(.prim (.ext (tv 6) 1)
(.prim (.agg 2 (tv 7))
(.prim (.bin .neq 39 (tv 8) (tn 0))
(.ite (.var 10)
(.ret (.tup [(.e (.cst .snil)), (tv 8)]))
(.call 80 [(tp 9 0)]
(.prim (.agg 2 (tv 11))
(.prim (.len 25 (tp 4 0))
(.prim (.bin .shl 113 (.e (.cst (.int .u8 1))) (tv 13))
(.join 0
(.loop 1 [(.e (.cst (.agg []))), (.e (.cst (.int .u8 0)))]
(.prim (.bin .lss 113 (tv 16) (tv 14))
(.ite (.var 17)
(.prim (.row 3 (tp 9 1) (tv 1))
(.call 82 [(.agg [(tp 12 0), (tp 12 1)]), (.agg [(tp 18 0), (tp 18 1), (tp 18 2)]), (.agg [(tp 4 0), (tp 4 1), (tp 4 2), (tp 4 3), (tp 4 4)]), (tv 16)]
(.join 2
(.ite (.var 19)
(.call 91 [(tv 16)]
(.prim (.one (tv 20))
(.prim (.push 1 24 (.var 15) (.lit 1 1 [(tv 21)]))
(.jump 2 [(tv 22)]))))
(.jump 2 [(tv 15)]))
(.prim (.bin .add 113 (tv 16) (.e (.cst (.int .u8 1))))
(.jump 1 [(tv 20), (tv 21)])))))
(.jump 0 [(tv 15)]))))
(.prim (.frz 1 .nil0 (.var 15))
(.call 92 [(tv 16)]
(.prim (.ext (tv 17) 0)
(.prim (.ext (tv 17) 1)
(.prim (.un .not (tv 19))
(.ite (.var 20)
(.ret (.tup [(.e (.cst .snil)), (tn 11)]))
(.ret (.tup [(tv 18), (tn 0)]))))))))))))))))))))))
theorem t48_ok : compFun (x48 Try.prog) w48 48 = .ok t48 := by kernel_rfl
theorem k48 : TreeOk Try.prog 31 18 ownT 48 t48 (x48 Try.prog) w48 Try.f48 := ⟨rfl, rfl, rfl, (fun g r h => by cases h), by kernel_rfl, by decide, rfl, t48_ok⟩
def x49 (P : Program) : Ctx := { P := P, inl := [86, 87, 99, 100, 115, 116, 117, 123, 56], own := [], ownc := [], ownr := [], diceT := 31, diceNew := 18 }
def w49 : Hints := { sites := [15006], np := [(87, 6, 18), (123, 3, 12)], thaw := [], skel := [(0, 29, ⟨[⟨false, 5, 0, none, false⟩], [], [5], [], false⟩), (0, 58, ⟨[⟨false, 5, 0, none, true⟩, ⟨false, 6, 0, none, false⟩], [], [5, 0, 6, 1], [], false⟩), (0, 7461, ⟨[⟨false, 7, 0, (some (1, .nil0)), false⟩], [], [0, 1, 6, 7], [], false⟩), (0, 14922, ⟨[⟨false, 7, 0, (some (1, .nil0)), false⟩, ⟨false, 8, 0, none, false⟩], [], [8, 5, 0, 6, 1, 7], [], false⟩), (0, 1910053, ⟨[⟨false, 9, 0, none, false⟩], [], [8, 5, 0, 6, 1, 7, 9], [], false⟩), (0, 1910055, ⟨[⟨false, 7, 0, (some (1, .nil0)), false⟩], [], [5, 0, 6, 1, 7, 8], [], false⟩), (0, 3820110, ⟨[⟨false, 7, 0, (some (1, .nil0)), false⟩, ⟨false, 10, 0, none, false⟩], [], [8, 5, 0, 6, 1, 10, 7], [], false⟩), (15006, 58, ⟨[⟨false, 4, 0, none, false⟩], [2], [0, 3, 4], [], false⟩)] }
def t49 : Tree := (.join 0
(.loop 1 [(.lit 1 1 [(.e (.cst .snil))]), (tn 0)]
(.prim (.bin .lss 3 (tv 3) (tv 1))
(.ite (.var 4)
(.join 2
(.loop 3 [(.e (.cst (.agg []))), (tn 0)]
(.prim (.len 73 (tv 2))
(.prim (.bin .lss 3 (tv 6) (tv 7))
(.ite (.var 8)
(.prim (.bin .gtr 3 (tv 3) (tn 0))
(.join 4
(.ite (.var 9)
(.prim (.row 1 (tv 2) (tv 6))
(.prim (.bin .sub 3 (tv 3) (tn 1))
(.prim (.row 1 (tp 10 0) (tv 11))
(.prim (.bin .add 3 (tp 12 0) (tn 1))
(.jump 4 [(tv 13)])))))
(.jump 4 [(tn 0)]))
(.join 5
(.loop 6 [(tv 5), (tv 10)]
(.prim (.bin .lss 3 (tv 12) (tv 0))
(.ite (.var 13)
(.prim (.row 1 (tv 2) (tv 6))
(.prim (.len 25 (tp 14 0))
(.prim (.mk [(.int .i64 0)] 8 (tv 15))
(.loop 7 [(tn 0), (tv 16)]
(.prim (.len 25 (tp 14 0))
(.prim (.bin .lss 3 (tv 17) (tv 19))
(.ite (.var 20)
(.prim (.row 1 (tp 14 0) (tv 17))
(.prim (.chk 1 (.var 18) (tv 17))
(.prim (.put 1 0 (.var 18) (.var 22) [(tp 21 0)])
(.prim (.bin .add 3 (tv 17) (tn 1))
(.jump 7 [(tv 24), (tv 23)])))))
(.prim (.one (tv 12))
(.prim (.push 1 8 (.var 18) (.lit 1 1 [(tv 21)]))
(.prim (.frz 1 .real (.var 22))
(.prim (.push 1 24 (.var 11) (.lit 1 1 [(tv 23)]))
(.prim (.bin .add 3 (tv 12) (tn 1))
(.jump 6 [(tv 24), (tv 25)])))))))))))))
(.jump 5 [(tv 11)]))))
(.prim (.bin .add 3 (tv 6) (tn 1))
(.jump 3 [(tv 11), (tv 12)])))))
(.jump 2 [(tv 5)])))))
(.prim (.bin .add 3 (tv 3) (tn 1))
(.prim (.frz 1 .nil0 (.var 5))
(.jump 1 [(tv 7), (tv 6)]))))
(.jump 0 [(tv 2)]))))
(.ret (tv 2)))
theorem t49_ok : compFun (x49 Try.prog) w49 49 = .ok t49 := by kernel_rfl
theorem k49 : TreeOk Try.prog 31 18 ownT 49 t49 (x49 Try.prog) w49 Try.f49 := ⟨rfl, rfl, rfl, (fun g r h => by cases h), by kernel_rfl, by decide, rfl, t49_ok⟩
def x50 (P : Program) : Ctx := { P := P, inl := [86, 87, 99, 100, 115, 116, 117, 123], own := [], ownc := [], ownr := [], diceT := 31, diceNew := 18 }
def w50 : Hints := { sites := [], np := [(50, 7, 19), (50, 10, 42), (87, 6, 18), (123, 3, 12)], thaw := [], skel := [(0, 61, ⟨[], [], [2, 9, 1, 13, 0, 4], [], false⟩), (0, 122, ⟨[⟨false, 14, 0, none, false⟩], [], [2, 5, 4, 0, 9, 1, 13, 14], [], false⟩), (0, 7826, ⟨[⟨false, 68, 0, none, false⟩], [], [68, 2, 5, 4, 0, 9, 1, 13, 14], [], false⟩), (0, 62, ⟨[⟨false, 16, 0, none, false⟩, ⟨false, 17, 0, none, false⟩], [], [2, 9, 1, 17, 16], [], false⟩), (0, 126, ⟨[⟨false, 12, 0, none, false⟩], [], [12], [], false⟩)] }
def t50 : Tree := (.prim (.agg 5 (tv 3))
(.prim (.len 25 (tp 6 0))
(.prim (.bin .add 3 (tv 4) (tv 7))
(.prim (.len 25 (tv 0))
(.prim (.bin .geq 3 (tv 8) (tv 9))
(.ite (.var 10)
(.ret (.e (.cst (.bool false))))
(.join 0
(.loop 1 [(tn 0)]
(.prim (.len 25 (tp 6 0))
(.prim (.bin .lss 3 (tv 11) (tv 12))
(.ite (.var 13)
(.prim (.row 1 (tp 6 0) (tv 11))
(.prim (.bin .add 3 (tv 4) (tv 11))
(.prim (.bin .add 3 (tv 15) (tn 1))
(.prim (.row 1 (tv 0) (tv 16))
(.prim (.bin .add 3 (tv 4) (tv 11))
(.prim (.row 1 (tv 0) (tv 18))
(.prim (.bin .sub 3 (tp 17 0) (tp 19 0))
(.prim (.bin .sub 3 (tp 14 0) (tv 20))
(.join 2
(.call 61 [(tv 5), (tv 11)]
(.prim (.bin .lss 3 (tv 22) (tn 0))
(.ite (.var 23)
(.prim (.bin .gtr 3 (tv 21) (tv 2))
(.ite (.var 24)
(.jump 2 [(.e (.cst (.bool true)))])
(.prim (.un .neg (tv 2))
(.prim (.bin .lss 3 (tv 21) (tv 25))
(.jump 2 [(tv 26)])))))
(.jump 2 [(.e (.cst (.bool false)))]))))
(.ite (.var 22)
(.ret (.e (.cst (.bool false))))
(.prim (.bin .add 3 (tv 11) (tn 1))
(.jump 1 [(tv 23)]))))))))))))
(.jump 0 [])))))
(.join 1
(.prim (.bin .eql 3 (tv 4) (tn 0))
(.ite (.var 11)
(.prim (.len 25 (tv 0))
(.prim (.bin .sub 3 (tv 12) (tn 1))
(.prim (.bin .eql 3 (tv 8) (tv 13))
(.ite (.var 14)
(.jump 1 [(.e (.cst (.bool true))), (.e (.cst (.bool true)))])
(.prim (.bin .add 3 (tv 8) (tn 1))
(.prim (.row 1 (tv 0) (tv 15))
(.prim (.row 1 (tv 0) (tv 8))
(.prim (.bin .sub 3 (tp 16 0) (tp 17 0))
(.prim (.bin .add 3 (tv 18) (tv 2))
(.prim (.bin .gtr 3 (tv 19) (tp 6 2))
(.jump 1 [(.e (.cst (.bool true))), (tv 20)])))))))))))
(.prim (.row 1 (tv 0) (tv 4))
(.prim (.bin .sub 3 (tv 4) (tn 1))
(.prim (.row 1 (tv 0) (tv 13))
(.prim (.bin .sub 3 (tp 12 0) (tp 14 0))
(.prim (.bin .add 3 (tv 15) (tv 2))
(.prim (.bin .gtr 3 (tv 16) (tp 6 1))
(.prim (.len 25 (tv 0))
(.prim (.bin .sub 3 (tv 18) (tn 1))
(.prim (.bin .eql 3 (tv 8) (tv 19))
(.ite (.var 20)
(.jump 1 [(tv 17), (.e (.cst (.bool true)))])
(.prim (.bin .add 3 (tv 8) (tn 1))
(.prim (.row 1 (tv 0) (tv 21))
(.prim (.row 1 (tv 0) (tv 8))
(.prim (.bin .sub 3 (tp 22 0) (tp 23 0))
(.prim (.bin .add 3 (tv 24) (tv 2))
(.prim (.bin .gtr 3 (tv 25) (tp 6 2))
(.jump 1 [(tv 17), (tv 26)])))))))))))))))))))
(.join 2
(.ite (.var 11)
(.ite (.var 12)
(.prim (.bin .eql 3 (tp 6 3) (tn 0))
(.ite (.var 13)
(.jump 2 [(.e (.cst (.bool true)))])
(.prim (.bin .sub 3 (tp 6 3) (tv 1))
(.prim (.bin .leq 3 (tv 14) (tv 2))
(.ite (.var 15)
(.prim (.bin .sub 3 (tv 1) (tp 6 3))
(.prim (.bin .leq 3 (tv 16) (tv 2))
(.jump 2 [(tv 17)])))
(.jump 2 [(.e (.cst (.bool false)))]))))))
(.jump 2 [(.e (.cst (.bool false)))]))
(.jump 2 [(.e (.cst (.bool false)))]))
(.ret (tv 13)))))))))))
theorem t50_ok : compFun (x50 Try.prog) w50 50 = .ok t50 := by kernel_rfl
theorem k50 : TreeOk Try.prog 31 18 ownT 50 t50 (x50 Try.prog) w50 Try.f50 := ⟨rfl, rfl, rfl, (fun g r h => by cases h), by kernel_rfl, by decide, rfl, t50_ok⟩
def x51 (P : Program) : Ctx := { P := P, inl := [86, 87, 99, 100, 115, 116, 117, 123], own := [], ownc := [], ownr := [], diceT := 31, diceNew := 18 }
def w51 : Hints := { sites := [], np := [(51, 1, 7), (87, 6, 18), (123, 3, 12)], thaw := [], skel := [] }
def t51 : Tree := (.prim (.agg 3 (tv 0))
(.prim (.len 25 (tp 2 0))
(.call 93 [(tv 1), (tv 3)]
(.prim (.row 1 (tp 2 0) (tv 4))
(.ret (tp 5 0))))))
theorem t51_ok : compFun (x51 Try.prog) w51 51 = .ok t51 := by kernel_rfl
theorem k51 : TreeOk Try.prog 31 18 ownT 51 t51 (x51 Try.prog) w51 Try.f51 := ⟨rfl, rfl, rfl, (fun g r h => by cases h), by kernel_rfl, by decide, rfl, t51_ok⟩
def x52 (P : Program) : Ctx := { P := P, inl := [86, 87, 99, 100, 115, 116, 117, 123, 78], own := [], ownc := [], ownr := [], diceT := 31, diceNew := 18 }
def w52 : Hints := { sites := [11002], np := [(52, 16, 9), (87, 6, 18), (123, 3, 12)], thaw := [], skel := [(0, 29, ⟨[], [], [], [], false⟩), (0, 58, ⟨[⟨false, 9, 0, none, false⟩], [], [5, 3, 1, 9], [], false⟩), (0, 3731, ⟨[], [], [5, 3, 1, 9], [], false⟩), (0, 7462, ⟨[⟨false, 11, 0, none, false⟩], [], [11, 10, 5, 3, 1, 9], [], false⟩), (0, 955173, ⟨[], [0], [11, 10, 5, 3, 1, 9, 12], [], false⟩), (0, 1910346, ⟨[⟨false, 13, 0, none, false⟩], [0], [11, 10, 12, 5, 3, 1, 9, 13], [], false⟩)] }
def t52 : Tree := (.prim (.agg 2 (tv 0))
(.prim (.agg 5 (tv 2))
(.prim (.one (tv 1))
(.call 69 [(.agg [(tp 3 0), (tp 3 1)]), (.lit 1 1 [(tv 5)]), (.lit 5 1 [(tp 4 0), (tp 4 1), (tp 4 2), (tp 4 3), (tp 4 4)])]
(.prim (.bin .neq 39 (tv 6) (tn 0))
(.ite (.var 7)
(.ret (.tup [(.e (.cst .snil)), (tv 6)]))
(.join 0
(.loop 1 [(tn 0)]
(.prim (.len 25 (tp 4 0))
(.prim (.bin .leq 3 (tv 8) (tv 9))
(.ite (.var 10)
(.prim (.len 25 (tp 4 0))
(.call 94 [(tn 0), (tv 11), (tv 8)]
(.join 2
(.loop 3 [(tn 0)]
(.prim (.len 73 (tv 12))
(.prim (.bin .lss 3 (tv 13) (tv 14))
(.ite (.var 15)
(.prim (.len 25 (tp 4 0))
(.prim (.mk [(.bool false)] 1 (tv 16))
(.join 4
(.loop 5 [(tn 0), (tv 17)]
(.prim (.bin .lss 3 (tv 18) (tv 8))
(.ite (.var 20)
(.prim (.row 1 (tv 12) (tv 13))
(.prim (.row 1 (tp 21 0) (tv 18))
(.prim (.chk 1 (.var 19) (tp 22 0))
(.prim (.put 1 0 (.var 19) (.var 23) [(.e (.cst (.bool true)))])
(.prim (.bin .add 3 (tv 18) (tn 1))
(.jump 5 [(tv 25), (tv 24)]))))))
(.jump 4 [(tv 19)]))))
(.prim (.row 3 (tp 3 1) (tv 1))
(.prim (.frz 1 .real (.var 18))
(.call 77 [(.agg [(tp 19 0), (tp 19 1), (tp 19 2)]), (tp 3 0), (.agg [(tp 4 0), (tp 4 1), (tp 4 2), (tp 4 3), (tp 4 4)]), (tv 20)]
(.prim (.len 45 (tv 21))
(.prim (.bin .gtr 3 (tv 22) (tn 0))
(.ite (.var 23)
(.prim (.row 1 (tv 12) (tv 13))
(.ret (.tup [(tp 24 0), (tn 0)])))
(.prim (.bin .add 3 (tv 13) (tn 1))
(.jump 3 [(tv 24)])))))))))))
(.jump 2 [])))))
(.prim (.bin .add 3 (tv 8) (tn 1))
(.jump 1 [(tv 13)])))))
(.jump 0 [])))))
(.ret (.tup [(.e (.cst .snil)), (tn 11)])))))))))
theorem t52_ok : compFun (x52 Try.prog) w52 52 = .ok t52 := by kernel_rfl
theorem k52 : TreeOk Try.prog 31 18 ownT 52 t52 (x52 Try.prog) w52 Try.f52 := ⟨rfl, rfl, rfl, (fun g r h => by cases h), by kernel_rfl, by decide, rfl, t52_ok⟩
def x53 (P : Program) : Ctx := { P := P, inl := [86, 87, 99, 100, 115, 116, 117, 123], own := [], ownc := [], ownr := [], diceT := 31, diceNew := 18 }
def w53 : Hints := { sites := [], np := [(53, 7, 9), (87, 6, 18), (123, 3, 12)], thaw := [], skel := [(0, 61, ⟨[], [], [], [], false⟩), (0, 122, ⟨[⟨false, 23, 0, none, false⟩], [], [5, 1, 8, 23], [], false⟩)] }
def t53 : Tree := (.prim (.agg 2 (tv 0))
(.prim (.agg 5 (tv 2))
(.prim (.one (tv 1))
(.call 67 [(.agg [(tp 3 0), (tp 3 1)]), (.lit 1 1 [(tv 5)]), (.lit 5 1 [(tp 4 0), (tp 4 1), (tp 4 2), (tp 4 3), (tp 4 4)])]
(.prim (.ext (tv 6) 0)
(.prim (.ext (tv 6) 1)
(.prim (.agg 2 (tv 7))
(.prim (.bin .neq 39 (tv 8) (tn 0))
(.ite (.var 10)
(.ret (.tup [(tn 0), (tv 8)]))
(.join 0
(.loop 1 [(tn 0)]
(.prim (.bin .lss 3 (tv 11) (tn 4))
(.ite (.var 12)
(.call 80 [(tv 11)]
(.prim (.row 3 (tp 9 1) (tv 1))
(.call 82 [(tv 13), (.agg [(tp 14 0), (tp 14 1), (tp 14 2)]), (.agg [(tp 4 0), (tp 4 1), (tp 4 2), (tp 4 3), (tp 4 4)]), (.e (.cst (.int .u8 0)))]
(.ite (.var 15)
(.ret (.tup [(tv 11), (tn 0)]))
(.prim (.bin .add 3 (tv 11) (tn 1))
(.jump 1 [(tv 16)]))))))
(.jump 0 []))))
(.ret (.tup [(tn 0), (tn 11)]))))))))))))
theorem t53_ok : compFun (x53 Try.prog) w53 53 = .ok t53 := by kernel_rfl
theorem k53 : TreeOk Try.prog 31 18 ownT 53 t53 (x53 Try.prog) w53 Try.f53 := ⟨rfl, rfl, rfl, (fun g r h => by cases h), by kernel_rfl, by decide, rfl, t53_ok⟩
def x54 (P : Program) : Ctx := { P := P, inl := [86, 87, 99, 100, 115, 116, 117, 123], own := [], ownc := [], ownr := [], diceT := 31, diceNew := 18 }
def w54 : Hints := { sites := [], np := [(54, 7, 9), (87, 6, 18), (123, 3, 12)], thaw := [], skel := [(0, 29, ⟨[], [], [], [], false⟩), (0, 58, ⟨[⟨false, 9, 0, none, false⟩], [], [9, 5, 1, 3], [], false⟩)] }
def t54 : Tree := (.prim (.agg 2 (tv 0))
(.prim (.agg 5 (tv 2))
(.prim (.one (tv 1))
(.call 69 [(.agg [(tp 3 0), (tp 3 1)]), (.lit 1 1 [(tv 5)]), (.lit 5 1 [(tp 4 0), (tp 4 1), (tp 4 2), (tp 4 3), (tp 4 4)])]
(.prim (.bin .neq 39 (tv 6) (tn 0))
(.ite (.var 7)
(.ret (.tup [(tn 0), (tv 6)]))
(.join 0
(.loop 1 [(tn 0)]
(.prim (.bin .leq 3 (tv 8) (tn 3))
(.ite (.var 9)
(.prim (.row 3 (tp 3 1) (tv 1))
(.call 78 [(.agg [(tp 4 0), (tp 4 1), (tp 4 2), (tp 4 3), (tp 4 4)])]
(.call 77 [(.agg [(tp 10 0), (tp 10 1), (tp 10 2)]), (tv 8), (.agg [(tp 4 0), (tp 4 1), (tp 4 2), (tp 4 3), (tp 4 4)]), (tv 11)]
(.prim (.len 45 (tv 12))
(.prim (.bin .gtr 3 (tv 13) (tn 0))
(.ite (.var 14)
(.ret (.tup [(tv 8), (tn 0)]))
(.prim (.bin .add 3 (tv 8) (tn 1))
(.jump 1 [(tv 15)]))))))))
(.jump 0 []))))
(.ret (.tup [(tn 0), (tn 11)])))))))))
theorem t54_ok : compFun (x54 Try.prog) w54 54 = .ok t54 := by kernel_rfl
theorem k54 : TreeOk Try.prog 31 18 ownT 54 t54 (x54 Try.prog) w54 Try.f54 := ⟨rfl, rfl, rfl, (fun g r h => by cases h), by kernel_rfl, by decide, rfl, t54_ok⟩
def x55 (P : Program) : Ctx := { P := P, inl := [86, 87, 99, 100, 115, 116, 117, 123], own := [], ownc := [], ownr := [], diceT := 31, diceNew := 18 }
def w55 : Hints := { sites := [], np := [(87, 6, 18), (123, 3, 12)], thaw := [], skel := [(0, 61, ⟨[⟨false, 7, 0, (some (1, .nil0)), false⟩], [], [7], [], false⟩), (0, 122, ⟨[⟨false, 7, 0, (some (1, .nil0)), false⟩, ⟨false, 8, 0, none, false⟩, ⟨false, 9, 0, none, false⟩], [], [2, 4, 0, 9, 8, 7], [], false⟩), (0, 976, ⟨[⟨false, 24, 0, none, false⟩], [], [24, 2, 4, 0, 9, 8, 7], [], false⟩), (0, 7825, ⟨[⟨false, 7, 0, (some (1, .nil0)), false⟩], [], [2, 4, 0, 9, 7, 8], [], false⟩), (0, 15652, ⟨[⟨false, 40, 0, none, false⟩], [], [40, 2, 4, 0, 9, 7, 8], [], false⟩)] }
def t55 : Tree := (.prim (.agg 2 (tv 1))
(.call 21 [(.e (.cst (.ptr 0 0))), (tn 9)]
(.join 0
(.loop 1 [(.e (.cst (.agg []))), (tv 4), (tn 0)]
(.join 2
(.prim (.row 3 (tp 3 1) (tv 2))
(.prim (.bin .lss 3 (tv 7) (tp 8 1))
(.ite (.var 9)
(.prim (.lenc 1 (.var 5))
(.prim (.bin .lss 3 (tv 10) (tn 16))
(.jump 2 [(tv 11)])))
(.jump 2 [(.e (.cst (.bool false)))]))))
(.ite (.var 8)
(.call 45 [(.e (.cst (.ptr 0 0))), (tn 9)]
(.prim (.un .not (tv 9))
(.join 3
(.ite (.var 10)
(.prim (.one (tv 6))
(.prim (.push 1 8 (.var 5) (.lit 1 1 [(tv 11)]))
(.jump 3 [(tv 12)])))
(.jump 3 [(tv 5)]))
(.join 4
(.call 45 [(.e (.cst (.ptr 0 0))), (tn 6)]
(.ite (.var 12)
(.prim (.lenc 1 (.var 11))
(.prim (.bin .lss 3 (tv 13) (tn 16))
(.jump 4 [(tv 14)])))
(.jump 4 [(.e (.cst (.bool false)))])))
(.ite (.var 12)
(.prim (.bin .add 3 (tv 6) (tn 1))
(.prim (.push 1 8 (.var 11) (.lit 1 1 [(tv 13)]))
(.prim (.row 3 (tp 3 1) (tv 2))
(.call 51 [(.agg [(tp 15 0), (tp 15 1), (tp 15 2)]), (tv 7)]
(.prim (.bin .add 3 (tv 13) (tv 16))
(.prim (.bin .add 3 (tv 7) (tn 1))
(.jump 1 [(tv 14), (tv 17), (tv 18)])))))))
(.prim (.row 3 (tp 3 1) (tv 2))
(.call 51 [(.agg [(tp 13 0), (tp 13 1), (tp 13 2)]), (tv 7)]
(.prim (.bin .add 3 (tv 6) (tv 14))
(.prim (.bin .add 3 (tv 7) (tn 1))
(.jump 1 [(tv 11), (tv 15), (tv 16)]))))))))))
(.jump 0 [(tv 5)]))))
(.prim (.frz 1 .nil0 (.var 5))
(.ret (tv 6))))))
theorem t55_ok : compFun (x55 Try.prog) w55 55 = .ok t55 := by kernel_rfl
theorem k55 : TreeOk Try.prog 31 18 ownT 55 t55 (x55 Try.prog) w55 Try.f55 := ⟨rfl, rfl, rfl, (fun g r h => by cases h), by kernel_rfl, by decide, rfl, t55_ok⟩
def x56 (P : Program) : Ctx := { P := P, inl := [86, 87, 99, 100, 115, 116, 117, 123], own := [], ownc := [], ownr := [], diceT := 31, diceNew := 18 }
def w56 : Hints := { sites := [], np := [(87, 6, 18), (123, 3, 12)], thaw := [], skel := [(0, 29, ⟨[], [0], [3], [], false⟩), (0, 58, ⟨[⟨false, 4, 0, none, false⟩], [0], [0, 3, 4], [], false⟩)] }
def t56 : Tree := (.prim (.len 25 (tv 0))
(.prim (.mk [(.int .i64 0)] 8 (tv 1))
(.join 0
(.loop 1 [(tn 0), (tv 2)]
(.prim (.len 25 (tv 0))
(.prim (.bin .lss 3 (tv 3) (tv 5))
(.ite (.var 6)
(.prim (.row 1 (tv 0) (tv 3))
(.prim (.chk 1 (.var 4) (tv 3))
(.prim (.put 1 0 (.var 4) (.var 8) [(tp 7 0)])
(.prim (.bin .add 3 (tv 3) (tn 1))
(.jump 1 [(tv 10), (tv 9)])))))
(.jump 0 [(tv 4)])))))
(.prim (.frz 1 .real (.var 3))
(.ret (tv 4))))))
theorem t56_ok : compFun (x56 Try.prog) w56 56 = .ok t56 := by kernel_rfl
theorem k56 : TreeOk Try.prog 31 18 ownT 56 t56 (x56 Try.prog) w56 Try.f56 := ⟨rfl, rfl, rfl, (fun g r h => by cases h), by kernel_rfl, by decide, rfl, t56_ok⟩
def x57 (P : Program) : Ctx := { P := P, inl := [86, 87, 99, 100, 115, 116, 117, 123], own := [], ownc := [], ownr := [], diceT := 31, diceNew := 18 }
def w57 : Hints := { sites := [], np := [(87, 6, 18), (123, 3, 12)], thaw := [], skel := [(0, 125, ⟨[⟨false, 10, 0, (some (1, .nil0)), false⟩], [], [10], [], false⟩), (0, 250, ⟨[⟨false, 10, 0, (some (1, .nil0)), false⟩, ⟨false, 24, 0, none, false⟩], [], [2, 1, 8, 23, 24, 10], [], false⟩), (0, 32051, ⟨[⟨false, 10, 0, (some (1, .nil0)), false⟩], [], [2, 1, 8, 23, 10, 24], [], false⟩)] }
def t57 : Tree := (.prim (.agg 2 (tv 0))
(.call 95 [(.agg [(tp 3 0), (tp 3 1)]), (tv 1), (tv 2)]
(.prim (.ext (tv 4) 0)
(.prim (.ext (tv 4) 1)
(.prim (.agg 2 (tv 5))
(.prim (.bin .neq 39 (tv 6) (tn 0))
(.ite (.var 8)
(.ret (.tup [(.e (.cst .snil)), (tv 6)]))
(.prim (.len 25 (tv 2))
(.join 0
(.loop 1 [(.e (.cst (.agg []))), (tn 0)]
(.prim (.bin .lss 3 (tv 11) (tv 9))
(.ite (.var 12)
(.call 96 [(.agg [(tp 7 0), (tp 7 1)]), (tv 1), (tv 2), (tv 11)]
(.prim (.len 25 (tv 13))
(.prim (.bin .eql 3 (tv 14) (tn 0))
(.join 2
(.ite (.var 15)
(.prim (.one (tv 11))
(.prim (.push 1 8 (.var 10) (.lit 1 1 [(tv 16)]))
(.jump 2 [(tv 17)])))
(.jump 2 [(tv 10)]))
(.prim (.bin .add 3 (tv 11) (tn 1))
(.jump 1 [(tv 16), (tv 17)]))))))
(.jump 0 [(tv 10)]))))
(.prim (.frz 1 .nil0 (.var 10))
(.ret (.tup [(tv 11), (tn 0)]))))))))))))
theorem t57_ok : compFun (x57 Try.prog) w57 57 = .ok t57 := by kernel_rfl
theorem k57 : TreeOk Try.prog 31 18 ownT 57 t57 (x57 Try.prog) w57 Try.f57 := ⟨rfl, rfl, rfl, (fun g r h => by cases h), by kernel_rfl, by decide, rfl, t57_ok⟩
def x58 (P : Program) : Ctx := { P := P, inl := [86, 87, 99, 100, 115, 116, 117, 123], own := [], ownc := [], ownr := [], diceT := 31, diceNew := 18 }
def w58 : Hints := { sites := [], np := [(87, 6, 18), (123, 3, 12)], thaw := [], skel := [(0, 61, ⟨[⟨false, 9, 0, (some (1, .nil0)), false⟩], [], [9], [], false⟩), (0, 122, ⟨[⟨false, 9, 0, (some (1, .nil0)), false⟩, ⟨false, 10, 0, none, false⟩], [], [2, 1, 3, 10, 9], [], false⟩), (0, 3913, ⟨[⟨false, 9, 0, (some (1, .nil0)), false⟩], [], [2, 1, 3, 9, 10], [], false⟩)] }
def t58 : Tree := (.prim (.agg 2 (tv 0))
(.call 97 [(.agg [(tp 3 0), (tp 3 1)]), (tv 1), (tv 2)]
(.prim (.bin .neq 39 (tv 4) (tn 0))
(.ite (.var 5)
(.ret (.tup [(.e (.cst .snil)), (tv 4)]))
(.join 0
(.loop 1 [(.e (.cst (.agg []))), (tn 0)]
(.prim (.len 25 (tv 2))
(.prim (.bin .lss 3 (tv 7) (tv 8))
(.ite (.var 9)
(.call 98 [(.agg [(tp 3 0), (tp 3 1)]), (tv 1), (tv 2), (tv 7)]
(.prim (.len 25 (tv 10))
(.prim (.bin .eql 3 (tv 11) (tn 0))
(.join 2
(.ite (.var 12)
(.prim (.one (tv 7))
(.prim (.push 1 8 (.var 6) (.lit 1 1 [(tv 13)]))
(.jump 2 [(tv 14)])))
(.jump 2 [(tv 6)]))
(.prim (.bin .add 3 (tv 7) (tn 1))
(.jump 1 [(tv 13), (tv 14)]))))))
(.jump 0 [(tv 6)])))))
(.prim (.frz 1 .nil0 (.var 6))
(.ret (.tup [(tv 7), (tn 0)]))))))))
theorem t58_ok : compFun (x58 Try.prog) w58 58 = .ok t58 := by kernel_rfl
theorem k58 : TreeOk Try.prog 31 18 ownT 58 t58 (x58 Try.prog) w58 Try.f58 := ⟨rfl, rfl, rfl, (fun g r h => by cases h), by kernel_rfl, by decide, rfl, t58_ok⟩
def x59 (P : Program) : Ctx := { P := P, inl := [86, 87, 99, 100, 115, 116, 117, 123], own := [], ownc := [], ownr := [], diceT := 31, diceNew := 18 }
def w59 : Hints := { sites := [], np := [(87, 6, 18), (123, 3, 12)], thaw := [], skel := [] }
def t59 : Tree := (.prim (.agg 2 (tv 0))
(.call 95 [(.agg [(tp 4 0), (tp 4 1)]), (tv 1), (tv 2)]
(.prim (.ext (tv 5) 0)
(.prim (.ext (tv 5) 1)
(.prim (.agg 2 (tv 6))
(.prim (.bin .neq 39 (tv 7) (tn 0))
(.ite (.var 9)
(.ret (.tup [(.e (.cst .snil)), (tv 7)]))
(.prim (.len 25 (tv 2))
(.prim (.bin .sub 3 (tv 10) (tn 1))
(.call 71 [(tv 3), (tn 0), (tv 11)]
(.prim (.un .not (tv 12))
(.ite (.var 13)
(.ret (.tup [(.e (.cst .snil)), (tn 3)]))
(.call 96 [(.agg [(tp 8 0), (tp 8 1)]), (tv 1), (tv 2), (tv 3)]
(.ret (.tup [(tv 14), (tn 0)])))))))))))))))
theorem t59_ok : compFun (x59 Try.prog) w59 59 = .ok t59 := by kernel_rfl
theorem k59 : TreeOk Try.prog 31 18 ownT 59 t59 (x59 Try.prog) w59 Try.f59 := ⟨rfl, rfl, rfl, (fun g r h => by cases h), by kernel_rfl, by decide, rfl, t59_ok⟩
end Go.Proofs.Ytlminnpaeaganaa
