/- Residual trees of functions. No condition. -/
import Derived.Test.YtlminnpaeaganaaMLib
namespace Go.Proofs.Ytlminnpaeaganaa
open Go Go.RowKit
set_option maxRecDepth 100000
def tv (i : Nat) : PE := .e (.var i)
def tp (i j : Nat) : PE := .e (.proj (.var i) j)
def tn (k : Int) : PE := .e (.cst (.int .i64 k))
def ownT : FuncId → Option (Option (Nat × Nat)) := fun g => if g = 39 then some (some (5, 0)) else if g = 122 then some none else if g = 56 then some none else if g = 64 then some (some (3, 0)) else if g = 38 then some (some (2, 1)) else none
def x3 (P : Program) : Ctx := { P := P, inl := [86, 87, 99, 100, 115, 116, 117, 123], own := [], ownc := [], ownr := [], diceT := 31, diceNew := ⟨18, none, none⟩ }
def w3 : Hints := { sites := [], np := [(3, 6, 25), (3, 10, 12), (3, 11, 10), (3, 12, 13), (3, 13, 26), (3, 15, 11), (3, 16, 17), (3, 17, 22), (87, 6, 18), (123, 3, 12)], thaw := [], skel := [(0, 509, ⟨[], [], [], [], false⟩), (0, 1018, ⟨[⟨false, 14, 0, none, false⟩], [], [12, 10, 13, 14], [], false⟩), (0, 521372, ⟨[⟨false, 127, 0, none, false⟩], [], [127, 12, 10, 13, 14, 16, 15], [], false⟩), (0, 2085502, ⟨[⟨false, 178, 0, none, false⟩], [], [178, 12, 10, 13, 14], [], false⟩)] }
def t3 : Tree := (.prim (.agg 2 (tv 0))
(.prim (.agg 5 (tv 1))
(.call 16 [(.agg [(tp 4 0), (tp 4 1)]), (.lit 5 1 [(tp 5 0), (tp 5 1), (tp 5 2), (tp 5 3), (tp 5 4)])]
(.ite (.var 6)
(.call 17 []
(.ret (tv 7)))
(.prim (.ints (tv 3))
(.call 19 [(.agg [(tp 4 0), (tp 4 1)]), (.e (.cst (.ptr 0 0)))]
(.prim (.row 2 (tv 8) (tn 1))
(.call 20 [(.e (.cst (.ptr 0 0))), (.agg [(tp 9 0), (tp 9 1)])]
(.prim (.agg 5 (tv 10))
(.prim (.row 2 (tv 8) (tn 1))
(.prim (.len 22 (tp 12 1))
(.prim (.bin .sub 3 (tv 13) (tn 1))
(.call 21 [(.e (.cst (.ptr 0 0))), (tv 14)]
(.prim (.row 2 (tv 8) (tn 1))
(.prim (.len 22 (tp 16 1))
(.prim (.bin .sub 3 (tv 17) (tn 1))
(.call 21 [(.e (.cst (.ptr 0 0))), (tv 18)]
(.prim (.one (tv 2))
(.prim (.one (tv 15))
(.prim (.one (tv 19))
(.prim (.one (tv 2))
(.join 0
(.loop 1 [(tn 0)]
(.prim (.len 33 (tv 8))
(.prim (.bin .lss 3 (tv 24) (tv 25))
(.ite (.var 26)
(.prim (.row 2 (tv 8) (tv 24))
(.call 22 [(.agg [(tp 27 0), (tp 27 1)])]
(.prim (.row 5 (.lit 5 4 [(tp 5 0), (tp 5 1), (tp 5 2), (tp 5 3), (tp 5 4), (tp 11 0), (tp 11 1), (tp 11 2), (tp 11 3), (tp 11 4), (tp 11 0), (tp 11 1), (tp 11 2), (tp 11 3), (tp 11 4), (tp 5 0), (tp 5 1), (tp 5 2), (tp 5 3), (tp 5 4)]) (tv 24))
(.call 23 [(.agg [(tp 29 0), (tp 29 1), (tp 29 2), (tp 29 3), (tp 29 4)])]
(.prim (.agg 2 (tv 28))
(.prim (.agg 5 (tv 30))
(.prim (.row 1 (.lit 1 4 [(tv 20), (tv 21), (tv 22), (tv 23)]) (tv 24))
(.call 24 [(.agg [(tp 31 0), (tp 31 1)]), (tp 33 0)]
(.prim (.ext (tv 34) 0)
(.prim (.ext (tv 34) 1)
(.prim (.row 2 (tv 8) (tv 24))
(.prim (.row 1 (.lit 1 4 [(tv 20), (tv 21), (tv 22), (tv 23)]) (tv 24))
(.call 25 [(.agg [(tp 37 0), (tp 37 1)]), (tp 38 0)]
(.prim (.ext (tv 39) 0)
(.prim (.ext (tv 39) 1)
(.join 2
(.call 26 [(.agg [(tp 31 0), (tp 31 1)])]
(.prim (.row 2 (tv 8) (tv 24))
(.call 27 [(.agg [(tp 43 0), (tp 43 1)])]
(.prim (.bin .neq 39 (tv 42) (tv 44))
(.ite (.var 45)
(.jump 2 [(.e (.cst (.bool true)))])
(.call 28 [(.agg [(tp 32 0), (tp 32 1), (tp 32 2), (tp 32 3), (tp 32 4)])]
(.prim (.row 5 (.lit 5 4 [(tp 5 0), (tp 5 1), (tp 5 2), (tp 5 3), (tp 5 4), (tp 11 0), (tp 11 1), (tp 11 2), (tp 11 3), (tp 11 4), (tp 11 0), (tp 11 1), (tp 11 2), (tp 11 3), (tp 11 4), (tp 5 0), (tp 5 1), (tp 5 2), (tp 5 3), (tp 5 4)]) (tv 24))
(.call 29 [(.agg [(tp 47 0), (tp 47 1), (tp 47 2), (tp 47 3), (tp 47 4)])]
(.prim (.bin .neq 39 (tv 46) (tv 48))
(.ite (.var 49)
(.jump 2 [(.e (.cst (.bool true)))])
(.prim (.bin .neq 39 (tv 36) (tv 41))
(.ite (.var 50)
(.jump 2 [(.e (.cst (.bool true)))])
(.call 30 [(tv 35), (tv 40)]
(.prim (.un .not (tv 51))
(.jump 2 [(tv 52)])))))))))))))))
(.ite (.var 42)
(.ret (.e (.cst (.bool false))))
(.prim (.row 1 (.lit 1 4 [(tv 20), (tv 21), (tv 22), (tv 23)]) (tv 24))
(.call 31 [(.agg [(tp 31 0), (tp 31 1)]), (tp 43 0), (.agg [(tp 32 0), (tp 32 1), (tp 32 2), (tp 32 3), (tp 32 4)])]
(.prim (.ext (tv 44) 0)
(.prim (.ext (tv 44) 1)
(.prim (.row 2 (tv 8) (tv 24))
(.prim (.row 1 (.lit 1 4 [(tv 20), (tv 21), (tv 22), (tv 23)]) (tv 24))
(.prim (.row 5 (.lit 5 4 [(tp 5 0), (tp 5 1), (tp 5 2), (tp 5 3), (tp 5 4), (tp 11 0), (tp 11 1), (tp 11 2), (tp 11 3), (tp 11 4), (tp 11 0), (tp 11 1), (tp 11 2), (tp 11 3), (tp 11 4), (tp 5 0), (tp 5 1), (tp 5 2), (tp 5 3), (tp 5 4)]) (tv 24))
(.call 32 [(.agg [(tp 47 0), (tp 47 1)]), (tp 48 0), (.agg [(tp 49 0), (tp 49 1), (tp 49 2), (tp 49 3), (tp 49 4)])]
(.prim (.ext (tv 50) 0)
(.prim (.ext (tv 50) 1)
(.join 3
(.prim (.bin .neq 39 (tv 46) (tv 52))
(.ite (.var 53)
(.jump 3 [(.e (.cst (.bool true)))])
(.call 33 [(tv 45), (tv 51)]
(.prim (.un .not (tv 54))
(.ite (.var 55)
(.jump 3 [(.e (.cst (.bool true)))])
(.prim (.row 2 (tv 8) (tv 24))
(.prim (.row 5 (.lit 5 4 [(tp 5 0), (tp 5 1), (tp 5 2), (tp 5 3), (tp 5 4), (tp 11 0), (tp 11 1), (tp 11 2), (tp 11 3), (tp 11 4), (tp 11 0), (tp 11 1), (tp 11 2), (tp 11 3), (tp 11 4), (tp 5 0), (tp 5 1), (tp 5 2), (tp 5 3), (tp 5 4)]) (tv 24))
(.call 34 [(.agg [(tp 56 0), (tp 56 1)]), (.agg [(tp 31 0), (tp 31 1)]), (.lit 5 1 [(tp 57 0), (tp 57 1), (tp 57 2), (tp 57 3), (tp 57 4)]), (.lit 5 1 [(tp 32 0), (tp 32 1), (tp 32 2), (tp 32 3), (tp 32 4)])]
(.prim (.un .not (tv 58))
(.jump 3 [(tv 59)]))))))))))
(.ite (.var 53)
(.ret (.e (.cst (.bool false))))
(.prim (.bin .add 3 (tv 24) (tn 1))
(.jump 1 [(tv 54)])))))))))))))))))))))))))))))))
(.jump 0 [])))))
(.call 17 []
(.ret (tv 24)))))))))))))))))))))))))
theorem t3_ok : compFun (x3 Try.prog) w3 3 = .ok t3 := by kernel_rfl
theorem k3 : TreeOk Try.prog 31 ⟨18, none, none⟩ ownT 3 t3 (x3 Try.prog) w3 Try.f3 := ⟨rfl, rfl, rfl, (fun g r h => by cases h), by kernel_rfl, by decide, rfl, t3_ok⟩
def x4 (P : Program) : Ctx := { P := P, inl := [86, 87, 99, 100, 115, 116, 117, 123], own := [], ownc := [], ownr := [], diceT := 31, diceNew := ⟨18, none, none⟩ }
def w4 : Hints := { sites := [], np := [(4, 3, 9999), (4, 18, 5), (87, 6, 18), (123, 3, 12)], thaw := [], skel := [(0, 61, ⟨[], [], [], [], false⟩), (0, 122, ⟨[⟨false, 10, 0, none, false⟩], [], [10, 9, 2, 1], [], false⟩), (0, 15653, ⟨[], [], [9, 2, 1, 10, 11], [], false⟩), (0, 31306, ⟨[⟨false, 12, 0, none, false⟩], [], [10, 9, 11, 2, 1, 12], [], false⟩), (0, 4007205, ⟨[⟨false, 13, 0, none, false⟩, ⟨false, 14, 0, none, false⟩], [], [10, 9, 11, 2, 1, 12, 14, 13], [], false⟩), (0, 16028830, ⟨[⟨false, 82, 0, none, false⟩], [], [82, 10, 9, 11, 2, 1, 12], [], false⟩)] }
def t4 : Tree := (.prim (.agg 2 (tv 0))
(.call 16 [(.agg [(tp 4 0), (tp 4 1)]), (.e (.cst .snil))]
(.ite (.var 5)
(.call 17 []
(.ret (tv 6)))
(.prim (.ints (tv 3))
(.call 19 [(.agg [(tp 4 0), (tp 4 1)]), (.e (.cst (.ptr 0 0)))]
(.join 0
(.loop 1 [(tn 0)]
(.prim (.len 33 (tv 7))
(.prim (.bin .lss 3 (tv 8) (tv 9))
(.ite (.var 10)
(.prim (.row 2 (tv 7) (tv 8))
(.call 22 [(.agg [(tp 11 0), (tp 11 1)])]
(.prim (.agg 2 (tv 12))
(.join 2
(.loop 3 [(tn (-1))]
(.prim (.bin .lss 3 (tv 14) (tn 9))
(.ite (.var 15)
(.prim (.bin .quo 3 (tv 14) (tn 3))
(.prim (.bin .rem 3 (tv 14) (tn 3))
(.prim (.bin .lss 3 (tv 14) (tn 0))
(.join 4
(.ite (.var 18)
(.jump 4 [(tv 1), (tv 2)])
(.jump 4 [(tv 16), (tv 17)]))
(.call 35 [(.agg [(tp 13 0), (tp 13 1)]), (tv 19), (tv 20)]
(.prim (.ext (tv 21) 0)
(.prim (.ext (tv 21) 1)
(.prim (.ext (tv 21) 2)
(.prim (.row 2 (tv 7) (tv 8))
(.call 36 [(.agg [(tp 25 0), (tp 25 1)]), (tv 19), (tv 20)]
(.prim (.ext (tv 26) 0)
(.prim (.ext (tv 26) 1)
(.prim (.ext (tv 26) 2)
(.join 5
(.prim (.bin .neq 3 (tv 22) (tv 27))
(.ite (.var 30)
(.jump 5 [(.e (.cst (.bool true)))])
(.prim (.bin .neq 3 (tv 23) (tv 28))
(.ite (.var 31)
(.jump 5 [(.e (.cst (.bool true)))])
(.prim (.bin .neq 39 (tv 24) (tv 29))
(.jump 5 [(tv 32)]))))))
(.ite (.var 30)
(.ret (.e (.cst (.bool false))))
(.prim (.bin .add 3 (tv 14) (tn 1))
(.jump 3 [(tv 31)])))))))))))))))))
(.jump 2 []))))
(.prim (.row 2 (tv 7) (tv 8))
(.call 37 [(.agg [(tp 13 0), (tp 13 1)]), (.agg [(tp 14 0), (tp 14 1)])]
(.prim (.un .not (tv 15))
(.ite (.var 16)
(.ret (.e (.cst (.bool false))))
(.prim (.bin .add 3 (tv 8) (tn 1))
(.jump 1 [(tv 17)]))))))))))
(.jump 0 [])))))
(.call 17 []
(.ret (tv 8)))))))))
theorem t4_ok : compFun (x4 Try.prog) w4 4 = .ok t4 := by kernel_rfl
theorem k4 : TreeOk Try.prog 31 ⟨18, none, none⟩ ownT 4 t4 (x4 Try.prog) w4 Try.f4 := ⟨rfl, rfl, rfl, (fun g r h => by cases h), by kernel_rfl, by decide, rfl, t4_ok⟩
def x5 (P : Program) : Ctx := { P := P, inl := [86, 87, 99, 100, 115, 116, 117, 123], own := [], ownc := [], ownr := [], diceT := 31, diceNew := ⟨18, none, none⟩ }
def w5 : Hints := { sites := [], np := [(5, 5, 25), (5, 7, 10), (87, 6, 18), (123, 3, 12)], thaw := [], skel := [(0, 1022, ⟨[⟨false, 2, 0, none, false⟩], [], [2], [], false⟩)] }
def t5 : Tree := (.prim (.ints (tv 0))
(.call 38 [(.e (.cst (.ptr 0 0))), (tn 2)]
(.prim (.agg 2 (tv 2))
(.prim (.len 22 (tp 3 1))
(.prim (.bin .sub 3 (tv 4) (tn 1))
(.call 21 [(.e (.cst (.ptr 0 0))), (tv 5)]
(.prim (.row 3 (tp 3 1) (tv 6))
(.prim (.bin .sub 3 (tp 7 1) (tn 1))
(.call 21 [(.e (.cst (.ptr 0 0))), (tv 8)]
(.prim (.row 3 (tp 3 1) (tv 6))
(.prim (.row 3 (tp 3 1) (tv 6))
(.prim (.bin .sub 3 (tp 11 1) (tn 1))
(.call 21 [(.e (.cst (.ptr 0 0))), (tn 5)]
(.prim (.bin .add 3 (tv 9) (tv 13))
(.prim (.mm false [(tv 12), (tv 14)])
(.call 40 [(.e (.cst (.ptr 0 0))), (.agg [(tp 10 0), (tp 10 1), (tp 10 2)]), (tv 9), (tv 15)]
(.call 39 [(.e (.cst (.ptr 0 0))), (tv 16), (tp 3 0)]
(.prim (.agg 5 (tv 17))
(.call 31 [(.agg [(tp 3 0), (tp 3 1)]), (tv 6), (.agg [(tp 18 0), (tp 18 1), (tp 18 2), (tp 18 3), (tp 18 4)])]
(.prim (.ext (tv 19) 0)
(.prim (.ext (tv 19) 1)
(.call 42 [(.agg [(tp 18 0), (tp 18 1), (tp 18 2), (tp 18 3), (tp 18 4)])]
(.call 41 [(tv 22)]
(.call 31 [(.agg [(tp 3 0), (tp 3 1)]), (tv 6), (tv 23)]
(.prim (.ext (tv 24) 0)
(.prim (.ext (tv 24) 1)
(.join 0
(.prim (.bin .eql 39 (tv 21) (tn 0))
(.ite (.var 27)
(.prim (.bin .eql 39 (tv 26) (tn 0))
(.ite (.var 28)
(.prim (.one (tv 9))
(.call 43 [(tv 20), (.agg [(tv 29), (.e (.cst (.bool false)))])]
(.ite (.var 30)
(.prim (.one (tv 9))
(.call 43 [(tv 25), (.agg [(tv 31), (.e (.cst (.bool true)))])]
(.ite (.var 32)
(.call 17 []
(.jump 0 [(tv 33)]))
(.jump 0 [(.e (.cst (.bool false)))]))))
(.jump 0 [(.e (.cst (.bool false)))]))))
(.jump 0 [(.e (.cst (.bool false)))])))
(.jump 0 [(.e (.cst (.bool false)))])))
(.ret (tv 27)))))))))))))))))))))))))))))
theorem t5_ok : compFun (x5 Try.prog) w5 5 = .ok t5 := by kernel_rfl
theorem k5 : TreeOk Try.prog 31 ⟨18, none, none⟩ ownT 5 t5 (x5 Try.prog) w5 Try.f5 := ⟨rfl, rfl, rfl, (fun g r h => by cases h), by kernel_rfl, by decide, rfl, t5_ok⟩
def x6 (P : Program) : Ctx := { P := P, inl := [86, 87, 99, 100, 115, 116, 117, 123], own := [], ownc := [], ownr := [], diceT := 31, diceNew := ⟨18, none, none⟩ }
def w6 : Hints := { sites := [], np := [(6, 10, 9), (6, 17, 56), (87, 6, 18), (123, 3, 12)], thaw := [], skel := [(0, 509, ⟨[], [], [], [], false⟩), (0, 1018, ⟨[⟨false, 7, 0, none, false⟩], [], [6, 4, 5, 7], [], false⟩), (0, 521372, ⟨[⟨false, 86, 0, none, false⟩], [], [86, 8, 12, 10, 6, 4, 5, 7], [], false⟩), (0, 521375, ⟨[], [], [6, 4, 5, 7], [], false⟩), (0, 1042750, ⟨[⟨false, 14, 0, none, false⟩], [], [8, 12, 10, 6, 4, 5, 7, 14], [], false⟩), (0, 33368008, ⟨[⟨false, 151, 0, none, false⟩], [], [151, 8, 12, 10, 6, 4, 5, 7, 14], [], false⟩)] }
def t6 : Tree := (.prim (.ints (tv 0))
(.call 38 [(.e (.cst (.ptr 0 0))), (tn 2)]
(.prim (.agg 2 (tv 2))
(.call 20 [(.e (.cst (.ptr 0 0))), (.agg [(tp 3 0), (tp 3 1)])]
(.call 41 [(tv 4)]
(.prim (.agg 5 (tv 5))
(.join 0
(.loop 1 [(tn 0)]
(.prim (.len 22 (tp 3 1))
(.prim (.bin .lss 3 (tv 7) (tv 8))
(.ite (.var 9)
(.call 31 [(.agg [(tp 3 0), (tp 3 1)]), (tv 7), (.agg [(tp 6 0), (tp 6 1), (tp 6 2), (tp 6 3), (tp 6 4)])]
(.prim (.ext (tv 10) 0)
(.prim (.ext (tv 10) 1)
(.call 42 [(.agg [(tp 6 0), (tp 6 1), (tp 6 2), (tp 6 3), (tp 6 4)])]
(.call 31 [(.agg [(tp 3 0), (tp 3 1)]), (tv 7), (tv 13)]
(.prim (.ext (tv 14) 0)
(.prim (.ext (tv 14) 1)
(.call 31 [(.agg [(tp 3 0), (tp 3 1)]), (tv 7), (.agg [(tp 6 0), (tp 6 1), (tp 6 2), (tp 6 3), (.e (.cst (.bool false)))])]
(.prim (.ext (tv 17) 0)
(.prim (.ext (tv 17) 1)
(.join 2
(.prim (.bin .neq 39 (tv 12) (tn 0))
(.ite (.var 20)
(.jump 2 [(.e (.cst (.bool true)))])
(.prim (.bin .neq 39 (tv 16) (tn 0))
(.ite (.var 21)
(.jump 2 [(.e (.cst (.bool true)))])
(.prim (.bin .neq 39 (tv 19) (tn 0))
(.ite (.var 22)
(.jump 2 [(.e (.cst (.bool true)))])
(.prim (.len 45 (tv 11))
(.prim (.len 45 (tv 15))
(.prim (.bin .neq 3 (tv 23) (tv 24))
(.ite (.var 25)
(.jump 2 [(.e (.cst (.bool true)))])
(.prim (.len 45 (tv 18))
(.prim (.len 45 (tv 11))
(.prim (.bin .gtr 3 (tv 26) (tv 27))
(.ite (.var 28)
(.jump 2 [(.e (.cst (.bool true)))])
(.prim (.len 45 (tv 18))
(.prim (.slice 45 (tv 11) none (some (tv 29)))
(.call 33 [(tv 30), (tv 18)]
(.prim (.un .not (tv 31))
(.jump 2 [(tv 32)])))))))))))))))))))
(.ite (.var 20)
(.ret (.e (.cst (.bool false))))
(.join 3
(.loop 4 [(tn 0)]
(.prim (.len 45 (tv 11))
(.prim (.bin .lss 3 (tv 21) (tv 22))
(.ite (.var 23)
(.join 5
(.prim (.row 2 (tv 11) (tv 21))
(.prim (.row 2 (tv 11) (tv 21))
(.prim (.un .not (tp 25 1))
(.call 43 [(tv 15), (.agg [(tp 24 0), (tv 26)])]
(.prim (.un .not (tv 27))
(.ite (.var 28)
(.jump 5 [(.e (.cst (.bool true)))])
(.prim (.row 2 (tv 11) (tv 21))
(.prim (.len 45 (tv 18))
(.prim (.bin .geq 3 (tv 21) (tv 30))
(.prim (.bin .neq 4 (tp 29 1) (tv 31))
(.ite (.var 32)
(.jump 5 [(.e (.cst (.bool true)))])
(.prim (.bin .gtr 3 (tv 21) (tn 0))
(.ite (.var 33)
(.prim (.row 2 (tv 11) (tv 21))
(.prim (.bin .sub 3 (tv 21) (tn 1))
(.prim (.row 2 (tv 11) (tv 35))
(.prim (.bin .eql 4 (tp 34 1) (tp 36 1))
(.ite (.var 37)
(.prim (.row 2 (tv 11) (tv 21))
(.prim (.bin .sub 3 (tv 21) (tn 1))
(.prim (.row 2 (tv 11) (tv 39))
(.prim (.bin .leq 3 (tp 38 0) (tp 40 0))
(.jump 5 [(tv 41)])))))
(.jump 5 [(.e (.cst (.bool false)))]))))))
(.jump 5 [(.e (.cst (.bool false)))]))))))))))))))
(.ite (.var 24)
(.ret (.e (.cst (.bool false))))
(.prim (.bin .add 3 (tv 21) (tn 1))
(.jump 4 [(tv 25)]))))
(.jump 3 [])))))
(.prim (.bin .add 3 (tv 7) (tn 1))
(.jump 1 [(tv 21)])))))))))))))))
(.jump 0 [])))))
(.call 17 []
(.ret (tv 7))))))))))
theorem t6_ok : compFun (x6 Try.prog) w6 6 = .ok t6 := by kernel_rfl
theorem k6 : TreeOk Try.prog 31 ⟨18, none, none⟩ ownT 6 t6 (x6 Try.prog) w6 Try.f6 := ⟨rfl, rfl, rfl, (fun g r h => by cases h), by kernel_rfl, by decide, rfl, t6_ok⟩
def x7 (P : Program) : Ctx := { P := P, inl := [86, 87, 99, 100, 115, 116, 117, 123], own := [], ownc := [], ownr := [], diceT := 31, diceNew := ⟨18, none, none⟩ }
def w7 : Hints := { sites := [], np := [(87, 6, 18), (123, 3, 12)], thaw := [], skel := [(0, 2045, ⟨[], [], [], [], false⟩), (0, 4090, ⟨[⟨false, 7, 0, none, false⟩], [], [6, 4, 5, 7], [], false⟩), (0, 1047116, ⟨[⟨false, 62, 0, none, false⟩], [], [62, 8, 10, 6, 4, 5, 7], [], false⟩), (0, 1047119, ⟨[], [], [6, 4, 5, 7], [], false⟩), (0, 2094238, ⟨[⟨false, 12, 0, none, false⟩], [], [8, 10, 6, 4, 5, 7, 12], [], false⟩), (0, 67015624, ⟨[⟨false, 83, 0, none, false⟩], [], [83, 8, 10, 6, 4, 5, 7, 12], [], false⟩)] }
def t7 : Tree := (.prim (.ints (tv 0))
(.call 38 [(.e (.cst (.ptr 0 0))), (tn 2)]
(.prim (.agg 2 (tv 2))
(.call 20 [(.e (.cst (.ptr 0 0))), (.agg [(tp 3 0), (tp 3 1)])]
(.prim (.agg 5 (tv 4))
(.prim (.len 25 (tp 5 0))
(.prim (.bin .eql 3 (tv 6) (tn 0))
(.ite (.var 7)
(.call 17 []
(.ret (tv 8)))
(.call 23 [(.agg [(tp 5 0), (tp 5 1), (tn 0), (tp 5 3), (tp 5 4)])]
(.prim (.agg 5 (tv 8))
(.prim (.len 25 (tp 5 0))
(.prim (.bin .sub 3 (tv 10) (tn 1))
(.prim (.slice 25 (tp 9 0) none (some (tv 11)))
(.join 0
(.loop 1 [(tn 0)]
(.prim (.len 22 (tp 3 1))
(.prim (.bin .lss 3 (tv 13) (tv 14))
(.ite (.var 15)
(.call 31 [(.agg [(tp 3 0), (tp 3 1)]), (tv 13), (.agg [(tp 5 0), (tp 5 1), (tn 0), (tp 5 3), (tp 5 4)])]
(.prim (.ext (tv 16) 0)
(.prim (.ext (tv 16) 1)
(.call 31 [(.agg [(tp 3 0), (tp 3 1)]), (tv 13), (.agg [(tv 12), (tp 9 1), (tp 9 2), (tp 9 3), (tp 9 4)])]
(.prim (.ext (tv 19) 0)
(.prim (.ext (tv 19) 1)
(.join 2
(.prim (.bin .neq 39 (tv 18) (tn 0))
(.ite (.var 22)
(.jump 2 [(.e (.cst (.bool true)))])
(.prim (.bin .neq 39 (tv 21) (tn 0))
(.jump 2 [(tv 23)]))))
(.ite (.var 22)
(.ret (.e (.cst (.bool false))))
(.join 3
(.loop 4 [(tn 0)]
(.prim (.len 45 (tv 17))
(.prim (.bin .lss 3 (tv 23) (tv 24))
(.ite (.var 25)
(.join 5
(.prim (.row 2 (tv 17) (tv 23))
(.prim (.un .not (tp 26 1))
(.ite (.var 27)
(.prim (.row 2 (tv 17) (tv 23))
(.call 43 [(tv 20), (.agg [(tp 28 0), (tp 28 1)])]
(.prim (.un .not (tv 29))
(.jump 5 [(tv 30)]))))
(.jump 5 [(.e (.cst (.bool false)))]))))
(.ite (.var 26)
(.ret (.e (.cst (.bool false))))
(.prim (.bin .add 3 (tv 23) (tn 1))
(.jump 4 [(tv 27)]))))
(.jump 3 [])))))
(.prim (.bin .add 3 (tv 13) (tn 1))
(.jump 1 [(tv 23)])))))))))))
(.jump 0 [])))))
(.call 17 []
(.ret (tv 13)))))))))))))))))
theorem t7_ok : compFun (x7 Try.prog) w7 7 = .ok t7 := by kernel_rfl
theorem k7 : TreeOk Try.prog 31 ⟨18, none, none⟩ ownT 7 t7 (x7 Try.prog) w7 Try.f7 := ⟨rfl, rfl, rfl, (fun g r h => by cases h), by kernel_rfl, by decide, rfl, t7_ok⟩
def x8 (P : Program) : Ctx := { P := P, inl := [86, 87, 99, 100, 115, 116, 117, 123], own := [], ownc := [], ownr := [], diceT := 31, diceNew := ⟨18, none, none⟩ }
def w8 : Hints := { sites := [], np := [(8, 3, 8), (8, 4, 11), (8, 6, 7), (8, 10, 16), (8, 13, 9), (8, 30, 8), (8, 33, 10), (8, 34, 10), (8, 35, 28), (87, 6, 18), (123, 3, 12)], thaw := [], skel := [(0, 4093, ⟨[⟨true, 2, 0, none, false⟩, ⟨true, 2, 1, none, false⟩, ⟨true, 2, 2, none, false⟩, ⟨true, 2, 3, none, false⟩, ⟨true, 2, 4, none, false⟩, ⟨true, 3, 0, none, false⟩, ⟨true, 3, 1, none, false⟩, ⟨true, 3, 2, none, false⟩, ⟨true, 3, 3, none, false⟩, ⟨true, 3, 4, none, false⟩], [], [4, 6, 5, 11, 9, 10], [], false⟩), (0, 65493, ⟨[⟨true, 3, 1, none, false⟩], [], [4, 6, 5, 11, 9, 10, 3], [], false⟩), (0, 32765, ⟨[⟨false, 14, 0, none, false⟩, ⟨false, 15, 0, none, false⟩], [], [12, 13, 11, 15, 9, 10, 14], [], false⟩), (0, 65530, ⟨[⟨false, 14, 0, none, false⟩, ⟨false, 15, 0, none, false⟩, ⟨false, 16, 0, none, false⟩], [], [15, 14, 4, 6, 5, 12, 13, 11, 9, 10, 16], [], false⟩), (0, 33551516, ⟨[⟨false, 176, 0, none, false⟩], [], [176, 15, 14, 19, 4, 21, 6, 17, 5, 12, 13, 11, 9, 10, 16], [], false⟩), (0, 33551519, ⟨[⟨false, 14, 0, none, false⟩, ⟨false, 15, 0, none, false⟩], [], [15, 14, 4, 6, 5, 12, 13, 11, 9, 10, 16], [], false⟩), (0, 67103038, ⟨[⟨false, 14, 0, none, false⟩, ⟨false, 15, 0, none, false⟩, ⟨false, 23, 0, none, false⟩], [], [15, 14, 19, 4, 21, 6, 23, 17, 5, 12, 13, 11, 9, 10, 16], [], false⟩), (0, 2147297225, ⟨[⟨false, 14, 0, none, false⟩, ⟨false, 15, 0, none, false⟩], [], [15, 14, 19, 4, 21, 6, 17, 5, 12, 13, 11, 9, 10, 16, 23], [], false⟩), (0, 4294594450, ⟨[⟨false, 24, 0, none, false⟩, ⟨false, 14, 0, none, false⟩, ⟨false, 15, 0, none, false⟩], [], [15, 14, 19, 4, 21, 6, 23, 17, 5, 12, 13, 11, 9, 10, 16, 24], [], false⟩), (0, 549708089636, ⟨[⟨false, 227, 0, none, false⟩], [], [227, 15, 14, 19, 4, 21, 6, 23, 17, 5, 12, 13, 11, 9, 10, 16, 24, 25], [], false⟩), (0, 4397664717116, ⟨[⟨false, 275, 0, none, false⟩], [], [275, 15, 14, 19, 4, 21, 6, 23, 17, 5, 12, 13, 11, 9, 10, 16, 24, 25], [], false⟩), (0, 17590658868476, ⟨[⟨false, 290, 0, none, false⟩], [], [290, 19, 4, 21, 6, 23, 17, 5, 12, 13, 11, 9, 10, 16, 24, 30, 15, 14], [], false⟩), (0, 17590658868477, ⟨[⟨false, 14, 0, none, false⟩], [], [14, 19, 4, 21, 6, 23, 17, 5, 12, 13, 11, 9, 10, 16, 24, 30, 15], [], false⟩), (0, 262132, ⟨[⟨false, 2, 0, none, false⟩], [], [2], [], false⟩), (0, 65534, ⟨[⟨false, 2, 0, none, false⟩], [], [2], [], false⟩)] }
def t8 : Tree := (.prim (.ints (tv 0))
(.call 38 [(.e (.cst (.ptr 0 0))), (tn 2)]
(.prim (.agg 2 (tv 2))
(.call 20 [(.e (.cst (.ptr 0 0))), (.agg [(tp 3 0), (tp 3 1)])]
(.call 20 [(.e (.cst (.ptr 0 0))), (.agg [(tp 3 0), (tp 3 1)])]
(.prim (.agg 5 (tv 4))
(.prim (.agg 5 (tv 5))
(.prim (.len 22 (tp 3 1))
(.prim (.bin .sub 3 (tv 8) (tn 1))
(.call 21 [(.e (.cst (.ptr 0 0))), (tv 9)]
(.prim (.row 3 (tp 3 1) (tv 10))
(.prim (.bin .sub 3 (tp 11 1) (tn 2))
(.call 21 [(.e (.cst (.ptr 0 0))), (tv 12)]
(.prim (.bin .sub 3 (tp 11 1) (tn 2))
(.call 21 [(.e (.cst (.ptr 0 0))), (tn 5)]
(.prim (.bin .add 3 (tv 13) (tv 15))
(.prim (.mm false [(tv 14), (tv 16)])
(.prim (.bin .add 3 (tv 17) (tn 1))
(.prim (.bin .sub 3 (tp 11 1) (tn 1))
(.call 44 [(.e (.cst (.ptr 0 0))), (tv 18), (tv 19)]
(.call 45 [(.e (.cst (.ptr 0 0))), (tn 2)]
(.join 0
(.ite (.var 21)
(.call 40 [(.e (.cst (.ptr 0 0))), (.agg [(tp 11 0), (tp 11 1), (tp 11 2)]), (tv 13), (tv 17)]
(.prim (.bin .sub 3 (tp 11 1) (tn 1))
(.call 21 [(.e (.cst (.ptr 0 0))), (tn 5)]
(.prim (.bin .add 3 (tv 20) (tv 24))
(.prim (.mm false [(tv 23), (tv 25)])
(.call 40 [(.e (.cst (.ptr 0 0))), (.agg [(tp 11 0), (tp 11 1), (tp 11 2)]), (tv 20), (tv 26)]
(.prim (.agg 5 (tv 22))
(.prim (.agg 5 (tv 27))
(.prim (.bin .add 3 (tv 17) (tn 1))
(.prim (.bin .eql 3 (tv 20) (tv 30))
(.join 1
(.ite (.var 31)
(.jump 1 [(tn 0)])
(.jump 1 [(tp 29 1)]))
(.call 39 [(.e (.cst (.ptr 0 0))), (.agg [(tp 28 0), (tp 28 1), (tp 28 2), (tp 28 3), (tp 28 4)]), (tp 3 0)]
(.call 39 [(.e (.cst (.ptr 0 0))), (.agg [(tp 29 0), (tv 32), (tp 29 2), (tp 29 3), (tp 29 4)]), (tp 3 0)]
(.prim (.agg 5 (tv 33))
(.prim (.agg 5 (tv 34))
(.jump 0 [(tp 35 0), (tp 35 1), (tp 35 2), (tp 35 3), (tp 35 4), (tp 36 0), (tp 36 1), (tp 36 2), (tp 36 3), (tp 36 4)]))))))))))))))))
(.jump 0 [(tp 6 0), (tp 6 1), (tp 6 2), (tp 6 3), (tp 6 4), (tp 7 0), (tp 7 1), (tp 7 2), (tp 7 3), (tp 7 4)]))
(.call 46 [(.agg [(tp 3 0), (tp 3 1)]), (.agg [(tv 22), (tv 23), (tv 24), (tv 25), (tv 26)]), (.agg [(tv 27), (tv 28), (tv 29), (tv 30), (tv 31)])]
(.prim (.ext (tv 32) 0)
(.prim (.ext (tv 32) 1)
(.prim (.agg 2 (tv 33))
(.join 1
(.loop 2 [(tn (-1)), (tn (-1)), (tn 0)]
(.prim (.len 22 (tp 3 1))
(.prim (.bin .lss 3 (tv 38) (tv 39))
(.ite (.var 40)
(.call 31 [(.agg [(tp 3 0), (tp 3 1)]), (tv 38), (.agg [(tv 22), (tv 23), (tv 24), (tv 25), (tv 26)])]
(.prim (.ext (tv 41) 0)
(.prim (.ext (tv 41) 1)
(.call 31 [(.agg [(tp 3 0), (tp 3 1)]), (tv 38), (.agg [(tv 27), (tv 28), (tv 29), (tv 30), (tv 31)])]
(.prim (.ext (tv 44) 0)
(.prim (.ext (tv 44) 1)
(.call 24 [(.agg [(tp 3 0), (tp 3 1)]), (tv 38)]
(.prim (.ext (tv 47) 0)
(.prim (.ext (tv 47) 1)
(.join 3
(.prim (.bin .neq 39 (tv 43) (tn 0))
(.ite (.var 50)
(.jump 3 [(.e (.cst (.bool true)))])
(.prim (.bin .neq 39 (tv 46) (tn 0))
(.ite (.var 51)
(.jump 3 [(.e (.cst (.bool true)))])
(.prim (.bin .neq 39 (tv 49) (tn 0))
(.ite (.var 52)
(.jump 3 [(.e (.cst (.bool true)))])
(.prim (.len 25 (tv 48))
(.prim (.row 3 (tp 3 1) (tv 38))
(.prim (.bin .neq 3 (tv 53) (tp 54 1))
(.ite (.var 55)
(.jump 3 [(.e (.cst (.bool true)))])
(.prim (.len 45 (tv 42))
(.prim (.len 25 (tv 48))
(.prim (.bin .mul 3 (tn 2) (tv 57))
(.prim (.bin .gtr 3 (tv 56) (tv 58))
(.ite (.var 59)
(.jump 3 [(.e (.cst (.bool true)))])
(.prim (.len 45 (tv 45))
(.prim (.len 25 (tv 48))
(.prim (.bin .mul 3 (tn 2) (tv 61))
(.prim (.bin .gtr 3 (tv 60) (tv 62))
(.jump 3 [(tv 63)]))))))))))))))))))))
(.ite (.var 50)
(.ret (.e (.cst (.bool false))))
(.join 4
(.loop 5 [(tv 36), (tv 37), (tn 0)]
(.prim (.len 45 (tv 42))
(.prim (.bin .lss 3 (tv 53) (tv 54))
(.ite (.var 55)
(.join 6
(.loop 7 [(tn 0), (tv 51), (tv 52)]
(.prim (.len 45 (tv 45))
(.prim (.bin .lss 3 (tv 56) (tv 59))
(.ite (.var 60)
(.prim (.row 2 (tv 42) (tv 53))
(.prim (.len 25 (tv 22))
(.prim (.bin .add 3 (tp 61 0) (tv 62))
(.join 8
(.prim (.row 2 (tv 42) (tv 53))
(.prim (.bin .lss 3 (tp 64 0) (tn 0))
(.ite (.var 65)
(.jump 8 [(.e (.cst (.bool true)))])
(.prim (.len 25 (tv 48))
(.prim (.bin .geq 3 (tv 63) (tv 66))
(.ite (.var 67)
(.jump 8 [(.e (.cst (.bool true)))])
(.prim (.row 2 (tv 45) (tv 56))
(.prim (.bin .lss 3 (tp 68 0) (tn 0))
(.ite (.var 69)
(.jump 8 [(.e (.cst (.bool true)))])
(.prim (.row 2 (tv 45) (tv 56))
(.prim (.len 25 (tv 48))
(.prim (.bin .geq 3 (tp 70 0) (tv 71))
(.jump 8 [(tv 72)])))))))))))))
(.ite (.var 64)
(.ret (.e (.cst (.bool false))))
(.prim (.row 2 (tv 42) (tv 53))
(.call 47 [(.agg [(tv 22), (tv 23), (tv 24), (tv 25), (tv 26)]), (.agg [(tp 65 0), (tp 65 1)])]
(.prim (.ext (tv 66) 0)
(.prim (.ext (tv 66) 1)
(.prim (.row 2 (tv 45) (tv 56))
(.call 47 [(.agg [(tv 27), (tv 28), (tv 29), (tv 30), (tv 31)]), (.agg [(tp 69 0), (tp 69 1)])]
(.prim (.ext (tv 70) 0)
(.prim (.ext (tv 70) 1)
(.join 9
(.prim (.row 2 (tv 45) (tv 56))
(.prim (.bin .leq 3 (tp 73 0) (tv 63))
(.ite (.var 74)
(.jump 9 [(.e (.cst (.bool true)))])
(.prim (.row 2 (tv 45) (tv 56))
(.prim (.row 1 (tv 48) (tp 75 0))
(.prim (.row 1 (tv 48) (tv 63))
(.prim (.bin .sub 3 (tp 76 0) (tp 77 0))
(.prim (.bin .mul 3 (tn 2) (tp 3 0))
(.prim (.bin .add 3 (tv 78) (tv 79))
(.prim (.bin .add 3 (tv 68) (tv 71))
(.prim (.bin .lss 3 (tv 80) (tv 81))
(.jump 9 [(tv 82)]))))))))))))
(.ite (.var 73)
(.prim (.bin .add 3 (tv 56) (tn 1))
(.jump 7 [(tv 74), (tv 57), (tv 58)]))
(.prim (.row 2 (tv 45) (tv 56))
(.prim (.bin .sub 3 (tp 74 0) (tv 63))
(.prim (.bin .sub 3 (tv 75) (tn 1))
(.join 10
(.prim (.bin .lss 3 (tv 57) (tn 0))
(.ite (.var 77)
(.jump 10 [(.e (.cst (.bool true)))])
(.prim (.bin .lss 3 (tv 76) (tv 57))
(.jump 10 [(tv 78)]))))
(.join 11
(.ite (.var 77)
(.jump 11 [(tv 76)])
(.jump 11 [(tv 57)]))
(.prim (.mm true [(tv 58), (tv 76)])
(.prim (.bin .add 3 (tv 56) (tn 1))
(.jump 7 [(tv 80), (tv 78), (tv 79)])))))))))))))))))))))))
(.jump 6 [(tv 57), (tv 58)])))))
(.prim (.bin .add 3 (tv 53) (tn 1))
(.jump 5 [(tv 56), (tv 57), (tv 58)])))
(.jump 4 [(tv 51), (tv 52)])))))
(.prim (.bin .add 3 (tv 38) (tn 1))
(.jump 2 [(tv 51), (tv 52), (tv 53)]))))))))))))))
(.jump 1 [(tv 36), (tv 37)])))))
(.prim (.bin .lss 3 (tv 36) (tn 0))
(.ite (.var 38)
(.join 2
(.prim (.un .not (tv 21))
(.ite (.var 39)
(.prim (.bin .eql 39 (tv 34) (tn 11))
(.ite (.var 40)
(.prim (.bin .eql 67 (.agg [(tp 35 0), (tp 35 1)]) (.agg [(tn 0), (tn 0)]))
(.ite (.var 41)
(.call 17 []
(.jump 2 [(tv 42)]))
(.jump 2 [(.e (.cst (.bool false)))])))
(.jump 2 [(.e (.cst (.bool false)))])))
(.jump 2 [(.e (.cst (.bool false)))])))
(.ret (tv 39)))
(.join 2
(.prim (.bin .eql 39 (tv 34) (tn 0))
(.ite (.var 39)
(.prim (.one (tv 36))
(.prim (.one (tv 37))
(.prim (.bin .eql 67 (.agg [(tp 35 0), (tp 35 1)]) (.agg [(tv 40), (tv 41)]))
(.ite (.var 42)
(.prim (.un .not (tv 21))
(.ite (.var 43)
(.call 17 []
(.jump 2 [(tv 44)]))
(.prim (.bin .sub 3 (tv 20) (tv 17))
(.prim (.bin .sub 3 (tv 44) (tn 1))
(.prim (.bin .leq 3 (tv 36) (tv 45))
(.ite (.var 46)
(.prim (.bin .sub 3 (tv 20) (tv 17))
(.prim (.bin .sub 3 (tv 47) (tn 1))
(.prim (.bin .leq 3 (tv 48) (tv 37))
(.ite (.var 49)
(.call 17 []
(.jump 2 [(tv 50)]))
(.jump 2 [(.e (.cst (.bool false)))])))))
(.jump 2 [(.e (.cst (.bool false)))])))))))
(.jump 2 [(.e (.cst (.bool false)))])))))
(.jump 2 [(.e (.cst (.bool false)))])))
(.ret (tv 39))))))))))))))))))))))))))))))))
theorem t8_ok : compFun (x8 Try.prog) w8 8 = .ok t8 := by kernel_rfl
theorem k8 : TreeOk Try.prog 31 ⟨18, none, none⟩ ownT 8 t8 (x8 Try.prog) w8 Try.f8 := ⟨rfl, rfl, rfl, (fun g r h => by cases h), by kernel_rfl, by decide, rfl, t8_ok⟩
def x9 (P : Program) : Ctx := { P := P, inl := [86, 87, 99, 100, 115, 116, 117, 123], own := [], ownc := [], ownr := [], diceT := 31, diceNew := ⟨18, none, none⟩ }
def w9 : Hints := { sites := [], np := [(9, 23, 12), (9, 27, 36), (87, 6, 18), (123, 3, 12)], thaw := [], skel := [(0, 125, ⟨[], [], [], [], false⟩), (0, 250, ⟨[⟨false, 6, 0, none, false⟩], [], [5, 4, 6], [], false⟩), (0, 64076, ⟨[⟨false, 57, 0, none, false⟩], [], [57, 5, 4, 6, 9, 7, 8], [], false⟩), (0, 256317, ⟨[⟨false, 11, 0, none, false⟩], [], [5, 4, 6, 7, 8, 11], [], false⟩), (0, 512634, ⟨[⟨false, 11, 0, none, false⟩, ⟨false, 12, 0, none, false⟩], [], [5, 4, 6, 9, 7, 8, 12, 11], [], false⟩), (0, 4101072, ⟨[⟨false, 66, 0, none, false⟩], [], [66, 5, 4, 6, 9, 7, 8, 12, 11], [], false⟩), (0, 32808595, ⟨[⟨false, 11, 0, none, false⟩], [], [5, 4, 6, 9, 7, 8, 11, 12], [], false⟩), (0, 65617190, ⟨[⟨false, 11, 0, none, false⟩, ⟨false, 14, 0, none, false⟩], [], [14, 13, 5, 4, 6, 9, 7, 8, 12, 11], [], false⟩), (0, 524937520, ⟨[⟨false, 81, 0, none, false⟩], [], [81, 14, 13, 5, 4, 6, 9, 7, 8, 12, 11], [], false⟩), (0, 8399000357, ⟨[⟨false, 15, 0, (some (1, .nil0)), false⟩], [], [15, 5, 4, 6, 9, 14, 13, 7, 8, 12, 11], [], false⟩), (0, 16798000714, ⟨[⟨false, 15, 0, (some (1, .nil0)), false⟩, ⟨false, 16, 0, none, false⟩], [], [14, 13, 5, 4, 6, 9, 7, 8, 12, 11, 16, 15], [], false⟩), (0, 16798000717, ⟨[⟨false, 11, 0, none, false⟩], [], [13, 5, 4, 6, 9, 7, 8, 12, 11, 14], [], false⟩), (0, 33596001434, ⟨[⟨false, 11, 0, none, false⟩, ⟨false, 15, 0, none, true⟩, ⟨false, 17, 0, none, false⟩], [], [15, 5, 4, 6, 9, 14, 13, 7, 8, 12, 17, 11], [], false⟩), (0, 537536022948, ⟨[⟨false, 11, 0, none, false⟩, ⟨false, 15, 0, none, true⟩], [], [15, 5, 4, 6, 9, 14, 13, 7, 8, 12, 11, 17], [0, 2], false⟩), (0, 16798000718, ⟨[⟨false, 162, 0, none, false⟩], [], [162, 13, 5, 4, 6, 9, 7, 8, 12, 11, 14], [], false⟩), (0, 256318, ⟨[⟨false, 173, 0, none, false⟩], [], [173, 5, 4, 6], [], false⟩)] }
def t9 : Tree := (.prim (.ints (tv 0))
(.call 38 [(.e (.cst (.ptr 0 0))), (tn 2)]
(.prim (.agg 2 (tv 2))
(.call 20 [(.e (.cst (.ptr 0 0))), (.agg [(tp 3 0), (tp 3 1)])]
(.prim (.agg 5 (tv 4))
(.join 0
(.loop 1 [(tn 0)]
(.prim (.len 22 (tp 3 1))
(.prim (.bin .lss 3 (tv 6) (tv 7))
(.ite (.var 8)
(.call 48 [(.agg [(tp 3 0), (tp 3 1)]), (tv 6), (.agg [(tp 5 0), (tp 5 1), (tp 5 2), (tp 5 3), (tp 5 4)])]
(.prim (.ext (tv 9) 0)
(.prim (.ext (tv 9) 1)
(.call 24 [(.agg [(tp 3 0), (tp 3 1)]), (tv 6)]
(.prim (.ext (tv 12) 0)
(.prim (.ext (tv 12) 1)
(.join 2
(.prim (.bin .neq 39 (tv 14) (tn 0))
(.ite (.var 15)
(.jump 2 [(.e (.cst (.bool true)))])
(.prim (.len 25 (tv 13))
(.prim (.row 3 (tp 3 1) (tv 6))
(.prim (.bin .neq 3 (tv 16) (tp 17 1))
(.jump 2 [(tv 18)]))))))
(.ite (.var 15)
(.ret (.e (.cst (.bool false))))
(.join 3
(.loop 4 [(.e (.cst (.bool false))), (tn 0)]
(.join 5
(.prim (.len 25 (tp 5 0))
(.prim (.bin .leq 3 (tv 17) (tv 18))
(.ite (.var 19)
(.prim (.un .not (tv 16))
(.jump 5 [(tv 20)]))
(.jump 5 [(.e (.cst (.bool false)))]))))
(.ite (.var 18)
(.prim (.len 25 (tp 5 0))
(.call 49 [(tv 19), (tv 17)]
(.join 6
(.loop 7 [(tv 16), (tn 0)]
(.join 8
(.prim (.len 73 (tv 20))
(.prim (.bin .lss 3 (tv 22) (tv 23))
(.ite (.var 24)
(.prim (.un .not (tv 21))
(.jump 8 [(tv 25)]))
(.jump 8 [(.e (.cst (.bool false)))]))))
(.ite (.var 23)
(.join 9
(.loop 10 [(.e (.cst (.agg []))), (tn 0)]
(.prim (.bin .lss 3 (tv 25) (tv 17))
(.ite (.var 26)
(.prim (.len 25 (tp 5 0))
(.prim (.bin .sub 3 (tv 27) (tn 1))
(.prim (.row 1 (tv 20) (tv 22))
(.prim (.row 1 (tp 29 0) (tv 25))
(.prim (.bin .sub 3 (tv 28) (tp 30 0))
(.prim (.push 1 8 (.var 24) (.lit 1 1 [(tv 31)]))
(.prim (.bin .add 3 (tv 25) (tn 1))
(.jump 10 [(tv 32), (tv 33)]))))))))
(.jump 9 [(tv 24)]))))
(.join 10
(.prim (.frz 1 .nil0 (.var 24))
(.loop 11 [(tv 21), (tv 25), (tn 0)]
(.prim (.len 25 (tv 13))
(.prim (.bin .lss 3 (tv 28) (tv 29))
(.ite (.var 30)
(.join 12
(.ite (.var 26)
(.jump 12 [(.e (.cst (.bool true))), (tv 27)])
(.prim (.row 3 (tp 3 1) (tv 6))
(.prim (.row 1 (tv 20) (tv 22))
(.call 50 [(tv 13), (tp 31 2), (tp 3 0), (.agg [(tp 5 0), (tp 5 1), (tp 5 2), (tp 5 3), (tp 5 4)]), (tv 28), (tp 32 0)]
(.ite (.var 33)
(.jump 12 [(.e (.cst (.bool true))), (tv 27)])
(.ite (.proj (.var 5) 4)
(.prim (.row 3 (tp 3 1) (tv 6))
(.call 42 [(.agg [(tp 5 0), (tp 5 1), (tp 5 2), (tp 5 3), (tp 5 4)])]
(.call 50 [(tv 13), (tp 34 2), (tp 3 0), (tv 35), (tv 28), (tv 27)]
(.jump 12 [(tv 36), (tv 27)]))))
(.jump 12 [(.e (.cst (.bool false))), (tv 27)])))))))
(.prim (.bin .add 3 (tv 28) (tn 1))
(.jump 11 [(tv 31), (tv 32), (tv 33)])))
(.jump 10 [(tv 26)]))))))
(.join 11
(.ite (.var 25)
(.prim (.bin .neq 39 (tv 11) (tn 0))
(.ite (.var 26)
(.jump 11 [(.e (.cst (.bool true)))])
(.prim (.row 1 (tv 20) (tv 22))
(.call 30 [(tv 10), (tp 27 0)]
(.prim (.un .not (tv 28))
(.jump 11 [(tv 29)]))))))
(.jump 11 [(.e (.cst (.bool false)))]))
(.ite (.var 26)
(.ret (.e (.cst (.bool false))))
(.prim (.bin .add 3 (tv 22) (tn 1))
(.jump 7 [(tv 25), (tv 27)]))))))
(.jump 6 [(tv 21)]))))
(.prim (.bin .add 3 (tv 17) (tn 1))
(.jump 4 [(tv 21), (tv 22)])))))
(.jump 3 [(tv 16)]))))
(.join 4
(.prim (.un .not (tv 16))
(.ite (.var 17)
(.prim (.bin .neq 39 (tv 11) (tn 11))
(.ite (.var 18)
(.jump 4 [(.e (.cst (.bool true)))])
(.prim (.len 25 (tv 10))
(.prim (.bin .gtr 3 (tv 19) (tn 0))
(.jump 4 [(tv 20)])))))
(.jump 4 [(.e (.cst (.bool false)))])))
(.ite (.var 17)
(.ret (.e (.cst (.bool false))))
(.prim (.bin .add 3 (tv 6) (tn 1))
(.jump 1 [(tv 18)])))))))))))))
(.jump 0 [])))))
(.call 17 []
(.ret (tv 6)))))))))
theorem t9_ok : compFun (x9 Try.prog) w9 9 = .ok t9 := by kernel_rfl
theorem k9 : TreeOk Try.prog 31 ⟨18, none, none⟩ ownT 9 t9 (x9 Try.prog) w9 Try.f9 := ⟨rfl, rfl, rfl, (fun g r h => by cases h), by kernel_rfl, by decide, rfl, t9_ok⟩
end Go.Proofs.Ytlminnpaeaganaa
