/- Residual trees of functions. No condition. -/
import Derived.Test.YtlminnpaeaganaaGreatMLib
namespace Go.Proofs.YtlminnpaeaganaaGreat
open Go Go.RowKit
set_option maxRecDepth 100000
def tv (i : Nat) : PE := .e (.var i)
def tp (i j : Nat) : PE := .e (.proj (.var i) j)
def tn (k : Int) : PE := .e (.cst (.int .i64 k))
def ownT : FuncId → Option (Option (Nat × Nat)) := fun g => if g = 53 then some (some (5, 0)) else if g = 163 then some none else none
def x8 (P : Program) : Ctx := { P := P, inl := [85, 75, 76, 100, 101, 127, 128, 129, 164], own := [], ownc := [], ownr := [], diceT := 23, diceNew := ⟨11, (some 86), (some 87)⟩ }
def w8 : Hints := { sites := [], np := [(8, 5, 12), (8, 6, 11), (8, 10, 18), (8, 12, 18), (8, 14, 17), (8, 18, 17), (8, 19, 27), (76, 6, 18), (164, 3, 12)], thaw := [], skel := [(0, 509, ⟨[], [], [], [], false⟩), (0, 1018, ⟨[⟨false, 15, 0, none, false⟩], [], [14, 13, 10, 15], [], false⟩), (0, 2085500, ⟨[⟨false, 143, 0, none, false⟩], [], [143, 14, 13, 10, 15, 18, 17, 16], [], false⟩), (0, 8342014, ⟨[⟨false, 196, 0, none, false⟩], [], [196, 14, 13, 10, 15], [], false⟩)] }
def t8 : Tree := (.prim (.agg 2 (tv 0))
(.prim (.agg 5 (tv 1))
(.prim (.agg 5 (tv 2))
(.call 21 [(.agg [(tp 4 0), (tp 4 1)]), (.lit 5 2 [(tp 5 0), (tp 5 1), (tp 5 2), (tp 5 3), (tp 5 4), (tp 6 0), (tp 6 1), (tp 6 2), (tp 6 3), (tp 6 4)])]
(.ite (.var 7)
(.call 20 []
(.ret (tv 8)))
(.prim (.ints (tv 3))
(.call 22 [(.agg [(tp 4 0), (tp 4 1)]), (.e (.cst (.ptr 0 0)))]
(.prim (.row 2 (tv 9) (tn 1))
(.call 13 [(.e (.cst (.ptr 0 0))), (.agg [(tp 10 0), (tp 10 1)])]
(.prim (.row 2 (tv 9) (tn 1))
(.call 13 [(.e (.cst (.ptr 0 0))), (.agg [(tp 12 0), (tp 12 1)])]
(.prim (.agg 5 (tv 11))
(.prim (.agg 5 (tv 13))
(.join 0
(.loop 1 [(tn 0)]
(.prim (.len 48 (tv 9))
(.prim (.bin .lss 3 (tv 16) (tv 17))
(.ite (.var 18)
(.prim (.row 2 (tv 9) (tv 16))
(.call 24 [(.agg [(tp 19 0), (tp 19 1)])]
(.prim (.row 5 (.lit 5 4 [(tp 5 0), (tp 5 1), (tp 5 2), (tp 5 3), (tp 5 4), (tp 14 0), (tp 14 1), (tp 14 2), (tp 14 3), (tp 14 4), (tp 15 0), (tp 15 1), (tp 15 2), (tp 15 3), (tp 15 4), (tp 14 0), (tp 14 1), (tp 14 2), (tp 14 3), (tp 14 4)]) (tv 16))
(.call 25 [(.agg [(tp 21 0), (tp 21 1), (tp 21 2), (tp 21 3), (tp 21 4)])]
(.prim (.row 5 (.lit 5 4 [(tp 6 0), (tp 6 1), (tp 6 2), (tp 6 3), (tp 6 4), (tp 15 0), (tp 15 1), (tp 15 2), (tp 15 3), (tp 15 4), (tp 14 0), (tp 14 1), (tp 14 2), (tp 14 3), (tp 14 4), (tp 6 0), (tp 6 1), (tp 6 2), (tp 6 3), (tp 6 4)]) (tv 16))
(.call 25 [(.agg [(tp 23 0), (tp 23 1), (tp 23 2), (tp 23 3), (tp 23 4)])]
(.prim (.agg 2 (tv 20))
(.prim (.agg 5 (tv 22))
(.prim (.agg 5 (tv 24))
(.call 35 [(.agg [(tp 25 0), (tp 25 1)]), (.agg [(tp 26 0), (tp 26 1), (tp 26 2), (tp 26 3), (tp 26 4)]), (.agg [(tp 27 0), (tp 27 1), (tp 27 2), (tp 27 3), (tp 27 4)])]
(.prim (.ext (tv 28) 0)
(.prim (.ext (tv 28) 1)
(.prim (.agg 2 (tv 29))
(.prim (.row 2 (tv 9) (tv 16))
(.prim (.row 5 (.lit 5 4 [(tp 5 0), (tp 5 1), (tp 5 2), (tp 5 3), (tp 5 4), (tp 14 0), (tp 14 1), (tp 14 2), (tp 14 3), (tp 14 4), (tp 15 0), (tp 15 1), (tp 15 2), (tp 15 3), (tp 15 4), (tp 14 0), (tp 14 1), (tp 14 2), (tp 14 3), (tp 14 4)]) (tv 16))
(.prim (.row 5 (.lit 5 4 [(tp 6 0), (tp 6 1), (tp 6 2), (tp 6 3), (tp 6 4), (tp 15 0), (tp 15 1), (tp 15 2), (tp 15 3), (tp 15 4), (tp 14 0), (tp 14 1), (tp 14 2), (tp 14 3), (tp 14 4), (tp 6 0), (tp 6 1), (tp 6 2), (tp 6 3), (tp 6 4)]) (tv 16))
(.call 36 [(.agg [(tp 32 0), (tp 32 1)]), (.agg [(tp 33 0), (tp 33 1), (tp 33 2), (tp 33 3), (tp 33 4)]), (.agg [(tp 34 0), (tp 34 1), (tp 34 2), (tp 34 3), (tp 34 4)])]
(.prim (.ext (tv 35) 0)
(.prim (.ext (tv 35) 1)
(.prim (.agg 2 (tv 36))
(.call 37 [(.agg [(tp 25 0), (tp 25 1)]), (.agg [(tp 26 0), (tp 26 1), (tp 26 2), (tp 26 3), (tp 26 4)]), (.agg [(tp 27 0), (tp 27 1), (tp 27 2), (tp 27 3), (tp 27 4)])]
(.prim (.ext (tv 39) 0)
(.prim (.ext (tv 39) 1)
(.prim (.row 2 (tv 9) (tv 16))
(.prim (.row 5 (.lit 5 4 [(tp 5 0), (tp 5 1), (tp 5 2), (tp 5 3), (tp 5 4), (tp 14 0), (tp 14 1), (tp 14 2), (tp 14 3), (tp 14 4), (tp 15 0), (tp 15 1), (tp 15 2), (tp 15 3), (tp 15 4), (tp 14 0), (tp 14 1), (tp 14 2), (tp 14 3), (tp 14 4)]) (tv 16))
(.prim (.row 5 (.lit 5 4 [(tp 6 0), (tp 6 1), (tp 6 2), (tp 6 3), (tp 6 4), (tp 15 0), (tp 15 1), (tp 15 2), (tp 15 3), (tp 15 4), (tp 14 0), (tp 14 1), (tp 14 2), (tp 14 3), (tp 14 4), (tp 6 0), (tp 6 1), (tp 6 2), (tp 6 3), (tp 6 4)]) (tv 16))
(.call 38 [(.agg [(tp 42 0), (tp 42 1)]), (.agg [(tp 43 0), (tp 43 1), (tp 43 2), (tp 43 3), (tp 43 4)]), (.agg [(tp 44 0), (tp 44 1), (tp 44 2), (tp 44 3), (tp 44 4)])]
(.prim (.ext (tv 45) 0)
(.prim (.ext (tv 45) 1)
(.join 2
(.prim (.bin .neq 67 (.agg [(tp 31 0), (tp 31 1)]) (.agg [(tp 38 0), (tp 38 1)]))
(.ite (.var 48)
(.jump 2 [(.e (.cst (.bool true)))])
(.prim (.bin .neq 32 (tv 30) (tv 37))
(.ite (.var 49)
(.jump 2 [(.e (.cst (.bool true)))])
(.prim (.bin .neq 32 (tv 41) (tv 47))
(.ite (.var 50)
(.jump 2 [(.e (.cst (.bool true)))])
(.call 16 [(tv 40), (tv 46)]
(.prim (.un .not (tv 51))
(.jump 2 [(tv 52)])))))))))
(.ite (.var 48)
(.ret (.e (.cst (.bool false))))
(.call 14 [(.agg [(tp 25 0), (tp 25 1)]), (.agg [(tp 26 0), (tp 26 1), (tp 26 2), (tp 26 3), (tp 26 4)]), (.agg [(tp 27 0), (tp 27 1), (tp 27 2), (tp 27 3), (tp 27 4)])]
(.prim (.ext (tv 49) 0)
(.prim (.ext (tv 49) 1)
(.prim (.row 2 (tv 9) (tv 16))
(.prim (.row 5 (.lit 5 4 [(tp 5 0), (tp 5 1), (tp 5 2), (tp 5 3), (tp 5 4), (tp 14 0), (tp 14 1), (tp 14 2), (tp 14 3), (tp 14 4), (tp 15 0), (tp 15 1), (tp 15 2), (tp 15 3), (tp 15 4), (tp 14 0), (tp 14 1), (tp 14 2), (tp 14 3), (tp 14 4)]) (tv 16))
(.prim (.row 5 (.lit 5 4 [(tp 6 0), (tp 6 1), (tp 6 2), (tp 6 3), (tp 6 4), (tp 15 0), (tp 15 1), (tp 15 2), (tp 15 3), (tp 15 4), (tp 14 0), (tp 14 1), (tp 14 2), (tp 14 3), (tp 14 4), (tp 6 0), (tp 6 1), (tp 6 2), (tp 6 3), (tp 6 4)]) (tv 16))
(.call 39 [(.agg [(tp 52 0), (tp 52 1)]), (.agg [(tp 53 0), (tp 53 1), (tp 53 2), (tp 53 3), (tp 53 4)]), (.agg [(tp 54 0), (tp 54 1), (tp 54 2), (tp 54 3), (tp 54 4)])]
(.prim (.ext (tv 55) 0)
(.prim (.ext (tv 55) 1)
(.join 3
(.prim (.bin .neq 32 (tv 51) (tv 57))
(.ite (.var 58)
(.jump 3 [(.e (.cst (.bool true)))])
(.call 16 [(tv 50), (tv 56)]
(.prim (.un .not (tv 59))
(.ite (.var 60)
(.jump 3 [(.e (.cst (.bool true)))])
(.prim (.row 2 (tv 9) (tv 16))
(.prim (.row 5 (.lit 5 4 [(tp 5 0), (tp 5 1), (tp 5 2), (tp 5 3), (tp 5 4), (tp 14 0), (tp 14 1), (tp 14 2), (tp 14 3), (tp 14 4), (tp 15 0), (tp 15 1), (tp 15 2), (tp 15 3), (tp 15 4), (tp 14 0), (tp 14 1), (tp 14 2), (tp 14 3), (tp 14 4)]) (tv 16))
(.prim (.row 5 (.lit 5 4 [(tp 6 0), (tp 6 1), (tp 6 2), (tp 6 3), (tp 6 4), (tp 15 0), (tp 15 1), (tp 15 2), (tp 15 3), (tp 15 4), (tp 14 0), (tp 14 1), (tp 14 2), (tp 14 3), (tp 14 4), (tp 6 0), (tp 6 1), (tp 6 2), (tp 6 3), (tp 6 4)]) (tv 16))
(.call 29 [(.agg [(tp 61 0), (tp 61 1)]), (.agg [(tp 25 0), (tp 25 1)]), (.lit 5 2 [(tp 62 0), (tp 62 1), (tp 62 2), (tp 62 3), (tp 62 4), (tp 63 0), (tp 63 1), (tp 63 2), (tp 63 3), (tp 63 4)]), (.lit 5 2 [(tp 26 0), (tp 26 1), (tp 26 2), (tp 26 3), (tp 26 4), (tp 27 0), (tp 27 1), (tp 27 2), (tp 27 3), (tp 27 4)])]
(.prim (.un .not (tv 64))
(.jump 3 [(tv 65)])))))))))))
(.ite (.var 58)
(.ret (.e (.cst (.bool false))))
(.prim (.bin .add 3 (tv 16) (tn 1))
(.jump 1 [(tv 59)]))))))))))))))))))))))))))))))))))))))))))))
(.jump 0 [])))))
(.call 20 []
(.ret (tv 16)))))))))))))))))
theorem t8_ok : compFun (x8 Tryz.prog) w8 8 = .ok t8 := by kernel_rfl
theorem k8 : TreeOk Tryz.prog 23 ⟨11, some 86, some 87⟩ ownT 8 t8 (x8 Tryz.prog) w8 Tryz.f8 := ⟨rfl, rfl, rfl, (fun g r h => by cases h), by kernel_rfl, by decide, rfl, t8_ok⟩
def x12 (P : Program) : Ctx := { P := P, inl := [85, 75, 76, 100, 101, 127, 128, 129, 164], own := [], ownc := [], ownr := [], diceT := 23, diceNew := ⟨11, (some 86), (some 87)⟩ }
def w12 : Hints := { sites := [], np := [(12, 5, 5), (76, 6, 18), (164, 3, 12)], thaw := [], skel := [(0, 29, ⟨[⟨true, 1, 1, (some (3, .nil0)), false⟩], [], [4, 5], [], false⟩), (0, 58, ⟨[⟨false, 6, 0, none, false⟩, ⟨true, 1, 1, (some (3, .nil0)), false⟩], [], [5, 0, 4, 6], [], false⟩)] }
def t12 : Tree := (.call 23 [(.e (.cst (.ptr 0 0))), (tn 3)]
(.prim (.one (tv 2))
(.call 51 [(.e (.cst (.ptr 0 0))), (.lit 1 4 [(tn 0), (tn 1), (tn 1), (tv 3)])]
(.prim (.one (tv 4))
(.call 52 [(.e (.cst (.ptr 0 0))), (tn 1), (tv 1)]
(.join 0
(.loop 1 [(tv 6), (.e (.cst (.agg [])))]
(.prim (.bin .gtr 3 (tv 7) (tn 0))
(.ite (.var 9)
(.call 30 [(.e (.cst (.ptr 0 0)))]
(.prim (.agg 3 (tv 10))
(.prim (.push 3 40 (.var 8) (.lit 3 1 [(tp 11 0), (tp 11 1), (tp 11 2)]))
(.prim (.bin .sub 3 (tv 7) (tn 1))
(.jump 1 [(tv 13), (tv 12)])))))
(.jump 0 [(tv 8)]))))
(.prim (.frz 3 .nil0 (.var 7))
(.ret (.agg [(tv 5), (tv 8)])))))))))
theorem t12_ok : compFun (x12 Tryz.prog) w12 12 = .ok t12 := by kernel_rfl
theorem k12 : TreeOk Tryz.prog 23 ⟨11, some 86, some 87⟩ ownT 12 t12 (x12 Tryz.prog) w12 Tryz.f12 := ⟨rfl, rfl, rfl, (fun g r h => by cases h), by kernel_rfl, by decide, rfl, t12_ok⟩
def x13 (P : Program) : Ctx := { P := P, inl := [85, 75, 76, 100, 101, 127, 128, 129, 164], own := [], ownc := [(0, 3018)], ownr := [(53, (some (5, 0)), 1, true)], diceT := 23, diceNew := ⟨11, (some 86), (some 87)⟩ }
def w13 : Hints := { sites := [], np := [(13, 1, 11), (13, 3, 20), (13, 7, 10), (76, 6, 18), (164, 3, 12)], thaw := [], skel := [(0, 125, ⟨[⟨true, 3, 1, none, false⟩, ⟨true, 3, 2, none, false⟩], [], [4, 7, 0], [], false⟩), (0, 252, ⟨[⟨false, 53, 0, none, false⟩], [], [53, 4, 7, 0], [], false⟩), (0, 253, ⟨[], [0], [4, 7, 0], [], false⟩)] }
def t13 : Tree := (.prim (.agg 2 (tv 1))
(.prim (.len 25 (tp 2 1))
(.prim (.bin .sub 3 (tv 3) (tn 1))
(.call 23 [(.e (.cst (.ptr 0 0))), (tv 4)]
(.prim (.row 3 (tp 2 1) (tv 5))
(.prim (.bin .sub 3 (tp 6 1) (tn 1))
(.call 23 [(.e (.cst (.ptr 0 0))), (tv 7)]
(.prim (.bin .sub 3 (tp 6 1) (tn 1))
(.call 51 [(.e (.cst (.ptr 0 0))), (.lit 1 3 [(tn 1), (tn 2), (tn 5)])]
(.call 23 [(.e (.cst (.ptr 0 0))), (tv 10)]
(.prim (.bin .add 3 (tv 8) (tv 11))
(.prim (.mm false [(tv 9), (tv 12)])
(.call 54 [(.e (.cst (.ptr 0 0))), (.agg [(tp 6 0), (tp 6 1), (tp 6 2)]), (tv 8), (tv 13)]
(.call 53 [(.e (.cst (.ptr 0 0))), (tv 14), (tp 2 0)]
(.prim (.agg 5 (tv 15))
(.prim (.cont true 1 (tp 16 0))
(.call 55 [(.e (.cst (.ptr 0 0))), (tn 3)]
(.join 0
(.ite (.var 18)
(.jump 0 [(tn 0), (tn 0)])
(.jump 0 [(tp 16 1), (tp 16 2)]))
(.join 1
(.prim (.lenc 1 (.var 17))
(.prim (.bin .gtr 3 (tv 21) (tn 0))
(.ite (.var 22)
(.call 55 [(.e (.cst (.ptr 0 0))), (tn 4)]
(.jump 1 [(tv 23)]))
(.jump 1 [(.e (.cst (.bool false)))]))))
(.join 2
(.ite (.var 21)
(.prim (.lenc 1 (.var 17))
(.prim (.bin .sub 3 (tv 22) (tn 1))
(.call 23 [(.e (.cst (.ptr 0 0))), (tv 23)]
(.call 52 [(.e (.cst (.ptr 0 0))), (tn 1), (tn 12)]
(.prim (.chk 1 (.var 17) (tv 24))
(.prim (.one (tv 25))
(.prim (.put 1 0 (.var 17) (.var 26) [(tv 27)])
(.jump 2 [(tv 28)]))))))))
(.jump 2 [(tv 17)]))
(.call 55 [(.e (.cst (.ptr 0 0))), (tn 3)]
(.prim (.one (tv 23))
(.prim (.frz 1 .real (.var 22))
(.ret (.agg [(tv 25), (tv 19), (tv 20), (tp 16 3), (tv 24)])))))))))))))))))))))))))
theorem t13_ok : compFun (x13 Tryz.prog) w13 13 = .ok t13 := by kernel_rfl
theorem k13 : TreeOk Tryz.prog 23 ⟨11, some 86, some 87⟩ ownT 13 t13 (x13 Tryz.prog) w13 Tryz.f13 := ⟨rfl, rfl, rfl, (fun g r h => by simp only [x13, findOr] at h; split at h <;> cases h; rename_i e; subst e; rfl), by kernel_rfl, by decide, rfl, t13_ok⟩
def x14 (P : Program) : Ctx := { P := P, inl := [85, 75, 76, 100, 101, 127, 128, 129, 164], own := [], ownc := [], ownr := [], diceT := 23, diceNew := ⟨11, (some 86), (some 87)⟩ }
def w14 : Hints := { sites := [], np := [(76, 6, 18), (164, 3, 12)], thaw := [], skel := [(0, 125, ⟨[⟨false, 10, 0, (some (1, .nil0)), false⟩], [], [10], [], false⟩), (0, 250, ⟨[⟨false, 10, 0, (some (1, .nil0)), false⟩, ⟨false, 34, 0, none, false⟩], [], [5, 8, 4, 33, 34, 10], [], false⟩), (0, 128205, ⟨[], [0, 1], [12, 5, 8, 4, 33, 34, 11, 10], [], false⟩), (0, 256410, ⟨[⟨false, 43, 0, none, false⟩], [0, 1], [12, 41, 5, 8, 4, 33, 34, 11, 10, 42, 43], [], false⟩), (0, 512829, ⟨[⟨false, 15, 0, none, false⟩], [], [5, 8, 4, 33, 34, 11, 10, 15], [], false⟩), (0, 1025658, ⟨[⟨false, 12, 0, none, true⟩, ⟨false, 15, 0, none, false⟩, ⟨false, 55, 0, none, false⟩], [], [12, 53, 5, 8, 4, 33, 34, 11, 10, 54, 55, 15], [], false⟩), (0, 131284275, ⟨[⟨false, 15, 0, none, false⟩], [], [12, 53, 5, 8, 4, 33, 34, 11, 10, 54, 15, 55], [], false⟩), (0, 262568550, ⟨[⟨false, 15, 0, none, false⟩], [2], [17, 60, 12, 53, 5, 8, 4, 33, 34, 11, 10, 54, 55, 15], [], false⟩), (0, 8402193613, ⟨[⟨false, 15, 0, none, false⟩], [], [17, 60, 12, 53, 5, 8, 4, 33, 34, 11, 10, 54, 55, 15], [], false⟩), (0, 512831, ⟨[⟨false, 10, 0, (some (1, .nil0)), false⟩], [], [5, 8, 4, 33, 10, 34], [], false⟩)] }
def t14 : Tree := (.prim (.agg 2 (tv 0))
(.prim (.agg 5 (tv 1))
(.prim (.agg 5 (tv 2))
(.call 56 [(.agg [(tp 3 0), (tp 3 1)]), (.e (.cst .snil)), (.lit 5 2 [(tp 4 0), (tp 4 1), (tp 4 2), (tp 4 3), (tp 4 4), (tp 5 0), (tp 5 1), (tp 5 2), (tp 5 3), (tp 5 4)])]
(.prim (.ext (tv 6) 0)
(.prim (.ext (tv 6) 1)
(.prim (.agg 2 (tv 7))
(.prim (.bin .neq 32 (tv 8) (tn 0))
(.ite (.var 10)
(.ret (.tup [(.e (.cst .snil)), (tv 8)]))
(.prim (.len 25 (tp 9 1))
(.join 0
(.loop 1 [(.e (.cst (.agg []))), (tn 0)]
(.prim (.bin .lss 3 (tv 13) (tv 11))
(.ite (.var 14)
(.prim (.lst [])
(.call 57 [(.agg [(tp 9 0), (tp 9 1)]), (tv 13), (.agg [(tp 4 0), (tp 4 1), (tp 4 2), (tp 4 3), (tp 4 4)])]
(.prim (.len 38 (tv 16))
(.join 2
(.loop 3 [(tn 0), (tv 12), (tv 15)]
(.prim (.bin .lss 3 (tv 18) (tv 17))
(.ite (.var 21)
(.prim (.row 2 (tv 16) (tv 18))
(.prim (.ins 43 2 (.var 20) [(tp 22 0), (tp 22 1)])
(.prim (.bin .add 3 (tv 18) (tn 1))
(.jump 3 [(tv 24), (tv 19), (tv 23)]))))
(.jump 2 [(tv 19), (tv 20)]))))
(.call 57 [(.agg [(tp 9 0), (tp 9 1)]), (tv 13), (.agg [(tp 5 0), (tp 5 1), (tp 5 2), (tp 5 3), (tp 5 4)])]
(.prim (.len 38 (tv 20))
(.join 3
(.prim (.frz 2 .map (.var 19))
(.loop 4 [(tv 22), (.e (.cst (.bool false))), (tn 0)]
(.prim (.bin .lss 3 (tv 25) (tv 21))
(.ite (.var 26)
(.prim (.row 2 (tv 20) (tv 25))
(.prim (.keys 2 (tv 23))
(.join 5
(.loop 6 [(tv 24), (tv 28)]
(.pick 2 (.var 30)
(.ite (.proj (.var 31) 0)
(.prim (.tl (.var 31))
(.prim (.lk 2 (.var 32))
(.join 7
(.ite (.var 29)
(.jump 7 [(.e (.cst (.bool true)))])
(.prim (.bin .eql 43 (.agg [(tp 33 0), (tp 33 1)]) (.agg [(tp 27 0), (tp 27 1)]))
(.jump 7 [(tv 34)])))
(.jump 6 [(tv 34), (tv 32)]))))
(.jump 5 [(tv 29)]))))
(.prim (.bin .add 3 (tv 25) (tn 1))
(.jump 4 [(tv 23), (tv 29), (tv 30)])))))
(.jump 3 [(tv 24)])))))
(.join 4
(.ite (.var 22)
(.prim (.one (tv 13))
(.prim (.push 1 8 (.var 18) (.lit 1 1 [(tv 23)]))
(.jump 4 [(tv 24)])))
(.jump 4 [(tv 18)]))
(.prim (.bin .add 3 (tv 13) (tn 1))
(.jump 1 [(tv 23), (tv 24)]))))))))))
(.jump 0 [(tv 12)]))))
(.prim (.frz 1 .nil0 (.var 12))
(.ret (.tup [(tv 13), (tn 0)]))))))))))))))
theorem t14_ok : compFun (x14 Tryz.prog) w14 14 = .ok t14 := by kernel_rfl
theorem k14 : TreeOk Tryz.prog 23 ⟨11, some 86, some 87⟩ ownT 14 t14 (x14 Tryz.prog) w14 Tryz.f14 := ⟨rfl, rfl, rfl, (fun g r h => by cases h), by kernel_rfl, by decide, rfl, t14_ok⟩
def x16 (P : Program) : Ctx := { P := P, inl := [85, 75, 76, 100, 101, 127, 128, 129, 164], own := [], ownc := [], ownr := [], diceT := 23, diceNew := ⟨11, (some 86), (some 87)⟩ }
def w16 : Hints := { sites := [], np := [(16, 5, 8), (76, 6, 18), (164, 3, 12)], thaw := [], skel := [(0, 29, ⟨[⟨false, 5, 0, none, false⟩], [], [5], [], false⟩), (0, 58, ⟨[⟨false, 5, 0, none, false⟩, ⟨false, 6, 0, none, false⟩], [], [1, 0, 6, 5], [], false⟩), (0, 464, ⟨[⟨false, 18, 0, none, false⟩], [], [18, 1, 0, 6, 5], [], false⟩)] }
def t16 : Tree := (.prim (.len 22 (tv 0))
(.prim (.len 22 (tv 1))
(.prim (.bin .eql 3 (tv 2) (tv 3))
(.join 0
(.loop 1 [(tv 4), (tn 0)]
(.join 2
(.ite (.var 5)
(.prim (.len 22 (tv 0))
(.prim (.bin .lss 3 (tv 6) (tv 7))
(.jump 2 [(tv 8)])))
(.jump 2 [(.e (.cst (.bool false)))]))
(.ite (.var 7)
(.prim (.row 1 (tv 0) (tv 6))
(.prim (.row 1 (tv 1) (tv 6))
(.prim (.bin .eql 3 (tp 8 0) (tp 9 0))
(.prim (.bin .add 3 (tv 6) (tn 1))
(.jump 1 [(tv 10), (tv 11)])))))
(.jump 0 [(tv 5)]))))
(.ret (tv 5))))))
theorem t16_ok : compFun (x16 Tryz.prog) w16 16 = .ok t16 := by kernel_rfl
theorem k16 : TreeOk Tryz.prog 23 ⟨11, some 86, some 87⟩ ownT 16 t16 (x16 Tryz.prog) w16 Tryz.f16 := ⟨rfl, rfl, rfl, (fun g r h => by cases h), by kernel_rfl, by decide, rfl, t16_ok⟩
def x18 (P : Program) : Ctx := { P := P, inl := [85, 75, 76, 100, 101, 127, 128, 129, 164], own := [], ownc := [], ownr := [], diceT := 23, diceNew := ⟨11, (some 86), (some 87)⟩ }
def w18 : Hints := { sites := [], np := [(76, 6, 18), (164, 3, 12)], thaw := [], skel := [] }
def t18 : Tree := (.prim (.agg 2 (tv 0))
(.prim (.agg 5 (tv 2))
(.prim (.one (tv 1))
(.call 56 [(.agg [(tp 3 0), (tp 3 1)]), (.lit 1 1 [(tv 5)]), (.lit 5 1 [(tp 4 0), (tp 4 1), (tp 4 2), (tp 4 3), (tp 4 4)])]
(.prim (.ext (tv 6) 0)
(.prim (.ext (tv 6) 1)
(.prim (.agg 2 (tv 7))
(.prim (.bin .neq 32 (tv 8) (tn 0))
(.ite (.var 10)
(.ret (.tup [(.e (.cst .snil)), (tv 8)]))
(.call 57 [(.agg [(tp 9 0), (tp 9 1)]), (tv 1), (.agg [(tp 4 0), (tp 4 1), (tp 4 2), (tp 4 3), (tp 4 4)])]
(.ret (.tup [(tv 11), (tn 0)]))))))))))))
theorem t18_ok : compFun (x18 Tryz.prog) w18 18 = .ok t18 := by kernel_rfl
theorem k18 : TreeOk Tryz.prog 23 ⟨11, some 86, some 87⟩ ownT 18 t18 (x18 Tryz.prog) w18 Tryz.f18 := ⟨rfl, rfl, rfl, (fun g r h => by cases h), by kernel_rfl, by decide, rfl, t18_ok⟩
def x20 (P : Program) : Ctx := { P := P, inl := [85, 75, 76, 100, 101, 127, 128, 129, 164], own := [], ownc := [], ownr := [], diceT := 23, diceNew := ⟨11, (some 86), (some 87)⟩ }
def w20 : Hints := { sites := [], np := [(76, 6, 18), (164, 3, 12)], thaw := [], skel := [(0, 510, ⟨[⟨false, 0, 0, none, false⟩], [], [0], [], false⟩)] }
def t20 : Tree := (.call 40 []
(.call 42 [(tv 0), (tn 1)]
(.prim (.ext (tv 1) 0)
(.prim (.ext (tv 1) 1)
(.call 40 []
(.call 43 [(.lit 1 2 [(tn 9), (tn 6)])]
(.call 59 [(tv 5)]
(.call 18 [(tv 4), (tn 2), (tv 6)]
(.prim (.ext (tv 7) 0)
(.prim (.ext (tv 7) 1)
(.call 40 []
(.call 43 [(.lit 1 1 [(tn 6)])]
(.call 43 [(.lit 1 1 [(tn 8)])]
(.call 35 [(tv 10), (tv 11), (tv 12)]
(.prim (.ext (tv 13) 0)
(.prim (.ext (tv 13) 1)
(.prim (.agg 2 (tv 14))
(.call 40 []
(.call 43 [(.lit 1 3 [(tn 6), (tn 12), (tn 6)])]
(.call 47 [(tv 17), (tn 0), (tv 18)]
(.prim (.ext (tv 19) 0)
(.prim (.ext (tv 19) 1)
(.call 40 []
(.call 50 [(tv 22), (tn 0), (tn 1)]
(.prim (.ext (tv 23) 0)
(.prim (.ext (tv 23) 1)
(.prim (.ext (tv 23) 2)
(.call 40 []
(.call 60 [(tv 27), (tn 1), (.lit 1 7 [(tn 0), (tn 6), (tn 14), (tn 15), (tn 20), (tn 28), (tn 34)]), (tn 1)]
(.prim (.ext (tv 28) 0)
(.prim (.ext (tv 28) 1)
(.join 0
(.prim (.bin .eql 32 (tv 3) (tn 0))
(.ite (.var 31)
(.prim (.bin .eql 32 (tv 9) (tn 0))
(.ite (.var 32)
(.prim (.bin .eql 32 (tv 15) (tn 0))
(.ite (.var 33)
(.prim (.bin .eql 32 (tv 21) (tn 0))
(.ite (.var 34)
(.prim (.bin .eql 32 (tv 26) (tn 0))
(.ite (.var 35)
(.prim (.bin .eql 32 (tv 30) (tn 0))
(.ite (.var 36)
(.prim (.bin .eql 67 (.agg [(tp 16 0), (tp 16 1)]) (.agg [(tn 0), (tn 3)]))
(.ite (.var 37)
(.prim (.bin .eql 3 (tv 24) (tn 2))
(.ite (.var 38)
(.prim (.bin .eql 3 (tv 25) (tn 0))
(.ite (.var 39)
(.call 16 [(tv 2), (.lit 1 6 [(tn 0), (tn 6), (tn 14), (tn 20), (tn 28), (tn 34)])]
(.ite (.var 40)
(.call 45 [(tv 8), (.lit 2 3 [(tn 2), (.e (.cst (.bool false))), (tn 1), (.e (.cst (.bool true))), (tn 4), (.e (.cst (.bool true)))])]
(.ite (.var 41)
(.call 16 [(tv 20), (.lit 1 1 [(tn 1)])]
(.ite (.var 42)
(.call 16 [(tv 29), (.lit 1 3 [(tn 1), (tn 3), (tn 5)])]
(.jump 0 [(tv 43)]))
(.jump 0 [(.e (.cst (.bool false)))])))
(.jump 0 [(.e (.cst (.bool false)))])))
(.jump 0 [(.e (.cst (.bool false)))])))
(.jump 0 [(.e (.cst (.bool false)))])))
(.jump 0 [(.e (.cst (.bool false)))])))
(.jump 0 [(.e (.cst (.bool false)))])))
(.jump 0 [(.e (.cst (.bool false)))])))
(.jump 0 [(.e (.cst (.bool false)))])))
(.jump 0 [(.e (.cst (.bool false)))])))
(.jump 0 [(.e (.cst (.bool false)))])))
(.jump 0 [(.e (.cst (.bool false)))])))
(.jump 0 [(.e (.cst (.bool false)))])))
(.ret (tv 31))))))))))))))))))))))))))))))))))
theorem t20_ok : compFun (x20 Tryz.prog) w20 20 = .ok t20 := by kernel_rfl
theorem k20 : TreeOk Tryz.prog 23 ⟨11, some 86, some 87⟩ ownT 20 t20 (x20 Tryz.prog) w20 Tryz.f20 := ⟨rfl, rfl, rfl, (fun g r h => by cases h), by kernel_rfl, by decide, rfl, t20_ok⟩
def x21 (P : Program) : Ctx := { P := P, inl := [85, 75, 76, 100, 101, 127, 128, 129, 164], own := [], ownc := [], ownr := [], diceT := 23, diceNew := ⟨11, (some 86), (some 87)⟩ }
def w21 : Hints := { sites := [], np := [(76, 6, 18), (164, 3, 12)], thaw := [], skel := [(0, 12, ⟨[⟨false, 15, 0, none, false⟩], [], [15, 2, 1], [], false⟩), (0, 29, ⟨[], [], [1], [], false⟩), (0, 58, ⟨[⟨false, 5, 0, none, false⟩], [], [2, 1, 5], [], false⟩), (0, 61, ⟨[], [], [], [], false⟩), (0, 122, ⟨[⟨false, 6, 0, none, false⟩], [], [1, 6], [], false⟩)] }
def t21 : Tree := (.prim (.agg 2 (tv 0))
(.join 0
(.prim (.len 25 (tp 2 1))
(.prim (.bin .gtr 3 (tv 3) (tn 20))
(.ite (.var 4)
(.jump 0 [(.e (.cst (.bool true)))])
(.prim (.len 47 (tv 1))
(.prim (.bin .gtr 3 (tv 5) (tn 20))
(.jump 0 [(tv 6)]))))))
(.ite (.var 3)
(.ret (.e (.cst (.bool true))))
(.join 1
(.loop 2 [(tn 0)]
(.prim (.len 25 (tp 2 1))
(.prim (.bin .lss 3 (tv 4) (tv 5))
(.ite (.var 6)
(.prim (.row 3 (tp 2 1) (tv 4))
(.prim (.len 22 (tp 7 0))
(.prim (.bin .gtr 3 (tv 8) (tn 20))
(.ite (.var 9)
(.ret (.e (.cst (.bool true))))
(.prim (.bin .add 3 (tv 4) (tn 1))
(.jump 2 [(tv 10)]))))))
(.jump 1 [])))))
(.join 2
(.loop 3 [(tn 0)]
(.prim (.len 47 (tv 1))
(.prim (.bin .lss 3 (tv 4) (tv 5))
(.ite (.var 6)
(.prim (.row 5 (tv 1) (tv 4))
(.prim (.len 22 (tp 7 0))
(.prim (.bin .gtr 3 (tv 8) (tn 20))
(.ite (.var 9)
(.ret (.e (.cst (.bool true))))
(.prim (.bin .add 3 (tv 4) (tn 1))
(.jump 3 [(tv 10)]))))))
(.jump 2 [])))))
(.ret (.e (.cst (.bool false)))))))))
theorem t21_ok : compFun (x21 Tryz.prog) w21 21 = .ok t21 := by kernel_rfl
theorem k21 : TreeOk Tryz.prog 23 ⟨11, some 86, some 87⟩ ownT 21 t21 (x21 Tryz.prog) w21 Tryz.f21 := ⟨rfl, rfl, rfl, (fun g r h => by cases h), by kernel_rfl, by decide, rfl, t21_ok⟩
def x22 (P : Program) : Ctx := { P := P, inl := [85, 75, 76, 100, 101, 127, 128, 129, 164, 24], own := [], ownc := [], ownr := [], diceT := 23, diceNew := ⟨11, (some 86), (some 87)⟩ }
def w22 : Hints := { sites := [2002], np := [(22, 4, 13), (76, 6, 18), (164, 3, 12)], thaw := [], skel := [(0, 61, ⟨[], [0], [5, 6, 2], [], false⟩), (2002, 29, ⟨[], [0], [2, 1, 3], [], false⟩), (2002, 58, ⟨[⟨false, 4, 0, none, false⟩], [0], [1, 3, 2, 4], [], false⟩)] }
def t22 : Tree := (.prim (.agg 2 (tv 0))
(.call 12 [(.e (.cst (.ptr 0 0))), (tn 3)]
(.prim (.agg 2 (tv 3))
(.prim (.len 25 (tp 4 1))
(.prim (.mk [.snil, (.int .i64 0), (.int .i64 0)] 40 (tv 5))
(.join 0
(.loop 1 [(tn 0), (tv 6)]
(.prim (.lenc 3 (.var 8))
(.prim (.bin .lss 3 (tv 7) (tv 9))
(.ite (.var 10)
(.prim (.row 3 (tp 4 1) (tv 7))
(.call 61 [(.agg [(tp 11 0), (tp 11 1), (tp 11 2)])]
(.prim (.chk 3 (.var 8) (tv 7))
(.prim (.agg 3 (tv 12))
(.prim (.put 3 0 (.var 8) (.var 13) [(tp 14 0), (tp 14 1), (tp 14 2)])
(.prim (.bin .add 3 (tv 7) (tn 1))
(.jump 1 [(tv 16), (tv 15)])))))))
(.jump 0 [(tv 8)])))))
(.prim (.len 25 (tp 2 1))
(.prim (.bin .gtr 3 (tv 8) (tn 0))
(.join 1
(.ite (.var 9)
(.prim (.lenc 3 (.var 7))
(.prim (.bin .sub 3 (tv 10) (tn 1))
(.call 23 [(.e (.cst (.ptr 0 0))), (tv 11)]
(.prim (.row 3 (tp 2 1) (tn 0))
(.call 61 [(.agg [(tp 13 0), (tp 13 1), (tp 13 2)])]
(.prim (.chk 3 (.var 7) (tv 12))
(.prim (.agg 3 (tv 14))
(.prim (.put 3 0 (.var 7) (.var 15) [(tp 16 0), (tp 16 1), (tp 16 2)])
(.jump 1 [(tv 17)])))))))))
(.jump 1 [(tv 7)]))
(.prim (.frz 3 .real (.var 10))
(.ret (.lit 2 4 [(tp 2 0), (tp 2 1), (tp 4 0), (tp 4 1), (tp 4 0), (tv 11), (tp 4 0), (tp 4 1)]))))))))))))
theorem t22_ok : compFun (x22 Tryz.prog) w22 22 = .ok t22 := by kernel_rfl
theorem k22 : TreeOk Tryz.prog 23 ⟨11, some 86, some 87⟩ ownT 22 t22 (x22 Tryz.prog) w22 Tryz.f22 := ⟨rfl, rfl, rfl, (fun g r h => by cases h), by kernel_rfl, by decide, rfl, t22_ok⟩
def x23 (P : Program) : Ctx := { P := P, inl := [85, 75, 76, 100, 101, 127, 128, 129, 164], own := [], ownc := [], ownr := [], diceT := 23, diceNew := ⟨11, (some 86), (some 87)⟩ }
def w23 : Hints := { sites := [], np := [(76, 6, 18), (164, 3, 12)], thaw := [], skel := [] }
def t23 : Tree := (.prim (.bin .leq 3 (tv 1) (tn 0))
(.ite (.var 2)
(.ret (tn 0))
(.call 62 [(.e (.cst (.ptr 0 0)))]
(.prim (.bin .add 3 (tv 1) (tn 1))
(.prim (.conv 3 83 (tv 4))
(.prim (.bin .mul 83 (tv 3) (tv 5))
(.prim (.bin .shr 83 (tv 6) (.e (.cst (.int .u64 32))))
(.prim (.conv 83 3 (tv 7))
(.ret (tv 8))))))))))
theorem t23_ok : compFun (x23 Tryz.prog) w23 23 = .ok t23 := by kernel_rfl
theorem k23 : TreeOk Tryz.prog 23 ⟨11, some 86, some 87⟩ ownT 23 t23 (x23 Tryz.prog) w23 Tryz.f23 := ⟨rfl, rfl, rfl, (fun g r h => by cases h), by kernel_rfl, by decide, rfl, t23_ok⟩
def x24 (P : Program) : Ctx := { P := P, inl := [85, 75, 76, 100, 101, 127, 128, 129, 164], own := [], ownc := [], ownr := [], diceT := 23, diceNew := ⟨11, (some 86), (some 87)⟩ }
def w24 : Hints := { sites := [], np := [(76, 6, 18), (164, 3, 12)], thaw := [], skel := [(0, 29, ⟨[], [0], [2, 1, 3], [], false⟩), (0, 58, ⟨[⟨false, 4, 0, none, false⟩], [0], [1, 3, 2, 4], [], false⟩)] }
def t24 : Tree := (.prim (.agg 2 (tv 0))
(.prim (.len 25 (tp 1 1))
(.prim (.mk [.snil, (.int .i64 0), (.int .i64 0)] 40 (tv 2))
(.join 0
(.loop 1 [(tn 0), (tv 3)]
(.prim (.lenc 3 (.var 5))
(.prim (.bin .lss 3 (tv 4) (tv 6))
(.ite (.var 7)
(.prim (.row 3 (tp 1 1) (tv 4))
(.call 61 [(.agg [(tp 8 0), (tp 8 1), (tp 8 2)])]
(.prim (.chk 3 (.var 5) (tv 4))
(.prim (.agg 3 (tv 9))
(.prim (.put 3 0 (.var 5) (.var 10) [(tp 11 0), (tp 11 1), (tp 11 2)])
(.prim (.bin .add 3 (tv 4) (tn 1))
(.jump 1 [(tv 13), (tv 12)])))))))
(.jump 0 [(tv 5)])))))
(.prim (.frz 3 .real (.var 4))
(.ret (.agg [(tp 1 0), (tv 5)])))))))
theorem t24_ok : compFun (x24 Tryz.prog) w24 24 = .ok t24 := by kernel_rfl
theorem k24 : TreeOk Tryz.prog 23 ⟨11, some 86, some 87⟩ ownT 24 t24 (x24 Tryz.prog) w24 Tryz.f24 := ⟨rfl, rfl, rfl, (fun g r h => by cases h), by kernel_rfl, by decide, rfl, t24_ok⟩
def x25 (P : Program) : Ctx := { P := P, inl := [85, 75, 76, 100, 101, 127, 128, 129, 164], own := [], ownc := [], ownr := [], diceT := 23, diceNew := ⟨11, (some 86), (some 87)⟩ }
def w25 : Hints := { sites := [], np := [(76, 6, 18), (164, 3, 12)], thaw := [], skel := [] }
def t25 : Tree := (.prim (.agg 5 (tv 0))
(.call 63 [(tp 1 0)]
(.prim (.one (tv 2))
(.ret (.agg [(tv 3), (tp 1 1), (tp 1 2), (tp 1 3), (tp 1 4)])))))
theorem t25_ok : compFun (x25 Tryz.prog) w25 25 = .ok t25 := by kernel_rfl
theorem k25 : TreeOk Tryz.prog 23 ⟨11, some 86, some 87⟩ ownT 25 t25 (x25 Tryz.prog) w25 Tryz.f25 := ⟨rfl, rfl, rfl, (fun g r h => by cases h), by kernel_rfl, by decide, rfl, t25_ok⟩
def x29 (P : Program) : Ctx := { P := P, inl := [85, 75, 76, 100, 101, 127, 128, 129, 164], own := [], ownc := [], ownr := [], diceT := 23, diceNew := ⟨11, (some 86), (some 87)⟩ }
def w29 : Hints := { sites := [], np := [(76, 6, 18), (164, 3, 12)], thaw := [], skel := [(0, 6, ⟨[⟨false, 8, 0, none, false⟩], [], [8], [], false⟩)] }
def t29 : Tree := (.prim (.agg 2 (tv 0))
(.prim (.agg 2 (tv 1))
(.join 0
(.call 68 [(.agg [(tp 4 0), (tp 4 1)]), (.agg [(tp 5 0), (tp 5 1)])]
(.ite (.var 6)
(.call 69 [(tv 2), (tv 3)]
(.jump 0 [(tv 7)]))
(.jump 0 [(.e (.cst (.bool false)))])))
(.ret (tv 6)))))
theorem t29_ok : compFun (x29 Tryz.prog) w29 29 = .ok t29 := by kernel_rfl
theorem k29 : TreeOk Tryz.prog 23 ⟨11, some 86, some 87⟩ ownT 29 t29 (x29 Tryz.prog) w29 Tryz.f29 := ⟨rfl, rfl, rfl, (fun g r h => by cases h), by kernel_rfl, by decide, rfl, t29_ok⟩
def x30 (P : Program) : Ctx := { P := P, inl := [85, 75, 76, 100, 101, 127, 128, 129, 164], own := [], ownc := [], ownr := [], diceT := 23, diceNew := ⟨11, (some 86), (some 87)⟩ }
def w30 : Hints := { sites := [], np := [(30, 5, 12), (76, 6, 18), (164, 3, 12)], thaw := [], skel := [(0, 29, ⟨[⟨true, 1, 0, (some (1, .nil0)), false⟩], [], [2, 3], [], false⟩), (0, 58, ⟨[⟨false, 4, 0, none, false⟩, ⟨true, 1, 0, (some (1, .nil0)), false⟩], [], [3, 0, 2, 4], [], false⟩)] }
def t30 : Tree := (.call 51 [(.e (.cst (.ptr 0 0))), (.lit 1 3 [(tn 6), (tn 9), (tn 12)])]
(.call 52 [(.e (.cst (.ptr 0 0))), (tn 2), (tv 1)]
(.call 52 [(.e (.cst (.ptr 0 0))), (tn 1), (tn 60)]
(.prim (.one (tv 3))
(.call 51 [(.e (.cst (.ptr 0 0))), (.lit 1 4 [(tn 30), (tn 32), (tn 40), (tv 4)])]
(.prim (.one (tv 2))
(.prim (.one (tv 5))
(.call 52 [(.e (.cst (.ptr 0 0))), (tn 1), (tn 3)]
(.join 0
(.loop 1 [(tv 8), (.e (.cst (.agg [])))]
(.prim (.bin .gtr 3 (tv 9) (tn 0))
(.ite (.var 11)
(.call 52 [(.e (.cst (.ptr 0 0))), (tn 5), (tn 9)]
(.call 52 [(.e (.cst (.ptr 0 0))), (tn 5), (tn 9)]
(.call 52 [(.e (.cst (.ptr 0 0))), (tn 2), (tn 20)]
(.prim (.one (tv 12))
(.prim (.one (tv 13))
(.prim (.one (tv 14))
(.call 51 [(.e (.cst (.ptr 0 0))), (.lit 1 3 [(tv 15), (tv 16), (tv 17)])]
(.prim (.one (tv 18))
(.prim (.push 1 8 (.var 10) (.lit 1 1 [(tv 19)]))
(.prim (.bin .sub 3 (tv 9) (tn 1))
(.jump 1 [(tv 21), (tv 20)])))))))))))
(.jump 0 [(tv 10)]))))
(.prim (.frz 1 .nil0 (.var 9))
(.ret (.agg [(tv 10), (tv 6), (tv 7)]))))))))))))
theorem t30_ok : compFun (x30 Tryz.prog) w30 30 = .ok t30 := by kernel_rfl
theorem k30 : TreeOk Tryz.prog 23 ⟨11, some 86, some 87⟩ ownT 30 t30 (x30 Tryz.prog) w30 Tryz.f30 := ⟨rfl, rfl, rfl, (fun g r h => by cases h), by kernel_rfl, by decide, rfl, t30_ok⟩
def x35 (P : Program) : Ctx := { P := P, inl := [85, 75, 76, 100, 101, 127, 128, 129, 164], own := [], ownc := [], ownr := [], diceT := 23, diceNew := ⟨11, (some 86), (some 87)⟩ }
def w35 : Hints := { sites := [5005, 5005011005], np := [(35, 8, 3), (76, 6, 18), (164, 3, 12)], thaw := [(0, 8, 0)], skel := [(5005, 7, ⟨[⟨true, 5, 0, (some (1, .nil0)), false⟩], [], [], [], true⟩), (5005, 14, ⟨[⟨false, 18, 0, none, false⟩, ⟨true, 5, 0, (some (1, .nil0)), false⟩], [], [3, 5, 4, 6, 17, 18], [], true⟩), (5005, 3687, ⟨[⟨true, 5, 0, (some (1, .nil0)), false⟩], [], [3, 5, 4, 6, 17, 18], [], true⟩), (5005, 7374, ⟨[⟨false, 30, 0, none, false⟩, ⟨true, 5, 0, (some (1, .nil0)), false⟩], [], [8, 3, 9, 28, 5, 4, 6, 17, 18, 29, 30], [], true⟩), (5005, 943923, ⟨[⟨true, 5, 0, (some (1, .nil0)), false⟩], [], [8, 3, 9, 28, 5, 4, 6, 17, 18, 29, 30], [], true⟩), (5005, 1887846, ⟨[⟨false, 36, 0, none, false⟩, ⟨true, 5, 0, (some (1, .nil0)), false⟩], [], [11, 8, 3, 34, 9, 28, 5, 4, 6, 17, 18, 29, 30, 35, 36], [], true⟩), (5005011005, 255, ⟨[⟨true, 5, 0, (some (1, .nil0)), false⟩], [], [], [], true⟩)] }
def t35 : Tree := (.prim (.agg 2 (tv 0))
(.prim (.agg 5 (tv 1))
(.prim (.agg 5 (tv 2))
(.call 56 [(.agg [(tp 3 0), (tp 3 1)]), (.e (.cst .snil)), (.lit 5 2 [(tp 4 0), (tp 4 1), (tp 4 2), (tp 4 3), (tp 4 4), (tp 5 0), (tp 5 1), (tp 5 2), (tp 5 3), (tp 5 4)])]
(.prim (.ext (tv 6) 0)
(.prim (.ext (tv 6) 1)
(.prim (.agg 2 (tv 7))
(.prim (.bin .neq 32 (tv 8) (tn 0))
(.ite (.var 10)
(.ret (.tup [(.agg [(tn 0), (tn 0)]), (tv 8)]))
(.prim (.len 25 (tp 9 1))
(.join 0
(.loop 1 [(tn 0), (.e (.cst (.agg [])))]
(.prim (.bin .lss 3 (tv 12) (tv 11))
(.ite (.var 14)
(.call 57 [(.agg [(tp 9 0), (tp 9 1)]), (tv 12), (.agg [(tp 5 0), (tp 5 1), (tp 5 2), (tp 5 3), (tp 5 4)])]
(.call 57 [(.agg [(tp 9 0), (tp 9 1)]), (tv 12), (.agg [(tp 4 0), (tp 4 1), (tp 4 2), (tp 4 3), (tp 4 4)])]
(.prim (.len 38 (tv 16))
(.join 2
(.loop 3 [(tn 0), (tv 13)]
(.prim (.bin .lss 3 (tv 18) (tv 17))
(.ite (.var 20)
(.prim (.row 2 (tv 16) (tv 18))
(.prim (.len 38 (tv 15))
(.join 4
(.loop 5 [(tn 0), (tv 19)]
(.prim (.bin .lss 3 (tv 23) (tv 22))
(.ite (.var 25)
(.prim (.row 2 (tv 15) (tv 23))
(.prim (.len 22 (tp 4 0))
(.prim (.bin .add 3 (tp 21 0) (tv 27))
(.prim (.bin .leq 3 (tp 26 0) (tv 28))
(.ite (.var 29)
(.prim (.bin .add 3 (tv 23) (tn 1))
(.jump 5 [(tv 30), (tv 24)]))
(.prim (.row 3 (tp 9 1) (tv 12))
(.call 77 [(.agg [(tp 30 0), (tp 30 1), (tp 30 2)])]
(.call 78 [(.agg [(tp 4 0), (tp 4 1), (tp 4 2), (tp 4 3), (tp 4 4)]), (.agg [(tp 21 0), (tp 21 1)])]
(.prim (.ext (tv 32) 0)
(.prim (.ext (tv 32) 1)
(.call 78 [(.agg [(tp 5 0), (tp 5 1), (tp 5 2), (tp 5 3), (tp 5 4)]), (.agg [(tp 26 0), (tp 26 1)])]
(.prim (.ext (tv 35) 0)
(.prim (.ext (tv 35) 1)
(.prim (.row 1 (tv 31) (tp 26 0))
(.prim (.row 1 (tv 31) (tv 28))
(.prim (.bin .sub 3 (tp 38 0) (tp 39 0))
(.prim (.bin .add 3 (tv 34) (tv 36))
(.prim (.bin .mul 3 (tn 2) (tp 9 0))
(.prim (.bin .sub 3 (tv 41) (tv 42))
(.prim (.bin .geq 3 (tv 40) (tv 43))
(.join 6
(.ite (.var 44)
(.prim (.bin .sub 3 (tp 26 0) (tv 28))
(.prim (.bin .sub 3 (tv 45) (tn 1))
(.prim (.push 1 8 (.var 24) (.lit 1 1 [(tv 46)]))
(.jump 6 [(tv 47)]))))
(.jump 6 [(tv 24)]))
(.prim (.bin .add 3 (tv 23) (tn 1))
(.jump 5 [(tv 46), (tv 45)])))))))))))))))))))))))
(.jump 4 [(tv 24)]))))
(.prim (.bin .add 3 (tv 18) (tn 1))
(.jump 3 [(tv 24), (tv 23)])))))
(.jump 2 [(tv 19)]))))
(.prim (.bin .add 3 (tv 12) (tn 1))
(.jump 1 [(tv 19), (tv 18)]))))))
(.jump 0 [(tv 13)]))))
(.prim (.lenc 1 (.var 12))
(.prim (.bin .eql 3 (tv 13) (tn 0))
(.ite (.var 14)
(.ret (.tup [(.agg [(tn 0), (tn 0)]), (tn 11)]))
(.prim (.frz 1 .nil0 (.var 12))
(.call 79 [(tv 15)]
(.call 80 [(tv 15)]
(.prim (.one (tv 16))
(.prim (.one (tv 17))
(.ret (.tup [(.agg [(tv 18), (tv 19)]), (tn 0)])))))))))))))))))))))
theorem t35_ok : compFun (x35 Tryz.prog) w35 35 = .ok t35 := by kernel_rfl
theorem k35 : TreeOk Tryz.prog 23 ⟨11, some 86, some 87⟩ ownT 35 t35 (x35 Tryz.prog) w35 Tryz.f35 := ⟨rfl, rfl, rfl, (fun g r h => by cases h), by kernel_rfl, by decide, rfl, t35_ok⟩
def x36 (P : Program) : Ctx := { P := P, inl := [85, 75, 76, 100, 101, 127, 128, 129, 164], own := [], ownc := [], ownr := [], diceT := 23, diceNew := ⟨11, (some 86), (some 87)⟩ }
def w36 : Hints := { sites := [], np := [(36, 8, 21), (36, 16, 8), (36, 17, 40), (76, 6, 18), (164, 3, 12)], thaw := [], skel := [(0, 61, ⟨[⟨false, 9, 0, none, false⟩, ⟨false, 10, 0, none, false⟩], [], [6, 10, 9], [], false⟩), (0, 122, ⟨[⟨false, 9, 0, none, false⟩, ⟨false, 10, 0, none, false⟩, ⟨false, 11, 0, none, false⟩], [], [10, 9, 3, 5, 4, 6, 11], [], false⟩), (0, 15655, ⟨[⟨false, 9, 0, none, false⟩, ⟨false, 10, 0, none, false⟩], [], [10, 9, 3, 5, 4, 6, 11], [], false⟩), (0, 31310, ⟨[⟨false, 9, 0, none, false⟩, ⟨false, 10, 0, none, false⟩, ⟨false, 15, 0, none, false⟩], [], [10, 9, 13, 3, 5, 15, 12, 4, 14, 6, 11], [], false⟩), (0, 1001929, ⟨[⟨false, 9, 0, none, false⟩, ⟨false, 10, 0, none, false⟩], [], [10, 9, 13, 3, 5, 12, 4, 14, 6, 11, 15], [], false⟩), (0, 2003858, ⟨[⟨false, 16, 0, none, false⟩, ⟨false, 9, 0, none, false⟩, ⟨false, 10, 0, none, false⟩], [], [10, 9, 13, 3, 5, 15, 12, 4, 14, 6, 11, 16], [], false⟩), (0, 256493860, ⟨[⟨false, 125, 0, none, false⟩], [], [125, 10, 9, 13, 3, 5, 15, 12, 4, 14, 6, 11, 16, 17], [], false⟩), (0, 1025975452, ⟨[⟨false, 140, 0, none, false⟩], [], [140, 13, 3, 5, 15, 12, 4, 14, 6, 11, 16, 18, 10, 9], [], false⟩), (0, 1025975453, ⟨[⟨false, 9, 0, none, false⟩], [], [9, 13, 3, 5, 15, 12, 4, 14, 6, 11, 16, 18, 10], [], false⟩)] }
def t36 : Tree := (.prim (.agg 2 (tv 0))
(.prim (.agg 5 (tv 1))
(.prim (.agg 5 (tv 2))
(.call 64 [(.agg [(tp 3 0), (tp 3 1)]), (.e (.cst .snil)), (.lit 5 2 [(tp 4 0), (tp 4 1), (tp 4 2), (tp 4 3), (tp 4 4), (tp 5 0), (tp 5 1), (tp 5 2), (tp 5 3), (tp 5 4)])]
(.prim (.bin .neq 32 (tv 6) (tn 0))
(.ite (.var 7)
(.ret (.tup [(.agg [(tn 0), (tn 0)]), (tv 6)]))
(.join 0
(.loop 1 [(tn (-1)), (tn 0), (tn 0)]
(.prim (.len 25 (tp 3 1))
(.prim (.bin .lss 3 (tv 10) (tv 11))
(.ite (.var 12)
(.prim (.row 3 (tp 3 1) (tv 10))
(.call 82 [(.agg [(tp 4 0), (tp 4 1), (tp 4 2), (tp 4 3), (tp 4 4)])]
(.call 81 [(.agg [(tp 13 0), (tp 13 1), (tp 13 2)]), (tp 3 0), (.agg [(tp 4 0), (tp 4 1), (tp 4 2), (tp 4 3), (tp 4 4)]), (tv 14)]
(.prim (.row 3 (tp 3 1) (tv 10))
(.call 82 [(.agg [(tp 5 0), (tp 5 1), (tp 5 2), (tp 5 3), (tp 5 4)])]
(.call 81 [(.agg [(tp 16 0), (tp 16 1), (tp 16 2)]), (tp 3 0), (.agg [(tp 5 0), (tp 5 1), (tp 5 2), (tp 5 3), (tp 5 4)]), (tv 17)]
(.prim (.row 3 (tp 3 1) (tv 10))
(.call 83 [(.agg [(tp 19 0), (tp 19 1), (tp 19 2)])]
(.join 2
(.loop 3 [(tv 8), (tv 9), (tn 0)]
(.prim (.len 38 (tv 15))
(.prim (.bin .lss 3 (tv 23) (tv 24))
(.ite (.var 25)
(.join 4
(.loop 5 [(tn 0), (tv 21), (tv 22)]
(.prim (.len 38 (tv 18))
(.prim (.bin .lss 3 (tv 26) (tv 29))
(.ite (.var 30)
(.prim (.row 2 (tv 15) (tv 23))
(.prim (.len 22 (tp 4 0))
(.prim (.bin .add 3 (tp 31 0) (tv 32))
(.join 6
(.prim (.row 2 (tv 18) (tv 26))
(.prim (.bin .leq 3 (tp 34 0) (tv 33))
(.ite (.var 35)
(.jump 6 [(.e (.cst (.bool true)))])
(.prim (.row 2 (tv 18) (tv 26))
(.prim (.row 1 (tv 20) (tp 36 0))
(.prim (.row 1 (tv 20) (tv 33))
(.prim (.bin .sub 3 (tp 37 0) (tp 38 0))
(.prim (.row 2 (tv 15) (tv 23))
(.call 84 [(.agg [(tp 4 0), (tp 4 1), (tp 4 2), (tp 4 3), (tp 4 4)]), (.agg [(tp 40 0), (tp 40 1)])]
(.prim (.agg 5 (tv 41))
(.prim (.row 2 (tv 18) (tv 26))
(.call 84 [(.agg [(tp 5 0), (tp 5 1), (tp 5 2), (tp 5 3), (tp 5 4)]), (.agg [(tp 43 0), (tp 43 1)])]
(.prim (.agg 5 (tv 44))
(.prim (.bin .add 3 (tp 42 2) (tp 45 1))
(.prim (.bin .mul 3 (tn 2) (tp 3 0))
(.prim (.bin .sub 3 (tv 46) (tv 47))
(.prim (.bin .lss 3 (tv 39) (tv 48))
(.jump 6 [(tv 49)]))))))))))))))))))
(.ite (.var 34)
(.prim (.bin .add 3 (tv 26) (tn 1))
(.jump 5 [(tv 35), (tv 27), (tv 28)]))
(.prim (.row 2 (tv 18) (tv 26))
(.prim (.bin .sub 3 (tp 35 0) (tv 33))
(.prim (.bin .sub 3 (tv 36) (tn 1))
(.join 7
(.prim (.bin .lss 3 (tv 27) (tn 0))
(.ite (.var 38)
(.jump 7 [(.e (.cst (.bool true)))])
(.prim (.bin .lss 3 (tv 37) (tv 27))
(.jump 7 [(tv 39)]))))
(.join 8
(.ite (.var 38)
(.jump 8 [(tv 37)])
(.jump 8 [(tv 27)]))
(.prim (.mm true [(tv 28), (tv 37)])
(.prim (.bin .add 3 (tv 26) (tn 1))
(.jump 5 [(tv 41), (tv 39), (tv 40)])))))))))))))
(.jump 4 [(tv 27), (tv 28)])))))
(.prim (.bin .add 3 (tv 23) (tn 1))
(.jump 3 [(tv 26), (tv 27), (tv 28)])))
(.jump 2 [(tv 21), (tv 22)])))))
(.prim (.bin .add 3 (tv 10) (tn 1))
(.jump 1 [(tv 21), (tv 22), (tv 23)])))))))))))
(.jump 0 [(tv 8), (tv 9)])))))
(.prim (.bin .lss 3 (tv 8) (tn 0))
(.ite (.var 10)
(.ret (.tup [(.agg [(tn 0), (tn 0)]), (tn 11)]))
(.prim (.one (tv 8))
(.prim (.one (tv 9))
(.ret (.tup [(.agg [(tv 11), (tv 12)]), (tn 0)])))))))))))))
theorem t36_ok : compFun (x36 Tryz.prog) w36 36 = .ok t36 := by kernel_rfl
theorem k36 : TreeOk Tryz.prog 23 ⟨11, some 86, some 87⟩ ownT 36 t36 (x36 Tryz.prog) w36 Tryz.f36 := ⟨rfl, rfl, rfl, (fun g r h => by cases h), by kernel_rfl, by decide, rfl, t36_ok⟩
end Go.Proofs.YtlminnpaeaganaaGreat
