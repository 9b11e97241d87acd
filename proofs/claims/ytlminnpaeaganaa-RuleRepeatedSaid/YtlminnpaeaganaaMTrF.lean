/- Residual trees of functions. No condition. -/
import Derived.Test.YtlminnpaeaganaaMTrA
namespace Go.Proofs.Ytlminnpaeaganaa
open Go Go.RowKit
set_option maxRecDepth 100000
def x118 (P : Program) : Ctx := { P := P, inl := [86, 87, 99, 100, 115, 116, 117, 123], own := [], ownc := [], ownr := [], diceT := 31, diceNew := ⟨18, none, none⟩ }
def w118 : Hints := { sites := [], np := [(87, 6, 18), (118, 7, 13), (118, 10, 28), (123, 3, 12)], thaw := [], skel := [(0, 28, ⟨[⟨false, 27, 0, none, false⟩], [], [27, 3, 6, 5, 4, 7, 11], [], false⟩), (0, 61, ⟨[], [], [6, 7, 5, 11, 3], [], false⟩), (0, 122, ⟨[⟨false, 31, 0, none, false⟩], [], [3, 6, 5, 4, 29, 7, 11, 30, 31], [], false⟩), (0, 15666, ⟨[⟨false, 51, 0, none, false⟩], [], [51, 3, 6, 5, 4, 29, 7, 11, 30, 31], [], false⟩), (0, 124, ⟨[⟨false, 84, 0, none, false⟩], [], [84, 6, 7, 5], [], false⟩), (0, 126, ⟨[⟨false, 10, 0, none, false⟩], [], [10], [], false⟩)] }
def t118 : Tree := (.prim (.agg 2 (tv 0))
(.prim (.agg 3 (tv 1))
(.prim (.agg 5 (tv 2))
(.prim (.len 25 (tp 7 0))
(.prim (.bin .add 3 (tv 3) (tv 8))
(.join 0
(.prim (.bin .lss 3 (tv 3) (tn 0))
(.ite (.var 10)
(.jump 0 [(.e (.cst (.bool true)))])
(.prim (.bin .sub 3 (tp 6 1) (tn 1))
(.prim (.bin .gtr 3 (tv 9) (tv 11))
(.jump 0 [(tv 12)])))))
(.ite (.var 10)
(.ret (.e (.cst (.bool false))))
(.prim (.len 25 (tp 7 0))
(.join 1
(.loop 2 [(tn 0)]
(.prim (.bin .lss 3 (tv 12) (tv 11))
(.ite (.var 13)
(.prim (.row 1 (tp 7 0) (tv 12))
(.join 3
(.call 106 [(tv 4), (tv 12)]
(.prim (.un .not (tv 15))
(.ite (.var 16)
(.prim (.bin .add 3 (tv 3) (tv 12))
(.call 81 [(.agg [(tp 6 0), (tp 6 1), (tp 6 2)]), (tv 17)]
(.callv (.proj (.var 5) 0) [(tp 14 0), (tv 18)]
(.prim (.un .not (tv 19))
(.jump 3 [(tv 20)])))))
(.jump 3 [(.e (.cst (.bool false)))]))))
(.ite (.var 15)
(.ret (.e (.cst (.bool false))))
(.prim (.bin .add 3 (tv 12) (tn 1))
(.jump 2 [(tv 16)])))))
(.jump 1 []))))
(.join 2
(.prim (.bin .gtr 3 (tv 3) (tn 0))
(.ite (.var 12)
(.prim (.bin .sub 3 (tv 3) (tn 1))
(.call 81 [(.agg [(tp 6 0), (tp 6 1), (tp 6 2)]), (tv 13)]
(.callv (.proj (.var 5) 1) [(tp 7 1), (tv 14)]
(.prim (.un .not (tv 15))
(.ite (.var 16)
(.jump 2 [(.e (.cst (.bool true)))])
(.prim (.bin .sub 3 (tp 6 1) (tn 1))
(.prim (.bin .lss 3 (tv 9) (tv 17))
(.ite (.var 18)
(.call 81 [(.agg [(tp 6 0), (tp 6 1), (tp 6 2)]), (tv 9)]
(.callv (.proj (.var 5) 1) [(tp 7 2), (tv 19)]
(.prim (.un .not (tv 20))
(.jump 2 [(tv 21)]))))
(.jump 2 [(.e (.cst (.bool false)))])))))))))
(.prim (.bin .sub 3 (tp 6 1) (tn 1))
(.prim (.bin .lss 3 (tv 9) (tv 13))
(.ite (.var 14)
(.call 81 [(.agg [(tp 6 0), (tp 6 1), (tp 6 2)]), (tv 9)]
(.callv (.proj (.var 5) 1) [(tp 7 2), (tv 15)]
(.prim (.un .not (tv 16))
(.jump 2 [(tv 17)]))))
(.jump 2 [(.e (.cst (.bool false)))]))))))
(.ite (.var 12)
(.ret (.e (.cst (.bool false))))
(.join 3
(.prim (.bin .eql 3 (tp 7 3) (tn 0))
(.ite (.var 13)
(.jump 3 [(.e (.cst (.bool true)))])
(.callv (.proj (.var 5) 0) [(tp 7 3), (tp 6 2)]
(.jump 3 [(tv 14)]))))
(.ret (tv 13))))))))))))))
theorem t118_ok : compFun (x118 Try.prog) w118 118 = .ok t118 := by kernel_rfl
theorem k118 : TreeOk Try.prog 31 ⟨18, none, none⟩ ownT 118 t118 (x118 Try.prog) w118 Try.f118 := ⟨rfl, rfl, rfl, (fun g r h => by cases h), by kernel_rfl, by decide, rfl, t118_ok⟩
def x119 (P : Program) : Ctx := { P := P, inl := [86, 87, 99, 100, 115, 116, 117, 123], own := [], ownc := [(0, 1002)], ownr := [(122, none, 1, false)], diceT := 31, diceNew := ⟨18, none, none⟩ }
def w119 : Hints := { sites := [2003], np := [(87, 6, 18), (123, 3, 12)], thaw := [], skel := [(2003, 3, ⟨[], [0], [], [], true⟩), (2003, 6, ⟨[⟨false, 2, 0, none, false⟩, ⟨false, 3, 0, none, false⟩], [0], [0, 3, 2], [], true⟩)] }
def t119 : Tree := (.prim (.agg 5 (tv 0))
(.call 122 [(tp 1 0)]
(.prim (.cont false 1 (tv 2))
(.prim (.isnil (tv 2))
(.prim (.lenc 1 (.var 3))
(.prim (.bin .sub 3 (tv 5) (tn 1))
(.join 0
(.loop 1 [(tn 0), (tv 6), (tv 3)]
(.prim (.bin .lss 3 (tv 7) (tv 8))
(.ite (.var 10)
(.prim (.chk 1 (.var 9) (tv 8))
(.prim (.get 1 0 1 (.var 9) (.var 11))
(.prim (.chk 1 (.var 9) (tv 7))
(.prim (.get 1 0 1 (.var 9) (.var 13))
(.prim (.chk 1 (.var 9) (tv 7))
(.prim (.put 1 0 (.var 9) (.var 15) [(tp 12 0)])
(.prim (.chk 1 (.var 16) (tv 8))
(.prim (.put 1 0 (.var 16) (.var 17) [(tp 14 0)])
(.prim (.bin .add 3 (tv 7) (tn 1))
(.prim (.bin .sub 3 (tv 8) (tn 1))
(.jump 1 [(tv 19), (tv 20), (tv 18)])))))))))))
(.jump 0 [(tv 9)]))))
(.prim (.frz 1 (.dyn (.var 4)) (.var 7))
(.ret (.agg [(tv 8), (tp 1 2), (tp 1 1), (tp 1 3), (tp 1 4)]))))))))))
theorem t119_ok : compFun (x119 Try.prog) w119 119 = .ok t119 := by kernel_rfl
theorem k119 : TreeOk Try.prog 31 ⟨18, none, none⟩ ownT 119 t119 (x119 Try.prog) w119 Try.f119 := ⟨rfl, rfl, rfl, (fun g r h => by simp only [x119, findOr] at h; split at h <;> cases h; rename_i e; subst e; rfl), by kernel_rfl, by decide, rfl, t119_ok⟩
def x122 (P : Program) : Ctx := { P := P, inl := [86, 87, 99, 100, 115, 116, 117, 123], own := [(0, 5)], ownc := [], ownr := [], diceT := 31, diceNew := ⟨18, none, none⟩ }
def w122 : Hints := { sites := [], np := [(87, 6, 18), (123, 3, 12)], thaw := [], skel := [] }
def t122 : Tree := (.prim (.bin .eql 25 (tv 0) (.e (.cst .snil)))
(.ite (.var 1)
(.ret (.e (.cst .snil)))
(.prim (.lst [])
(.prim (.push 1 8 (.var 2) (tv 0))
(.prim (.frz 1 .real (.var 3))
(.ret (tv 4)))))))
theorem t122_ok : compFunO (x122 Try.prog) w122 none 122 = .ok t122 := by kernel_rfl
theorem k122 : TreeOk Try.prog 31 ⟨18, none, none⟩ ownT 122 t122 (x122 Try.prog) w122 Try.f122 := ⟨rfl, rfl, rfl, (fun g r h => by cases h), by kernel_rfl, by decide, rfl, t122_ok⟩
def x120 (P : Program) : Ctx := { P := P, inl := [86, 87, 99, 100, 115, 116, 117, 123], own := [], ownc := [], ownr := [], diceT := 31, diceNew := ⟨18, none, none⟩ }
def w120 : Hints := { sites := [], np := [(87, 6, 18), (123, 3, 12)], thaw := [], skel := [] }
def t120 : Tree := (.prim (.bin .neq 3 (tv 0) (tv 0))
(.ret (tv 1)))
theorem t120_ok : compFun (x120 Try.prog) w120 120 = .ok t120 := by kernel_rfl
theorem k120 : TreeOk Try.prog 31 ⟨18, none, none⟩ ownT 120 t120 (x120 Try.prog) w120 Try.f120 := ⟨rfl, rfl, rfl, (fun g r h => by cases h), by kernel_rfl, by decide, rfl, t120_ok⟩
def x121 (P : Program) : Ctx := { P := P, inl := [86, 87, 99, 100, 115, 116, 117, 123], own := [], ownc := [], ownr := [], diceT := 31, diceNew := ⟨18, none, none⟩ }
def w121 : Hints := { sites := [], np := [(87, 6, 18), (123, 3, 12)], thaw := [], skel := [(0, 13, ⟨[], [], [], [], false⟩), (0, 26, ⟨[⟨false, 8, 0, none, false⟩], [], [0, 1, 7, 8], [], false⟩)] }
def t121 : Tree := (.prim (.len 25 (tv 0))
(.join 0
(.loop 1 [(tn 0)]
(.prim (.bin .lss 3 (tv 3) (tv 2))
(.ite (.var 4)
(.prim (.row 1 (tv 0) (tv 3))
(.callv (.var 1) [(tp 5 0)]
(.ite (.var 6)
(.ret (tv 3))
(.prim (.bin .add 3 (tv 3) (tn 1))
(.jump 1 [(tv 7)])))))
(.jump 0 []))))
(.ret (tn (-1)))))
theorem t121_ok : compFun (x121 Try.prog) w121 121 = .ok t121 := by kernel_rfl
theorem k121 : TreeOk Try.prog 31 ⟨18, none, none⟩ ownT 121 t121 (x121 Try.prog) w121 Try.f121 := ⟨rfl, rfl, rfl, (fun g r h => by cases h), by kernel_rfl, by decide, rfl, t121_ok⟩
end Go.Proofs.Ytlminnpaeaganaa
