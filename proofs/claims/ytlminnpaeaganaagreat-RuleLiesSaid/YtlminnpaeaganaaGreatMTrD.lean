/- Residual trees of functions. No condition. -/
import Derived.Test.YtlminnpaeaganaaGreatMTrA
namespace Go.Proofs.YtlminnpaeaganaaGreat
open Go Go.RowKit
set_option maxRecDepth 100000
def x117 (P : Program) : Ctx := { P := P, inl := [85, 75, 76, 100, 101, 127, 128, 129, 164], own := [], ownc := [], ownr := [], diceT := 23, diceNew := ⟨11, (some 86), (some 87)⟩ }
def w117 : Hints := { sites := [], np := [(76, 6, 18), (164, 3, 12)], thaw := [], skel := [(0, 29, ⟨[⟨false, 3, 0, (some (1, .nil0)), false⟩], [], [3], [], false⟩), (0, 58, ⟨[⟨false, 3, 0, (some (1, .nil0)), false⟩, ⟨false, 4, 0, none, false⟩], [], [0, 4, 3], [], false⟩)] }
def t117 : Tree := (.prim (.len 119 (tv 0))
(.prim (.bin .sub 3 (tv 1) (tn 1))
(.join 0
(.loop 1 [(.e (.cst (.agg []))), (tv 2)]
(.prim (.bin .geq 3 (tv 4) (tn 0))
(.ite (.var 5)
(.prim (.row 1 (tv 0) (tv 4))
(.prim (.push 1 1 (.var 3) (.lit 1 1 [(tp 6 0)]))
(.prim (.bin .sub 3 (tv 4) (tn 1))
(.jump 1 [(tv 7), (tv 8)]))))
(.jump 0 [(tv 3)]))))
(.prim (.frz 1 .nil0 (.var 3))
(.ret (tv 4))))))
theorem t117_ok : compFun (x117 Tryz.prog) w117 117 = .ok t117 := by kernel_rfl
theorem k117 : TreeOk Tryz.prog 23 ⟨11, some 86, some 87⟩ ownT 117 t117 (x117 Tryz.prog) w117 Tryz.f117 := ⟨rfl, rfl, rfl, (fun g r h => by cases h), by kernel_rfl, by decide, rfl, t117_ok⟩
def x118 (P : Program) : Ctx := { P := P, inl := [85, 75, 76, 100, 101, 127, 128, 129, 164], own := [], ownc := [], ownr := [], diceT := 23, diceNew := ⟨11, (some 86), (some 87)⟩ }
def w118 : Hints := { sites := [], np := [(76, 6, 18), (118, 1, 7), (164, 3, 12)], thaw := [], skel := [] }
def t118 : Tree := (.prim (.agg 3 (tv 0))
(.prim (.len 22 (tp 2 0))
(.prim (.bin .rem 3 (tv 1) (tv 3))
(.prim (.row 1 (tp 2 0) (tv 4))
(.ret (tp 5 0))))))
theorem t118_ok : compFun (x118 Tryz.prog) w118 118 = .ok t118 := by kernel_rfl
theorem k118 : TreeOk Tryz.prog 23 ⟨11, some 86, some 87⟩ ownT 118 t118 (x118 Tryz.prog) w118 Tryz.f118 := ⟨rfl, rfl, rfl, (fun g r h => by cases h), by kernel_rfl, by decide, rfl, t118_ok⟩
def x121 (P : Program) : Ctx := { P := P, inl := [85, 75, 76, 100, 101, 127, 128, 129, 164], own := [], ownc := [], ownr := [], diceT := 23, diceNew := ⟨11, (some 86), (some 87)⟩ }
def w121 : Hints := { sites := [], np := [(76, 6, 18), (164, 3, 12)], thaw := [], skel := [(0, 6, ⟨[⟨false, 5, 0, none, false⟩], [], [5], [], false⟩)] }
def t121 : Tree := (.join 0
(.prim (.bin .sub 3 (tv 0) (tv 1))
(.prim (.deref 1 (tv 2))
(.prim (.bin .leq 3 (tv 3) (tp 4 0))
(.ite (.var 5)
(.prim (.bin .sub 3 (tv 1) (tv 0))
(.prim (.deref 1 (tv 2))
(.prim (.bin .leq 3 (tv 6) (tp 7 0))
(.jump 0 [(tv 8)]))))
(.jump 0 [(.e (.cst (.bool false)))])))))
(.ret (tv 3)))
theorem t121_ok : compFun (x121 Tryz.prog) w121 121 = .ok t121 := by kernel_rfl
theorem k121 : TreeOk Tryz.prog 23 ⟨11, some 86, some 87⟩ ownT 121 t121 (x121 Tryz.prog) w121 Tryz.f121 := ⟨rfl, rfl, rfl, (fun g r h => by cases h), by kernel_rfl, by decide, rfl, t121_ok⟩
def x122 (P : Program) : Ctx := { P := P, inl := [85, 75, 76, 100, 101, 127, 128, 129, 164], own := [], ownc := [], ownr := [], diceT := 23, diceNew := ⟨11, (some 86), (some 87)⟩ }
def w122 : Hints := { sites := [], np := [(76, 6, 18), (164, 3, 12)], thaw := [], skel := [] }
def t122 : Tree := (.prim (.deref 1 (tv 2))
(.prim (.bin .sub 3 (tv 0) (tp 3 0))
(.prim (.bin .gtr 3 (tv 1) (tv 4))
(.ret (tv 5)))))
theorem t122_ok : compFun (x122 Tryz.prog) w122 122 = .ok t122 := by kernel_rfl
theorem k122 : TreeOk Tryz.prog 23 ⟨11, some 86, some 87⟩ ownT 122 t122 (x122 Tryz.prog) w122 Tryz.f122 := ⟨rfl, rfl, rfl, (fun g r h => by cases h), by kernel_rfl, by decide, rfl, t122_ok⟩
def x123 (P : Program) : Ctx := { P := P, inl := [85, 75, 76, 100, 101, 127, 128, 129, 164], own := [], ownc := [], ownr := [], diceT := 23, diceNew := ⟨11, (some 86), (some 87)⟩ }
def w123 : Hints := { sites := [], np := [(76, 6, 18), (164, 3, 12)], thaw := [], skel := [] }
def t123 : Tree := (.prim (.bin .shr 130 (tv 0) (tv 1))
(.prim (.bin .and 130 (tv 2) (.e (.cst (.int .u8 1))))
(.prim (.bin .eql 130 (tv 3) (.e (.cst (.int .u8 1))))
(.ret (tv 4)))))
theorem t123_ok : compFun (x123 Tryz.prog) w123 123 = .ok t123 := by kernel_rfl
theorem k123 : TreeOk Tryz.prog 23 ⟨11, some 86, some 87⟩ ownT 123 t123 (x123 Tryz.prog) w123 Tryz.f123 := ⟨rfl, rfl, rfl, (fun g r h => by cases h), by kernel_rfl, by decide, rfl, t123_ok⟩
def x124 (P : Program) : Ctx := { P := P, inl := [85, 75, 76, 100, 101, 127, 128, 129, 164], own := [], ownc := [], ownr := [], diceT := 23, diceNew := ⟨11, (some 86), (some 87)⟩ }
def w124 : Hints := { sites := [], np := [(76, 6, 18), (164, 3, 12)], thaw := [], skel := [(0, 29, ⟨[], [], [], [], false⟩), (0, 58, ⟨[⟨false, 10, 0, none, false⟩], [], [0, 8, 9, 10], [], false⟩), (0, 14950, ⟨[⟨false, 28, 0, none, false⟩], [], [28, 0, 8, 9, 10], [], false⟩)] }
def t124 : Tree := (.prim (.len 22 (tv 0))
(.prim (.bin .gtr 3 (tv 1) (tn 16))
(.ite (.var 2)
(.ret (tn 6))
(.prim (.len 22 (tv 0))
(.join 0
(.loop 1 [(tn 0)]
(.prim (.bin .lss 3 (tv 4) (tv 3))
(.ite (.var 5)
(.prim (.row 1 (tv 0) (tv 4))
(.call 88 [(tp 6 0), (tn 0), (tn 300)]
(.prim (.un .not (tv 7))
(.ite (.var 8)
(.ret (tn 1))
(.join 2
(.prim (.bin .gtr 3 (tv 4) (tn 0))
(.ite (.var 9)
(.prim (.bin .sub 3 (tv 4) (tn 1))
(.prim (.row 1 (tv 0) (tv 10))
(.prim (.bin .leq 3 (tp 6 0) (tp 11 0))
(.jump 2 [(tv 12)]))))
(.jump 2 [(.e (.cst (.bool false)))])))
(.ite (.var 9)
(.ret (tn 5))
(.prim (.bin .add 3 (tv 4) (tn 1))
(.jump 1 [(tv 10)]))))))))
(.jump 0 []))))
(.ret (tn 0)))))))
theorem t124_ok : compFun (x124 Tryz.prog) w124 124 = .ok t124 := by kernel_rfl
theorem k124 : TreeOk Tryz.prog 23 ⟨11, some 86, some 87⟩ ownT 124 t124 (x124 Tryz.prog) w124 Tryz.f124 := ⟨rfl, rfl, rfl, (fun g r h => by cases h), by kernel_rfl, by decide, rfl, t124_ok⟩
def x125 (P : Program) : Ctx := { P := P, inl := [85, 75, 76, 100, 101, 127, 128, 129, 164], own := [], ownc := [], ownr := [], diceT := 23, diceNew := ⟨11, (some 86), (some 87)⟩ }
def w125 : Hints := { sites := [], np := [(76, 6, 18), (125, 1, 9), (164, 3, 12)], thaw := [], skel := [] }
def t125 : Tree := (.prim (.deref 2 (tv 1))
(.prim (.deref 1 (tv 2))
(.prim (.deref 1 (tv 3))
(.prim (.row 1 (tp 6 0) (tp 7 0))
(.prim (.deref 1 (tv 4))
(.prim (.bin .add 3 (tp 8 0) (tp 9 0))
(.callv (.proj (.var 5) 0) [(tv 0), (tv 10)]
(.ret (tv 11)))))))))
theorem t125_ok : compFun (x125 Tryz.prog) w125 125 = .ok t125 := by kernel_rfl
theorem k125 : TreeOk Tryz.prog 23 ⟨11, some 86, some 87⟩ ownT 125 t125 (x125 Tryz.prog) w125 Tryz.f125 := ⟨rfl, rfl, rfl, (fun g r h => by cases h), by kernel_rfl, by decide, rfl, t125_ok⟩
def x126 (P : Program) : Ctx := { P := P, inl := [85, 75, 76, 100, 101, 127, 128, 129, 164], own := [], ownc := [], ownr := [], diceT := 23, diceNew := ⟨11, (some 86), (some 87)⟩ }
def w126 : Hints := { sites := [], np := [(76, 6, 18), (164, 3, 12)], thaw := [], skel := [] }
def t126 : Tree := (.prim (.bin .rem 3 (tv 0) (tv 1))
(.prim (.bin .add 3 (tv 2) (tv 1))
(.prim (.bin .rem 3 (tv 3) (tv 1))
(.ret (tv 4)))))
theorem t126_ok : compFun (x126 Tryz.prog) w126 126 = .ok t126 := by kernel_rfl
theorem k126 : TreeOk Tryz.prog 23 ⟨11, some 86, some 87⟩ ownT 126 t126 (x126 Tryz.prog) w126 Tryz.f126 := ⟨rfl, rfl, rfl, (fun g r h => by cases h), by kernel_rfl, by decide, rfl, t126_ok⟩
def x130 (P : Program) : Ctx := { P := P, inl := [85, 75, 76, 100, 101, 127, 128, 129, 164], own := [], ownc := [], ownr := [], diceT := 23, diceNew := ⟨11, (some 86), (some 87)⟩ }
def w130 : Hints := { sites := [], np := [(76, 6, 18), (130, 7, 13), (130, 10, 28), (164, 3, 12)], thaw := [], skel := [(0, 28, ⟨[⟨false, 27, 0, none, false⟩], [], [27, 3, 6, 5, 4, 7, 11], [], false⟩), (0, 61, ⟨[], [], [6, 7, 5, 11, 3], [], false⟩), (0, 122, ⟨[⟨false, 31, 0, none, false⟩], [], [3, 6, 5, 4, 29, 7, 11, 30, 31], [], false⟩), (0, 15666, ⟨[⟨false, 51, 0, none, false⟩], [], [51, 3, 6, 5, 4, 29, 7, 11, 30, 31], [], false⟩), (0, 124, ⟨[⟨false, 84, 0, none, false⟩], [], [84, 6, 7, 5], [], false⟩), (0, 126, ⟨[⟨false, 10, 0, none, false⟩], [], [10], [], false⟩)] }
def t130 : Tree := (.prim (.agg 2 (tv 0))
(.prim (.agg 3 (tv 1))
(.prim (.agg 5 (tv 2))
(.prim (.len 22 (tp 7 0))
(.prim (.bin .add 3 (tv 3) (tv 8))
(.join 0
(.prim (.bin .lss 3 (tv 3) (tn 0))
(.ite (.var 10)
(.jump 0 [(.e (.cst (.bool true)))])
(.prim (.bin .sub 3 (tp 6 1) (tn 1))
(.prim (.bin .gtr 3 (tv 9) (tv 11))
(.jump 0 [(tv 12)])))))
(.ite (.var 10)
(.ret (.e (.cst (.bool false))))
(.prim (.len 22 (tp 7 0))
(.join 1
(.loop 2 [(tn 0)]
(.prim (.bin .lss 3 (tv 12) (tv 11))
(.ite (.var 13)
(.prim (.row 1 (tp 7 0) (tv 12))
(.join 3
(.call 123 [(tv 4), (tv 12)]
(.prim (.un .not (tv 15))
(.ite (.var 16)
(.prim (.bin .add 3 (tv 3) (tv 12))
(.call 96 [(.agg [(tp 6 0), (tp 6 1), (tp 6 2)]), (tv 17)]
(.callv (.proj (.var 5) 0) [(tp 14 0), (tv 18)]
(.prim (.un .not (tv 19))
(.jump 3 [(tv 20)])))))
(.jump 3 [(.e (.cst (.bool false)))]))))
(.ite (.var 15)
(.ret (.e (.cst (.bool false))))
(.prim (.bin .add 3 (tv 12) (tn 1))
(.jump 2 [(tv 16)])))))
(.jump 1 []))))
(.join 2
(.prim (.bin .gtr 3 (tv 3) (tn 0))
(.ite (.var 12)
(.prim (.bin .sub 3 (tv 3) (tn 1))
(.call 96 [(.agg [(tp 6 0), (tp 6 1), (tp 6 2)]), (tv 13)]
(.callv (.proj (.var 5) 1) [(tp 7 1), (tv 14)]
(.prim (.un .not (tv 15))
(.ite (.var 16)
(.jump 2 [(.e (.cst (.bool true)))])
(.prim (.bin .sub 3 (tp 6 1) (tn 1))
(.prim (.bin .lss 3 (tv 9) (tv 17))
(.ite (.var 18)
(.call 96 [(.agg [(tp 6 0), (tp 6 1), (tp 6 2)]), (tv 9)]
(.callv (.proj (.var 5) 1) [(tp 7 2), (tv 19)]
(.prim (.un .not (tv 20))
(.jump 2 [(tv 21)]))))
(.jump 2 [(.e (.cst (.bool false)))])))))))))
(.prim (.bin .sub 3 (tp 6 1) (tn 1))
(.prim (.bin .lss 3 (tv 9) (tv 13))
(.ite (.var 14)
(.call 96 [(.agg [(tp 6 0), (tp 6 1), (tp 6 2)]), (tv 9)]
(.callv (.proj (.var 5) 1) [(tp 7 2), (tv 15)]
(.prim (.un .not (tv 16))
(.jump 2 [(tv 17)]))))
(.jump 2 [(.e (.cst (.bool false)))]))))))
(.ite (.var 12)
(.ret (.e (.cst (.bool false))))
(.join 3
(.prim (.bin .eql 3 (tp 7 3) (tn 0))
(.ite (.var 13)
(.jump 3 [(.e (.cst (.bool true)))])
(.callv (.proj (.var 5) 0) [(tp 7 3), (tp 6 2)]
(.jump 3 [(tv 14)]))))
(.ret (tv 13))))))))))))))
theorem t130_ok : compFun (x130 Tryz.prog) w130 130 = .ok t130 := by kernel_rfl
theorem k130 : TreeOk Tryz.prog 23 ⟨11, some 86, some 87⟩ ownT 130 t130 (x130 Tryz.prog) w130 Tryz.f130 := ⟨rfl, rfl, rfl, (fun g r h => by cases h), by kernel_rfl, by decide, rfl, t130_ok⟩
def x131 (P : Program) : Ctx := { P := P, inl := [85, 75, 76, 100, 101, 127, 128, 129, 164], own := [], ownc := [(0, 1002)], ownr := [(163, none, 1, false)], diceT := 23, diceNew := ⟨11, (some 86), (some 87)⟩ }
def w131 : Hints := { sites := [2003], np := [(76, 6, 18), (164, 3, 12)], thaw := [], skel := [(2003, 3, ⟨[], [0], [], [], true⟩), (2003, 6, ⟨[⟨false, 2, 0, none, false⟩, ⟨false, 3, 0, none, false⟩], [0], [0, 3, 2], [], true⟩)] }
def t131 : Tree := (.prim (.agg 5 (tv 0))
(.call 163 [(tp 1 0)]
(.prim (.cont false 1 (tv 2))
(.prim (.isnil (tv 2))
(.prim (.lenc 1 (.var 3))
(.prim (.bin .sub 3 (tv 5) (tn 1))
(.join 0
(.loop 1 [(tn 0), (tv 6), (tv 3)]
(.prim (.bin .lss 3 (tv 7) (tv 8))
(.ite (.var 10)
(.prim (.chk 1 (.var 9) (tv 8))
(.prim (.get 1 0 1 (.var 9) (.var 11))
(.prim (.chk 1 (.var 9) (tv 7))
(.prim (.get 1 0 1 (.var 9) (.var 13))
(.prim (.chk 1 (.var 9) (tv 7))
(.prim (.put 1 0 (.var 9) (.var 15) [(tp 12 0)])
(.prim (.chk 1 (.var 16) (tv 8))
(.prim (.put 1 0 (.var 16) (.var 17) [(tp 14 0)])
(.prim (.bin .add 3 (tv 7) (tn 1))
(.prim (.bin .sub 3 (tv 8) (tn 1))
(.jump 1 [(tv 19), (tv 20), (tv 18)])))))))))))
(.jump 0 [(tv 9)]))))
(.prim (.frz 1 (.dyn (.var 4)) (.var 7))
(.ret (.agg [(tv 8), (tp 1 2), (tp 1 1), (tp 1 3), (tp 1 4)]))))))))))
theorem t131_ok : compFun (x131 Tryz.prog) w131 131 = .ok t131 := by kernel_rfl
theorem k131 : TreeOk Tryz.prog 23 ⟨11, some 86, some 87⟩ ownT 131 t131 (x131 Tryz.prog) w131 Tryz.f131 := ⟨rfl, rfl, rfl, (fun g r h => by simp only [x131, findOr] at h; split at h <;> cases h; rename_i e; subst e; rfl), by kernel_rfl, by decide, rfl, t131_ok⟩
def x150 (P : Program) : Ctx := { P := P, inl := [85, 75, 76, 100, 101, 127, 128, 129, 164], own := [], ownc := [], ownr := [], diceT := 23, diceNew := ⟨11, (some 86), (some 87)⟩ }
def w150 : Hints := { sites := [], np := [(76, 6, 18), (164, 3, 12)], thaw := [], skel := [] }
def t150 : Tree := (.prim (.bin .neq 3 (tv 0) (tv 0))
(.ret (tv 1)))
theorem t150_ok : compFun (x150 Tryz.prog) w150 150 = .ok t150 := by kernel_rfl
theorem k150 : TreeOk Tryz.prog 23 ⟨11, some 86, some 87⟩ ownT 150 t150 (x150 Tryz.prog) w150 Tryz.f150 := ⟨rfl, rfl, rfl, (fun g r h => by cases h), by kernel_rfl, by decide, rfl, t150_ok⟩
def x151 (P : Program) : Ctx := { P := P, inl := [85, 75, 76, 100, 101, 127, 128, 129, 164], own := [], ownc := [], ownr := [], diceT := 23, diceNew := ⟨11, (some 86), (some 87)⟩ }
def w151 : Hints := { sites := [], np := [(76, 6, 18), (164, 3, 12)], thaw := [], skel := [(0, 6, ⟨[⟨false, 6, 0, none, false⟩], [], [6], [], false⟩)] }
def t151 : Tree := (.join 0
(.prim (.bin .sub 3 (tv 0) (tv 1))
(.prim (.bin .leq 3 (tv 3) (tv 2))
(.ite (.var 4)
(.prim (.bin .sub 3 (tv 1) (tv 0))
(.prim (.bin .leq 3 (tv 5) (tv 2))
(.jump 0 [(tv 6)])))
(.jump 0 [(.e (.cst (.bool false)))]))))
(.ret (tv 3)))
theorem t151_ok : compFun (x151 Tryz.prog) w151 151 = .ok t151 := by kernel_rfl
theorem k151 : TreeOk Tryz.prog 23 ⟨11, some 86, some 87⟩ ownT 151 t151 (x151 Tryz.prog) w151 Tryz.f151 := ⟨rfl, rfl, rfl, (fun g r h => by cases h), by kernel_rfl, by decide, rfl, t151_ok⟩
def x163 (P : Program) : Ctx := { P := P, inl := [85, 75, 76, 100, 101, 127, 128, 129, 164], own := [(0, 5)], ownc := [], ownr := [], diceT := 23, diceNew := ⟨11, (some 86), (some 87)⟩ }
def w163 : Hints := { sites := [], np := [(76, 6, 18), (164, 3, 12)], thaw := [], skel := [] }
def t163 : Tree := (.prim (.bin .eql 22 (tv 0) (.e (.cst .snil)))
(.ite (.var 1)
(.ret (.e (.cst .snil)))
(.prim (.lst [])
(.prim (.push 1 8 (.var 2) (tv 0))
(.prim (.frz 1 .real (.var 3))
(.ret (tv 4)))))))
theorem t163_ok : compFunO (x163 Tryz.prog) w163 none 163 = .ok t163 := by kernel_rfl
theorem k163 : TreeOk Tryz.prog 23 ⟨11, some 86, some 87⟩ ownT 163 t163 (x163 Tryz.prog) w163 Tryz.f163 := ⟨rfl, rfl, rfl, (fun g r h => by cases h), by kernel_rfl, by decide, rfl, t163_ok⟩
end Go.Proofs.YtlminnpaeaganaaGreat
