/- Part of the proof of RuleBeside. No condition. -/
import Derived.Test.YtlminnpaeaganaaGreatProg
import Derived.Conc.LeavingOf
import Derived.Test.YtlminnpaeaganaaGreatMBesideAG
import Derived.Test.YtlminnpaeaganaaGreatMBesideAK
import Derived.Test.YtlminnpaeaganaaGreatMBesideAN
import Derived.Test.YtlminnpaeaganaaGreatMBesideAP
import Derived.Test.YtlminnpaeaganaaGreatMBesideAU
namespace Go.Proofs.YtlminnpaeaganaaGreat
set_option maxRecDepth 100000
set_option linter.all false
section
open Go Go.RowKit
@[simp]def iy(i:Nat):aS:=.agg [.e (.proj (.var i) 0),.e (.proj (.var i) 1)]
@[simp]def jC(i:Nat):aS:=.agg [.e (.proj (.var i) 0),.e (.proj (.var i) 1),.e (.proj (.var i) 2)]
@[simp]def k0(i:Nat):aS:=.agg [.e (.proj (.var i) 0),.e (.proj (.var i) 1),.e (.proj (.var i) 2),.e (.proj (.var i) 3),.e (.proj (.var i) 4)]
def t9:Tree:=.av (.ints (ag 0)) (.call 12 [.e (.bu (.ptr 0 0)),aM 2] (.av (.agg 2 (ag 2)) (.call 13 [.e (.bu (.ptr 0 0)),iy 3] (.call 13 [.e (.bu (.ptr 0 0)),iy 3] (.av (.agg 5 (ag 4)) (.av (.agg 5 (ag 5)) (.call 37 [iy 3,k0 6,k0 7] (.av (.ext (ag 8) 0) (.av (.ext (ag 8) 1) (.call 37 [iy 3,k0 7,k0 6] (.av (.ext (ag 11) 0) (.av (.ext (ag 11) 1) (.call 37 [iy 3,k0 6,k0 6] (.av (.ext (ag 14) 0) (.av (.ext (ag 14) 1) (.call 15 [iy 3,k0 6] (.av (.ext (ag 17) 0) (.av (.ext (ag 17) 1) (.join 0 (.av (.bin .neq 32 (ag 10) (aM 0)) (.ite (.var 20) (.jump 0 [.e (.bu (.bool true))]) (.av (.bin .neq 32 (ag 13) (aM 0)) (.ite (.var 21) (.jump 0 [.e (.bu (.bool true))]) (.av (.bin .neq 32 (ag 16) (aM 0)) (.ite (.var 22) (.jump 0 [.e (.bu (.bool true))]) (.av (.bin .neq 32 (ag 19) (aM 0)) (.ite (.var 23) (.jump 0 [.e (.bu (.bool true))]) (.av (.len 22 (ag 9)) (.av (.len 22 (ag 12)) (.av (.bin .neq 3 (ag 24) (ag 25)) (.ite (.var 26) (.jump 0 [.e (.bu (.bool true))]) (.call 17 [ag 15,aM 0] (.av (.bin .geq 3 (ag 27) (aM 0)) (.av (.len 22 (ag 18)) (.av (.bin .gtr 3 (ag 29) (aM 0)) (.av (.bin .neq 4 (ag 28) (ag 30)) (.jump 0 [ag 31])))))))))))))))))) (.ite (.var 20) (.ret (.e (.bu (.bool false)))) (.join 1 (.loop 2 [aM 0] (.av (.len 22 (ag 9)) (.av (.bin .lss 3 (ag 21) (ag 22)) (.ite (.var 23) (.join 3 (.av (.len 22 (ag 12)) (.av (.bin .sub 3 (ag 24) (aM 1)) (.av (.bin .sub 3 (ag 25) (ag 21)) (.av (.row 1 (ag 12) (ag 26)) (.av (.row 1 (ag 9) (ag 21)) (.av (.un .neg (aD 28 0)) (.av (.bin .neq 3 (aD 27 0) (ag 29)) (.ite (.var 30) (.jump 3 [.e (.bu (.bool true))]) (.av (.bin .gtr 3 (ag 21) (aM 0)) (.ite (.var 31) (.av (.row 1 (ag 9) (ag 21)) (.av (.bin .sub 3 (ag 21) (aM 1)) (.av (.row 1 (ag 9) (ag 33)) (.av (.bin .leq 3 (aD 32 0) (aD 34 0)) (.ite (.var 35) (.jump 3 [.e (.bu (.bool true))]) (.av (.row 1 (ag 9) (ag 21)) (.av (.len 22 (aD 7 0)) (.av (.un .neg (ag 37)) (.av (.bin .lss 3 (aD 36 0) (ag 38)) (.ite (.var 39) (.jump 3 [.e (.bu (.bool true))]) (.av (.row 1 (ag 9) (ag 21)) (.av (.len 22 (aD 6 0)) (.av (.bin .gtr 3 (aD 40 0) (ag 41)) (.jump 3 [ag 42])))))))))))))) (.av (.row 1 (ag 9) (ag 21)) (.av (.len 22 (aD 7 0)) (.av (.un .neg (ag 33)) (.av (.bin .lss 3 (aD 32 0) (ag 34)) (.ite (.var 35) (.jump 3 [.e (.bu (.bool true))]) (.av (.row 1 (ag 9) (ag 21)) (.av (.len 22 (aD 6 0)) (.av (.bin .gtr 3 (aD 36 0) (ag 37)) (.jump 3 [ag 38]))))))))))))))))))) (.ite (.var 24) (.ret (.e (.bu (.bool false)))) (.av (.bin .add 3 (ag 21) (aM 1)) (.jump 2 [ag 25])))) (.jump 1 []))))) (.call 20 [] (.ret (ag 21))))))))))))))))))))))))
def t12:Tree:=.call 23 [.e (.bu (.ptr 0 0)),aM 3] (.av (.one (ag 2)) (.call 51 [.e (.bu (.ptr 0 0)),.lit 1 4 [aM 0,aM 1,aM 1,ag 3]] (.av (.one (ag 4)) (.call 52 [.e (.bu (.ptr 0 0)),aM 1,ag 1] (.join 0 (.loop 1 [ag 6,.e (.bu (.agg []))] (.av (.bin .gtr 3 (ag 7) (aM 0)) (.ite (.var 9) (.call 30 [.e (.bu (.ptr 0 0))] (.av (.agg 3 (ag 10)) (.av (.push 3 40 (.var 8) (.lit 3 1 [aD 11 0,aD 11 1,aD 11 2])) (.av (.bin .sub 3 (ag 7) (aM 1)) (.jump 1 [ag 13,ag 12]))))) (.jump 0 [ag 8])))) (.av (.bK 3 .cZ (.var 7)) (.ret (.agg [ag 5,ag 8]))))))))
def t13:Tree:=.av (.agg 2 (ag 1)) (.av (.len 25 (aD 2 1)) (.av (.bin .sub 3 (ag 3) (aM 1)) (.call 23 [.e (.bu (.ptr 0 0)),ag 4] (.av (.row 3 (aD 2 1) (ag 5)) (.av (.bin .sub 3 (aD 6 1) (aM 1)) (.call 23 [.e (.bu (.ptr 0 0)),ag 7] (.av (.bin .sub 3 (aD 6 1) (aM 1)) (.call 51 [.e (.bu (.ptr 0 0)),.lit 1 3 [aM 1,aM 2,aM 5]] (.call 23 [.e (.bu (.ptr 0 0)),ag 10] (.av (.bin .add 3 (ag 8) (ag 11)) (.av (.iz false [ag 9,ag 12]) (.call 54 [.e (.bu (.ptr 0 0)),jC 6,ag 8,ag 13] (.call 53 [.e (.bu (.ptr 0 0)),ag 14,aD 2 0] (.av (.agg 5 (ag 15)) (.av (.cont true 1 (aD 16 0)) (.call 55 [.e (.bu (.ptr 0 0)),aM 3] (.join 0 (.ite (.var 18) (.jump 0 [aM 0,aM 0]) (.jump 0 [aD 16 1,aD 16 2])) (.join 1 (.av (.oG 1 (.var 17)) (.av (.bin .gtr 3 (ag 21) (aM 0)) (.ite (.var 22) (.call 55 [.e (.bu (.ptr 0 0)),aM 4] (.jump 1 [ag 23])) (.jump 1 [.e (.bu (.bool false))])))) (.join 2 (.ite (.var 21) (.av (.oG 1 (.var 17)) (.av (.bin .sub 3 (ag 22) (aM 1)) (.call 23 [.e (.bu (.ptr 0 0)),ag 23] (.call 52 [.e (.bu (.ptr 0 0)),aM 1,aM 12] (.av (.kX 1 (.var 17) (ag 24)) (.av (.one (ag 25)) (.av (.put 1 0 (.var 17) (.var 26) [ag 27]) (.jump 2 [ag 28])))))))) (.jump 2 [ag 17])) (.call 55 [.e (.bu (.ptr 0 0)),aM 3] (.av (.one (ag 23)) (.av (.bK 1 .real (.var 22)) (.ret (.agg [ag 25,ag 19,ag 20,aD 16 3,ag 24]))))))))))))))))))))))))
def t15:Tree:=.av (.agg 2 (ag 0)) (.av (.agg 5 (ag 1)) (.call 56 [iy 2,.e (.bu .bC),.lit 5 1 [aD 3 0,aD 3 1,aD 3 2,aD 3 3,aD 3 4]] (.av (.ext (ag 4) 0) (.av (.ext (ag 4) 1) (.av (.agg 2 (ag 5)) (.av (.bin .neq 32 (ag 6) (aM 0)) (.ite (.var 8) (.ret (.bD [.e (.bu .bC),ag 6])) (.call 58 [iy 7,k0 3] (.ret (.bD [ag 9,aM 0]))))))))))
def t17:Tree:=.join 0 (.loop 1 [aM 0] (.join 2 (.av (.len 22 (ag 0)) (.av (.bin .lss 3 (ag 2) (ag 3)) (.ite (.var 4) (.av (.row 1 (ag 0) (ag 2)) (.av (.bin .neq 3 (aD 5 0) (ag 1)) (.jump 2 [ag 6]))) (.jump 2 [.e (.bu (.bool false))])))) (.ite (.var 3) (.av (.bin .add 3 (ag 2) (aM 1)) (.jump 1 [ag 4])) (.jump 0 [ag 2])))) (.av (.len 22 (ag 0)) (.av (.bin .eql 3 (ag 2) (ag 3)) (.ite (.var 4) (.ret (aM (-1))) (.ret (ag 2)))))
def t23:Tree:=.av (.bin .leq 3 (ag 1) (aM 0)) (.ite (.var 2) (.ret (aM 0)) (.call 62 [.e (.bu (.ptr 0 0))] (.av (.bin .add 3 (ag 1) (aM 1)) (.av (.conv 3 83 (ag 4)) (.av (.bin .mul 83 (ag 3) (ag 5)) (.av (.bin .shr 83 (ag 6) (.e (.bu (.int .u64 32)))) (.av (.conv 83 3 (ag 7)) (.ret (ag 8)))))))))
def t30:Tree:=.call 51 [.e (.bu (.ptr 0 0)),.lit 1 3 [aM 6,aM 9,aM 12]] (.call 52 [.e (.bu (.ptr 0 0)),aM 2,ag 1] (.call 52 [.e (.bu (.ptr 0 0)),aM 1,aM 60] (.av (.one (ag 3)) (.call 51 [.e (.bu (.ptr 0 0)),.lit 1 4 [aM 30,aM 32,aM 40,ag 4]] (.av (.one (ag 2)) (.av (.one (ag 5)) (.call 52 [.e (.bu (.ptr 0 0)),aM 1,aM 3] (.join 0 (.loop 1 [ag 8,.e (.bu (.agg []))] (.av (.bin .gtr 3 (ag 9) (aM 0)) (.ite (.var 11) (.call 52 [.e (.bu (.ptr 0 0)),aM 5,aM 9] (.call 52 [.e (.bu (.ptr 0 0)),aM 5,aM 9] (.call 52 [.e (.bu (.ptr 0 0)),aM 2,aM 20] (.av (.one (ag 12)) (.av (.one (ag 13)) (.av (.one (ag 14)) (.call 51 [.e (.bu (.ptr 0 0)),.lit 1 3 [ag 15,ag 16,ag 17]] (.av (.one (ag 18)) (.av (.push 1 8 (.var 10) (.lit 1 1 [ag 19])) (.av (.bin .sub 3 (ag 9) (aM 1)) (.jump 1 [ag 21,ag 20]))))))))))) (.jump 0 [ag 10])))) (.av (.bK 1 .cZ (.var 9)) (.ret (.agg [ag 10,ag 6,ag 7])))))))))))
def t37:Tree:=.av (.agg 2 (ag 0)) (.av (.agg 5 (ag 1)) (.av (.agg 5 (ag 2)) (.call 56 [iy 3,.e (.bu .bC),.lit 5 2 [aD 4 0,aD 4 1,aD 4 2,aD 4 3,aD 4 4,aD 5 0,aD 5 1,aD 5 2,aD 5 3,aD 5 4]] (.av (.ext (ag 6) 0) (.av (.ext (ag 6) 1) (.av (.agg 2 (ag 7)) (.av (.bin .neq 32 (ag 8) (aM 0)) (.ite (.var 10) (.ret (.bD [.e (.bu .bC),ag 8])) (.av (.len 25 (aD 9 1)) (.join 0 (.loop 1 [aM 0,.e (.bu (.agg []))] (.av (.bin .lss 3 (ag 12) (ag 11)) (.ite (.var 14) (.call 57 [iy 9,ag 12,k0 5] (.call 57 [iy 9,ag 12,k0 4] (.av (.len 38 (ag 16)) (.join 2 (.loop 3 [aM 0,ag 13] (.av (.bin .lss 3 (ag 18) (ag 17)) (.ite (.var 20) (.av (.row 2 (ag 16) (ag 18)) (.av (.len 38 (ag 15)) (.join 4 (.loop 5 [aM 0,ag 19] (.av (.bin .lss 3 (ag 23) (ag 22)) (.ite (.var 25) (.av (.row 2 (ag 15) (ag 23)) (.join 6 (.av (.len 22 (aD 5 0)) (.av (.bin .add 3 (aD 26 0) (ag 27)) (.av (.bin .leq 3 (aD 21 0) (ag 28)) (.ite (.var 29) (.av (.len 22 (aD 4 0)) (.av (.bin .add 3 (aD 21 0) (ag 30)) (.av (.bin .leq 3 (aD 26 0) (ag 31)) (.jump 6 [ag 32])))) (.jump 6 [.e (.bu (.bool false))]))))) (.join 7 (.ite (.var 27) (.av (.bin .sub 3 (aD 26 0) (aD 21 0)) (.av (.push 1 8 (.var 24) (.lit 1 1 [ag 28])) (.jump 7 [ag 29]))) (.jump 7 [ag 24])) (.av (.bin .add 3 (ag 23) (aM 1)) (.jump 5 [ag 29,ag 28]))))) (.jump 4 [ag 24])))) (.av (.bin .add 3 (ag 18) (aM 1)) (.jump 3 [ag 24,ag 23]))))) (.jump 2 [ag 19])))) (.av (.bin .add 3 (ag 12) (aM 1)) (.jump 1 [ag 19,ag 18])))))) (.jump 0 [ag 13])))) (.av (.qz (.var 12)) (.av (.qA .cZ (.var 13)) (.ret (.bD [ag 14,aM 0]))))))))))))))
def t41:Tree:=.av (.agg 2 (ag 0)) (.call 88 [aD 1 0,aM 0,aM 3] (.av (.un .not (ag 2)) (.ite (.var 3) (.ret (aM 1)) (.av (.len 25 (aD 1 1)) (.call 89 [ag 4,aM 4] (.av (.bin .neq 32 (ag 5) (aM 0)) (.ite (.var 6) (.ret (ag 5)) (.av (.len 25 (aD 1 1)) (.join 0 (.loop 1 [aM 0] (.av (.bin .lss 3 (ag 8) (ag 7)) (.ite (.var 9) (.av (.row 3 (aD 1 1) (ag 8)) (.call 90 [jC 10] (.av (.bin .neq 32 (ag 11) (aM 0)) (.ite (.var 12) (.ret (ag 11)) (.av (.bin .add 3 (ag 8) (aM 1)) (.jump 1 [ag 13])))))) (.jump 0 [])))) (.ret (aM 0)))))))))))
def t51:Tree:=.av (.len 22 (ag 1)) (.av (.bin .sub 3 (ag 2) (aM 1)) (.call 23 [.e (.bu (.ptr 0 0)),ag 3] (.av (.row 1 (ag 1) (ag 4)) (.ret (aD 5 0)))))
def t52:Tree:=.av (.bin .sub 3 (ag 2) (ag 1)) (.call 23 [.e (.bu (.ptr 0 0)),ag 3] (.av (.bin .add 3 (ag 1) (ag 4)) (.ret (ag 5))))
def t53:Tree:=.av (.agg 5 (ag 1)) (.av (.len 22 (aD 3 0)) (.av (.mk [.int .i64 0] 8 (ag 4)) (.join 0 (.loop 1 [aM 0,ag 5] (.av (.len 22 (aD 3 0)) (.av (.bin .lss 3 (ag 6) (ag 8)) (.ite (.var 9) (.av (.row 1 (aD 3 0) (ag 6)) (.av (.kX 1 (.var 7) (ag 6)) (.av (.put 1 0 (.var 7) (.var 11) [aD 10 0]) (.av (.bin .add 3 (ag 6) (aM 1)) (.jump 1 [ag 13,ag 12]))))) (.jump 0 [ag 7]))))) (.join 1 (.loop 2 [aM 0,ag 6] (.av (.oG 1 (.var 8)) (.av (.bin .lss 3 (ag 7) (ag 9)) (.ite (.var 10) (.av (.kX 1 (.var 8) (ag 7)) (.av (.get 1 0 1 (.var 8) (.var 11)) (.call 97 [.e (.bu (.ptr 0 0)),aD 12 0,ag 2,aM 1,aM 30] (.av (.kX 1 (.var 8) (ag 7)) (.av (.one (ag 13)) (.av (.put 1 0 (.var 8) (.var 14) [ag 15]) (.av (.bin .add 3 (ag 7) (aM 1)) (.jump 2 [ag 17,ag 16])))))))) (.jump 1 [ag 8]))))) (.call 97 [.e (.bu (.ptr 0 0)),aD 3 1,ag 2,aM 0,aM 30] (.call 97 [.e (.bu (.ptr 0 0)),aD 3 2,ag 2,aM 0,aM 30] (.av (.one (ag 8)) (.av (.one (ag 9)) (.av (.bin .gtr 3 (aD 3 3) (aM 0)) (.join 2 (.ite (.var 12) (.call 97 [.e (.bu (.ptr 0 0)),aD 3 3,ag 2,aM 1,aM 60] (.av (.one (ag 13)) (.jump 2 [ag 14]))) (.jump 2 [aD 3 3])) (.av (.bK 1 .real (.var 7)) (.ret (.agg [ag 14,ag 10,ag 11,ag 13,aD 3 4])))))))))))))
def t54:Tree:=.av (.agg 3 (ag 1)) (.join 0 (.loop 1 [ag 2,.e (.bu (.agg []))] (.av (.bin .lss 3 (ag 5) (ag 3)) (.ite (.var 7) (.call 98 [jC 4,ag 5] (.av (.one (ag 8)) (.av (.push 1 8 (.var 6) (.lit 1 1 [ag 9])) (.av (.bin .add 3 (ag 5) (aM 1)) (.jump 1 [ag 11,ag 10]))))) (.jump 0 [ag 6])))) (.call 23 [.e (.bu (.ptr 0 0)),aM 30] (.call 23 [.e (.bu (.ptr 0 0)),aM 30] (.av (.one (ag 6)) (.av (.one (ag 7)) (.av (.bin .gtr 3 (ag 2) (aM 0)) (.join 1 (.ite (.var 10) (.av (.bin .sub 3 (ag 2) (aM 1)) (.call 98 [jC 4,ag 11] (.av (.bin .sub 3 (ag 12) (aM 1)) (.call 23 [.e (.bu (.ptr 0 0)),ag 13] (.av (.one (ag 14)) (.jump 1 [ag 15])))))) (.jump 1 [ag 8])) (.av (.bin .sub 3 (aD 4 1) (aM 1)) (.av (.bin .lss 3 (ag 3) (ag 12)) (.join 2 (.ite (.var 13) (.call 98 [jC 4,ag 3] (.av (.bin .sub 3 (ag 14) (aM 1)) (.call 23 [.e (.bu (.ptr 0 0)),ag 15] (.av (.one (ag 16)) (.jump 2 [ag 17]))))) (.jump 2 [ag 9])) (.call 51 [.e (.bu (.ptr 0 0)),.lit 1 2 [aM 0,aD 4 2]] (.av (.one (ag 15)) (.av (.bK 1 .cZ (.var 5)) (.ret (.agg [ag 17,ag 11,ag 14,ag 16,.e (.bu (.bool false))])))))))))))))))
def t55:Tree:=.av (.bin .sub 3 (ag 1) (aM 1)) (.call 23 [.e (.bu (.ptr 0 0)),ag 2] (.av (.bin .quo 3 (ag 1) (aM 2)) (.av (.bin .eql 3 (ag 3) (ag 4)) (.ret (ag 5)))))
def t56:Tree:=.av (.agg 2 (ag 0)) (.call 41 [iy 3] (.av (.bin .neq 32 (ag 4) (aM 0)) (.ite (.var 5) (.ret (.bD [.agg [aM 0,.e (.bu .bC)],ag 4])) (.av (.len 22 (ag 1)) (.join 0 (.loop 1 [aM 0] (.av (.bin .lss 3 (ag 7) (ag 6)) (.ite (.var 8) (.av (.row 1 (ag 1) (ag 7)) (.av (.len 25 (aD 3 1)) (.av (.bin .sub 3 (ag 10) (aM 1)) (.call 88 [aD 9 0,aM 0,ag 11] (.av (.un .not (ag 12)) (.ite (.var 13) (.ret (.bD [.agg [aM 0,.e (.bu .bC)],aM 3])) (.av (.bin .add 3 (ag 7) (aM 1)) (.jump 1 [ag 14])))))))) (.jump 0 [])))) (.av (.len 47 (ag 2)) (.join 1 (.loop 2 [aM 0] (.av (.bin .lss 3 (ag 8) (ag 7)) (.ite (.var 9) (.av (.row 5 (ag 2) (ag 8)) (.call 99 [k0 10] (.av (.bin .neq 32 (ag 11) (aM 0)) (.ite (.var 12) (.ret (.bD [.agg [aM 0,.e (.bu .bC)],ag 11])) (.av (.bin .add 3 (ag 8) (aM 1)) (.jump 2 [ag 13])))))) (.jump 1 [])))) (.ret (.bD [iy 3,aM 0])))))))))
def t57:Tree:=.av (.agg 2 (ag 0)) (.av (.agg 5 (ag 2)) (.call 91 [aD 3 0] (.av (.row 3 (aD 3 1) (ag 1)) (.av (.agg 2 (ag 5)) (.join 0 (.join 1 (.join 2 (.loop 3 [aM 0,.e (.bu (.agg []))] (.av (.bin .lss 3 (ag 8) (aD 6 1)) (.ite (.var 10) (.join 4 (.call 130 [iy 7,jC 6,k0 4,ag 8,.e (.bu (.int .u8 0))] (.ite (.var 11) (.av (.one (ag 8)) (.av (.push 2 16 (.var 9) (.lit 2 1 [ag 12,.e (.bu (.bool false))])) (.jump 4 [.e (.bu (.bool false)),ag 13]))) (.jump 4 [.e (.bu (.bool false)),ag 9]))) (.ite (.var 11) (.jump 1 [.e (.bu (.bool true)),ag 12]) (.av (.bin .add 3 (ag 8) (aM 1)) (.jump 3 [ag 13,ag 12])))) (.jump 2 [ag 9])))) (.av (.un .not (aD 4 4)) (.jump 1 [ag 9,ag 8]))) (.ite (.var 8) (.jump 0 [ag 9]) (.av (.len 22 (aD 4 0)) (.join 2 (.loop 3 [.e (.bu (.int .u8 0)),aM 0] (.av (.bin .lss 3 (ag 12) (ag 10)) (.ite (.var 13) (.call 123 [.e (.bu (.int .u8 0)),ag 12] (.join 4 (.ite (.var 14) (.av (.len 22 (aD 4 0)) (.av (.bin .sub 3 (ag 15) (aM 1)) (.av (.bin .sub 3 (ag 16) (ag 12)) (.av (.bin .shl 130 (.e (.bu (.int .u8 1))) (ag 17)) (.av (.bin .or 130 (ag 11) (ag 18)) (.jump 4 [ag 19])))))) (.jump 4 [ag 11])) (.av (.bin .add 3 (ag 12) (aM 1)) (.jump 3 [ag 15,ag 16])))) (.jump 2 [ag 11])))) (.call 131 [k0 4] (.av (.agg 5 (ag 12)) (.join 3 (.loop 4 [aM 0,ag 9] (.av (.bin .lss 3 (ag 14) (aD 6 1)) (.ite (.var 16) (.join 5 (.call 130 [iy 7,jC 6,k0 13,ag 14,ag 11] (.ite (.var 17) (.av (.one (ag 14)) (.av (.push 2 16 (.var 15) (.lit 2 1 [ag 18,.e (.bu (.bool true))])) (.jump 5 [.e (.bu (.bool false)),ag 19]))) (.jump 5 [.e (.bu (.bool false)),ag 15]))) (.ite (.var 17) (.jump 0 [ag 18]) (.av (.bin .add 3 (ag 14) (aM 1)) (.jump 4 [ag 19,ag 18])))) (.jump 3 [ag 15])))) (.jump 0 [ag 14])))))))) (.av (.bK 2 .cZ (.var 8)) (.ret (ag 9))))))))
def t88:Tree:=.join 0 (.av (.bin .leq 3 (ag 1) (ag 0)) (.ite (.var 3) (.av (.bin .leq 3 (ag 0) (ag 2)) (.jump 0 [ag 4])) (.jump 0 [.e (.bu (.bool false))]))) (.ret (ag 3))
def t89:Tree:=.av (.bin .lss 3 (ag 0) (aM 1)) (.ite (.var 2) (.ret (aM 7)) (.av (.bin .gtr 3 (ag 0) (ag 1)) (.ite (.var 3) (.ret (aM 6)) (.ret (aM 0)))))
def t90:Tree:=.av (.agg 3 (ag 0)) (.av (.len 22 (aD 1 0)) (.call 89 [ag 2,aM 3] (.av (.bin .neq 32 (ag 3) (aM 0)) (.ite (.var 4) (.ret (ag 3)) (.av (.len 22 (aD 1 0)) (.join 0 (.loop 1 [aM 0] (.av (.bin .lss 3 (ag 6) (ag 5)) (.ite (.var 7) (.av (.row 1 (aD 1 0) (ag 6)) (.call 88 [aD 8 0,aM 2,aM 20] (.av (.un .not (ag 9)) (.ite (.var 10) (.ret (aM 1)) (.av (.bin .add 3 (ag 6) (aM 1)) (.jump 1 [ag 11])))))) (.jump 0 [])))) (.join 1 (.call 88 [aD 1 1,aM 2,aM 12] (.av (.un .not (ag 6)) (.ite (.var 7) (.jump 1 [.e (.bu (.bool true))]) (.call 88 [aD 1 2,aM 1,aM 60] (.av (.un .not (ag 8)) (.jump 1 [ag 9])))))) (.ite (.var 6) (.ret (aM 1)) (.ret (aM 0))))))))))
def t91:Tree:=.av (.one (ag 0)) (.ret (.agg [.fn 121 [.ref [ag 1]],.fn 122 [.ref [ag 1]]]))
def t92:Tree:=.av (.agg 2 (ag 0)) (.av (.agg 3 (ag 1)) (.av (.agg 5 (ag 2)) (.av (.one (ag 3)) (.join 0 (.join 1 (.loop 2 [aM 0] (.av (.bin .lss 3 (ag 8) (aD 5 1)) (.ite (.var 9) (.call 130 [iy 4,jC 5,k0 6,ag 8,ag 7] (.ite (.var 10) (.av (.one (ag 8)) (.ret (.e (.bu (.bool true))))) (.av (.bin .add 3 (ag 8) (aM 1)) (.jump 2 [ag 11])))) (.jump 1 [])))) (.av (.un .not (aD 6 4)) (.ite (.var 8) (.jump 0 []) (.av (.len 22 (aD 6 0)) (.join 2 (.loop 3 [.e (.bu (.int .u8 0)),aM 0] (.av (.bin .lss 3 (ag 11) (ag 9)) (.ite (.var 12) (.call 123 [ag 7,ag 11] (.join 4 (.ite (.var 13) (.av (.len 22 (aD 6 0)) (.av (.bin .sub 3 (ag 14) (aM 1)) (.av (.bin .sub 3 (ag 15) (ag 11)) (.av (.bin .shl 130 (.e (.bu (.int .u8 1))) (ag 16)) (.av (.bin .or 130 (ag 10) (ag 17)) (.jump 4 [ag 18])))))) (.jump 4 [ag 10])) (.av (.bin .add 3 (ag 11) (aM 1)) (.jump 3 [ag 14,ag 15])))) (.jump 2 [ag 10])))) (.call 131 [k0 6] (.av (.agg 5 (ag 11)) (.join 3 (.loop 4 [aM 0] (.av (.bin .lss 3 (ag 13) (aD 5 1)) (.ite (.var 14) (.call 130 [iy 4,jC 5,k0 12,ag 13,ag 10] (.ite (.var 15) (.av (.one (ag 13)) (.ret (.e (.bu (.bool true))))) (.av (.bin .add 3 (ag 13) (aM 1)) (.jump 4 [ag 16])))) (.jump 3 [])))) (.jump 0 []))))))))) (.ret (.e (.bu (.bool false))))))))
def t96:Tree:=.av (.agg 3 (ag 0)) (.av (.len 22 (aD 2 0)) (.av (.bin .rem 3 (ag 1) (ag 3)) (.av (.row 1 (aD 2 0) (ag 4)) (.ret (aD 5 0)))))
def t97:Tree:=.av (.un .neg (ag 2)) (.call 52 [.e (.bu (.ptr 0 0)),ag 5,ag 2] (.av (.bin .add 3 (ag 1) (ag 6)) (.av (.iz true [ag 3,ag 7]) (.av (.iz false [ag 4,ag 8]) (.ret (ag 9))))))
def t98:Tree:=.av (.agg 3 (ag 0)) (.av (.len 22 (aD 2 0)) (.call 126 [ag 1,ag 3] (.av (.row 1 (aD 2 0) (ag 4)) (.ret (aD 5 0)))))
def t99:Tree:=.av (.agg 5 (ag 0)) (.av (.len 22 (aD 1 0)) (.av (.bin .gtr 3 (ag 2) (aM 5)) (.ite (.var 3) (.ret (aM 6)) (.av (.len 22 (aD 1 0)) (.join 0 (.loop 1 [aM 0] (.av (.bin .lss 3 (ag 5) (ag 4)) (.ite (.var 6) (.av (.row 1 (aD 1 0) (ag 5)) (.call 88 [aD 7 0,aM 1,aM 30] (.av (.un .not (ag 8)) (.ite (.var 9) (.ret (aM 1)) (.av (.bin .add 3 (ag 5) (aM 1)) (.jump 1 [ag 10])))))) (.jump 0 [])))) (.join 1 (.call 88 [aD 1 1,aM 0,aM 30] (.av (.un .not (ag 5)) (.ite (.var 6) (.jump 1 [.e (.bu (.bool true))]) (.call 88 [aD 1 2,aM 0,aM 30] (.av (.un .not (ag 7)) (.ite (.var 8) (.jump 1 [.e (.bu (.bool true))]) (.call 88 [aD 1 3,aM 0,aM 60] (.av (.un .not (ag 9)) (.jump 1 [ag 10]))))))))) (.ite (.var 5) (.ret (aM 1)) (.ret (aM 0)))))))))
def t121:Tree:=.join 0 (.av (.bin .sub 3 (ag 0) (ag 1)) (.av (.deref 1 (ag 2)) (.av (.bin .leq 3 (ag 3) (aD 4 0)) (.ite (.var 5) (.av (.bin .sub 3 (ag 1) (ag 0)) (.av (.deref 1 (ag 2)) (.av (.bin .leq 3 (ag 6) (aD 7 0)) (.jump 0 [ag 8])))) (.jump 0 [.e (.bu (.bool false))]))))) (.ret (ag 3))
def t122:Tree:=.av (.deref 1 (ag 2)) (.av (.bin .sub 3 (ag 0) (aD 3 0)) (.av (.bin .gtr 3 (ag 1) (ag 4)) (.ret (ag 5))))
def t123:Tree:=.av (.bin .shr 130 (ag 0) (ag 1)) (.av (.bin .and 130 (ag 2) (.e (.bu (.int .u8 1)))) (.av (.bin .eql 130 (ag 3) (.e (.bu (.int .u8 1)))) (.ret (ag 4))))
def t126:Tree:=.av (.bin .rem 3 (ag 0) (ag 1)) (.av (.bin .add 3 (ag 2) (ag 1)) (.av (.bin .rem 3 (ag 3) (ag 1)) (.ret (ag 4))))
def t130:Tree:=.av (.agg 2 (ag 0)) (.av (.agg 3 (ag 1)) (.av (.agg 5 (ag 2)) (.av (.len 22 (aD 7 0)) (.av (.bin .add 3 (ag 3) (ag 8)) (.join 0 (.av (.bin .lss 3 (ag 3) (aM 0)) (.ite (.var 10) (.jump 0 [.e (.bu (.bool true))]) (.av (.bin .sub 3 (aD 6 1) (aM 1)) (.av (.bin .gtr 3 (ag 9) (ag 11)) (.jump 0 [ag 12]))))) (.ite (.var 10) (.ret (.e (.bu (.bool false)))) (.av (.len 22 (aD 7 0)) (.join 1 (.loop 2 [aM 0] (.av (.bin .lss 3 (ag 12) (ag 11)) (.ite (.var 13) (.av (.row 1 (aD 7 0) (ag 12)) (.join 3 (.call 123 [ag 4,ag 12] (.av (.un .not (ag 15)) (.ite (.var 16) (.av (.bin .add 3 (ag 3) (ag 12)) (.call 96 [jC 6,ag 17] (.kL (.proj (.var 5) 0) [aD 14 0,ag 18] (.av (.un .not (ag 19)) (.jump 3 [ag 20]))))) (.jump 3 [.e (.bu (.bool false))])))) (.ite (.var 15) (.ret (.e (.bu (.bool false)))) (.av (.bin .add 3 (ag 12) (aM 1)) (.jump 2 [ag 16]))))) (.jump 1 [])))) (.join 2 (.av (.bin .gtr 3 (ag 3) (aM 0)) (.ite (.var 12) (.av (.bin .sub 3 (ag 3) (aM 1)) (.call 96 [jC 6,ag 13] (.kL (.proj (.var 5) 1) [aD 7 1,ag 14] (.av (.un .not (ag 15)) (.ite (.var 16) (.jump 2 [.e (.bu (.bool true))]) (.av (.bin .sub 3 (aD 6 1) (aM 1)) (.av (.bin .lss 3 (ag 9) (ag 17)) (.ite (.var 18) (.call 96 [jC 6,ag 9] (.kL (.proj (.var 5) 1) [aD 7 2,ag 19] (.av (.un .not (ag 20)) (.jump 2 [ag 21])))) (.jump 2 [.e (.bu (.bool false))]))))))))) (.av (.bin .sub 3 (aD 6 1) (aM 1)) (.av (.bin .lss 3 (ag 9) (ag 13)) (.ite (.var 14) (.call 96 [jC 6,ag 9] (.kL (.proj (.var 5) 1) [aD 7 2,ag 15] (.av (.un .not (ag 16)) (.jump 2 [ag 17])))) (.jump 2 [.e (.bu (.bool false))])))))) (.ite (.var 12) (.ret (.e (.bu (.bool false)))) (.join 3 (.av (.bin .eql 3 (aD 7 3) (aM 0)) (.ite (.var 13) (.jump 3 [.e (.bu (.bool true))]) (.kL (.proj (.var 5) 0) [aD 7 3,aD 6 2] (.jump 3 [ag 14])))) (.ret (ag 13)))))))))))))
def t131:Tree:=.av (.agg 5 (ag 0)) (.call 163 [aD 1 0] (.av (.cont false 1 (ag 2)) (.av (.wZ (ag 2)) (.av (.oG 1 (.var 3)) (.av (.bin .sub 3 (ag 5) (aM 1)) (.join 0 (.loop 1 [aM 0,ag 6,ag 3] (.av (.bin .lss 3 (ag 7) (ag 8)) (.ite (.var 10) (.av (.kX 1 (.var 9) (ag 8)) (.av (.get 1 0 1 (.var 9) (.var 11)) (.av (.kX 1 (.var 9) (ag 7)) (.av (.get 1 0 1 (.var 9) (.var 13)) (.av (.kX 1 (.var 9) (ag 7)) (.av (.put 1 0 (.var 9) (.var 15) [aD 12 0]) (.av (.kX 1 (.var 16) (ag 8)) (.av (.put 1 0 (.var 16) (.var 17) [aD 14 0]) (.av (.bin .add 3 (ag 7) (aM 1)) (.av (.bin .sub 3 (ag 8) (aM 1)) (.jump 1 [ag 19,ag 20,ag 18]))))))))))) (.jump 0 [ag 9])))) (.av (.bK 1 (.dyn (.var 4)) (.var 7)) (.ret (.agg [ag 8,aD 1 2,aD 1 1,aD 1 3,aD 1 4])))))))))
def t163:Tree:=.av (.bin .eql 22 (ag 0) (.e (.bu .bC))) (.ite (.var 1) (.ret (.e (.bu .bC))) (.av (.j2 []) (.av (.push 1 8 (.var 2) (ag 0)) (.av (.bK 1 .real (.var 3)) (.ret (ag 4))))))
namespace PP
def t58:Tree:=.join 0 (.jump 0 []) (.av (.deref 4 (ag 5)) (.join 1 (.loop 2 [.e (.bu (.agg [])),aM 0] (.av (.bin .lss 3 (ag 8) (aM 4)) (.ite (.var 9) (.av (.idx 142 (.agg [aD 6 0,aD 6 1,aD 6 2,aD 6 3]) (ag 8)) (.join 3 (.ite (.var 10) (.av (.one (ag 8)) (.av (.push 1 8 (.var 7) (.lit 1 1 [ag 11])) (.jump 3 [ag 12]))) (.jump 3 [ag 7])) (.av (.bin .add 3 (ag 8) (aM 1)) (.jump 2 [ag 11,ag 12])))) (.jump 1 [ag 7])))) (.av (.bK 1 .cZ (.var 7)) (.ret (ag 8)))))
def t103:Tree:=.join 0 (.jump 0 []) (.av (.deref 1 (ag 2)) (.av (.deref 2 (ag 1)) (.call 91 [aD 6 0] (.av (.deref 2 (ag 1)) (.av (.deref 1 (ag 2)) (.av (.row 3 (aD 8 1) (aD 9 0)) (.av (.deref 5 (ag 3)) (.call 92 [ag 7,jC 10,k0 11,.e (.bu (.int .u8 0))] (.ret (.bD [ag 12,aD 5 0]))))))))))
end PP
end
namespace PP
open Go Go.RowKit
variable[cQ]
def pn(l:List aa):Prop:=False
def nU:b2->FuncId->List aa->Option aa:=λ_ _ _=>none
theorem yi:jq cl pn nU:=⟨λg args h=>(by have:=h gP;cases this),λω g args v h=>(by cases h),λω g args v h=>(by cases h)⟩
theorem adL:(cl.funcs[9999]?).isSome=false:=by kernel_rfl
theorem Rs:mu cl pn ⟨9999,none,none⟩:=⟨λh=>(by rw[adL]at h;cases h),λf h=>(by cases h),λf h=>(by cases h)⟩
end PP
section
open Go Go.RowKit
def UZ:List (Nat×Nat×Nat):=[(9,3,8),(9,13,49),(12,5,5),(13,1,11),(13,3,20),(13,7,10),(16,5,8),(30,5,12),(35,8,3),(45,6,8),(47,9,9),(50,4,13),(50,15,8),(50,17,8),(53,5,11),(53,6,11),(54,5,6),(57,1,11),(76,6,18),(77,5,8),(78,2,5),(78,3,5),(96,1,7),(98,1,7),(103,1,13),(125,1,9),(130,7,13),(130,10,28),(164,3,12)]
def UY:List FuncId:=[85,75,76,100,101,127,128,129,164]
def S4:List x8:=[{g:=91},
 {g:=92,s:=[1005,700027,700027002004,700027002004004012,700027010005,700027010005004012],k:=[ao 0 13 [] [8],ao 700027 125 [ae 7] [7,3,6],ao 700027 250 [ae 7,ae 23] [3,4,6,22,23,7],ao 700027 32051 [ae 7] [3,4,6,22,7,23],ao 700027002004 13 [] [],ao 700027002004 26 [ae 13] [2,5,1,6,3,4,12,13],ao 700027002004004012 13 [] [8],ao 700027010005 13 [] [],ao 700027010005 26 [ae 13] [2,5,1,6,3,4,12,13],ao 700027010005004012 13 [] [8]]},
 {g:=96},
 {g:=121,k:=[ao 0 6 [ae 5] [5]]},
 {g:=122},
 {g:=123},
 {g:=130,k:=[ao 0 28 [ae 27] [27,3,6,5,4,7,11],ao 0 61 [] [6,7,5,11,3],ao 0 122 [ae 31] [3,6,5,4,29,7,11,30,31],ao 0 15666 [ae 51] [51,3,6,5,4,29,7,11,30,31],ao 0 124 [ae 84] [84,6,7,5],ao 0 126 [ae 10] [10]]},
 {g:=131,s:=[2003],k:=[(2003,3,⟨[],[0],[],[],true⟩),(2003,6,⟨[ae 2,ae 3],[0],[0,3,2],[],true⟩)],c:=[(0,1002)],r:=[(163,none,1,false)]},
 {g:=163,o:=[(0,5)]}]
namespace PP
def tj:FuncId->Option (Option (Nat×Nat)):=λg=>if g=58 then some none else if g=163 then some none else none
noncomputable def xW:iN:=⟨cl,⟨9999,none,none⟩,UY,UZ,tj,S4++[{g:=103,k:=[ao 0 2 [] [3,2,1]]},
 {g:=58,k:=[ao 0 2 [] [5],ao 0 29 [⟨false,8,0,some (1,.cZ),false⟩] [8],ao 0 58 [⟨false,8,0,some (1,.cZ),false⟩,ae 23] [22,23,8],ao 0 7475 [⟨false,8,0,some (1,.cZ),false⟩] [22,8,23]]}]⟩
noncomputable def cA(g:FuncId):Option Tree:=xW.cA g
theorem J3:(xW.cA 58).isSome=true:=by kernel_rfl
theorem J4:(xW.cA 163).isSome=true:=by kernel_rfl
theorem EH[cQ]:E2 cl 23 ⟨9999,none,none⟩ tj cA:=xW.S5 (by kernel_rfl) λg r h=>by
 replace h:tj g=some r:=h;unfold tj at h;split at h
 ·rename_i e;subst e;exact J3
 split at h
 ·rename_i e;subst e;exact J4
 cases h
noncomputable def E(P:Program)(k:Nat)(ω:b2)(g:FuncId)(a:List aa):Option aa:=jD P 23 cA nU 4096 k ω g a
theorem IH[cQ](k:Nat):jq cl pn (E cl k):=(C9 (by kernel_rfl) EH yi Rs k).1
end PP
end
section
open Go Go.Conc Go.RowKit
theorem Hg{DI:List aa->Prop}{m:Mem}:∀{l:List aa},(∀p∈l,p.plain=true)->im DI m l l
 |[],_=>rfl
 |p::ps,h=>⟨p,ps,rfl,.inl ⟨rfl,h p (by simp)⟩,Hg λq aH=>h q (by simp[aH])⟩
theorem YY(w:World):c0 iK ⟨λ_=>.hole,0,0,wo w⟩ w:=by
 refine⟨λi hi=>absurd hi (Nat.not_lt_zero i),λ_ _=>rfl,λi b h=>(by cases h),λi j b h=>(by cases h),λi j b h=>(by cases h),λi j b h=>(by cases h),λl o ak=>?_⟩;unfold wo at ak;obtain⟨aG,U,ab⟩:=List.mem_filterMap.1 ak;split at ab
 ·rename_i o' eC;injection ab with ab;injection ab with al aJ;subst al;subst aJ;exact eC
 ·cases ab
theorem YZ{k:Nat}{ah eg:List aa}{i:Nat}{b:Bool}(U:bG ah=true)(ab:bG eg=true)(h:∀ω,PP.E cl k ω 103 [.ca,.bJ none 0 ah,.bJ none 0 [.int .i64 (i:Int)],.bJ none 0 eg,.ca]=some (.bD [.bool b,.int .i64 (i:Int)])):Jd ah eg i b:=by
 intro V ae ip pp k1 bf bP
 letI:=jx
 have ao:=(PP.IH k).zG 103 _ (λω=>by rw[h ω];rfl);have ah:=@Mk jx cl 103 [.ca,.bJ none 0 ah,.bJ none 0 [.int .i64 (i:Int)],.bJ none 0 eg,.ca] [.pointer none,ae,ip,pp,.pointer none] V (λv=>v=.bD [.bool b,.int .i64 (i:Int)]) (λm=>by
  refine @gL.mono jx _ _ _ _ _ _ (ao _ m (Hg λp ae=>?_)) λpv E m' ⟨⟨ω,Ve⟩,_,ej,hm⟩=>⟨?_,ej,hm⟩
  ·simp only[List.mem_cons,List.not_mem_nil,or_false]at ae;rcases ae with rfl|rfl|rfl|rfl|rfl<;>simp[aa.plain,bG,aa.one,U,ab]
  ·rw[h ω]at Ve;exact(Option.some.inj Ve).symm) ⟨_,_,rfl,rfl,_,_,rfl,k1,_,_,rfl,bf,_,_,rfl,bP,_,_,rfl,rfl,rfl⟩
 refine @lb.mono jx _ _ _ _ _ _ ah λe w' ⟨v,pv,bn,he,ai,eW,_⟩=>?_;subst eW;obtain⟨af,rfl,mN,fI,rfl,lv,qD,ei,rfl,dG,ak⟩:=ai;have lv:mN=.bool b:=lv;have dG:qD=.int .i64 (i:Int):=dG;have ak:ei=[]:=ak;subst lv dG ak;exact he
def lS(l:List Nat):aa:=if l.isEmpty then .bC else .sl none 1 0 l.length (l.map λi:Nat=>aa.int .i64 (i:Int))
theorem Rr{bs:Nat->Bool}(ah eg:List aa)(U:bG ah=true)(ab:bG eg=true)(ω:b2):PP.E cl 3 ω 58 [.agg ah,.agg eg,.ca,.ca,.ca,.bJ none 0 [.bool (bs 0),.bool (bs 1),.bool (bs 2),.bool (bs 3)]]=some (lS ((List.range 4).filter bs)):=by
 have gN:dd (flagsOf 23 ta) [.agg ah,.agg eg,.ca,.ca,.ca,.bJ none 0 [.bool (bs 0),.bool (bs 1),.bool (bs 2),.bool (bs 3)]]=true:=by
  have e:flagsOf 23 ta=[false,false,false,false,false,false]:=by kernel_rfl
  rw[e];simp[dd,aa.plain,bG,aa.one,U,ab]
 have ad:(List.range 4).filter bs=(if bs 0 then[0]else[])++((if bs 1 then[1]else[])++((if bs 2 then[2]else[])++(if bs 3 then[3]else[]))):=by
  simp only[List.range,List.range.loop,List.filter];cases bs 0<;>cases bs 1<;>cases bs 2<;>cases bs 3<;>rfl
 have key:eval cl (jD cl 23 PP.cA PP.nU 4096 2) 4096 PP.t58 ω [.agg ah,.agg eg,.ca,.ca,.ca,.bJ none 0 [.bool (bs 0),.bool (bs 1),.bool (bs 2),.bool (bs 3)]]=some (.val (lS ((List.range 4).filter bs))):=by
  rw[ad];generalize bs 0=gf;generalize bs 1=fj;generalize bs 2=gB;generalize bs 3=k2;cases gf<;>cases fj<;>cases gB<;>cases k2<;>kernel_rfl
 have a1:PP.cA 58=some PP.t58:=by kernel_rfl
 have e:∀k args,jD cl 23 PP.cA PP.nU 4096 (k+1) ω 58 args=if dd (flagsOf 23 ta) args=true then match eval cl (jD cl 23 PP.cA PP.nU 4096 k) 4096 PP.t58 ω args with
   |some (.val v)=>if v.plain=true then some v else none
   |_=>none
  else none:=λk args=>by simp only[jD,a1,ID];rfl
 have aO:jD cl 23 PP.cA PP.nU 4096 3 ω 58 [.agg ah,.agg eg,.ca,.ca,.ca,.bJ none 0 [.bool (bs 0),.bool (bs 1),.bool (bs 2),.bool (bs 3)]]=some (lS ((List.range 4).filter bs)):=by
  rw[e 2,if_pos gN];rw[key];dsimp only;rw[if_pos];unfold lS;split
  ·rfl
  ·simp only[aa.plain];generalize(List.range 4).filter bs=l;induction l with
   |nil=>rfl
   |cons a l az=>simp[bG,aa.plain,aa.one,az]
 exact aO
theorem aeF:@wi jx cl PP.pn (PP.E cl 3) 58 none:=(@C9 jx cl _ _ _ _ _ _ _ (by kernel_rfl) (@PP.EH jx) (@PP.yi jx) (@PP.Rs jx) 3).2 58 none rfl
theorem adE:EG:=by
 intro ah eg bs V x1 mN mp U ab oq k1 bf
 letI:=jx
 have hm:c0 iK ⟨λ_=>.hole,0,0,wo V⟩ V:=YY V;have ao:=aeF [.agg ah,.agg eg,.ca,.ca,.ca,.bJ none 0 [.bool (bs 0),.bool (bs 1),.bool (bs 2),.bool (bs 3)]] (λω=>by rw[Rr (bs:=bs) ah eg U ab ω];rfl) [.agg ah,.agg eg,.ca,.ca,.ca,.bJ none 0 [.bool (bs 0),.bool (bs 1),.bool (bs 2),.bool (bs 3)]] ⟨λ_=>.hole,0,0,wo V⟩ (Hg λp ae=>?_) iK [x1,mN,.pointer none,.pointer none,.pointer none,mp] V hm ⟨_,_,rfl,oq,_,_,rfl,k1,_,_,rfl,rfl,_,_,rfl,rfl,_,_,rfl,rfl,_,_,rfl,bf,rfl⟩
 ·refine ao.mono λe w' ⟨v,pv,E,m',bn,he,ai,eX,bh,p,ω,ae,_,ej,e',_,ar⟩=>⟨v,he,?_⟩;rw[Rr (bs:=bs) ah eg U ab ω]at ae;have ae:=(Option.some.inj ae).symm;generalize(List.range 4).filter bs=l at ae;cases l with
  |nil=>
   refine .inl ⟨rfl,?_⟩;subst ae;rcases ar with⟨_,_,_,_,h,_⟩|⟨_,rfl⟩
   ·cases h
   ·exact ai
  |cons i0 fY=>
   refine .inr ⟨by simp,?_⟩;subst ae;rcases ar with⟨sz,len,cs,id,h,rfl,_⟩|⟨h,_⟩
   ·have h:aa.sl none 1 0 (i0::fY).length ((i0::fY).map λi:Nat=>aa.int .i64 (i:Int))=.sl none sz 0 len cs:=h;injection h with _ eD _ a2 a3;subst eD a2 a3;obtain⟨_,a,cap,rfl,lg,bq⟩:=ai;rcases bq with⟨h,_⟩|⟨b,rfl,cD,dA⟩
    ·cases h
    ·obtain⟨au,cur,ety,Fe,_⟩:=cD;refine⟨b,cap,cur,ety,(0,0),?_,lg,rfl,Fe,λk i aq=>?_⟩
     ·refine Nat.le_of_not_lt λhb=>?_;refine(bh.rest b hb (By b) λo FJ=>?_).2 (.inr ⟨_,au⟩);have zd:(b,o)∈m'.rc:=by
       rw[e'];exact List.mem_filterMap.2 ⟨b,List.mem_range.2 hb,by rw[FJ]⟩
      have:=eX.gw b o zd;rw[Fe]at this;cases this
     ·obtain⟨c,ah,ad⟩:=r5.1 dA k (aa.int .i64 ((i:Nat):Int)) (by rw[List.getElem?_map,aq];rfl);have ad:c=Value.int .i64 ((i:Nat):Int):=ad;subst ad;simpa[World.cell?,Fe]using ah
   ·cases h
 ·simp only[List.mem_cons,List.not_mem_nil,or_false]at ae;rcases ae with rfl|rfl|rfl|rfl|rfl|rfl<;>simp[aa.plain,bG,aa.one,U,ab]
end
section
open Go Go.RowKit
variable[cQ]
def JL(r:aa):Prop:=wY r=true
def wH(r:aa):Prop:=r=.bC\/∃off len cs,r=.sl none 1 off len cs/\cs.length=len/\∀c∈cs,∃n,c=.int .i64 n
def pn(l:List aa):Prop:=∃r x,l=[r,.int .u64 x]/\JL r
theorem Ap{r:aa}:JL r↔wH r:=by
 unfold JL wH wY;constructor
 ·intro h;split at h
  ·grind
  ·rename_i off len cs;simp  at h;refine .inr ⟨off,len,cs,rfl,h.1,λc ah=>?_⟩;have:=h.2 c ah;unfold zh at this;grind
  ·cases h
 ·rintro(rfl|⟨off,len,cs,rfl,U,ab⟩)
  ·rfl
  ·simp ;refine⟨U,λc ah=>?_⟩;obtain⟨n,rfl⟩:=ab c ah;rfl
theorem G4{r:aa}(h:wH r):r.plain=true/\r.one=true:=by
 rcases h with rfl|⟨off,len,cs,rfl,_,ah⟩
 ·trivial
 ·refine⟨?_,rfl⟩;refine(hH cs).2 λq aH=>?_;obtain⟨n,rfl⟩:=ah q aH;trivial
section
variable{P:Program}{ops:Array Oper}{o:Oper}{rest:List Oper}{s:aA}{K:aA->Prop}
def Pj(o:Oper):Bool:=match o.op with
 |.buildSlice _ _ _=>false
 |_=>true
theorem eT(v:aa)(aN:o.guard=none)(hb:Pj o=true)(ai:bV P s.m s.ay o=some v)(h:h1 P ops rest (s.put o.dst v) K):h1 P ops (o::rest) s K:=by
 simp only[h1,ld,aN];refine⟨s,dW.refl s,H5 (m0:=s.m) ⟨Nat.le_refl _,λ_ _=>rfl⟩ ai (λt l p e=>?_) h⟩;grind [Pj]
theorem HD{t:TypeId}{x y:Operand}{CG:TypeId}{ps:String}{Gw:Array Edge}{id off:Nat}{v:aa}{l:List aa}(aj:s.ay x=.ptr id off)(ai:s.ay y=v)(cr:id<s.m.n)(hi:(P.info? t).isSome)(ah:P.cellsOf t=1)(U:v.one=true)(iu:v.cells=[v])(fW:s.m.β id=.cells l)(ak:off+1<=l.length)
  (h:h1 P ops rest (s.hq id (fa l off [v])) K):h1 P ops (⟨none,.store t x y,CG,ps,Gw,none⟩::rest) s K:=by
 refine⟨s,dW.refl s,?_⟩;show _=none/\uK P s t (s.ay x) (s.ay y) _;grind [uK]
theorem ab4{t:TypeId}{x:Operand}{d:Option Tmp}{CG:TypeId}{ps:String}{Gw:Array Edge}{l:List aa}(aq:(s.ay x).known=true)(ak:(s.ay x).cells=l)
  (h:h1 P ops rest (s.gu d l) K):h1 P ops (⟨d,.box t x,CG,ps,Gw,none⟩::rest) s K:=by
 refine⟨s,dW.refl s,?_⟩;show(s.ay x).known=true/\h1 P ops rest (s.gu d (s.ay x).cells) K;grind
theorem jm(v:aa)(m0:Mem)(T:l0)(aN:o.guard=none)(hb:hX o=true)(ai:bV P m0 s.ay o=some v)(h:kO P m0 T ops rest (s.put o.dst v) K):kO P m0 T ops (o::rest) s K:=by grind [kO,ld,mY,hX]
end
section
theorem F3(i:Nat):pd Tryz.prog 85 (.ptr i 0) 0=some (.ptr i 0):=by kernel_rfl
theorem xH(i:Nat):pd Tryz.prog 85 (.ptr i 0) 1=some (.ptr i 1):=by kernel_rfl
theorem aif:ik Tryz.prog 22=some false:=by kernel_rfl
theorem aih:ik Tryz.prog 83=some false:=by kernel_rfl
theorem aii:Tryz.prog.cellsOf 22=1:=by kernel_rfl
theorem Un:Tryz.prog.cellsOf 83=1:=by kernel_rfl
theorem Lf:Tryz.prog.cellsOf 3=1:=by kernel_rfl
theorem aij:(Tryz.prog.info? 22).isSome=true:=by kernel_rfl
theorem Uo:(Tryz.prog.info? 83).isSome=true:=by kernel_rfl
theorem Lg:(Tryz.prog.info? 3).isSome=true:=by kernel_rfl
theorem Cc:Tryz.prog.underlying 22=some (.slice 3):=by kernel_rfl
theorem aik:Tryz.prog.underlying 83=some (.int .u64):=by kernel_rfl
theorem ail:Tryz.prog.underlying 3=some (.int .i64):=by kernel_rfl
variable{i:Nat}{m:Mem}{r:aa}{x:Int}
theorem Lh(hm:i<m.n):h0 Tryz.prog { m with β:=ea m.β i (.cells [r,.int .u64 x]) } 22 (.ptr i 0)=some r:=by simp[h0,nW,hm,aif]
theorem Cd(hm:i<m.n):h0 Tryz.prog { m with β:=ea m.β i (.cells [r,.int .u64 x]) } 83 (.ptr i 1)=some (.int .u64 x):=by simp[h0,nW,hm,aih]
theorem gen{P:Program}{c:Code}{s:aA}{Q:eJ->aA->Prop}(F:aA->Prop)(aw:F s)(h:∀s',F s'->ff P c s' Q):ff P c s Q:=h s aw
theorem aav{P:Program}{c:Code}{s:aA}{Q:eJ->aA->Prop}(F:aA->Prop)(h:ff P c s λe s'=>e=.normal/\F s')(gI:∀s',F s'->Q .normal s'):ff P c s Q:=oZ h λe s' ⟨he,ao⟩=>by grind
theorem wrap_u64(n:Int):0<=IntKind.u64.wrap n/\IntKind.u64.wrap n<18446744073709551616:=by grind [IntKind.wrap,IntKind.bits,IntKind.signed]
theorem Aq(β:Nat->di)(i:Nat)(c d:di):ea (ea β i c) i d=ea β i d:=by grind [ea]
theorem ab5(hi:i<m.n)(ad:wH r):gL Tryz.prog 62 [.ptr i 0] { m with β:=ea m.β i (.cells [r,.int .u64 x]) } λv E m'=>(∃n,v=.int .u64 n/\0<=n/\n<4294967296)/\E=[]/\∃bR bk,wH bR/\m'={ m with β:=ea m.β i (.cells [bR,.int .u64 bk]) }:=by
 refine GQ (fn:=Tryz.f62) (by kernel_rfl) rfl (Nat.le_of_ble_eq_true rfl) (by kernel_rfl) (by kernel_rfl) ?_;have ae:(entry [.ptr i 0] { m with β:=ea m.β i (.cells [r,.int .u64 x]) }).g 0=.ptr i 0:=rfl;have hm:(entry [.ptr i 0] { m with β:=ea m.β i (.cells [r,.int .u64 x]) }).m={ m with β:=ea m.β i (.cells [r,.int .u64 x]) }:=rfl;have he:(entry [.ptr i 0] { m with β:=ea m.β i (.cells [r,.int .u64 x]) }).bb=[]:=rfl;generalize entry [.ptr i 0] { m with β:=ea m.β i (.cells [r,.int .u64 x]) }=s at ae hm he;refine o6 (qL ?_);refine eT (.int .u64 0) rfl rfl (by simp[bV,aA.ay,jT]) ?_;refine o6 (qL ?_);refine eT (.int .u64 0) rfl rfl (by simp[bV,aA.ay,jT]) ?_;refine o6 (o6 (qL ?_));refine eT (.ptr i 0) rfl rfl (by simp[bV,aA.ay,ae]) ?_;refine eT (.ptr i 0) rfl rfl (by simp[bV,aA.ay,ae]) ?_;refine eT (.ptr i 0) rfl rfl (by simp[bV,aA.ay,F3]) ?_;refine eT r rfl rfl (by simp[bV,aA.ay,hm,Lh hi]) ?_;have hlen:∃len:Nat,ht Tryz.prog 22 r=some (.int .i64 len)/\(0<len->∃off cs,r=.sl none 1 off len cs/\cs.length=len/\∀c∈cs,∃n,c=.int .i64 n):=by
  rcases ad with rfl|⟨off,len,cs,rfl,U,ab⟩
  ·exact⟨0,by simp[ht,Cc],λh=>absurd h (by omega)⟩
  ·exact⟨len,by simp[ht,Cc],λ_=>⟨off,cs,rfl,U,ab⟩⟩
 obtain⟨len,hlen,hB⟩:=hlen;refine eT (.int .i64 len) rfl rfl (by simp[bV,aA.ay,hlen]) ?_;refine eT (.bool (decide (0<(len:Int)))) rfl rfl (by simp[bV,aA.ay,jT,eB]) ?_;refine gen (λs'=>s'.g 0=.ptr i 0/\s'.m={ m with β:=ea m.β i (.cells [r,.int .u64 x]) }/\s'.bb=[]/\s'.g 3=.int .u64 0/\s'.g 10=.bool (decide (0<(len:Int)))) (by simp[ae,hm,he]) ?_;clear ae hm he s;rintro s ⟨ae,hm,he,al,h7⟩;refine aav (λs'=>∃bR ua,wH bR/\s'.g 0=.ptr i 0/\s'.g 3=.int .u64 ua/\s'.m={ m with β:=ea m.β i (.cells [bR,.int .u64 x]) }/\s'.bb=[]) ?_ ?_
 ·refine AA (decide (0<(len:Int))) (by simp[aA.ay,h7]) ?_;by_cases aU:0<len
  ·rw[if_pos (by simp;omega)];obtain⟨off,cs,rfl,iu,hcs⟩:=hB aU;cases cs with
   |nil=>simp at iu;omega
   |cons c cs=>
    obtain⟨n,rfl⟩:=hcs c (by simp);refine o6 (qL ?_);refine eT (.ptr i 0) rfl rfl (by simp[bV,aA.ay,ae]) ?_;refine eT (.ptr i 0) rfl rfl (by simp[bV,aA.ay]) ?_;refine eT (.ptr i 0) rfl rfl (by simp[bV,aA.ay,F3]) ?_;refine eT (.sl none 1 off len (.int .i64 n::cs)) rfl rfl (by simp[bV,aA.ay,hm,Lh hi]) ?_;refine eT (.bJ none off (.int .i64 n::cs)) rfl rfl (by simp[bV,aA.ay,jT,pT,Cc,Lf,Lg,aU]) ?_;refine eT (.int .i64 n) rfl rfl (by simp[bV,aA.ay,h0,nW,show ik Tryz.prog 3=some false by kernel_rfl]) ?_;refine eT (.int .u64 (IntKind.u64.wrap n)) rfl rfl (by simp[bV,aA.ay,q5,aik,ail]) ?_;refine eT (.int .u64 (IntKind.u64.wrap n)) rfl rfl (by simp[bV,aA.ay]) ?_;refine gen (λs'=>s'.g 0=.ptr i 0/\s'.m={ m with β:=ea m.β i (.cells [.sl none 1 off len (.int .i64 n::cs),.int .u64 x]) }/\s'.bb=[]/\s'.g 3=.int .u64 (IntKind.u64.wrap n)) (by simp[ae,hm,he]) ?_;clear ae hm he al h7 s;rintro s ⟨ae,hm,he,al⟩;have af3:∃bR,p1 Tryz.prog 22 (.sl none 1 off len (.int .i64 n::cs)) (some (.int .i64 1)) none=some bR/\wH bR:=by
     by_cases U:1=len
     ·refine⟨.sl none 1 0 0 [],by simp[p1,Cc,rm,Lf,Lg,←U],.inr ⟨0,0,[],rfl,rfl,by simp⟩⟩
     ·refine⟨.sl none 1 (off+1) (len-1) cs,?_,.inr ⟨off+1,len-1,cs,rfl,by simp at iu;omega,λc ah=>hcs c (by simp[ah])⟩⟩;have:cs.take (len-1)=cs:=List.take_of_length_le (by simp at iu;omega);simp[p1,Cc,rm,Lf,Lg,U,this];omega
    obtain⟨bR,vz,nq⟩:=af3;refine qL ?_;refine eT (.ptr i 0) rfl rfl (by simp[bV,aA.ay,ae]) ?_;refine eT (.ptr i 0) rfl rfl (by simp[bV,aA.ay,ae]) ?_;refine eT (.ptr i 0) rfl rfl (by simp[bV,aA.ay]) ?_;refine eT (.ptr i 0) rfl rfl (by simp[bV,aA.ay,F3]) ?_;refine eT (.sl none 1 off len (.int .i64 n::cs)) rfl rfl (by simp[bV,aA.ay,hm,Lh hi]) ?_;refine eT bR rfl rfl (by simp[bV,aA.ay,jT,vz]) ?_;refine eT (.ptr i 0) rfl rfl (by simp[bV,aA.ay]) ?_;refine eT (.ptr i 0) rfl rfl (by simp[bV,aA.ay,F3]) ?_;refine HD (id:=i) (off:=0) (v:=bR) (l:=[.sl none 1 off len (.int .i64 n::cs),.int .u64 x]) (by simp[aA.ay]) (by simp[aA.ay]) (by simp[hm,hi]) aij aii (G4 nq).2 (by rcases nq with rfl|⟨_,_,_,rfl,_⟩<;>rfl) (by simp[hm]) (by simp) ?_;exact⟨rfl,bR,_,nq,by simp[ae],by simp[al];rfl,by simp[hm,fa,Aq],by simp[he]⟩
  ·rw[if_neg (by simp;omega)];exact OY ⟨rfl,r,0,ad,ae,al,hm,he⟩
 rintro s ⟨bR,ua,ir,ae,al,hm,he⟩;refine o6 (qL ?_);refine eT (.ptr i 0) rfl rfl (by simp[bV,aA.ay,ae]) ?_;refine eT (.ptr i 0) rfl rfl (by simp[bV,aA.ay,ae]) ?_;refine eT (.ptr i 0) rfl rfl (by simp[bV,aA.ay]) ?_;refine eT (.ptr i 1) rfl rfl (by simp[bV,aA.ay,xH]) ?_;refine eT (.int .u64 x) rfl rfl (by simp[bV,aA.ay,hm,Cd hi]) ?_;refine eT (.int .u64 ua) rfl rfl (by simp[bV,aA.ay,al]) ?_;refine eT (.int .u64 (IntKind.u64.wrap (x+ua))) rfl rfl (by simp[bV,aA.ay,eB]) ?_;refine eT (.int .u64 (IntKind.u64.wrap (IntKind.u64.wrap (x+ua)+6364136223846793005))) rfl rfl (by simp[bV,aA.ay,jT,eB]) ?_;generalize IntKind.u64.wrap (IntKind.u64.wrap (x+ua)+6364136223846793005)=mK;refine eT (.int .u64 (IntKind.u64.wrap (mK*15074714826142052245))) rfl rfl (by simp[bV,aA.ay,jT,eB]) ?_;generalize IntKind.u64.wrap (mK*15074714826142052245)=jh;refine eT (.ptr i 0) rfl rfl (by simp[bV,aA.ay]) ?_;refine eT (.ptr i 1) rfl rfl (by simp[bV,aA.ay,xH]) ?_;refine HD (id:=i) (off:=1) (v:=.int .u64 jh) (l:=[bR,.int .u64 x]) (by simp[aA.ay]) (by simp[aA.ay]) (by simp[hm,hi]) Uo Un rfl rfl (by simp[hm]) (by simp) ?_;refine gen (λs'=>s'.g 0=.ptr i 0/\s'.m={ m with β:=ea m.β i (.cells [bR,.int .u64 jh]) }/\s'.bb=[]) (by simp[ae,hm,he,fa,Aq]) ?_;clear ae hm he al s;rintro s ⟨ae,hm,he⟩;refine o6 (H9 (by kernel_rfl) 11 (by kernel_rfl) (λ_ _ _ _ _=>False) ?_);refine jm (.ptr i 0) _ _ rfl rfl (by simp[bV,aA.ay,ae]) ?_;refine jm (.ptr i 0) _ _ rfl rfl (by simp[bV,aA.ay,ae]) ?_;refine jm (.ptr i 0) _ _ rfl rfl (by simp[bV,aA.ay]) ?_;refine jm (.ptr i 1) _ _ rfl rfl (by simp[bV,aA.ay,xH]) ?_;refine jm (.int .u64 jh) _ _ rfl rfl (by simp[bV,aA.ay,hm,Cd hi]) ?_;refine jm (.ptr i 0) _ _ rfl rfl (by simp[bV,aA.ay,ae]) ?_;refine jm (.ptr i 0) _ _ rfl rfl (by simp[bV,aA.ay]) ?_;refine jm (.ptr i 1) _ _ rfl rfl (by simp[bV,aA.ay,xH]) ?_;refine jm (.int .u64 jh) _ _ rfl rfl (by simp[bV,aA.ay,hm,Cd hi]) ?_;refine jm (.int .u64 (jh.fdiv (2^29))) _ _ rfl rfl (by simp[bV,aA.ay,jT,eB,IntKind.bits]) ?_;generalize jh.fdiv (2^29)=vK;refine jm (.int .u64 (bits .xor .u64 jh vK)) _ _ rfl rfl (by simp[bV,aA.ay,eB]) ?_;generalize bits .xor .u64 jh vK=mP;refine eT (.ptr i 0) rfl rfl (by simp[bV,aA.ay]) ?_;refine eT (.ptr i 1) rfl rfl (by simp[bV,aA.ay,xH]) ?_;refine HD (id:=i) (off:=1) (v:=.int .u64 mP) (l:=[bR,.int .u64 jh]) (by simp[aA.ay]) (by simp[aA.ay]) (by simp[hm,hi]) Uo Un rfl rfl (by simp[hm]) (by simp) ?_;refine gen (λs'=>s'.g 0=.ptr i 0/\s'.m={ m with β:=ea m.β i (.cells [bR,.int .u64 mP]) }/\s'.bb=[]) (by simp[ae,hm,he,fa,Aq]) ?_;clear ae hm he s;rintro s ⟨ae,hm,he⟩;refine o6 (H9 (by kernel_rfl) 11 (by kernel_rfl) (λ_ _ _ _ _=>False) ?_);refine jm (.ptr i 0) _ _ rfl rfl (by simp[bV,aA.ay,ae]) ?_;refine jm (.ptr i 0) _ _ rfl rfl (by simp[bV,aA.ay]) ?_;refine jm (.ptr i 1) _ _ rfl rfl (by simp[bV,aA.ay,xH]) ?_;refine jm (.int .u64 mP) _ _ rfl rfl (by simp[bV,aA.ay,hm,Cd hi]) ?_;refine jm (.ptr i 0) _ _ rfl rfl (by simp[bV,aA.ay,ae]) ?_;refine jm (.ptr i 0) _ _ rfl rfl (by simp[bV,aA.ay]) ?_;refine jm (.ptr i 1) _ _ rfl rfl (by simp[bV,aA.ay,xH]) ?_;refine jm (.int .u64 mP) _ _ rfl rfl (by simp[bV,aA.ay,hm,Cd hi]) ?_;refine jm (.int .u64 (mP.fdiv (2^33))) _ _ rfl rfl (by simp[bV,aA.ay,jT,eB,IntKind.bits]) ?_;generalize mP.fdiv (2^33)=Vf;refine jm (.int .u64 (bits .xor .u64 mP Vf)) _ _ rfl rfl (by simp[bV,aA.ay,eB]) ?_;generalize bits .xor .u64 mP Vf=LU;refine jm (.int .u64 (IntKind.u64.wrap (LU*18397679294719823053))) _ _ rfl rfl (by simp[bV,aA.ay,jT,eB]) ?_;have hb:=wrap_u64 (LU*18397679294719823053);generalize IntKind.u64.wrap (LU*18397679294719823053)=vJ at hb;refine eT (.int .u64 vJ) rfl rfl (by simp[bV,aA.ay]) ?_;refine gen (λs'=>s'.g 4=.int .u64 vJ/\s'.m={ m with β:=ea m.β i (.cells [bR,.int .u64 mP]) }/\s'.bb=[]) (by simp[hm,he]) ?_;clear ae hm he s;rintro s ⟨ae,hm,he⟩;refine o6 (qL ?_);refine eT (.int .u64 vJ) rfl rfl (by simp[bV,aA.ay,ae]) ?_;refine eT (.int .u64 (vJ.fdiv (2^32))) rfl rfl (by simp[bV,aA.ay,jT,eB,IntKind.bits]) ?_;refine eT (.int .u64 (vJ.fdiv (2^32))) rfl rfl (by simp[bV,aA.ay]) ?_;refine Iz ⟨.inr rfl,.int .u64 (vJ.fdiv (2^32)),?_,_,_,.inl ⟨rfl,rfl⟩,⟨_,rfl,?_,?_⟩,by simp[he],bR,mP,ir,by simp[hm]⟩
 ·show pt _ _ [.tmp 2]=_;simp[pt,q9,uQ]
 ·rw[Int.fdiv_eq_ediv_of_nonneg _ (by decide)];omega
 ·rw[Int.fdiv_eq_ediv_of_nonneg _ (by decide)];omega
theorem MB{φ:bo}{m:Mem}{w:World}{j:Nat}{l:List aa}{DI:List aa->Prop}(h:c0 φ m w)(aC:m.β j=.cells l)(dQ:DI l)(ae:bG l=true):c0 φ { m with β:=ea m.β j (.inv DI) } w:=by
 refine⟨λk aq=>?_,h.dt,h.arr,h.jo,h.hp,h.sep,h.gw⟩;by_cases e:k=j
 ·subst e;obtain⟨b,cs,e,U,ab,al⟩:=h.cells aq (by grind);rw[aC]at al;exact .inr ⟨b,cs,e,U,ab,by simp ;exact⟨l,dQ,λe=>pS e l ae,λn=>ox n l ae,al⟩⟩
 ·simp only[qK _ _ _ _ e];exact h.box k aq
theorem Wh{φ:bo}{m:Mem}{w:World}{j:Nat}{DI:List aa->Prop}(h:c0 φ m w)(aC:j<m.n)(hb:m.β j=.inv DI):∃l,DI l/\c0 φ { m with β:=ea m.β j (.cells l) } w:=by
 obtain⟨b,cs,e,U,ab,al⟩:=h.cells aC (by grind);rw[hb]at al;obtain⟨l,dQ,_,_,aJ⟩:=al;refine⟨l,dQ,λk aq=>?_,h.dt,h.arr,h.jo,h.hp,h.sep,h.gw⟩;by_cases e':k=j
 ·subst e';exact .inr ⟨b,cs,e,U,ab,by simp ;exact aJ⟩
 ·simp only[qK _ _ _ _ e'];exact h.box k aq
theorem ab6(β:Nat->di)(i:Nat)(c:di)(h:β i=c):ea β i c=β:=by grind [ea]
def nU:b2->FuncId->List aa->Option aa:=λω g args=>if g=62 then match args with
 |[.ptr 0 0]=>some (.int .u64 ((ω []%4294967296:Nat):Int))
 |_=>none
 else none
theorem Hh{ω:b2}{g:FuncId}{args:List aa}{v:aa}(h:nU ω g args=some v):g=62/\args=[.ptr 0 0]/\v=.int .u64 ((ω []%4294967296:Nat):Int):=by grind [nU]
theorem yi:jq Tryz.prog pn nU:=by
 refine⟨λg args ao args' m au=>?_,λω g args v h=>?_,λω g args v h=>?_⟩
 ·obtain⟨v0,aT⟩:=Option.isSome_iff_exists.1 (ao gP);obtain⟨rfl,rfl,_⟩:=Hh aT;obtain⟨q,aG,rfl,U,ab⟩:=au;subst ab;rcases U with⟨rfl,ae⟩|⟨_,i,rfl,hi,hb⟩
  ·trivial
  ·intro φ af w hm ai;obtain⟨l,⟨r,x,rfl,ad⟩,xu⟩:=Wh hm hi hb;refine(ab5 hi (Ap.1 ad) φ af w xu ai).mono ?_;rintro e w' ⟨v,pv,E,m',bn,rfl,eW,eX,eo,⟨n,rfl,Li,Up⟩,rfl,bR,bk,ir,rfl⟩;have cD:=G4 ir;have kU:=MB (DI:=pn) (j:=i) (l:=[bR,.int .u64 bk]) eX (by simp) ⟨bR,bk,rfl,Ap.2 ir⟩ (by simp only[bG,cD.1,cD.2];rfl);simp only[Aq]at kU;rw[ab6 _ _ _ hb]at kU;refine⟨v,_,[],m,bn,rfl,eW,kU,eo,⟨λ_=>n.toNat,?_⟩,rfl,rfl,rfl⟩;grind [nU]
 ·obtain⟨_,_,rfl⟩:=Hh h;rfl
 ·obtain⟨rfl,_,_⟩:=Hh h;trivial
theorem adF(x:aa)(h:x.known=true)(ah:x.cells=[x]):sI Tryz.prog 85 [(0,x),(1,.int .u64 1)]=some (.agg [x,.int .u64 1]):=by
 have bO:ki Tryz.prog 85=some [.bC,.int .u64 0]:=by kernel_rfl
 obtain⟨fs,hu,au,aT,U⟩:∃fs:Array Field,Tryz.prog.underlying 85=some (.struct fs)/\fs.toList.all (λf=>(Tryz.prog.info? f.type).isSome)=true/\ya Tryz.prog fs 0=some (0,1)/\ya Tryz.prog fs 1=some (1,1):=
  ⟨(match Tryz.prog.underlying 85 with|some (.struct fs)=>fs|_=>#[]),by kernel_rfl,by kernel_rfl,by kernel_rfl,by kernel_rfl⟩
 simp only[sI,hu,bO,au,if_true];have aK:(aa.int .u64 1).cells=[.int .u64 1]:=rfl;have aO:(aa.int .u64 1).known=true:=rfl;grind [kJ,fa]
theorem ab7:Qs Tryz.prog pn 11:=by
 intro x m aj;have hc:=G4 (Ap.1 aj);have ah:x.cells=[x]:=by rcases Ap.1 aj with rfl|⟨_,_,_,rfl,_⟩<;>rfl
 have aq:x.known=true:=by rcases Ap.1 aj with rfl|⟨_,_,_,rfl,_⟩<;>rfl
 have key:gL Tryz.prog 11 [x] m λv E m'=>v=.ptr m.n 0/\E=[]/\m'=⟨ea m.β m.n (.cells [x,.int .u64 1]),m.n+1,m.an,m.rc⟩:=by
  refine GQ (fn:=Tryz.f11) (by kernel_rfl) rfl (Nat.le_of_ble_eq_true rfl) (by kernel_rfl) (by kernel_rfl) ?_;have ae:(entry [x] m).g 0=x:=rfl;have hm:(entry [x] m).m=m:=rfl;have he:(entry [x] m).bb=[]:=rfl;refine o6 (qL ?_);refine eT .ca rfl rfl (by rfl) ?_;refine o6 (qL ?_);refine eT x rfl rfl (by simp[bV,aA.ay,ae]) ?_;refine eT (.agg [x,.int .u64 1]) rfl rfl (by simp_all[bV,aA.ay,jT,adF]) ?_;refine ab4 (l:=[x,.int .u64 1]) (by rfl) (by rfl) ?_;refine eT (.ptr m.n 0) rfl rfl (by simp[bV,aA.ay,hm]) ?_;refine Iz ⟨.inr rfl,.ptr m.n 0,?_,_,_,.inl ⟨rfl,rfl⟩,rfl,by simp[he],?_⟩;all_goals simp_all[pt,q9,uQ]
 intro φ af w hm ai;refine(key φ af w hm ai).mono ?_;rintro e w' ⟨v,pv,E,m',bn,rfl,eW,eX,eo,rfl,rfl,rfl⟩;have kU:=MB (DI:=pn) (j:=m.n) (l:=[x,.int .u64 1]) eX (by simp) ⟨x,1,rfl,aj⟩ (by simp only[bG,hc.1,hc.2];rfl);grind [Aq]
end
end
section
open Go Go.Conc Go.RowKit
structure adG(args:List aa)(l:List Nat)(ah eg:List aa)(cy:aa)(n:Nat)(bit:Nat->Bool):Prop where
 a:args=[.agg ah,.agg eg]
 d1:hv ah=true
 d2:hv eg=true
 gr:bG ah=true
 p2:bG eg=true
 q:ah[1]?=some cy
 r:Ke cy n
 U4:n<=4
 b:∀i,i<n->∀ω,PP.E cl 9 ω 103 [.ca,.bJ none 0 ah,.bJ none 0 [.int .i64 (i:Int)],.bJ none 0 eg,.ca]=some (.bD [.bool (bit i),.int .i64 (i:Int)])
 l:l=rN n bit
def yX(args:List aa)(l:List Nat):Prop:=∃ah eg cy n bit,adG args l ah eg cy n bit
open Classical in
noncomputable def pj(ω:b2)(g:FuncId)(args:List aa):Option aa:=
 if g=58 then(if h:∃l,yX args l then some (lS h.choose)else none)else nU ω g args
theorem Ns(l:List Nat):(lS l).plain=true:=by
 unfold lS;split
 ·rfl
 ·simp only[aa.plain];generalize l=l;induction l with
  |nil=>rfl
  |cons a l az=>simp_all[bG,aa.plain,aa.one]
section
variable[cQ]
theorem Y0{φ:bo}{m:Mem}{w:World}{l:List Nat}(hm:c0 φ m w){τ:Tape}{d:Nat}{v:Value}{w1:World}(h:JI l (a8 w τ d) v w1):aY φ w1 (lS l) v/\c0 φ m w1/\Step φ w φ w1 []:=by
 have sd:=hm.a8 τ d;rcases h with⟨rfl,rfl,rfl⟩|⟨bU,c,e,f,cap,U,rfl,rfl,ab⟩
 ·exact⟨rfl,sd,sD φ w τ d⟩
 ·have aN:jQ (a8 w τ d) { a8 w τ d with heap:=(a8 w τ d).heap.push (.cells c e f) }:=⟨rfl,rfl,by simp,λb hb=>by
   show((a8 w τ d).heap.push _)[b]?=_;rw[Array.getElem?_push_lt hb];exact(Array.getElem?_eq_getElem hb).symm⟩
  have k1:=yg aN sd (λ_ _ h=>h) (λ_ _ h=>h) (λb h=>.inl h);have bf:=N1 sd aN k1;refine⟨?_,bf,(sD φ w τ d).trans (x9 aN k1)⟩;cases l with
  |nil=>exact absurd rfl bU
  |cons i0 fY=>
   refine⟨by simp,_,cap,rfl,U,.inr ⟨_,rfl,⟨?_,?_⟩,sA λj p aC=>?_⟩⟩
   ·rintro(⟨i,h⟩|⟨i,h⟩)
    ·exact Nat.lt_irrefl _ (mo sd h)
    ·exact Nat.lt_irrefl _ (jN sd h)
   ·show _<((a8 w τ d).heap.push _).size;simp
   ·rw[List.getElem?_map]at aC;obtain⟨i,hi,rfl⟩:=Option.map_eq_some_iff.1 aC;refine⟨Value.int .i64 ((i:Nat):Int),?_,rfl⟩;have du:((a8 w τ d).heap.push (.cells c e f))[(a8 w τ d).heap.size]?=some (.cells c e f):=by simp
    have aeG:({ a8 w τ d with heap:=(a8 w τ d).heap.push (.cells c e f) }:World).heap[(a8 w τ d).heap.size]?=some (.cells c e f):=du;simp only[World.cell?,aeG,Nat.zero_add];simpa using ab j i hi
end
theorem XH:@jq my Tryz.prog pn pj:=by
 letI:=my
 refine⟨λg args ao args' m au=>?_,λω g args v h=>?_,λω g args v h=>?_⟩
 ·by_cases aN:g=58
  ·subst aN;have aT:=ao gP;unfold pj at aT;rw[if_pos rfl]at aT;have hex:∃l,yX args l:=by
    by_cases h:∃l,yX args l
    ·exact h
    ·rw[dif_neg h]at aT;cases aT
   have ah:=hex.choose_spec;obtain⟨ah,eg,cy,n,bit,aw⟩:=ah;have zi:∀ω,pj ω 58 args=some (lS hex.choose):=λω=>by unfold pj;rw[if_pos rfl,dif_pos hex]
   generalize hex.choose=l at aw zi;intro φ af w hm ai;have kR:args'=args:=by
    rw[aw.a]at au⊢;obtain⟨q,aG,rfl,U,dM,ei,rfl,ab,al⟩:=au;have al:ei=[]:=al;subst al;rcases U with⟨rfl,_⟩|⟨h,_⟩
    ·rcases ab with⟨rfl,_⟩|⟨h,_⟩
     ·rfl
     ·cases h
    ·cases h
   subst kR;have gm:=ai;rw[aw.a]at gm;refine WR (Post:=λv w1=>∃τ d,JI l (a8 w τ d) v w1) (λτ d=>⟨rfl,?_,φ,ah,eg,cy,n,bit,?_,aw.d1,aw.d2,aw.gr,aw.p2,aw.q,aw.r,aw.U4,λi hi=>YZ aw.gr aw.p2 (aw.b i hi),λv w1 h=>⟨τ,d,aw.l▸h⟩⟩) λv w' ⟨τ,d,ad⟩=>?_
   ·obtain⟨_,_,rfl,_,_,_,rfl,_,h⟩:=gm;have h:_=[]:=h;subst h;rfl
   ·exact bl.keeps (DS φ w τ d) _ _ (by simpa using gm)
   ·obtain⟨U,ab,al⟩:=Y0 hm ad;exact⟨v,lS l,[],m,φ,rfl,U,ab,al,⟨gP,zi gP⟩,Ns l,rfl,rfl⟩
  ·have e:∀ω,pj ω g args=nU ω g args:=λω=>by unfold pj;rw[if_neg aN]
   refine(yi.zG g args (λω=>e ω▸ao ω) args' m au).mono λpv E m' ⟨⟨ω,h⟩,ab⟩=>⟨⟨ω,(e ω).trans h⟩,ab⟩
 ·unfold pj at h;split at h
  ·split at h
   ·cases h;exact Ns _
   ·cases h
  ·exact yi.plain ω g args v h
 ·unfold pj at h;split at h
  ·rename_i aN;subst aN;exact⟨_,Tryz.func58,by decide,rfl⟩
  ·exact yi.fn ω g args v h
end
section
open Go Go.RowKit Go.WideShapes Go.ChangeShapes Go.Conc
section
variable{H:Type}{enc:TypeId×Value->H}
theorem Wk:∀f a w nE,@cQ.spec my f a w nE->nO Tryz.prog f/\a.size=arity Tryz.prog f:=by
 intro f a w nE h;have aQ:f=58:=h.1;have au:a.size=2:=h.2.1;subst aQ;exact⟨Hj (by kernel_rfl),au.trans (by kernel_rfl)⟩
def apN(f:FuncId):Bool:=!ag0.contains f&&f != 87
theorem apP:(ag0++[87]).all (λg=>match Tryz.prog.funcs[g]? with
  |some fn=>(match fn.body with
   |some c=>Ii (if g=87 then[87]else ag0) c&&iC g&&!(fn.name == "runtime.NumGoroutine")
   |none=>false)
  |none=>false)=true:=by kernel_rfl
theorem apQ{f:FuncId}(aQ:apN f=true):∀g L,apO g L->IL Tryz.prog iC L f g:=by
 have key:∀g L,g∈ag0++[87]->L=(if g=87 then[87]else ag0)->∃fn c,Tryz.prog.funcs[g]?=some fn/\fn.body=some c/\(fn.name == "runtime.NumGoroutine")=false/\Ii L c=true/\codeOk Tryz.prog iC c=true:=λg L aN dg=>by
  have h:=List.all_eq_true.1 apP g aN;subst dg;cases U:Tryz.prog.funcs[g]? with
  |none=>rw[U]at h;cases h
  |some fn=>
   rw[U]at h;dsimp only at h;cases ab:fn.body with
   |none=>rw[ab]at h;cases h
   |some c=>
    rw[ab]at h;simp only[Bool.and_eq_true,Bool.not_eq_true']at h;obtain⟨apS,_,c2,k1,_,bf,_,_,_,bP⟩:=adr.fns g h.1.2;rw[U]at k1;cases k1;rw[ab]at bf;cases bf;exact⟨fn,c,rfl,ab,h.2,h.1.1,bP⟩
 simp only[apN,Bool.and_eq_true,Bool.not_eq_true',bne_iff_ne,ne_eq]at aQ;have apR:∀g∈ag0,g≠87:=by decide
 rintro g L (⟨rfl,rfl⟩|⟨rfl,rfl⟩)
 ·exact⟨by decide,λh=>(by rw[List.contains_iff_mem.2 h]at aQ;cases aQ.1),λg aN=>key g _ (by simp[aN]) (by rw[if_neg (apR g aN)])⟩
 ·exact⟨by simp,λh=>aQ.2 (by simpa using h),λg aN=>by
   have:g=87:=by simpa using aN
   subst this;exact key 87 _ (by simp) rfl⟩
theorem aaL{f:FuncId}{fn:Func}{s:ChangeSpec}{k:Nat}{bt:TypeId}{apart fresh handsOn again:Bool}(ak:laidOutB Tryz.prog=true)(ai:s.vars=[])(F8:fn.resultTypes=#[bt])(F9:Tryz.prog.underlying bt=some .bool)(aq:fn.params.toList.all (sN Tryz.prog k)=true)(mE:∀t∈fn.params.toList,Tryz.prog.readableRec t=true/\t<Tryz.prog.types.size)
  (ao:∀ds:List (DataW H),ds.length=fn.params.size->s.fn H (ds++[])={ results:=[.lit (.bool true)],args:=ds }) (aw:iC f=true) (c1:Tryz.prog.inits.idxOf? f=none) (acn:apN f=true)
  (e4:∀bz,qu Tryz.prog k fn.params.toList bz->∀m,@gL my Tryz.prog f bz m λv E m'=>v=.bool true/\E=[]/\m'=m)
  {W:World} {base:Nat} {args:Array Value} {ds gs:List (DataW H)} {before:List MemPlace} (vL:Tryz.prog.globals.size<=W.heap.size) (zi:∀(j:Nat) t v,fn.params[j]?=some t->args[j]?=some v->Value.okWide Tryz.prog W .any base t v)
  (hW:DataW.Whole enc Tryz.prog fn.params.toList s.vars apart W args.toList ds gs before):
  ∃M last o w' bw,runNT Tryz.prog (M+1) (solo (G (Frame.enter Tryz.prog f args .normal) []) W) #[]=(.ended o w',bw)/\runN Tryz.prog M (solo (G (Frame.enter Tryz.prog f args .normal) []) W)=.next last /\
    step Tryz.prog last=.ended o w'/\Conc.Good Tryz.prog (λv W'=>s.post enc Tryz.prog fn apart fresh handsOn again W.blind args v W'.blind) last o w' bw:=by
 letI:=my
 have UA:=hW;obtain⟨p,q,aW,ew,rfl,ag5,amd⟩:=hW;rw[ai]at ew;obtain⟨rfl,rfl⟩:=trodVars_none ew;obtain⟨V,k1,bf,_,_,_,_,_,bP,_⟩:=Nr (bH Tryz.prog iC) (rows W) W vL λb hb=>hb;obtain⟨uX,bz,U,ab⟩:=On (C:=bH Tryz.prog iC) (M:=rows W) (λ_=>rfl) (λb c e f h=>⟨c,e,f,h⟩) bf bP (k:=k) aW (λj t v a1 ai=>zi j t v (by simpa using a1) (by simpa using ai)) aq;have hlen:ds.length=fn.params.size:=by
  have:∀{fl:List TypeId}{af:List Value}{ds:List (DataW H)}{ps:List MemPlace},DataW.TrodAll enc Tryz.prog W 0 (λ_=>true) true fl af ds ps->ds.length=fl.length:=by
   intro fl;induction fl with
   |nil=>intro af ds ps h;cases af<;>cases ds<;>simp_all[DataW.TrodAll]
   |cons t fl az=>intro af ds ps h;cases af<;>cases ds<;>simp only[DataW.TrodAll]at h;obtain⟨p,q,_,ab,_⟩:=h;simp[az ab]
  simpa using this aW
 have ah:=(Mk (R:=λv=>v=.bool true) (f:=f) (λm=>e4 bz ab m) U).mono (R':=λe w'=>e=.returned (.bool true)) λe w' ⟨v,pv,bn,he,ad,ae,_⟩=>by
  subst ae;have ad:v=.bool true:=ad;rw[he,ad]
 refine XN (R:=λe w'=>e=.returned (.bool true)) (p:=Tryz.prog) (p':=Tryz.prog) (F:=iC) aet adr vL (ab2 adE) aw c1 Wk (apQ acn) (λv bg k3 bF σ cn fp _ vy=>?_) k1 (bE.As uX) (by simpa using ah);injection cn with aiD;subst aiD;cases fp
 have fM:=ao ds hlen;have hb:Below W.heap.size W (a8 bF W.tape bF.drawn):=⟨vy.os,rfl,vy.out,vy.size,vy.blk⟩;refine ChangeSpec.post_blind (W':=a8 bF W.tape bF.drawn) (VW (pa:=p) (pv:=[]) UA (λb sp aV=>?_) (λsp agz=>?_) (λsp _=>?_) rfl hb (ok_one F8 rfl (okWide_bool_mk F9 true)))
 ·rw[F8,fM];exact trodAll_mk1 (shut_bool F9 true)
 ·rw[fM];exact Mn ak hb aW mE (λx aj=>UA.lt x (by simpa using aj)) (λx aj=>agz x (by simpa using aj))
 ·rw[ai,fM];rfl
end
end
end Go.Proofs.YtlminnpaeaganaaGreat
