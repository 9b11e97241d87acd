/- Part of the proof of RuleCover. No condition. -/
import Derived.Test.YtlminnpaeaganaaGreatChecked
import Derived.Test.YtlminnpaeaganaaGreatRows
import Derived.Test.YtlminnpaeaganaaGreatMCoverAG
import Derived.Test.YtlminnpaeaganaaGreatMCoverAW
namespace Go.Proofs.YtlminnpaeaganaaGreat
set_option maxRecDepth 100000
set_option linter.all false
section
open Go Go.RowKit
def tj:FuncId->Option (Option (Nat×Nat)):=λg=>if g=53 then some (some (5,0))else if g=163 then some none else none
noncomputable def GL:iN:=⟨Tryz.prog,⟨11,none,none⟩,UY,UZ,tj,S4++[{g:=7,k:=[ao 0 253 [⟨false,5,0,some (5,.cZ),false⟩,⟨false,6,0,some (1,.cZ),false⟩] [6,4,5],ao 0 506 [⟨false,5,0,some (5,.cZ),false⟩,⟨false,6,0,some (1,.cZ),false⟩,ae 7] [4,3,7,6,5],ao 0 1021 [] [11,12],ao 0 2042 [ae 13] [6,11,12,4,13],ao 0 130707 [] [6,11,12,4,13],ao 0 261414 [ae 15] [6,15,14,11,12,4,13],ao 0 33461029 [ae 16] [15,14,11,12,6,4,13,16],ao 0 66922058 [ae 16,ae 17] [17,6,15,14,11,12,4,13,16],ao 0 8566023461 [ae 18] [6,15,14,11,12,4,13,17,18,16],ao 0 17132046922 [ae 18,ae 19] [17,6,15,14,11,12,4,13,16,19,18],ao 0 274112750756 [ae 18] [17,6,15,14,11,12,4,13,16,18,19],ao 0 4283011731 [ae 16] [6,15,14,11,12,4,13,16,17],ao 0 133844124 [ae 2] [2],ao 0 1022 [ae 2] [2]]},
 {g:=12,k:=[ao 0 29 [⟨true,1,1,some (3,.cZ),false⟩] [4,5],ao 0 58 [ae 6,⟨true,1,1,some (3,.cZ),false⟩] [5,0,4,6]]},
 {g:=13,k:=[ao 0 125 [⟨true,3,1,none,false⟩,⟨true,3,2,none,false⟩] [4,7,0],ao 0 252 [ae 53] [53,4,7,0],ao 0 253 [] [4,7,0] [0]],c:=[(0,3018)],r:=[(53,(some (5,0)),1,true)]},
 {g:=15},
 {g:=16,k:=[ao 0 29 [ae 5] [5],ao 0 58 [ae 5,ae 6] [1,0,6,5],ao 0 464 [ae 18] [18,1,0,6,5]]},
 {g:=17,k:=[ao 0 14 [ae 5] [5,0],ao 0 28 [ae 5] [0,1,5],ao 0 224 [ae 17] [17,0,1,5]]},
 {g:=18},
 {g:=20,k:=[ao 0 510 [ae 0] [0]]},
 {g:=23},
 {g:=30,k:=[ao 0 29 [⟨true,1,0,some (1,.cZ),false⟩] [2,3],ao 0 58 [ae 4,⟨true,1,0,some (1,.cZ),false⟩] [3,0,2,4]]},
 {g:=32,k:=[ao 0 1789 [⟨false,9,0,some (1,.cZ),false⟩] [9],ao 0 3578 [ae 39,⟨false,9,0,some (1,.cZ),false⟩] [7,9,1,38,39],ao 0 916069 [] [10,7,1,38,39,9] [] [5],ao 0 1832138 [ae 44] [7,9,1,38,39,10,42,43,44] [] [5],ao 0 3664285 [⟨false,13,0,some (1,.cZ),false⟩] [7,1,38,39,13,9],ao 0 7328570 [⟨false,13,0,some (1,.cZ),false⟩,ae 59] [10,7,1,38,39,9,58,59,13],ao 0 938057011 [⟨false,13,0,some (1,.cZ),false⟩] [10,7,1,38,39,9,58,13,59]]},
 {g:=34,s:=[15006],k:=[ao 0 29 [ae 5] [5],ao 0 58 [⟨false,5,0,none,true⟩,ae 6] [5,0,6,1],ao 0 7461 [⟨false,7,0,some (1,.cZ),false⟩] [0,1,6,7],ao 0 14922 [⟨false,7,0,some (1,.cZ),false⟩,ae 8] [8,5,0,6,1,7],ao 0 1910053 [ae 9] [8,5,0,6,1,7,9],ao 0 1910055 [⟨false,7,0,some (1,.cZ),false⟩] [5,0,6,1,7,8],ao 0 3820110 [⟨false,7,0,some (1,.cZ),false⟩,ae 10] [8,5,0,6,1,10,7],ao 15006 58 [ae 4] [0,3,4] [2]],i:=[63]},
 {g:=35,s:=[5005,5005011005],k:=[(5005,7,⟨[⟨true,5,0,some (1,.cZ),false⟩],[],[],[],true⟩),(5005,14,⟨[ae 18,⟨true,5,0,some (1,.cZ),false⟩],[],[3,5,4,6,17,18],[],true⟩),(5005,3687,⟨[⟨true,5,0,some (1,.cZ),false⟩],[],[3,5,4,6,17,18],[],true⟩),(5005,7374,⟨[ae 30,⟨true,5,0,some (1,.cZ),false⟩],[],[8,3,9,28,5,4,6,17,18,29,30],[],true⟩),(5005,943923,⟨[⟨true,5,0,some (1,.cZ),false⟩],[],[8,3,9,28,5,4,6,17,18,29,30],[],true⟩),(5005,1887846,⟨[ae 36,⟨true,5,0,some (1,.cZ),false⟩],[],[11,8,3,34,9,28,5,4,6,17,18,29,30,35,36],[],true⟩),(5005011005,255,⟨[⟨true,5,0,some (1,.cZ),false⟩],[],[],[],true⟩)],t:=[(0,8,0)]},
 {g:=40},
 {g:=41,k:=[ao 0 61 [] [],ao 0 122 [ae 21] [19,20,21]]},
 {g:=42},
 {g:=43},
 {g:=45,k:=[ao 0 29 [] [],ao 0 58 [ae 5] [1,0,5]]},
 {g:=47,k:=[ao 0 253 [⟨false,11,0,some (1,.cZ),false⟩] [11],ao 0 506 [⟨false,11,0,some (1,.cZ),false⟩,ae 35] [5,1,8,10,34,35,11],ao 0 64819 [⟨false,11,0,some (1,.cZ),false⟩] [5,1,8,10,34,11,35]]},
 {g:=50,k:=[ao 0 125 [] [],ao 0 250 [ae 37] [11,2,9,10,37],ao 0 32051 [] [11,2,9,10,37],ao 0 64102 [ae 13] [13,11,12,2,9,10,37],ao 0 8205093 [⟨true,4,0,some (1,.cZ),false⟩] [13,12,11,2,9,10,37,14],ao 0 16410186 [ae 50,⟨true,4,0,some (1,.cZ),false⟩] [14,13,11,12,2,9,10,37,49,50]]},
 {g:=51},
 {g:=52},
 {g:=53,s:=[1003],k:=[ao 0 29 [] [6,4,2,0] [0],ao 0 58 [ae 7] [2,4,0,6,7] [0],ao 0 125 [⟨true,0,3,none,false⟩] [6,4],ao 1003 29 [] [3] [0],ao 1003 58 [ae 4] [0,3,4] [0]],i:=[63]},
 {g:=54,k:=[ao 0 29 [⟨true,2,0,some (1,.cZ),false⟩] [8,9,5,0,3,2],ao 0 58 [ae 10,⟨true,2,0,some (1,.cZ),false⟩] [9,5,8,0,3,2,10],ao 0 125 [⟨true,2,1,none,false⟩] [8,9,5,0,3],ao 0 253 [⟨true,2,2,none,false⟩] [8,9,5,0]]},
 {g:=55},
 {g:=56,k:=[ao 0 29 [] [6,3,2],ao 0 58 [ae 22] [6,3,20,2,21,22],ao 0 61 [] [6,3],ao 0 122 [ae 37] [6,35,3,36,37]]},
 {g:=57,s:=[1012,1013,1013001002,1013001002700027,1013001002700027002004,1013001002700027002004004012,1013001002700027010005,1013001002700027010005004012],k:=[(1013001002,13,⟨[⟨true,6,0,some (2,.cZ),false⟩],[],[2],[],true⟩),(1013001002700027,28,⟨[ae 19,⟨true,6,0,some (2,.cZ),false⟩],[],[19,3,4,6],[],true⟩),(1013001002700027,125,⟨[ae 7],[],[7,3,6],[],true⟩),(1013001002700027,250,⟨[ae 7,ae 23],[],[3,4,6,22,23,7],[],true⟩),(1013001002700027,32051,⟨[ae 7],[],[3,4,6,22,7,23],[],true⟩),(1013001002700027002004,13,⟨[⟨true,6,0,some (2,.cZ),false⟩],[],[],[],true⟩),(1013001002700027002004,26,⟨[ae 13,⟨true,6,0,some (2,.cZ),false⟩],[],[2,5,1,6,3,4,12,13],[],true⟩),(1013001002700027002004,3378,⟨[ae 29,⟨true,6,0,some (2,.cZ),false⟩],[],[29,2,5,1,6,3,4,12,13],[],true⟩),ao 1013001002700027002004004012 13 [] [2],(1013001002700027010005,13,⟨[],[0],[],[],true⟩),(1013001002700027010005,26,⟨[ae 13],[0],[2,5,1,6,3,4,12,13],[],true⟩),(1013001002700027010005,3378,⟨[ae 29],[0],[29,2,5,1,6,3,4,12,13],[],true⟩),ao 1013001002700027010005004012 13 [] [2]]},
 {g:=59},
 {g:=60},
 {g:=64,k:=[ao 0 29 [] [2],ao 0 58 [ae 8] [3,1,2,8],ao 0 61 [] [],ao 0 122 [ae 9] [2,9]]},
 {g:=70},
 {g:=71},
 {g:=72},
 {g:=73,k:=[ao 0 125 [] [],ao 0 250 [ae 3] [1,3]]},
 {g:=77,k:=[ao 0 58 [ae 9] [1,8,9,3] [0]],o:=[(0,5)]},
 {g:=78},
 {g:=79,k:=[ao 0 13 [] [0],ao 0 61 [ae 3] [3],ao 0 122 [ae 3,ae 4] [0,4,3]]},
 {g:=80,k:=[ao 0 13 [] [0],ao 0 61 [ae 3] [3],ao 0 122 [ae 3,ae 4] [0,4,3]]},
 {g:=88,k:=[ao 0 6 [ae 6] [6]]},
 {g:=89},
 {g:=90,k:=[ao 0 29 [] [1],ao 0 58 [ae 16] [14,1,15,16],ao 0 60 [ae 33] [33]]},
 {g:=93,k:=[ao 0 29 [⟨false,3,0,some (1,.cZ),false⟩] [3],ao 0 58 [⟨false,3,0,some (1,.cZ),false⟩,ae 5] [0,5,3],ao 0 7475 [⟨false,3,0,some (1,.cZ),false⟩] [0,3,5]]},
 {g:=94,k:=[ao 0 29 [ae 9] [6,9,8]]},
 {g:=95,k:=[ao 0 61 [⟨false,10,0,some (1,.cZ),false⟩] [10],ao 0 122 [⟨false,10,0,some (1,.cZ),false⟩,ae 25] [9,6,7,23,24,25,10] [] [3,5,7],ao 0 15667 [⟨false,10,0,some (1,.cZ),false⟩] [9,6,7,23,24,10,25]]},
 {g:=97},
 {g:=98},
 {g:=99,k:=[ao 0 29 [] [1],ao 0 58 [ae 12] [10,1,11,12],ao 0 60 [ae 35] [35]]},
 {g:=106,k:=[ao 0 6 [ae 6] [6]]},
 {g:=107,k:=[ao 0 29 [] [1],ao 0 58 [ae 3] [1,3],ao 0 60 [ae 37] [37]]},
 {g:=109,k:=[ao 0 13 [] [],ao 0 26 [ae 8] [0,1,7,8]]},
 {g:=110,k:=[ao 0 13 [] [0,1],ao 0 61 [ae 5] [5],ao 0 122 [ae 5,ae 6] [0,1,6,5],ao 0 3913 [ae 5] [0,1,5,6]]},
 {g:=111},
 {g:=112},
 {g:=113,k:=[ao 0 13 [] [1,0],ao 0 26 [ae 11] [1,9,0,10,11]]},
 {g:=114,k:=[ao 0 61 [] [1],ao 0 122 [ae 3] [1,3],ao 0 124 [ae 35] [35]]},
 {g:=124,k:=[ao 0 29 [] [],ao 0 58 [ae 10] [0,8,9,10],ao 0 14950 [ae 28] [28,0,8,9,10]]},
 {g:=125},
 {g:=126},
 {g:=150}]⟩
noncomputable def cA(g:FuncId):Option Tree:=GL.cA g
section
theorem J3:(GL.cA 53).isSome=true:=by kernel_rfl
theorem J4:(GL.cA 163).isSome=true:=by kernel_rfl
theorem EH[cQ]:E2 Tryz.prog 23 ⟨11,none,none⟩ tj cA:=GL.S5 (by kernel_rfl) λg r h=>by
 replace h:tj g=some r:=h;unfold tj at h;split at h
 ·rename_i e;subst e;exact J3
 split at h
 ·rename_i e;subst e;exact J4
 cases h
end
noncomputable def E(P:Program)(k:Nat)(ω:b2)(g:FuncId)(a:List aa):Option aa:=g6 P 23 cA pj 4096 k ω g a
theorem ac5:@mu my Tryz.prog pn ⟨11,none,none⟩:=@mu.mk my _ _ _ (λ_=>@ab7 my) (λf h=>(by cases h)) (λf h=>(by cases h))
theorem IH(k:Nat):@jq my Tryz.prog pn (E Tryz.prog k):=(@C9 my Tryz.prog _ _ _ _ _ _ _ (by kernel_rfl) (@EH my) XH ac5 k).1
instance amw:cQ:=my
end
section
open Go Go.RowKit Go.WideShapes Go.ChangeShapes
theorem Oo{DI:List aa->Prop}{m:Mem}:∀{bz:List aa},(∀q∈bz,q.plain=true)->im DI m bz bz
 |[],_=>rfl
 |q::bz,h=>⟨q,bz,rfl,.inl ⟨rfl,h q (by simp)⟩,Oo λx aj=>h x (by simp[aj])⟩
theorem own:ownKnob Tryz.prog.godebug=none:=by kernel_rfl
theorem laidOut:laidOutB Tryz.prog=true:=by kernel_rfl
end
section
open Go Go.RowKit Go.WideShapes Go.ChangeShapes Go.Conc
theorem XO{W:World}(h:W.ShapedOpen Tryz.prog):Tryz.prog.globals.size<=W.heap.size:=by
 have key:∀g,g<Tryz.prog.globals.size->((((begin Tryz.prog (λ_ _=>0) default).world).heap[g]?).bind Obj.row?).isSome=true->g<W.heap.size:=λg aN aj=>by
  obtain⟨⟨zero,t⟩,bO⟩:=Option.isSome_iff_exists.1 aj;obtain⟨cs,U,_⟩:=h.1 g zero t aN bO;exact(Array.getElem?_eq_some_iff.1 U).1
 have aI:Tryz.prog.globals.size=0\/((((begin Tryz.prog (λ_ _=>0) default).world).heap[Tryz.prog.globals.size-1]?).bind Obj.row?).isSome=true:=.inr (by kernel_rfl);rcases aI with aT|aT
 ·omega
 ·by_cases U:Tryz.prog.globals.size=0
  ·omega
  ·have:=key _ (by omega) aT;omega
section
variable{H:Type}{enc:TypeId×Value->H}
theorem XM{os:Os}{f:FuncId}{fn:Func}{s:ChangeSpec}{conds:List PathCond}{apart fresh handsOn again:Bool}{k:Nat}{bt:TypeId}(started:os.Started)(dX:Tryz.prog.funcs[f]?=some fn)
  (witness:∃(w:World)(tape:Tape)(i:Input),w.os=os/\(w.forCall tape i).Shaped Tryz.prog/\i.vars=[]/\Input.okWide Tryz.prog (w.forCall tape i) .any w.heap.size f i /\
   s.pre6 enc Tryz.prog fn conds apart (w.forCall tape i).memory i.args/\({}:Assume).holds Tryz.prog (lone (Frame.enter Tryz.prog f i.args .normal) [] (w.forCall tape i)))
  (ak:laidOutB Tryz.prog=true) (ai:s.vars=[]) (F8:fn.resultTypes=#[bt]) (F9:Tryz.prog.underlying bt=some .bool) (aq:fn.params.toList.all (sN Tryz.prog k)=true) (mE:∀t∈fn.params.toList,Tryz.prog.readableRec t=true/\t<Tryz.prog.types.size)
  (ao:∀ds:List (DataW H),ds.length=fn.params.size->s.fn H (ds++[])={ results:=[.lit (.bool true)],args:=ds }) (aw:iC f=true) (c1:Tryz.prog.inits.idxOf? f=none)
  (e4:∀bz,qu Tryz.prog k fn.params.toList bz->∀m,@gL my Tryz.prog f bz m λv E m'=>v=.bool true/\E=[]/\m'=m):
  ReturnsInLeavingWide {} Tryz.checked os f .any (s.pre6 enc Tryz.prog fn conds apart) (s.post enc Tryz.prog fn apart fresh handsOn again):=by
 refine returnsInLeavingWide_of_good (C:=Tryz.checked) own started witness ?_;intro w tape i _ nk _ fU nY akw;obtain⟨_,_,_,cC,zn,_,_,_,_,zi⟩:=fU;have e:cC=fn:=Option.some.inj (zn.symm.trans dX);subst e;obtain⟨⟨ds,gs,before,hw,ah⟩,bO⟩:=nY;have KG:=DataW.Whole.of_heap (w':=w.forCall tape i) (by rfl) hw;exact aaL ak ai F8 F9 aq mE ao aw c1 e4 (base:=w.heap.size) (XO nk) zi KG
end
end
section
open Go Go.RowKit Go.WideShapes Go.ChangeShapes
theorem adP(ej:∀bz,qu Tryz.prog 6 Tryz.f7.params.toList bz->∀ω,E Tryz.prog 20 ω 7 bz=some (.bool true))(os:Os)(started:os.Started)(H:Type)(enc:TypeId×Value->H):
  ReturnsInLeavingWide {} Tryz.checked os 7 .any (Rows.ruleCoverSpec.pre6 enc Tryz.prog Tryz.f7 Rows.ruleCoverRow.domain false) (Rows.ruleCoverSpec.post enc Tryz.prog Tryz.f7 false true false false):=by
 letI:=my
 refine XM (k:=6) (bt:=4) started Tryz.func7
  (ChangeSpec.witness6 (enc:=enc) (C:=Tryz.checked) false ⟨#[],#[.slice none 0 0],[]⟩ 7 (by kernel_rfl) (by kernel_rfl) (by kernel_rfl) (by kernel_rfl))
  laidOut rfl rfl (by kernel_rfl) (by kernel_rfl) (by
  intro t a1;have:Tryz.f7.params.toList.all (λt=>Tryz.prog.readableRec t&&decide (t<Tryz.prog.types.size))=true:=by kernel_rfl
  have:=List.all_eq_true.1 this t a1;simpa using this) (λds ak=>?_) (by kernel_rfl) (by kernel_rfl) (λbz aH m=>?_)
 ·match ds,ak with
  |[d0],_=>rfl
 ·refine @gL.mono my _ _ _ _ _ _ ((IH 20).zG 7 bz (λω=>by rw[ej bz aH ω];rfl) bz m (Oo (Om aH))) ?_;rintro v E m' ⟨⟨ω,U⟩,_,ab,al⟩;rw[ej bz aH ω]at U;injection U with U;exact⟨U.symm,ab,al⟩
theorem aeH(ej:∀bz,qu Tryz.prog 6 Tryz.f7.params.toList bz->∀ω,E Tryz.prog 20 ω 7 bz=some (.bool true)):Rows.RuleCoverSaid:=
 OpenClaim.holds_of_wide_leaving 7 Tryz.f7 rfl rfl rfl rfl rfl rfl rfl ⟨rfl,rfl,rfl,rfl,rfl⟩ rfl rfl rfl rfl rfl (by kernel_rfl) Tryz.func7 (by kernel_rfl)
  (of_decide_eq_true (by kernel_rfl)) (by unfold Func.isWrapper;first|(rw[if_pos (by decide +kernel)];kernel_rfl)|(rw[if_neg (by decide +kernel)];exact⟨rfl,rfl⟩))
  (λos started H enc _=>adP ej os started H enc)
end
section
open Go Go.RowKit
section
variable{P:Program}{C:b2->FuncId->List aa->Option aa}{n:Nat}{R:Out->Prop}{ρ:List aa}
@[simp]theorem dk{p:Prim}{t:Tree}:bN P C n (.av p t) ρ R↔∃v,p.run P ρ=some v/\bN P C n t (ρ++[v]) R:=by
 refine⟨λh=>by letI:=jx;exact h.av,λ⟨v,h,k⟩ ω=>?_⟩;obtain⟨o,ar,cn⟩:=k ω;exact⟨o,by simp only[eval,h];exact ar,cn⟩
@[simp]theorem uE{v:aS}:bN P C n (.ret v) ρ R↔R (.val (v.den ρ)):=by
 refine⟨λh=>?_,λh ω=>⟨_,rfl,h⟩⟩;obtain⟨o,ar,cn⟩:=h gP;simp only[eval,Option.some.injEq]at ar;subst ar;exact cn
@[simp]theorem kG{L:Nat}{l:List aS}:bN P C n (.jump L l) ρ R↔R (.jump L (ep ρ l)):=by
 refine⟨λh=>?_,λh ω=>⟨_,rfl,h⟩⟩;obtain⟨o,ar,cn⟩:=h gP;simp only[eval,Option.some.injEq]at ar;subst ar;exact cn
def xJ(x:Bool)(A B:Prop):Prop:=(x=true->A)/\(x=false->B)
theorem gR{x:Bool}{A B:Prop}(h:x=true->A)(k:x=false->B):xJ x A B:=⟨h,k⟩
@[simp]theorem Ig{A B:Prop}:xJ true A B↔A:=by simp[xJ]
@[simp]theorem Ol{A B:Prop}:xJ false A B↔B:=by simp[xJ]
def Kk(v:aa)(A B:Prop):Prop:=(v=.bool true/\A)\/(v=.bool false/\B)
@[simp]theorem hV{b:Bool}{A B:Prop}:Kk (.bool b) A B↔xJ b A B:=by cases b<;>simp[Kk,xJ]
@[simp]theorem run_ite{c:aR}{a b:Tree}:bN P C n (.ite c a b) ρ R↔Kk (c.den ρ) (bN P C n a ρ R) (bN P C n b ρ R):=by
 refine⟨λh=>by letI:=jx;exact h.ite,λh ω=>?_⟩;rcases h with⟨h,k⟩|⟨h,k⟩
 ·obtain⟨o,ar,cn⟩:=k ω;exact⟨o,by simp only[eval,h];exact ar,cn⟩
 ·obtain⟨o,ar,cn⟩:=k ω;exact⟨o,by simp only[eval,h];exact ar,cn⟩
theorem gb{g:FuncId}{args:List aS}{t:Tree}{Q:aa->Prop}(h:∀ω,∃v,C ω g (ep ρ args)=some v/\Q v)(k:∀v,Q v->bN P C n t (ρ++[v]) R):bN P C n (.call g args t) ρ R:=by
 intro ω;obtain⟨v,U,ab⟩:=h ω.l;obtain⟨o,ar,cn⟩:=k v ab ω.r;exact⟨o,by simp only[eval,U];exact ar,cn⟩
theorem AD{f:aR}{g:FuncId}{caps:List aa}{args:List aS}{t:Tree}{Q:aa->Prop}(aQ:f.den ρ=.fn g caps)(h:∀ω,∃v,C ω g (ep ρ args++caps)=some v/\Q v)(k:∀v,Q v->bN P C n t (ρ++[v]) R):bN P C n (.kL f args t) ρ R:=by
 intro ω;obtain⟨v,U,ab⟩:=h ω.l;obtain⟨o,ar,cn⟩:=k v ab ω.r;exact⟨o,by simp only[eval,aQ,U];exact ar,cn⟩
theorem hY{L:Nat}{b k:Tree}(J:List aa->Prop)(h:bN P C n b ρ (fV L J R))(aq:∀af,J af->bN P C n k (ρ++af) R):bN P C n (.join L b k) ρ R:=by
 intro ω;obtain⟨o,ar,cn⟩:=h ω.l;cases o with
 |val v=>exact⟨_,by simp only[eval,ar],cn⟩
 |jump cL af=>
  by_cases e:cL=L
  ·subst e;simp only[fV,if_true]at cn;obtain⟨o',eC,ni⟩:=aq af cn ω.r;exact⟨o',by simp only[eval,ar,if_true];exact eC,ni⟩
  ·simp only[fV,if_neg e]at cn;exact⟨_,by simp only[eval,ar,if_neg e],cn⟩
theorem o7{L:Nat}{init:List aS}{b:Tree}(I:Nat->List aa->Prop)(N:Nat)(gq:N<n)(aT:I N (ep ρ init))(ao:∀j af,I j af->bN P C n b (ρ++af) (fV L (λcB=>∃j5,j5<j/\I j5 cB) R)):bN P C n (.loop L init b) ρ R:=by
 have key:∀k j af,j<k->I j af->∀ω,∃o,iter (λω af=>eval P C n b ω (ρ++af)) L k ω af=some o/\R o:=by
  intro k;induction k with
  |zero=>intro j af h;omega
  |succ k az=>
   intro j af aC iM ω;obtain⟨o,ar,cn⟩:=ao j af iM ω.l;cases o with
   |val v=>exact⟨_,by simp only[iter,ar],cn⟩
   |jump cL cB=>
    by_cases e:cL=L
    ·subst e;simp only[fV,if_true]at cn;obtain⟨j5,aU,aip⟩:=cn;obtain⟨o',eC,ni⟩:=az j5 cB (by omega) aip ω.r;exact⟨o',by simp only[iter,ar,if_true];exact eC,ni⟩
    ·simp only[fV,if_neg e]at cn;exact⟨_,by simp only[iter,ar,if_neg e],cn⟩
 intro ω;obtain⟨o,ar,cn⟩:=key n N _ gq aT ω;exact⟨o,by simp only[eval];exact ar,cn⟩
@[simp]theorem mj{L:Nat}{J:List aa->Prop}{af:List aa}:fV L J R (.jump L af)↔J af:=by simp[fV]
theorem Y4{L cL:Nat}{J:List aa->Prop}{af:List aa}(h:cL≠L):fV L J R (.jump cL af)↔R (.jump cL af):=by simp[fV,h]
@[simp]theorem acg{L:Nat}{J:List aa->Prop}{v:aa}:fV L J R (.val v)↔R (.val v):=by simp[fV]
end
abbrev mR:=Nat->b2->FuncId->List aa->Option aa
def ks(C:mR)(k:Nat)(g:FuncId)(args:List aa)(Q:aa->Prop):Prop:=∀ω,∃v,C k ω g args=some v/\Q v
theorem ks.mono{C:mR}{k:Nat}{g:FuncId}{args:List aa}{Q lB:aa->Prop}(h:ks C k g args Q)(aH:∀v,Q v->lB v):ks C k g args lB:=λω=>by
 obtain⟨v,U,ab⟩:=h ω;exact⟨v,U,aH v ab⟩
abbrev dT:=ks (E Tryz.prog)
theorem lO{k:Nat}{g:FuncId}{args:List aa}{t:Tree}{fn:Func}{Q:aa->Prop}(a1:cA g=some t)(aQ:Tryz.prog.funcs[g]?=some fn)(gN:dd (flagsOf 23 fn) args=true)(h:bN Tryz.prog (E Tryz.prog k) 4096 t args λo=>∃v,o=.val v/\v.plain=true/\Q v):dT (k+1) g args Q:=by
 intro ω;obtain⟨o,ar,v,rfl,ae,gI⟩:=h ω;refine⟨v,?_,gI⟩;unfold E;simp only[g6,a1,aQ,gN,if_true];have bc:=ar;unfold E at bc;rw[bc];simp[ae]
noncomputable def zx(g:FuncId):Bool:=(PP.cA g).isSome&&(g != 103&&g != 58)
class oX(C:mR):Prop where
 of:∀{k:Nat}{g:FuncId}{args:List aa}{t:Tree}{fn:Func}{Q:aa->Prop},zx g=true->cA g=some t->Tryz.prog.funcs[g]?=some fn->dd (flagsOf 23 fn) args=true->(bN Tryz.prog (C k) 4096 t args λo=>∃v,o=.val v/\v.plain=true/\Q v)->ks C (k+1) g args Q
instance:oX (E Tryz.prog):=⟨λ_=>lO⟩
theorem sU{C:mR}[oX C]{k:Nat}{g:FuncId}{args:List aa}{t:Tree}{fn:Func}{Q:aa->Prop}(a1:cA g=some t)(ak:zx g=true)(aQ:Tryz.prog.funcs[g]?=some fn)(gN:dd (flagsOf 23 fn) args=true)(h:bN Tryz.prog (C k) 4096 t args λo=>∃v,o=.val v/\v.plain=true/\Q v):ks C (k+1) g args Q:=oX.of ak a1 aQ gN h
attribute [simp] Prim.run aS.den aR.den ep cM ll vc na Bg zj zk vd uW tL xK A5 wO List.getD_cons_succ List.getD_cons_zero
@[simp]theorem akl{k:IntKind}{x:Int}:(aa.int k x).one=true:=rfl
@[simp]theorem aj1{b:Bool}:(aa.bool b).one=true:=rfl
@[simp]theorem aj2:aa.bC.one=true:=rfl
@[simp]theorem aks{id:Option Nat}{a b c:Nat}{l:List aa}:(aa.sl id a b c l).one=true:=rfl
@[simp]theorem akt{f:FuncId}{l:List aa}:(aa.fn f l).one=true:=rfl
@[simp]theorem akm{l:List aa}:(aa.agg l).one=false:=rfl
@[simp]theorem ajP{k:IntKind}{x:Int}:(aa.int k x).plain=true:=by simp[aa.plain]
@[simp]theorem ajH{b:Bool}:(aa.bool b).plain=true:=by simp[aa.plain]
@[simp]theorem ajI:aa.bC.plain=true:=by simp[aa.plain]
@[simp]theorem aj3{a b c:Nat}{l:List aa}:(aa.sl none a b c l).plain=bG l:=by simp[aa.plain]
@[simp]theorem ajQ{l:List aa}:(aa.agg l).plain=bG l:=by simp[aa.plain]
@[simp]theorem ajR{l:List aa}:(aa.bD l).plain=jO l:=by simp[aa.plain]
@[simp]theorem plain_fn{f:FuncId}{l:List aa}:(aa.fn f l).plain=bG l:=by simp[aa.plain]
@[simp]theorem ajJ{o:Nat}{l:List aa}:(aa.bJ none o l).plain=bG l:=by simp[aa.plain]
attribute [simp] bG jO
abbrev ax(n:Int):aa:=.int .i64 n
abbrev bv(b:Bool):aa:=.bool b
section
variable{P:Program}{t:TypeId}{k:IntKind}{a b:Int}
@[simp]theorem aj4:eB P .add t (.int k a) (.int k b)=some (.int k (k.wrap (a+b))):=by simp[eB]
@[simp]theorem Pl:eB P .sub t (.int k a) (.int k b)=some (.int k (k.wrap (a-b))):=by simp[eB]
@[simp]theorem aj5:eB P .mul t (.int k a) (.int k b)=some (.int k (k.wrap (a*b))):=by simp[eB]
@[simp]theorem aj6:eB P .eql t (.int k a) (.int k b)=some (.bool (decide (a=b))):=by simp[eB]
@[simp]theorem aj7:eB P .neq t (.int k a) (.int k b)=some (.bool (decide (a≠b))):=by simp[eB]
@[simp]theorem aj8:eB P .lss t (.int k a) (.int k b)=some (.bool (decide (a<b))):=by simp[eB]
@[simp]theorem aj9:eB P .leq t (.int k a) (.int k b)=some (.bool (decide (a<=b))):=by simp[eB]
@[simp]theorem aka:eB P .gtr t (.int k a) (.int k b)=some (.bool (decide (b<a))):=by simp[eB]
@[simp]theorem akb:eB P .geq t (.int k a) (.int k b)=some (.bool (decide (b<=a))):=by simp[eB]
theorem D3(h:b≠0):eB P .rem t (.int k a) (.int k b)=some (.int k (a.tmod b)):=by simp[eB,h]
theorem aaC(h:b≠0):eB P .quo t (.int k a) (.int k b)=some (.int k (k.wrap (a.tdiv b))):=by simp[eB,h]
@[simp]theorem akn{x:Bool}:rH .not (.bool x)=some (.bool !x):=rfl
end
theorem wrap64{n:Int}(U:-9223372036854775808<=n)(ab:n<=9223372036854775807):IntKind.i64.wrap n=n:=by
 simp[IntKind.wrap,IntKind.bits,IntKind.signed];omega
theorem Qw{n:Int}(U:0<=n)(ab:n<18446744073709551616):IntKind.u64.wrap n=n:=by
 simp[IntKind.wrap,IntKind.bits,IntKind.signed];omega
def dI(x:aa)(l:List Int):Prop:=(x=.bC/\l=[])\/∃off,x=.sl none 1 off l.length (l.map ax)
theorem uj(l:List Int):bG (l.map ax)=true:=by
 induction l with
 |nil=>rfl
 |cons a l az=>simp[bG,aa.plain,az]
theorem dI.plain{x:aa}{l:List Int}(h:dI x l):x.plain=true/\x.one=true:=by
 rcases h with⟨rfl,_⟩|⟨off,rfl⟩
 ·exact⟨rfl,rfl⟩
 ·exact⟨by simp only[aa.plain];exact uj l,rfl⟩
theorem Kl:Tryz.prog.underlying 22=some (.slice 3):=by kernel_rfl
theorem dI.len{x:aa}{l:List Int}(h:dI x l):ht Tryz.prog 22 x=some (ax l.length):=by rcases h with⟨rfl,rfl⟩|⟨off,rfl⟩<;>simp[ht,Kl]
theorem Fu{x:aa}{l:List Int}(h:dI x l){i:Int}{k:IntKind}(aT:0<=i)(U:i<l.length):kp 1 x (.int k i)=some (.agg [ax (l.getD i.toNat 0)]):=by
 rcases h with⟨rfl,rfl⟩|⟨off,rfl⟩
 ·simp at U;omega
 ·have aU:i.toNat<l.length:=by omega
  have e:((l.map ax).drop (i.toNat*1)).take 1=[ax (l.getD i.toNat 0)]:=by
   rw[Nat.mul_one,List.drop_eq_getElem_cons (by simpa using aU)];simp[List.getD_eq_getElem?_getD,aU]
  simp only[kp];rw[if_pos ⟨aT,U,trivial,by rw[e];rfl⟩,e]
end
section
open Go Go.RowKit
theorem aeQ:Tryz.prog.underlying 83=some (.int .u64):=by kernel_rfl
theorem JM:Tryz.prog.underlying 3=some (.int .i64):=by kernel_rfl
abbrev pQ:aa:=.ptr 0 0
theorem age(k:Nat):dT (k+1) 62 [pQ] λv=>∃x:Int,v=.int .u64 x/\0<=x/\x<4294967296:=by
 intro ω;refine⟨.int .u64 ((ω []%4294967296:Nat):Int),by simp[E,g6,show cA 62=none from rfl,pj,nU],_,rfl,by omega,by omega⟩
theorem m8(k:Nat)(n:Int)(aI:n<4294967295)(qv:-9223372036854775808<=n):dT (k+2) 23 [pQ,ax n] λv=>∃x,v=ax x/\0<=x/\x<=max n 0:=by
 refine lO (t:=t23) (by kernel_rfl) (fn:=Tryz.f23) (by kernel_rfl) rfl ?_;simp[t23,ag,aD,aM];refine gR (λh=>?_) (λh=>?_)<;>simp at h
 ·omega
 ·refine gb (age k) ?_;rintro v ⟨x,rfl,lv,dG⟩;have aK:IntKind.i64.wrap (n+1)=n+1:=wrap64 (by omega) (by omega);have aO:IntKind.u64.wrap (n+1)=n+1:=Qw (by omega) (by omega);have hb:x*(n+1)<4294967296*(n+1):=Int.mul_lt_mul_of_pos_right dG (by omega);have ix:0<=x*(n+1):=Int.mul_nonneg lv (by omega);have bS:IntKind.u64.wrap (x*(n+1))=x*(n+1):=Qw ix (by omega);have aH:0<=(x*(n+1)).fdiv 4294967296/\(x*(n+1)).fdiv 4294967296<=n:=by
   rw[Int.fdiv_eq_ediv_of_nonneg _ (by decide)];omega
  have b8:IntKind.i64.wrap ((x*(n+1)).fdiv 4294967296)=(x*(n+1)).fdiv 4294967296:=wrap64 (by omega) (by omega);simp[q5,aeQ,JM,aK,aO,bS,eB,IntKind.bits,b8,aa.plain];exact⟨aH.1,by omega⟩
theorem td(k:Nat)(lo hi:Int)(aT:0<=hi-lo)(U:hi-lo<4294967295)(ab:-1000000<=lo)(al:lo<=1000000):dT (k+3) 52 [pQ,ax lo,ax hi] λv=>∃x,v=ax x/\lo<=x/\x<=hi:=by
 refine lO (t:=t52) (by kernel_rfl) (fn:=Tryz.f52) (by kernel_rfl) rfl ?_;simp[t52,ag,aD,aM,wrap64 (n:=hi-lo) (by omega) (by omega)];refine gb (m8 k (hi-lo) (by omega) (by omega)) ?_;rintro v ⟨x,rfl,lv,dG⟩;simp[wrap64 (n:=lo+x) (by omega) (by omega),aa.plain];omega
def Uu(v:aa):Prop:=∃b,v=.bool b
@[simp]theorem akc{b:Bool}:Uu (.bool b):=⟨b,rfl⟩
theorem Km(k:Nat)(n:Int)(aT:0<=n)(U:n<1000000):dT (k+3) 55 [pQ,ax n] Uu:=by
 refine lO (t:=t55) (by kernel_rfl) (fn:=Tryz.f55) (by kernel_rfl) rfl ?_;simp[t55,ag,aD,aM,wrap64 (n:=n-1) (by omega) (by omega)];refine gb (m8 k (n-1) (by omega) (by omega)) ?_;rintro v ⟨x,rfl,lv,dG⟩;simp[aaC,aa.plain]
theorem zl(k:Nat){x:aa}{l:List Int}(h:dI x l)(ak:0<l.length)(er:l.length<1000000):dT (k+3) 51 [pQ,x] λv=>∃a,v=ax a/\a∈l:=by
 refine lO (t:=t51) (by kernel_rfl) (fn:=Tryz.f51) (by kernel_rfl) (by simp[dd,flagsOf,h.plain]) ?_;simp[t51,ag,aD,aM,h.len,wrap64 (n:=(l.length:Int)-1) (by omega) (by omega)];refine gb (m8 k ((l.length:Int)-1) (by omega) (by omega)) ?_;rintro v ⟨i,rfl,F5,rJ⟩;have aU:i.toNat<l.length:=by omega
 simp[Fu h F5 (by omega),aa.plain,List.getD_eq_getElem?_getD,aU]
end
section
open Go Go.RowKit
def m9(l:List Int):aa:=match l with
 |[]=>.bC
 |a::l=>.sl none 1 0 (l.length+1) ((a::l).map ax)
theorem rh(l:List Int):dI (m9 l) l:=by
 cases l with
 |nil=>exact .inl ⟨rfl,rfl⟩
 |cons a l=>exact .inr ⟨0,rfl⟩
@[simp]theorem aaD(ρ:List aa)(l:List Int):iU ρ 1 .cZ (.agg (l.map ax))=some (m9 l):=by
 cases l with
 |nil=>rfl
 |cons a l=>simp[iU,isNil,m9]
@[simp]theorem akd(ρ:List aa)(l:List Int):iU ρ 1 .real (.agg (l.map ax))=some (.sl none 1 0 l.length (l.map ax)):=by simp[iU,isNil]
theorem Ih{l:List Int}{bytes:Nat}{a:Int}(hb:bytes<=64)(ak:l.length<1000000):uW 1 bytes (.agg (l.map ax)) (.sl none 1 0 1 [ax a])=some (.agg ((l++[a]).map ax)):=by
 simp;have:(l.length+1)*bytes<=(l.length+1)*64:=Nat.mul_le_mul_left _ hb;omega
structure aX where
 sp:aa
 st:List Int
 lines:Int
 width:Int
def aX.cells(r:aX):List aa:=[r.sp,ax r.lines,ax r.width]
structure aX.ok(r:aX):Prop where
 c5:dI r.sp r.st
 fI:1<=r.st.length
 ei:r.st.length<=3
 st:∀s∈r.st,2<=s/\s<=20
 hn:2<=r.lines
 k5:r.lines<=12
 w1:1<=r.width
 w2:r.width<=60
theorem agf(k:Nat):dT (k+4) 30 [pQ] λv=>∃r:aX,v=.agg r.cells/\r.ok:=by
 refine lO (t:=t30) (by kernel_rfl) (fn:=Tryz.f30) (by kernel_rfl) rfl ?_;simp only[t30,ag,aD,aM];refine gb (zl k (l:=[6,9,12]) (.inr ⟨0,rfl⟩) (by decide) (by decide)) ?_;rintro v ⟨mN,rfl,U⟩;have fG:6<=mN/\mN<=12:=by simp at U;omega
 refine gb (td k 2 mN (by omega) (by omega) (by omega) (by omega)) ?_;rintro v ⟨qD,rfl,ab,ha⟩;refine gb (td k 1 60 (by omega) (by omega) (by omega) (by omega)) ?_;rintro v ⟨ua,rfl,al,od⟩;simp only[dk];refine⟨ax ua,by simp[na],?_⟩;refine gb (zl k (l:=[30,32,40,ua]) (.inr ⟨0,rfl⟩) (by simp) (by simp)) ?_;rintro v ⟨GD,rfl,bm⟩;have FL:1<=GD/\GD<=60:=by simp at bm;omega
 simp only[dk];refine⟨ax qD,by simp[na],ax GD,by simp[na],?_⟩;refine gb (td k 1 3 (by omega) (by omega) (by omega) (by omega)) ?_;rintro v ⟨Vg,rfl,et,T1⟩;refine hY (λaf=>∃l:List Int,af=[.agg (l.map ax)]/\1<=l.length/\l.length<=3/\∀s∈l,2<=s/\s<=20) ?_ ?_
 ·refine o7 (λj af=>∃l:List Int,af=[ax j,.agg (l.map ax)]/\(l.length:Int)+j=Vg/\∀s∈l,2<=s/\s<=20) Vg.toNat (by omega) ⟨[],by simp;omega,by simp;omega,by simp⟩ ?_;rintro j af ⟨l,rfl,ak,ao⟩;simp;refine gR (λh=>?_) (λh=>?_)<;>simp at h
  ·refine gb (td k 5 9 (by omega) (by omega) (by omega) (by omega)) ?_;rintro v ⟨a,rfl,au,kR⟩;refine gb (td k 5 9 (by omega) (by omega) (by omega) (by omega)) ?_;rintro v ⟨b,rfl,hb,dB⟩;refine gb (td k 2 20 (by omega) (by omega) (by omega) (by omega)) ?_;rintro v ⟨c,rfl,ah,gv⟩;simp only[dk];refine⟨ax a,by simp[na],ax b,by simp[na],ax c,by simp[na],?_⟩;refine gb (zl k (l:=[a,b,c]) (.inr ⟨0,rfl⟩) (by simp) (by simp)) ?_;rintro v ⟨d,rfl,aV⟩;simp only[dk];refine⟨ax d,by simp[na],_,Ih (by decide) (by omega),?_⟩;simp[wrap64 (n:=(j:Int)-1) (by omega) (by omega)];refine⟨j-1,by omega,l++[d],by simp;omega,by simp;omega,?_⟩;intro s tv;rcases List.mem_append.1 tv with bc|bc
   ·exact ao s bc
   ·simp at bc aV;omega
  ·simp[fV];exact⟨l,rfl,by omega,by omega,ao⟩
 ·rintro af ⟨l,rfl,gk,bQ,ao⟩;simp;exact⟨(rh l).plain,⟨m9 l,l,qD,GD⟩,rfl,rh l,gk,bQ,ao,ab,by show qD<=12;omega,FL.1,FL.2⟩
def dJ(l:List aX):List aa:=l.flatMap aX.cells
@[simp]theorem ajK:dJ []=[]:=rfl
@[simp]theorem vX(r:aX)(l:List aX):dJ (r::l)=r.cells++dJ l:=by simp[dJ]
@[simp]theorem VT(k l:List aX):dJ (k++l)=dJ k++dJ l:=by simp[dJ]
@[simp]theorem XK(l:List aX):(dJ l).length=l.length*3:=by
 induction l with
 |nil=>rfl
 |cons r l az=>rw[vX,List.length_append,az];simp[aX.cells];omega
def mQ(x:aa)(l:List aX):Prop:=(x=.bC/\l=[])\/∃off,x=.sl none 3 off l.length (dJ l)
theorem Wi{l:List aX}(h:∀r∈l,r.ok):bG (dJ l)=true:=by
 induction l with
 |nil=>rfl
 |cons r l az=>simp[aX.cells,(h r (by simp)).c5.plain,az λx aj=>h x (by simp[aj])]
theorem mQ.plain{x:aa}{l:List aX}(h:mQ x l)(ak:∀r∈l,r.ok):x.plain=true/\x.one=true:=by
 rcases h with⟨rfl,_⟩|⟨off,rfl⟩
 ·simp
 ·simp[Wi ak]
theorem Uv:Tryz.prog.underlying 25=some (.slice 58):=by kernel_rfl
theorem mQ.len{x:aa}{l:List aX}(h:mQ x l):ht Tryz.prog 25 x=some (ax l.length):=by rcases h with⟨rfl,rfl⟩|⟨off,rfl⟩<;>simp[ht,Uv]
instance:Inhabited aX:=⟨⟨.bC,[],0,0⟩⟩
theorem agh{x:aa}{l:List aX}(h:mQ x l){i:Int}{k:IntKind}(aT:0<=i)(U:i<l.length):kp 3 x (.int k i)=some (.agg (l.getD i.toNat default).cells):=by
 rcases h with⟨rfl,rfl⟩|⟨off,rfl⟩
 ·simp at U;omega
 ·have aU:i.toNat<l.length:=by omega
  have key:∀(l:List aX)(j:Nat),j<l.length->((dJ l).drop (j*3)).take 3=(l.getD j default).cells:=by
   intro l;induction l with
   |nil=>intro j aC;simp at aC
   |cons r l az=>
    intro j aC;cases j with
    |zero=>simp[aX.cells]
    |succ j=>
     rw[vX,show(j+1)*3=r.cells.length+j*3 by simp[aX.cells];omega,List.drop_length_add_append];simpa using az j (by simpa using aC)
  have e:=key l i.toNat aU;simp only[kp];rw[if_pos ⟨aT,U,trivial,by rw[e];rfl⟩,e]
def Fv(l:List aX):aa:=match l with
 |[]=>.bC
 |a::l=>.sl none 3 0 (l.length+1) (dJ (a::l))
theorem SC(l:List aX):mQ (Fv l) l:=by
 cases l with
 |nil=>exact .inl ⟨rfl,rfl⟩
 |cons a l=>exact .inr ⟨0,rfl⟩
@[simp]theorem ajS(ρ:List aa)(l:List aX):iU ρ 3 .cZ (.agg (dJ l))=some (Fv l):=by
 cases l with
 |nil=>rfl
 |cons a l=>
  have:(dJ (a::l)).length/3=l.length+1:=by rw[XK];simp
  have bU:dJ (a::l)=a.sp::(ax a.lines::ax a.width::dJ l):=by simp[aX.cells]
  simp only[iU,isNil];rw[bU]at this⊢;simp only[Fv,this,bU]
theorem ach{l:List aX}{bytes:Nat}{r:aX}(hb:bytes<=64)(ak:l.length<1000000):uW 3 bytes (.agg (dJ l)) (.sl none 3 0 1 r.cells)=some (.agg (dJ (l++[r]))):=by
 have:(l.length+1)*bytes<=(l.length+1)*64:=Nat.mul_le_mul_left _ hb;simp[aX.cells];omega
theorem agi(k:Nat)(zm:Int)(hm:1<=zm)(eX:zm<=4):dT (k+5) 12 [pQ,ax zm] λv=>∃slip b3 l,v=.agg [ax slip,b3]/\0<=slip/\slip<=3/\mQ b3 l/\1<=l.length/\(l.length:Int)<=zm/\∀r∈l,r.ok:=by
 refine lO (t:=t12) (by kernel_rfl) (fn:=Tryz.f12) (by kernel_rfl) rfl ?_;simp only[t12,ag,aD,aM];refine gb (m8 (k+2) 3 (by omega) (by omega)) ?_;rintro v ⟨qD,rfl,ab,ha⟩;simp only[dk];refine⟨ax qD,by simp[na],?_⟩;refine gb (zl (k+1) (l:=[0,1,1,qD]) (.inr ⟨0,rfl⟩) (by simp) (by simp)) ?_;rintro v ⟨GF,rfl,aJ⟩;have FK:0<=GF/\GF<=3:=by simp at aJ;omega
 simp only[dk];refine⟨ax GF,by simp[na],?_⟩;refine gb (td (k+1) 1 zm (by omega) (by omega) (by omega) (by omega)) ?_;rintro v ⟨Vh,rfl,bI,zy⟩;refine hY (λaf=>∃l:List aX,af=[.agg (dJ l)]/\1<=l.length/\(l.length:Int)<=zm/\∀r∈l,r.ok) ?_ ?_
 ·refine o7 (λj af=>∃l:List aX,af=[ax j,.agg (dJ l)]/\(l.length:Int)+j=Vh/\∀r∈l,r.ok) Vh.toNat (by omega) ⟨[],by simp;omega,by simp;omega,by simp⟩ ?_;rintro j af ⟨l,rfl,ak,ao⟩;simp;refine gR (λh=>?_) (λh=>?_)<;>simp at h
  ·refine gb (agf k) ?_;rintro v ⟨r,rfl,ad⟩;simp only[dk];refine⟨.agg r.cells,by simp[aX.cells],.agg (dJ (l++[r])),ach (by decide) (by omega),?_⟩;refine⟨ax ((j:Int)-1),by simp[wrap64 (n:=(j:Int)-1) (by omega) (by omega)],?_⟩;simp only[kG,mj];refine⟨j-1,by omega,l++[r],by simp;omega,by simp;omega,?_⟩;intro s tv;rcases List.mem_append.1 tv with bc|bc
   ·exact ao s bc
   ·simp at bc;subst bc;exact ad
  ·simp[fV];exact⟨l,rfl,by omega,by omega,ao⟩
 ·rintro af ⟨l,rfl,gk,bQ,ao⟩;simp;exact⟨(SC l).plain ao,GF,Fv l,⟨rfl,rfl⟩,FK.1,FK.2,l,SC l,gk,bQ,ao⟩
end
section
open Go Go.RowKit
theorem wu{l:List Int}{i:Int}(aT:0<=i)(U:i<l.length):zj 1 (.agg (l.map ax)) (ax i)=some (ax i):=by simp;omega
theorem II{l:List Int}{i:Int}(aT:0<=i)(U:i<l.length):zk 1 0 1 (.agg (l.map ax)) (ax i)=some (.agg [ax (l.getD i.toNat 0)]):=by
 have aU:i.toNat<l.length:=by omega
 have e:((l.map ax).drop (i.toNat*1+0)).take 1=[ax (l.getD i.toNat 0)]:=by
  rw[Nat.mul_one,Nat.add_zero,List.drop_eq_getElem_cons (by simpa using aU)];simp[List.getD_eq_getElem?_getD,aU]
 simp only[zk];rw[e];simp
theorem agj(k:Nat)(x lo hi:Int):dT (k+1) 88 [ax x,ax lo,ax hi] λv=>v=.bool (decide (lo<=x)&&decide (x<=hi)):=by
 refine lO (t:=t88) (by kernel_rfl) (fn:=Tryz.f88) (by kernel_rfl) rfl ?_;simp only[t88,ag,aD,aM];refine hY (λaf=>af=[.bool (decide (lo<=x)&&decide (x<=hi))]) ?_ ?_
 ·simp;refine gR (λh=>?_) (λh=>?_)<;>simp at h
  ·simp[h]
  ·intro bc;omega
 ·rintro af rfl;simp
theorem Ts(k:Nat)(x m:Int):dT (k+1) 89 [ax x,ax m] λv=>v=ax (if x<1 then 7 else if m<x then 6 else 0):=by
 refine lO (t:=t89) (by kernel_rfl) (fn:=Tryz.f89) (by kernel_rfl) rfl ?_;simp[t89,ag,aD,aM];refine gR (λh=>?_) (λh=>?_)<;>simp at h
 ·intro bc;omega
 ·refine gR (λbc=>?_) (λbc=>?_)<;>simp at bc
  ·simp[bc];omega
  ·omega
theorem aow(k:Nat){r:aX}(ad:r.ok):dT (k+2) 90 [.agg r.cells] λv=>v=ax 0:=by
 refine lO (t:=t90) (by kernel_rfl) (fn:=Tryz.f90) (by kernel_rfl) (by simp[dd,flagsOf,aX.cells,ad.c5.plain]) ?_;have U:=ad.fI;have ab:=ad.ei;simp[t90,ag,aD,aM,aX.cells,ad.c5.len];refine gb (Ts k _ _) ?_;rintro v rfl;rw[if_neg (by omega),if_neg (by omega)];simp[ad.c5.len];refine hY (λaf=>af=[]) ?_ ?_
 ·refine o7 (λj af=>∃i:Nat,af=[ax i]/\i+j=r.st.length) r.st.length (by omega) ⟨0,rfl,by omega⟩ ?_;rintro j af ⟨i,rfl,hi⟩;simp;refine gR (λh=>?_) (λh=>?_)<;>simp at h
  ·have aU:i<r.st.length:=by omega
   have ao:=ad.st (r.st.getD i 0) (by simp[List.getD_eq_getElem?_getD,aU]);simp[Fu ad.c5 (i:=(i:Int)) (by omega) (by omega),List.getD_eq_getElem?_getD,aU];refine gb (agj k _ _ _) ?_;rintro v rfl;simp[List.getD_eq_getElem?_getD,aU]at ao;simp[ao,wrap64 (n:=(i:Int)+1) (by omega) (by omega)];exact⟨j-1,by omega,i+1,by simp,by omega⟩
  ·simp[fV]
 ·rintro af rfl;simp;refine hY (λaf=>af=[.bool false]) ?_ ?_
  ·refine gb (agj k _ _ _) ?_;rintro v rfl;have:=ad.hn;have:=ad.k5;have:=ad.w1;have:=ad.w2;simp[*];refine gb (agj k _ _ _) ?_;rintro v rfl;simp[*]
  ·rintro af rfl;simp
end
section
open Go Go.RowKit
structure Hand(slip:Int)(b3:aa)(l:List aX):Prop where
 cc:0<=slip
 s1:slip<=3
 gS:mQ b3 l
 fY:1<=l.length
 fI:l.length<=4
 ok:∀r∈l,r.ok
theorem Hand.plain{slip:Int}{b3:aa}{l:List aX}(h:Hand slip b3 l):b3.plain=true/\b3.one=true:=h.gS.plain h.ok
theorem Hand.get{slip:Int}{b3:aa}{l:List aX}(h:Hand slip b3 l){i:Nat}(hi:i<l.length):(l.getD i default).ok:=h.ok _ (by simp[List.getD_eq_getElem?_getD,hi])
theorem aox(k:Nat){slip:Int}{b3:aa}{l:List aX}(h:Hand slip b3 l):dT (k+3) 41 [.agg [ax slip,b3]] λv=>v=ax 0:=by
 refine lO (t:=t41) (by kernel_rfl) (fn:=Tryz.f41) (by kernel_rfl) (by simp[dd,flagsOf,h.plain]) ?_;have U:=h.cc;have ab:=h.s1;have al:=h.fY;have aJ:=h.fI;simp[t41,ag,aD,aM];refine gb (agj (k+1) _ _ _) ?_;rintro v rfl;simp[U,ab,h.gS.len];refine gb (Ts (k+1) _ _) ?_;rintro v rfl;rw[if_neg (by omega),if_neg (by omega)];simp[h.gS.len];refine hY (λaf=>af=[]) ?_ ?_
 ·refine o7 (λj af=>∃i:Nat,af=[ax i]/\i+j=l.length) l.length (by omega) ⟨0,rfl,by omega⟩ ?_;rintro j af ⟨i,rfl,hi⟩;simp;refine gR (λh=>?_) (λh=>?_)<;>simp at h
  ·rename_i bq;have aU:i<l.length:=by omega
   have ad:=bq.get aU;refine⟨_,agh bq.gS (i:=(i:Int)) (by omega) (by omega),?_⟩;simp[aX.cells];refine gb (aow k ad) ?_;rintro v rfl;simp[wrap64 (n:=(i:Int)+1) (by omega) (by omega)];exact⟨j-1,by omega,i+1,by simp,by omega⟩
  ·simp[fV]
 ·rintro af rfl;simp
theorem agk:∃e,Tryz.prog.underlying 47=some (.slice e):=by
 have h:(match Tryz.prog.underlying 47 with|some (.slice _)=>true|_=>false)=true:=by kernel_rfl
 split at h
 ·exact⟨_,by assumption⟩
 ·cases h
@[simp]theorem aku(i n:Nat):((i:Int)%(n:Int)).toNat=i%n:=by rw[←Int.natCast_emod];rfl
def dp(r:aX)(i:Nat):Int:=r.st.getD (i%r.st.length) 0
theorem Jh{r:aX}(h:r.ok)(i:Nat):2<=dp r i/\dp r i<=20:=by
 have:i%r.st.length<r.st.length:=Nat.mod_lt _ h.fI;exact h.st _ (by unfold dp;simp[List.getD_eq_getElem?_getD,this])
theorem Fw{C:mR}[oX C](k:Nat){r:aX}(h:r.ok)(i:Nat):ks C (k+1) 96 [.agg r.cells,ax i] λv=>v=ax (dp r i):=by
 refine sU (t:=t96) (by kernel_rfl) (by kernel_rfl) (fn:=Tryz.f96) (by kernel_rfl) (by simp[dd,flagsOf,aX.cells,h.c5.plain]) ?_;have U:=h.fI;have ab:=h.ei;have aU:i%r.st.length<r.st.length:=Nat.mod_lt _ h.fI;have e:Int.tmod (i:Int) (r.st.length:Int)=((i%r.st.length:Nat):Int):=by rw[Int.tmod_eq_emod_of_nonneg (by omega)];simp
 simp[t96,ag,aD,aM,aX.cells,h.c5.len];refine⟨_,D3 (by omega),_,by rw[e];exact Fu h.c5 (i:=((i%r.st.length:Nat):Int)) (by omega) (by omega),?_⟩;simp[dp]
theorem agl(k:Nat)(i m:Nat)(hm:0<m)(hb:m<1000000):dT (k+1) 126 [ax i,ax m] λv=>v=ax ((i%m:Nat):Int):=by
 refine lO (t:=t126) (by kernel_rfl) (fn:=Tryz.f126) (by kernel_rfl) rfl ?_;have aU:i%m<m:=Nat.mod_lt _ hm;have e:∀i:Nat,Int.tmod (i:Int) (m:Int)=((i%m:Nat):Int):=by
  intro i;rw[Int.tmod_eq_emod_of_nonneg (by omega)];simp
 simp only[t126,ag,aD,aM,dk];refine⟨ax ((i%m:Nat):Int),by simp[D3 (show(m:Int)≠0 by omega),e],ax ((i%m+m:Nat):Int),by simp[wrap64 (n:=(i:Int)%m+m) (by omega) (by omega)],ax ((i%m:Nat):Int),?_,?_⟩
 ·have:=e (i%m+m);rw[Nat.add_mod_right,Nat.mod_mod]at this;simp only[Prim.run,aS.den,aR.den];simp[D3 (show(m:Int)≠0 by omega)];simpa using this
 ·simp
theorem Kn(k:Nat){r:aX}(h:r.ok)(i:Nat):dT (k+2) 98 [.agg r.cells,ax i] λv=>v=ax (dp r i):=by
 refine lO (t:=t98) (by kernel_rfl) (fn:=Tryz.f98) (by kernel_rfl) (by simp[dd,flagsOf,aX.cells,h.c5.plain]) ?_;have U:=h.fI;have ab:=h.ei;have aU:i%r.st.length<r.st.length:=Nat.mod_lt _ h.fI;simp[t98,ag,aD,aM,aX.cells,h.c5.len];refine gb (agl k i r.st.length (by omega) (by omega)) ?_;rintro v rfl;simp only[dk];refine⟨_,Fu h.c5 (i:=((i%r.st.length:Nat):Int)) (by omega) (by omega),?_⟩;simp[dp]
def a1(r:aX):Nat->Int
 |0=>0
 |i+1=>a1 r i+dp r i
def tM(r:aX)(n:Nat):List Int:=(List.range n).map (a1 r)
@[simp]theorem ako(r:aX)(n:Nat):(tM r n).length=n:=by simp[tM]
end
section
open Go Go.RowKit
structure z6(l:List Int):Prop where
 len:l.length<=16
 tN:∀p∈l,0<=p/\p<=300
 Ch:∀i,i+1<l.length->l.getD i 0<l.getD (i+1) 0
theorem z6.get{l:List Int}(h:z6 l){i:Nat}(hi:i<l.length):0<=l.getD i 0/\l.getD i 0<=300:=h.tN _ (by simp[List.getD_eq_getElem?_getD,hi])
abbrev uc(l:List aa):aa:=.bJ none 0 l
@[simp]theorem ake{id:Option Nat}{o:Nat}{l:List aa}:(aa.bJ id o l).one=true:=rfl
abbrev GG(slip:Int):List aa:=[.fn 121 [uc [ax slip]],.fn 122 [uc [ax slip]]]
theorem afE{C:mR}[oX C](k:Nat)(slip:Int):ks C (k+1) 91 [ax slip] λv=>v=.agg (GG slip):=by
 refine sU (t:=t91) (by kernel_rfl) (by kernel_rfl) (fn:=Tryz.f91) (by kernel_rfl) rfl ?_;simp[t91,ag,aD,aM]
theorem aeR{C:mR}[oX C](k:Nat){slip m r:Int}(h:-1000000<=m/\m<=1000000/\-1000000<=r/\r<=1000000):ks C (k+1) 121 [ax m,ax r,uc [ax slip]] λv=>v=.bool (decide (m-r<=slip)&&decide (r-m<=slip)):=by
 refine sU (t:=t121) (by kernel_rfl) (by kernel_rfl) (fn:=Tryz.f121) (by kernel_rfl) rfl ?_;simp only[t121,ag,aD,aM];refine hY (λaf=>af=[.bool (decide (m-r<=slip)&&decide (r-m<=slip))]) ?_ ?_
 ·simp[wrap64 (n:=m-r) (by omega) (by omega),wrap64 (n:=r-m) (by omega) (by omega)];refine gR (λh=>?_) (λh=>?_)<;>simp at h
  ·simp[h]
  ·intro bc;omega
 ·rintro af rfl;simp
def agm(slip a h p:Int):Bool:=decide (p-(a+h)<=slip)&&decide (a+h-p<=slip)
def blk(slip:Int)(l:List Int)(a:Int)(r:aX):Nat->List Int
 |0=>[]
 |i+1=>blk slip l a r i++if l.any (agm slip a (a1 r i))then[]else[(i:Int)]
end
section
open Go Go.RowKit
theorem m6{b3:aa}{l:List aX}(h:mQ b3 l){n:Nat}(aI:n<l.length):kp 3 b3 (ax n)=some (.agg (l.getD n default).cells):=by
 have:=agh h (i:=(n:Int)) (k:=.i64) (by omega) (by omega);simpa only[Int.toNat_natCast]using this
theorem tc{x:aa}{l:List Int}(h:dI x l){n:Nat}(aI:n<l.length):kp 1 x (ax n)=some (.agg [ax (l.getD n 0)]):=by
 have:=Fu h (i:=(n:Int)) (k:=.i64) (by omega) (by omega);simpa only[Int.toNat_natCast]using this
def aiq(slip:Int)(ps:List Int)(r:aX):Nat->List Int
 |0=>[]
 |i+1=>aiq slip ps r i++if(blk slip ps (ps.getD i 0) r r.lines.toNat).length=0 then[(i:Int)]else[]
theorem Pp(k:Nat){x:aa}{l:List Int}(aj:dI x l)(ak:l.length<4000)(a:Int):dT (k+1) 17 [x,ax a] λv=>∃i,v=ax i/\(0<=i↔a∈l):=by
 refine lO (t:=t17) (by kernel_rfl) (fn:=Tryz.f17) (by kernel_rfl) (by simp[dd,flagsOf,aj.plain]) ?_;simp only[t17,ag,aD,aM];refine hY (λaf=>∃i:Nat,af=[ax i]/\((i<l.length/\a∈l)\/(i=l.length/\a∉l))) ?_ ?_
 ·refine o7 (λj af=>∃i:Nat,af=[ax i]/\i+j=l.length/\a∉l.take i) l.length (by omega) ⟨0,rfl,by omega,by simp⟩ ?_;rintro j af ⟨i,rfl,hi,hb⟩;refine hY (λaf=>(af=[.bool true]/\i<l.length/\l.getD i 0≠a)\/(af=[.bool false]/\((i<l.length/\a∈l)\/(i=l.length/\a∉l)))) ?_ ?_
  ·simp[aj.len];refine gR (λh=>?_) (λh=>?_)<;>simp at h
   ·have aU:i<l.length:=by omega
    refine⟨_,tc aj aU,?_⟩;by_cases e:l.getD i 0=a
    ·have hm:l.getD i 0∈l:=by simp[List.getD_eq_getElem?_getD,aU]
     rw[e]at hm;simp at e;simp[e,aU,hm];omega
    ·simp at e;simp[e,aU];left;simpa[aU]using e
   ·have e:l.take i=l:=List.take_of_length_le (by omega);rw[e]at hb;have:i=l.length:=by omega
    simp[this,hb]
  ·rintro af (⟨rfl,aU,bU⟩|⟨rfl,bq⟩)
   ·simp[wrap64 (n:=(i:Int)+1) (by omega) (by omega)];refine⟨j-1,by omega,i+1,by simp,by omega,?_⟩;rw[List.take_add_one];intro ae;rcases List.mem_append.1 ae with U|U
    ·exact hb U
    ·simp[aU]at U bU;exact bU U.symm
   ·simp[fV];exact⟨i,rfl,bq⟩
 ·rintro af ⟨i,rfl,(⟨aU,hm⟩|⟨he,hm⟩)⟩
  ·have:¬((i:Int)=l.length):=by omega
   simp[aj.len,this,hm]
  ·simp[aj.len,he,hm]
structure vN(l:List Int)(a:Int):Prop where
 len:l.length<=16
 tN:∀p∈l,0<=p/\p<a
 Ch:∀i,i+1<l.length->l.getD i 0<l.getD (i+1) 0
theorem vN.up{l:List Int}{a b:Int}(h:vN l a)(hb:a<=b):vN l b:=⟨h.len,λp ae=>by have:=h.tN p ae;omega,h.Ch⟩
theorem vN.push{l:List Int}{a b:Int}(h:vN l a)(aT:0<=a)(ak:l.length<16)(hb:a<b):vN (l++[a]) b:=by
 refine⟨by simp;omega,λp ae=>?_,λi hi=>?_⟩
 ·rcases List.mem_append.1 ae with bc|bc
  ·have:=h.tN p bc;omega
  ·simp at bc;omega
 ·simp at hi;have g0:∀i,i<l.length->(l++[a]).getD i 0=l.getD i 0:=λi hi=>by simp[List.getD_eq_getElem?_getD,List.getElem?_append_left hi]
  rw[g0 i (by omega)];by_cases bq:i+1<l.length
  ·rw[g0 _ bq];exact h.Ch i bq
  ·have e:i+1=l.length:=by omega
   have aO:(l++[a]).getD (i+1) 0=a:=by simp[e]
   rw[aO];exact(h.tN _ (by have:i<l.length:=(by omega);simp[List.getD_eq_getElem?_getD,this])).2
theorem vN.Vi{l:List Int}{a:Int}(h:vN l a)(au:a<=301):z6 l:=⟨h.len,λp ae=>by have:=h.tN p ae;omega,h.Ch⟩
end
section
open Go Go.RowKit
theorem Qu(ω:b2):E Tryz.prog 19 ω 20 []=some (.bool true):=by kernel_rfl
end
section
open Go Go.RowKit
theorem XJ{q:aa}(h:l4 Tryz.prog 6 22 q):wY q=true/\q.plain=true/\q.one=true:=by
 have au:ik Tryz.prog 22≠some true:=by
  have:(match ik Tryz.prog 22 with|some true=>false|_=>true)=true:=by kernel_rfl
  intro e;rw[e]at this;cases this
 have bc:∃dF,q=dF/\g3 Tryz.prog 6 22 [dF]:=by
  unfold l4 at h;split at h
  ·exact absurd (by assumption) au
  ·exact h
 obtain⟨dF,rfl,ah⟩:=bc;have ae:=Ar _ _ _ ah;unfold g3 at ah;rw[Kl]at ah;simp only at ah;rcases ah with ah|⟨off,ls,ah,_,ak⟩
 ·injection ah with ah;subst ah;exact⟨rfl,rfl,rfl⟩
 ·injection ah with ah;subst ah;have al:Tryz.prog.cellsOf 3=1:=by kernel_rfl
  have hi:∀l∈ls,∃n,l=[ax n]:=by
   intro l hm;have:=(ak l hm).1;unfold g3 at this;rw[JM]at this;obtain⟨n,aI,_⟩:=this;exact⟨n,aI⟩
  refine⟨?_,by simpa[bG]using ae,rfl⟩;rw[al];simp only[wY,Bool.and_eq_true,decide_eq_true_eq,List.all_eq_true];refine⟨?_,λc ah=>?_⟩
  ·rw[MT (n:=1) (λl hm=>by obtain⟨n,rfl⟩:=hi l hm;rfl),Nat.mul_one]
  ·obtain⟨l,hm,iu⟩:=List.mem_flatten.1 ah;obtain⟨n,rfl⟩:=hi l hm;simp at iu;subst iu;rfl
theorem z6.push{l:List Int}{a:Int}(h:z6 l)(ak:l.length<16)(aT:0<=a)(U:a<=300)(Sj:0<l.length->l.getD (l.length-1) 0<a):z6 (l++[a]):=by
 refine⟨by simp;omega,λp ae=>?_,λi hi=>?_⟩
 ·rcases List.mem_append.1 ae with bc|bc
  ·exact h.tN p bc
  ·simp at bc;omega
 ·simp at hi;have g0:∀i,i<l.length->(l++[a]).getD i 0=l.getD i 0:=λi hi=>by simp[List.getD_eq_getElem?_getD,List.getElem?_append_left hi]
  rw[g0 i (by omega)];by_cases bq:i+1<l.length
  ·rw[g0 _ bq];exact h.Ch i bq
  ·have e:i+1=l.length:=by omega
   have aO:(l++[a]).getD (i+1) 0=a:=by simp[e]
   rw[aO,show i=l.length-1 by omega];exact Sj (by omega)
theorem Ru{n:Nat}(aI:n<1000000):tL [ax 0] 8 (ax n)=some (.agg ((List.replicate n (0:Int)).map ax)):=by
 have e:∀n:Nat,e8 [ax 0] n=(List.replicate n (0:Int)).map ax:=by
  intro n;induction n with
  |zero=>rfl
  |succ n az=>simp[e8,az,List.replicate_succ]
 simp only[tL,e,Int.toNat_natCast];rw[if_pos (by omega)]
theorem yG{l:List Int}{i:Nat}{a:Int}(hi:i<l.length):vd 1 0 (.agg (l.map ax)) (ax i) [ax a]=some (.agg ((l.set i a).map ax)):=by
 have e:fa (l.map ax) (i*1+0) [ax a]=(l.set i a).map ax:=by
  rw[List.set_eq_take_append_cons_drop,if_pos hi];simp[fa,List.map_take,List.map_drop]
 simp only[vd,Int.toNat_natCast];rw[if_pos (by simp;omega),e]
end
section
open Go Go.RowKit
theorem kN{C:mR}{n k:Nat}{R:Out->Prop}{ρ:List aa}{g:FuncId}{args:List aa}{es:List aS}{t:Tree}{Q:aa->Prop}(h:ks C k g args Q)(e:ep ρ es=args)(gJ:∀v,Q v->bN Tryz.prog (C k) n t (ρ++[v]) R):bN Tryz.prog (C k) n (.call g es t) ρ R:=gb (by rw[e];exact h) gJ
theorem aaE{α:Type}[Inhabited α]{f:α->List aa}{n:Nat}(aQ:∀a,(f a).length=n):∀(l:List α)(j:Nat),j<l.length->((l.flatMap f).drop (j*n)).take n=f (l.getD j default):=by
 intro l;induction l with
 |nil=>intro j aC;simp at aC
 |cons r l az=>
  intro j aC;cases j with
  |zero=>
   simp only[List.flatMap_cons,Nat.zero_mul,List.drop_zero,List.getD_cons_zero];rw[←aQ r,List.take_left]
  |succ j=>
   rw[List.flatMap_cons,show(j+1)*n=(f r).length+j*n by rw[aQ,Nat.add_mul];omega,List.drop_length_add_append];simpa using az j (by simpa using aC)
structure a7 where
 k6:aa
 g:List Int
 up:Int
 aP:Int
 wd:Int
 fr:Bool
instance:Inhabited a7:=⟨⟨.bC,[],0,0,0,false⟩⟩
def a7.cells(p:a7):List aa:=[p.k6,ax p.up,ax p.aP,ax p.wd,.bool p.fr]
structure a7.ok(p:a7):Prop where
 c5:dI p.k6 p.g
 pR:p.g.length<=5
 gs:∀x∈p.g,1<=x/\x<=30
 ud:0<=p.up
 j7:p.up<=30
 d0:0<=p.aP
 d1:p.aP<=30
 c9:0<=p.wd
 w1:p.wd<=60
theorem a7.ok.get{p:a7}(h:p.ok){i:Nat}(hi:i<p.g.length):1<=p.g.getD i 0/\p.g.getD i 0<=30:=h.gs _ (by simp[List.getD_eq_getElem?_getD,hi])
theorem aoy(k:Nat){p:a7}(h:p.ok):dT (k+2) 99 [.agg p.cells] λv=>v=ax 0:=by
 refine lO (t:=t99) (by kernel_rfl) (fn:=Tryz.f99) (by kernel_rfl) (by simp[dd,flagsOf,a7.cells,h.c5.plain]) ?_;have U:=h.pR;simp[t99,ag,aD,aM,a7.cells,h.c5.len];refine gR (λh=>?_) (λh=>?_)<;>simp at h
 ·omega
 ·rename_i bq;refine hY (λaf=>af=[]) ?_ ?_
  ·refine o7 (λj af=>∃i:Nat,af=[ax i]/\i+j=p.g.length) p.g.length (by omega) ⟨0,rfl,by omega⟩ ?_;rintro j af ⟨i,rfl,hi⟩;simp;refine gR (λh=>?_) (λh=>?_)<;>simp at h
   ·have aU:i<p.g.length:=by omega
    have ao:=bq.get aU;refine⟨_,tc bq.c5 aU,?_⟩;refine gb (agj k _ _ _) ?_;rintro v rfl;simp at ao;simp[ao,wrap64 (n:=(i:Int)+1) (by omega) (by omega)];exact⟨j-1,by omega,i+1,by simp,by omega⟩
   ·simp[fV]
  ·rintro af rfl;simp;refine hY (λaf=>af=[.bool false]) ?_ ?_
   ·have:=bq.ud;have:=bq.j7;have:=bq.d0;have:=bq.d1;have:=bq.c9;have:=bq.w1;refine gb (agj k _ _ _) ?_;rintro v rfl;simp[*];refine gb (agj k _ _ _) ?_;rintro v rfl;simp[*];refine gb (agj k _ _ _) ?_;rintro v rfl;simp[*]
   ·rintro af rfl;simp
def uM(l:List a7):List aa:=l.flatMap a7.cells
theorem anO{l:List a7}(h:∀p∈l,p.ok):bG (uM l)=true:=by
 induction l with
 |nil=>rfl
 |cons p l az=>
  have:uM (p::l)=p.cells++uM l:=by simp[uM]
  rw[this];simp[a7.cells,(h p (by simp)).c5.plain,az λx aj=>h x (by simp[aj])]
theorem agn{l:List a7}{off n:Nat}(aI:n<l.length):kp 5 (.sl none 5 off l.length (uM l)) (ax n)=some (.agg (l.getD n default).cells):=by
 have e:=aaE (f:=a7.cells) (n:=5) (λ_=>rfl) l n aI;simp only[kp,uM,Int.toNat_natCast];rw[if_pos ⟨by omega,by omega,trivial,by rw[e];rfl⟩,e]
theorem ans(k:Nat){slip:Int}{b3:aa}{l:List aX}(h:Hand slip b3 l){x:aa}{ns:List Int}(aj:dI x ns)(aI:∀n∈ns,0<=n/\n<l.length)(ak:ns.length<4000){ps:List a7}(ae:∀p∈ps,p.ok)(cD:ps.length<4000):dT (k+4) 56 [.agg [ax slip,b3],x,.sl none 5 0 ps.length (uM ps)] λv=>v=.bD [.agg [ax slip,b3],ax 0]:=by
 refine lO (t:=t56) (by kernel_rfl) (fn:=Tryz.f56) (by kernel_rfl) (by simp[dd,flagsOf,h.plain,aj.plain,anO ae]) ?_;have al:=h.fY;have aJ:=h.fI;simp[t56,ag,aD,aM];refine gb (aox k h) ?_;rintro v rfl;simp[aj.len];refine hY (λaf=>af=[]) ?_ ?_
 ·refine o7 (λj af=>∃i:Nat,af=[ax i]/\i+j=ns.length) ns.length (by omega) ⟨0,rfl,by omega⟩ ?_;rintro j af ⟨i,rfl,hi⟩;simp;refine gR (λh=>?_) (λh=>?_)<;>simp at h
  ·rename_i bq;have aU:i<ns.length:=by omega
   have ao:=aI (ns.getD i 0) (by simp[List.getD_eq_getElem?_getD,aU]);refine⟨_,Fu aj (i:=(i:Int)) (by omega) (by omega),?_⟩;simp[bq.gS.len,wrap64 (n:=(l.length:Int)-1) (by omega) (by omega)];refine gb (agj (k+2) _ _ _) ?_;rintro v rfl;simp[List.getD_eq_getElem?_getD,aU]at ao;have aK:ns[i]<=(l.length:Int)-1:=by omega
   simp[List.getD_eq_getElem?_getD,aU,ao,aK,wrap64 (n:=(i:Int)+1) (by omega) (by omega)];exact⟨j-1,by omega,i+1,by simp,by omega⟩
  ·simp[fV]
 ·rintro af rfl;have aoI:ht Tryz.prog 47 (.sl none 5 0 ps.length (uM ps))=some (ax ps.length):=by obtain⟨e,he⟩:=agk;simp[ht,he]
  simp[aoI];refine hY (λaf=>af=[]) ?_ ?_
  ·refine o7 (λj af=>∃i:Nat,af=[ax i]/\i+j=ps.length) ps.length (by omega) ⟨0,rfl,by omega⟩ ?_;rintro j af ⟨i,rfl,hi⟩;simp;refine gR (λh=>?_) (λh=>?_)<;>simp at h
   ·have aU:i<ps.length:=by omega
    have ao:=ae (ps.getD i default) (by simp[List.getD_eq_getElem?_getD,aU]);refine⟨_,agn aU,?_⟩;simp[a7.cells];refine kN (Q:=λv=>v=ax 0) (aoy (k+1) ao) (by simp[a7.cells]) ?_;rintro v rfl;simp[wrap64 (n:=(i:Int)+1) (by omega) (by omega)];exact⟨j-1,by omega,i+1,by simp,by omega⟩
   ·simp[fV]
  ·rintro af rfl;simp[h.plain]
def nr(slip a b:Int):Bool:=decide (a-b<=slip)&&decide (b-a<=slip)
def x3(slip a b:Int):Bool:=decide (a-slip<b)
theorem JN{C:mR}[oX C](k:Nat){slip m r:Int}(h:-1000000<=m/\m<=1000000/\0<=slip/\slip<=1000000):ks C (k+1) 122 [ax m,ax r,uc [ax slip]] λv=>v=.bool (x3 slip m r):=by
 refine sU (t:=t122) (by kernel_rfl) (by kernel_rfl) (fn:=Tryz.f122) (by kernel_rfl) rfl ?_;simp[t122,ag,aD,aM,wrap64 (n:=m-slip) (by omega) (by omega),x3]
theorem SD{C:mR}[oX C](k:Nat)(i:Nat):ks C (k+1) 123 [.int .u8 0,ax i] λv=>v=.bool false:=by
 refine sU (t:=t123) (by kernel_rfl) (by kernel_rfl) (fn:=Tryz.f123) (by kernel_rfl) rfl ?_;have gH:bits .and .u8 0 1=0:=by decide
 simp[t123,ag,aD,aM,eB,gH]
def Ci(slip:Int)(r:aX)(p:a7)(line:Nat):Bool:=(List.range p.g.length).all λk=>nr slip (p.g.getD k 0) (dp r (line+k))
def pG(slip:Int)(r:aX)(p:a7)(line:Nat):Bool:=decide (0<line)&&!x3 slip p.up (dp r (line-1))
def sf(slip:Int)(r:aX)(p:a7)(line:Nat):Bool:=decide (((line+p.g.length:Nat):Int)<r.lines-1)&&!x3 slip p.aP (dp r (line+p.g.length))
def sg(slip:Int)(r:aX)(p:a7):Bool:=decide (p.wd=0)||nr slip p.wd r.width
def ln(slip:Int)(r:aX)(p:a7)(line:Nat):Bool:=decide (((line+p.g.length:Nat):Int)<=r.lines-1)&&(Ci slip r p line&&(!(pG slip r p line||sf slip r p line)&&sg slip r p))
theorem SE{C:mR}[oX C](k:Nat){slip:Int}(aT:0<=slip)(U:slip<=3){r:aX}(ad:r.ok){p:a7}(ae:p.ok){line:Nat}(ak:line<100):ks C (k+2) 130 [.agg (GG slip),.agg r.cells,.agg p.cells,ax line,.int .u8 0] λv=>v=.bool (ln slip r p line):=by
 refine sU (t:=t130) (by kernel_rfl) (by kernel_rfl) (fn:=Tryz.f130) (by kernel_rfl) (by simp[dd,flagsOf,a7.cells,ae.c5.plain,aX.cells,ad.c5.plain]) ?_;have fp:=ae.pR;have hn:=ad.hn;have k5:=ad.k5;have w1:=ad.w1;have w2:=ad.w2;have gr:=ae.ud;have p2:=ae.j7;have p3:=ae.d0;have p4:=ae.d1;have CI:=ae.c9;have vH:=ae.w1;have bh:=Jh ad;have Tt:=λ(a b:Int)(h:-1000000<=a/\a<=1000000/\-1000000<=b/\b<=1000000)=>aeR (C:=C) k (slip:=slip) h;have hlen:=ae.c5.len;have du:=λ(i:Nat)(hi:i<p.g.length)=>tc ae.c5 hi;simp[t130,ag,aD,aM,a7.cells,aX.cells,ae.c5.len,wrap64 (n:=(line:Int)+p.g.length) (by omega) (by omega),wrap64 (n:=r.lines-1) (by omega) (by omega)];refine hY (λaf=>af=[.bool (decide (r.lines-1<(line:Int)+p.g.length))]) ?_ ?_
 ·have:¬((line:Int)<0):=by omega
  simp[this,wrap64 (n:=r.lines-1) (by omega) (by omega)]
 rintro af rfl;simp;refine gR (λh=>?_) (λh=>?_)<;>simp at h
 ·have:¬((line:Int)+p.g.length<=r.lines-1):=by omega
  simp[ln,this]
 ·have hle:((line+p.g.length:Nat):Int)<=r.lines-1:=by omega
  simp[ae.c5.len];refine hY (λaf=>af=[]/\Ci slip r p line=true) ?_ ?_
  ·refine o7 (λj af=>∃i:Nat,af=[ax i]/\i+j=p.g.length/\∀k,k<i->nr slip (p.g.getD k 0) (dp r (line+k))=true) p.g.length (by omega) ⟨0,rfl,by omega,by simp⟩ ?_;rintro j af ⟨i,rfl,hi,hb⟩;simp;refine gR (λh=>?_) (λh=>?_)<;>simp at h
   ·have aU:i<p.g.length:=by omega
    have aN:=ae.get aU;have ao:=bh (line+i);refine⟨_,du i aU,?_⟩;refine hY (λaf=>af=[.bool (!nr slip (p.g.getD i 0) (dp r (line+i)))]) ?_ ?_
    ·refine gb (SD (C:=C) (k+0) i) ?_;rintro v rfl;simp only[dk];refine⟨.bool true,by simp,?_⟩;simp only[run_ite,aR.den,List.cons_append,List.nil_append,List.getD_cons_succ,List.getD_cons_zero,hV,Ig,dk];refine⟨ax ((line+i:Nat):Int),by simp[wrap64 (n:=(line:Int)+i) (by omega) (by omega)],?_⟩;refine kN (Q:=λv=>v=ax (dp r (line+i))) (Fw (C:=C) k ad (line+i)) (by simp[aX.cells]) ?_;rintro v rfl;refine AD (g:=121) (caps:=[uc [ax slip]]) (by simp) (Tt (p.g.getD i 0) (dp r (line+i)) (by omega)) ?_;rintro v rfl;simp[nr]
    ·rintro af rfl;simp;refine gR (λbc=>?_) (λbc=>?_)<;>simp at bc
     ·have:Ci slip r p line=false:=by
       refine Bool.eq_false_iff.2 λah=>?_;have:=List.all_eq_true.1 ah i (by simpa using aU);simp[bc]at this
      simp[ln,this]
     ·simp[wrap64 (n:=(i:Int)+1) (by omega) (by omega)];refine⟨j-1,by omega,i+1,by simp,by omega,λk aq=>?_⟩;by_cases e:k=i
      ·subst e;simpa using bc
      ·have:=hb k (by omega);simpa using this
   ·simp[fV];refine List.all_eq_true.2 λk aq=>hb k ?_;simp at aq;omega
  rintro af ⟨rfl,aN⟩;refine hY (λaf=>af=[.bool (pG slip r p line||sf slip r p line)]) ?_ ?_
  ·simp only[dk];refine⟨.bool (decide (0<line)),by simp,?_⟩;simp only[run_ite,aR.den,List.cons_append,List.nil_append,List.getD_cons_succ,List.getD_cons_zero,hV];refine gR (λab=>?_) (λab=>?_)<;>simp only[decide_eq_true_eq,decide_eq_false_iff_not]at ab
   ·simp only[dk];refine⟨ax ((line-1:Nat):Int),by have e:(line:Int)-1=((line-1:Nat):Int):=(by omega);simp[e,wrap64 (n:=((line-1:Nat):Int)) (by omega) (by omega)],?_⟩;refine kN (Q:=λv=>v=ax (dp r (line-1))) (Fw (C:=C) k ad (line-1)) (by simp[aX.cells]) ?_;rintro v rfl;refine AD (g:=122) (caps:=[uc [ax slip]]) (by simp) (JN (C:=C) k (slip:=slip) (m:=p.up) (r:=dp r (line-1)) (by omega)) ?_;rintro v rfl;simp only[dk];refine⟨.bool (!x3 slip p.up (dp r (line-1))),by simp,?_⟩;simp only[run_ite,aR.den,List.cons_append,List.nil_append,List.getD_cons_succ,List.getD_cons_zero,hV];refine gR (λaJ=>?_) (λaJ=>?_)
    ·have hu:pG slip r p line=true:=by simp[pG,ab];simpa using aJ
     simp[hu]
    ·have hu:pG slip r p line=false:=by simp[pG,ab];simpa using aJ
     simp only[dk];refine⟨ax (r.lines-1),by simp[wrap64 (n:=r.lines-1) (by omega) (by omega)],.bool (decide (((line+p.g.length:Nat):Int)<r.lines-1)),by simp,?_⟩;simp only[run_ite,aR.den,List.cons_append,List.nil_append,List.getD_cons_succ,List.getD_cons_zero,hV];refine gR (λal=>?_) (λal=>?_)<;>simp only[decide_eq_true_eq,decide_eq_false_iff_not]at al
     ·refine kN (Q:=λv=>v=ax (dp r (line+p.g.length))) (Fw (C:=C) k ad (line+p.g.length)) (by simp[aX.cells]) ?_;rintro v rfl;refine AD (g:=122) (caps:=[uc [ax slip]]) (by simp) (JN (C:=C) k (slip:=slip) (m:=p.aP) (r:=dp r (line+p.g.length)) (by omega)) ?_;rintro v rfl;have od:(line:Int)+p.g.length<r.lines-1:=by omega
      simp[hu,sf,od]
     ·have od:¬((line:Int)+p.g.length<r.lines-1):=by omega
      simp[hu,sf,od]
   ·have hu:pG slip r p line=false:=by simp[pG,ab]
    simp only[dk];refine⟨ax (r.lines-1),by simp[wrap64 (n:=r.lines-1) (by omega) (by omega)],.bool (decide (((line+p.g.length:Nat):Int)<r.lines-1)),by simp,?_⟩;simp only[run_ite,aR.den,List.cons_append,List.nil_append,List.getD_cons_succ,List.getD_cons_zero,hV];refine gR (λal=>?_) (λal=>?_)<;>simp only[decide_eq_true_eq,decide_eq_false_iff_not]at al
    ·refine kN (Q:=λv=>v=ax (dp r (line+p.g.length))) (Fw (C:=C) k ad (line+p.g.length)) (by simp[aX.cells]) ?_;rintro v rfl;refine AD (g:=122) (caps:=[uc [ax slip]]) (by simp) (JN (C:=C) k (slip:=slip) (m:=p.aP) (r:=dp r (line+p.g.length)) (by omega)) ?_;rintro v rfl;have od:(line:Int)+p.g.length<r.lines-1:=by omega
     simp[hu,sf,od]
    ·have od:¬((line:Int)+p.g.length<r.lines-1):=by omega
     simp[hu,sf,od]
  rintro af rfl;simp only[run_ite,aR.den,List.cons_append,List.nil_append,List.getD_cons_succ,List.getD_cons_zero,hV];refine gR (λab=>?_) (λab=>?_)
  ·simp[ln,aN,ab]
  ·refine hY (λaf=>af=[.bool (sg slip r p)]) ?_ ?_
   ·simp only[dk];refine⟨.bool (decide (p.wd=0)),by simp,?_⟩;simp only[run_ite,aR.den,List.cons_append,List.nil_append,List.getD_cons_succ,List.getD_cons_zero,hV];refine gR (λal=>?_) (λal=>?_)<;>simp only[decide_eq_true_eq,decide_eq_false_iff_not]at al
    ·simp[sg,al]
    ·refine AD (g:=121) (caps:=[uc [ax slip]]) (by simp) (Tt p.wd r.width (by omega)) ?_;rintro v rfl;simp[sg,al,nr]
   ·rintro af rfl;have ha:(pG slip r p line||sf slip r p line)=false:=ab;have Ta:(line:Int)+p.g.length<=r.lines-1:=by omega
    simp;rw[ln,ha,aN];simp[Ta]
end
end Go.Proofs.YtlminnpaeaganaaGreat
