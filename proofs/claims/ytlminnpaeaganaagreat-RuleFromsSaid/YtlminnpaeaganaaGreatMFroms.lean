/- Part of the proof of RuleH. No condition. -/
import Derived.Test.YtlminnpaeaganaaGreatRows
import Derived.Test.YtlminnpaeaganaaGreatMHAW
import Derived.Test.YtlminnpaeaganaaGreatMHAX
import Derived.Test.YtlminnpaeaganaaGreatMHBA
namespace Go.Proofs.YtlminnpaeaganaaGreat
set_option maxRecDepth 100000
set_option linter.all false
section
open Go Go.RowKit
theorem aaw{slip:Int}{r:aX}{p:a7}:kn slip (eV r) (lj p)=kn slip r p:=by
 unfold kn;rw[Y1,XI]
theorem Qt{slip:Int}{l:List aX}{p:a7}:hy slip (l.map eV) (lj p) l.length=hy slip l p l.length:=by
 unfold hy oe;congr 1;refine List.filter_congr λi hi=>?_;rw[aax (List.mem_range.1 hi),aaw]
theorem D1{slip:Int}{l:List aX}{ns:List Int}{p:a7}:gn slip (l.map eV) ns [lj p]=gn slip l ns [p]:=by rw[ab8,aay]
theorem ab9{slip:Int}{l:List aX}{ns:List Int}{p:a7}:qs slip (l.map eV) ns (lj p)=qs slip l ns p:=by
 unfold qs;rw[D1,List.length_map,Qt]
theorem aca{slip n:Int}{l:List aX}{p:a7}:qt slip (l.map eV) n (lj p)=qt slip l n p:=by
 unfold qt;rw[D1,List.length_map,Qt]
theorem acb{slip:Int}{b3:aa}{l:List aX}{ns:List Int}{p:a7}(h:iq b3 l):(qs slip l ns p).length<=20:=by
 have:=h.len;unfold qs;split
 ·have:=Ei slip l p l.length;omega
 ·simp
theorem aim{slip n:Int}{b3 q:aa}{l:List aX}{p:a7}(ad:mQ b3 l)(mE:∀r∈l,dI r.sp r.st)(ae:dI p.k6 p.g)(tG:wY q=true)(xI:q.plain=true):dT 20 4 [.agg [ax slip,b3],.agg p.cells,ax n,q] λv=>v=.bool true:=by
 refine gj (t:=t4) (by kernel_rfl) (fn:=Tryz.f4) (by kernel_rfl) (by simp[dd,flagsOf,xI,a7.cells,ae.plain,ad.Jg mE]) ?_;refine eU (by simp only[ag,aD,aM,aS.aP,aR.aP,cF,nth,cM,List.getD_cons_succ,List.getD_cons_zero,aX.cells,a7.cells];rfl) rfl ?_;refine eU (by simp only[ag,aD,aM,aS.aP,aR.aP,cF,nth,cM,List.getD_cons_succ,List.getD_cons_zero,aX.cells,a7.cells];rfl) rfl ?_;refine nN (af4 18 (slip:=slip) ad mE (y:=.sl none 5 0 1 p.cells) (ps:=[p]) tb (by simpa using ae)) rfl ?_;rintro v ⟨b,rfl,hb⟩;refine wq rfl (λh=>?_) (λh=>?_)
 ·refine dr (w:=.bool true) (λω=>⟨_,Qu ω,rfl⟩) rfl ?_;exact wp_ret rfl rfl rfl
 obtain⟨⟨af5,af6⟩,_,af7⟩:=hb h;have cn:iq b3 l:=⟨ad,mE,af5,af6⟩;have ub:lk p:=⟨ae,af7 p (by simp)⟩;refine wp q (by simp[Prim.fZ,dz,ag,aS.aP,aR.aP,nth,EX,tG]) ?_;refine nN (af8 13 cn) rfl ?_;rintro v ⟨s2,oS,ei,Ce,ss,rfl,e4,dC,ain,akU⟩;have Uq:=e4.raw;have n9:=e4.fY;have Tr:=e4.gS;refine wp _ (Kh 1 (by omega)) ?_;refine nN (af9 13 e4) rfl ?_;rintro v ⟨o,rfl,ar⟩;refine eU (cs:=[o.k6,ax o.up,ax o.aP,ax o.wd,.bool o.fr]) rfl rfl ?_;refine wp _ (Kh 1 (by omega)) ?_;refine k9 rfl Tr ?_;refine AT rfl rfl (by omega) ?_;refine nN (m8 17 ((ei.length-1:Nat):Int) (by omega) (by omega)) rfl ?_;rintro v ⟨k5,rfl,nf,Li⟩;refine wp _ (Kh 1 (by omega)) ?_;refine k9 rfl Tr ?_;refine nN (m8 17 ((ei.length:Nat):Int) (by omega) (by omega)) rfl ?_;rintro v ⟨GB,rfl,Ur,xu⟩;refine p5 (by simp only[ag,aD,aM,aS.aP,aR.aP,cF,nth,cM,List.getD_cons_succ,List.getD_cons_zero,aX.cells,a7.cells];rfl) rfl ?_;refine p5 (by simp only[ag,aD,aM,aS.aP,aR.aP,cF,nth,cM,List.getD_cons_succ,List.getD_cons_zero,aX.cells,a7.cells];rfl) rfl ?_;refine p5 (by simp only[ag,aD,aM,aS.aP,aR.aP,cF,nth,cM,List.getD_cons_succ,List.getD_cons_zero,aX.cells,a7.cells];rfl) rfl ?_;refine p5 (by simp only[ag,aD,aM,aS.aP,aR.aP,cF,nth,cM,List.getD_cons_succ,List.getD_cons_zero,aX.cells,a7.cells];rfl) rfl ?_;have aeH:∀i:Nat,i<4->∃s Lj li GC,∃pi:a7,kp 2 (.sl none 2 0 4 [ax slip,b3,ax s2,oS,ax s2,Ce,ax s2,oS]) (ax i)=some (.agg [ax s,Lj])/\kp 1 (.sl none 1 0 4 [ax n,ax k5,ax GB,ax n]) (ax i)=some (.agg [ax GC])/\kp 5 (.sl none 5 0 4 [p.k6,ax p.up,ax p.aP,ax p.wd,.bool p.fr,o.k6,ax o.up,ax o.aP,ax o.wd,.bool o.fr,o.k6,ax o.up,ax o.aP,ax o.wd,.bool o.fr,p.k6,ax p.up,ax p.aP,ax p.wd,.bool p.fr]) (ax i)=some (.agg pi.cells)/\iq Lj li/\lk pi
  |0,_=>⟨slip,b3,l,n,p,rfl,rfl,rfl,cn,ub⟩
  |1,_=>⟨s2,oS,ei,k5,o,rfl,rfl,rfl,Uq,ar.raw⟩
  |2,_=>⟨s2,Ce,ss,GB,o,rfl,rfl,rfl,ain,ar.raw⟩
  |3,_=>⟨s2,oS,ei,n,p,rfl,rfl,rfl,Uq,ub⟩
 refine ez (λaf=>af=[]) ?_ ?_
 ·refine wp_loop (λj af=>∃i:Nat,af=[ax i]/\i+j=4) 4 (by omega) ⟨0,rfl,by omega⟩ ?_;rintro j af ⟨i,rfl,dL⟩;try refine eK (by(try simp only[List.length_cons,List.length_nil,Nat.reduceAdd,Nat.zero_add]);rfl) (by(try simp only[dz]);rfl) ?_
  refine aaz rfl ?_;refine hZ rfl rfl ?_;refine cK rfl (λU=>?_) (λU=>?_)
  ·obtain⟨s,Lj,li,GC,pi,eh,r2,nF,zH,Cf⟩:=aeH i (by omega);have dQ:=zH.dup;have Us:=Cf.dup;refine wp _ eh ?_;refine dr (aeI _ zH) rfl ?_;refine wp _ nF ?_;refine dr (aeJ _ Cf) rfl ?_;refine eU (by simp only[ag,aD,aM,aS.aP,aR.aP,cF,nth,cM,List.getD_cons_succ,List.getD_cons_zero,aX.cells,a7.cells];rfl) rfl ?_;refine eU (by simp only[ag,aD,aM,aS.aP,aR.aP,cF,nth,cM,List.getD_cons_succ,List.getD_cons_zero,aX.cells,a7.cells];rfl) rfl ?_;refine nN (adH _ (slip:=s) dQ Us) rfl ?_;rintro v ⟨amL,rfl,Ut⟩;rw[ab9]at Ut;rw[D1];refine pe (by simp only[ag,aD,aM,aS.aP,aR.aP,cF,nth,cM,List.getD_cons_succ,List.getD_cons_zero,aX.cells,a7.cells,ll];rfl) ?_;refine pe (by simp only[ag,aD,aM,aS.aP,aR.aP,cF,nth,cM,List.getD_cons_succ,List.getD_cons_zero,aX.cells,a7.cells,ll];rfl) ?_;refine wp _ eh ?_;refine wp _ nF ?_;refine nN (acd _ (slip:=s) zH Cf) rfl ?_;rintro v ⟨amM,rfl,aio⟩;have se:=acb (slip:=s) (ns:=[]) (p:=pi) zH;refine pe (by simp only[ag,aD,aM,aS.aP,aR.aP,cF,nth,cM,List.getD_cons_succ,List.getD_cons_zero,aX.cells,a7.cells,ll];rfl) ?_;refine pe (by simp only[ag,aD,aM,aS.aP,aR.aP,cF,nth,cM,List.getD_cons_succ,List.getD_cons_zero,aX.cells,a7.cells,ll];rfl) ?_;refine wp _ r2 ?_;refine dr (aga _ (slip:=s) (n:=GC) dQ Us) rfl ?_;rw[aca,D1];refine pe (by simp only[ag,aD,aM,aS.aP,aR.aP,cF,nth,cM,List.getD_cons_succ,List.getD_cons_zero,aX.cells,a7.cells,ll];rfl) ?_;refine pe (by simp only[ag,aD,aM,aS.aP,aR.aP,cF,nth,cM,List.getD_cons_succ,List.getD_cons_zero,aX.cells,a7.cells,ll];rfl) ?_;refine wp _ eh ?_;refine wp _ r2 ?_;refine wp _ nF ?_;refine dr (aeK _ (slip:=s) (n:=GC) zH Cf) rfl ?_;refine pe (by simp only[ag,aD,aM,aS.aP,aR.aP,cF,nth,cM,List.getD_cons_succ,List.getD_cons_zero,aX.cells,a7.cells,ll];rfl) ?_;refine pe (by simp only[ag,aD,aM,aS.aP,aR.aP,cF,nth,cM,List.getD_cons_succ,List.getD_cons_zero,aX.cells,a7.cells,ll];rfl) ?_;refine ez (λaf=>af=[.bool false]) ?_ ?_
   ·refine hJ rfl rfl ?_;refine pW rfl (by omega) ?_;refine hJ rfl rfl ?_;refine pW rfl (by omega) ?_;refine hJ rfl rfl ?_;refine pW rfl (by omega) ?_;refine dr (Ki _ Ut aio (by omega)) rfl ?_;refine wI rfl ?_;refine qV rfl ?_;refine wp _ eh ?_;refine wp _ nF ?_;refine dr (agb _ zH Cf) rfl ?_;refine wI rfl ?_;exact cw rfl
   rintro af rfl;refine qV rfl ?_;refine ie rfl rfl (by omega) ?_;exact cw ⟨j-1,by omega,i+1,rfl,by omega⟩
  ·refine ia (by decide) ?_;exact cw rfl
 rintro af rfl;refine dr (w:=.bool true) (λω=>⟨_,Qu ω,rfl⟩) rfl ?_;exact wp_ret rfl rfl rfl
theorem agc:∀bz,qu Tryz.prog 6 Tryz.f4.params.toList bz->∀ω,E Tryz.prog 20 ω 4 bz=some (.bool true):=by
 intro bz h ω;rw[show Tryz.f4.params.toList=[27,30,3,22]by kernel_rfl]at h;obtain⟨a,_,rfl,au,h⟩:=D2 h;obtain⟨b,_,rfl,hb,h⟩:=D2 h;obtain⟨c,_,rfl,ah,h⟩:=D2 h;obtain⟨d,_,rfl,aV,h⟩:=D2 h;have aT:=ace h;subst aT;obtain⟨slip,b3,l,rfl,ad,mE⟩:=WS au;obtain⟨p,rfl,ae⟩:=Y2 hb;obtain⟨n,rfl⟩:=acf ah;obtain⟨U,ab,_⟩:=XJ aV;obtain⟨v,ai,rfl⟩:=aim ad mE ae U ab ω;exact ai
end
section
open Go Go.RowKit Go.WideShapes Go.ChangeShapes
theorem Vz(ej:∀bz,qu Tryz.prog 6 Tryz.f4.params.toList bz->∀ω,E Tryz.prog 20 ω 4 bz=some (.bool true))(os:Os)(started:os.Started)(H:Type)(enc:TypeId×Value->H):
  ReturnsInLeavingWide {} Tryz.checked os 4 .any (Rows.ruleFromsSpec.pre6 enc Tryz.prog Tryz.f4 Rows.ruleFromsRow.domain false) (Rows.ruleFromsSpec.post enc Tryz.prog Tryz.f4 false true false false):=by
 letI:=my
 refine XM (k:=6) (bt:=4) started Tryz.func4
  (ChangeSpec.witness6 (enc:=enc) (C:=Tryz.checked) false ⟨#[],#[.agg #[.int .i64 0,.slice none 0 0],.agg #[.slice none 0 0,.int .i64 0,.int .i64 0,.int .i64 0,.bool false],.int .i64 0,.slice none 0 0],[]⟩ 4 (by kernel_rfl) (by kernel_rfl) (by kernel_rfl) (by kernel_rfl))
  laidOut rfl rfl (by kernel_rfl) (by kernel_rfl) (by
  intro t a1;have:Tryz.f4.params.toList.all (λt=>Tryz.prog.readableRec t&&decide (t<Tryz.prog.types.size))=true:=by kernel_rfl
  have:=List.all_eq_true.1 this t a1;simpa using this) (λds ak=>?_) (by kernel_rfl) (by kernel_rfl) (λbz aH m=>?_)
 ·match ds,ak with
  |[d0,d1,d2,d3],_=>rfl
 ·refine @gL.mono my _ _ _ _ _ _ ((IH 20).zG 4 bz (λω=>by rw[ej bz aH ω];rfl) bz m (Oo (Om aH))) ?_;rintro v E m' ⟨⟨ω,U⟩,_,ab,al⟩;rw[ej bz aH ω]at U;injection U with U;exact⟨U.symm,ab,al⟩
theorem VB(ej:∀bz,qu Tryz.prog 6 Tryz.f4.params.toList bz->∀ω,E Tryz.prog 20 ω 4 bz=some (.bool true)):Rows.RuleFromsSaid:=
 OpenClaim.holds_of_wide_leaving 4 Tryz.f4 rfl rfl rfl rfl rfl rfl rfl ⟨rfl,rfl,rfl,rfl,rfl⟩ rfl rfl rfl rfl rfl (by kernel_rfl) Tryz.func4 (by kernel_rfl)
  (of_decide_eq_true (by kernel_rfl)) (by unfold Func.isWrapper;first|(rw[if_pos (by decide +kernel)];kernel_rfl)|(rw[if_neg (by decide +kernel)];exact⟨rfl,rfl⟩))
  (λos started H enc _=>Vz ej os started H enc)
end
section
open Go
theorem ruleFromsProved:Rows.RuleFromsSaid:=VB agc
#print axioms ruleFromsProved
end
end Go.Proofs.YtlminnpaeaganaaGreat
