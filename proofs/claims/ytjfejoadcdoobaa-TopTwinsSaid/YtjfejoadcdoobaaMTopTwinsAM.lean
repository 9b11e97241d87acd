/- Part of the proof of TopTwins. No condition. -/
import Derived.Test.YtjfejoadcdoobaaMTopTwinsAL
namespace Go.Proofs.Ytjfejoadcdoobaa
set_option maxRecDepth 100000
set_option linter.all false
section
open Go Go.RowKit
variable[Sp]
theorem sub_ptr(EE:List Eff)(i o:Nat):PV.sub EE (.ptr i o)=.ptr i o:=by
 induction EE with
 |nil=>rfl
 |cons e EE ih=>simp only[PV.sub,PV.sub1,ih]
theorem sub_hd(EE:List Eff)(i o z:Nat):PV.sub EE (.hd i o z)=.hd i o z:=by
 induction EE with
 |nil=>rfl
 |cons e EE ih=>simp only[PV.sub,PV.sub1,ih]
theorem sub_snil(EE:List Eff):PV.sub EE .snil=.snil:=plain_sub EE rfl
theorem sub_sl_other{EE:List Eff}{id:Nat}(h:∀e∈EE,e.id≠id){sz off len:Nat}{cs:List PV}(hc:plainC cs=true):PV.sub EE (.sl (some id) sz off len cs)=.sl (some id) sz off len cs:=by
 induction EE with
 |nil=>rfl
 |cons e EE ih=>
  have h1:PV.sub1 e (.sl (some id) sz off len cs)=.sl (some id) sz off len cs:=by
   have hne:=h e (by simp);cases e with
   |kill j=>simp only[Eff.id]at hne;simp only[PV.sub1];rw[if_neg (λe=>hne e.symm),plainC_sub1 _ _ hc]
   |wr j p v=>simp only[Eff.id]at hne;simp only[PV.sub1];rw[if_neg (λe=>hne e.symm),plainC_sub1 _ _ hc]
  simp only[PV.sub,h1];exact ih λe' h'=>h e' (by simp[h'])
theorem sub_eref_other{EE:List Eff}{id:Nat}(h:∀e∈EE,e.id≠id){off:Nat}{cs:List PV}(hc:plainC cs=true):PV.sub EE (.eref (some id) off cs)=.eref (some id) off cs:=by
 induction EE with
 |nil=>rfl
 |cons e EE ih=>
  have h1:PV.sub1 e (.eref (some id) off cs)=.eref (some id) off cs:=by
   have hne:=h e (by simp);cases e with
   |kill j=>simp only[Eff.id]at hne;simp only[PV.sub1];rw[if_neg (λe=>hne e.symm),plainC_sub1 _ _ hc]
   |wr j p v=>simp only[Eff.id]at hne;simp only[PV.sub1];rw[if_neg (λe=>hne e.symm),plainC_sub1 _ _ hc]
  simp only[PV.sub,h1];exact ih λe' h'=>h e' (by simp[h'])
theorem boxSub_cells(EE:List Eff)(l:List PV):BoxC.sub EE (.cells l)=.cells (l.map (PV.sub EE)):=by
 induction EE generalizing l with
 |nil=>simp[PV.sub]
 |cons e EE ih=>
  show BoxC.sub EE (.cells (l.map (PV.sub1 e)))=_;rw[ih,List.map_map];rfl
theorem boxSub_inv(EE:List Eff)(I:List PV->Prop):BoxC.sub EE (.inv I)=.inv I:=by
 induction EE with
 |nil=>rfl
 |cons e EE ih=>exact ih
theorem mem_dropNew{a:Nat}{e:Eff}:∀{l:List Eff},e∈dropNew a l->e∈l
 |[],h=>h
 |x::l,h=>by
  simp only[dropNew]at h;split at h
  ·exact List.mem_cons_of_mem _ (mem_dropNew h)
  ·exact h
theorem mem_addEff{a:Nat}{e:Eff}{l EE:List Eff}(h:e∈addEff a l EE):e∈l\/e∈EE:=by
 cases l with
 |nil=>exact .inr (mem_dropNew h)
 |cons x l=>exact List.mem_append.1 h
theorem dropNew_all{a:Nat}:∀{l:List Eff},(∀e∈l,a<=e.id)->dropNew a l=[]
 |[],_=>rfl
 |x::l,h=>by
  simp only[dropNew];rw[if_pos (h x (by simp))];exact dropNew_all λe he=>h e (by simp[he])
theorem sub_mp_other{id:Nat}:∀{EE:List Eff}(_:∀e∈EE,e.id≠id){it:MK}{sz:Nat}{cs:List PV},PV.sub EE (.mp it (some id) sz cs)=.mp it (some id) sz cs
 |[],_,_,_,_=>rfl
 |e::EE,h,it,sz,cs=>by
  have he:=h e (by simp);have h1:PV.sub1 e (.mp it (some id) sz cs)=.mp it (some id) sz cs:=by cases e<;>simp only[PV.sub1,Eff.id]at he⊢<;>rw[if_neg (Ne.symm he)]
  simp only[PV.sub,h1];exact sub_mp_other λe he=>h e (by simp[he])
theorem sub_own_other{EE:List Eff}{id:Nat}(h:∀e∈EE,e.id≠id){b:BN}{sz:Nat}{cs:List PV}(hc:plainC cs=true):PV.sub EE (ownV b (some id) sz cs)=ownV b (some id) sz cs:=by
 unfold ownV;cases b with
 |map=>exact sub_mp_other h
 |it|tab _|sit=>exact sub_mp_other h
 |_=>exact sub_sl_other h hc
theorem getA_map{f:SV->SV}(hf:f .junk=.junk):∀(l:List (Nat×SV))(t:Nat),getA (mapA f l) t=f (getA l t)
 |[],_=>hf.symm
 |(d,v)::l,t=>by
  have:=getA_map hf l t;simp only[mapA,List.map_cons,getA]at this⊢;split
  ·rfl
  ·exact this
section
variable{X:Ctx}{F:Frm}{C:Orc->FuncId->List PV->Option PV}{n:Nat}{R:Out->Prop}{S:Sym}{ρ:List PV}{ids:Nat->Option Nat}{s:St}{K:Sym->M}{t:Tree}{o:Oper}{m0:Mem}{inl yl:Inl}{lx:Option Nat}{key:Nat}{E:Env}
theorem getD_set{l:List (Option AR)}{k j:Nat}{x:Option AR}:(l.set k x).getD j none=if j=k/\k<l.length then x else l.getD j none:=by
 simp only[List.getD_eq_getElem?_getD,List.getElem?_set];by_cases h:k=j
 ·subst h;by_cases hl:k<l.length
  ·simp[hl]
  ·simp[hl]
 ·have h':¬j=k:=λe=>h e.symm;simp[h,h']
theorem arr_lt_len{k:Nat}{a:AR}(h:S.ar.getD k none=some a):k<S.ar.length:=by
 rcases Nat.lt_or_ge k S.ar.length with h'|h'
 ·exact h'
 ·simp[List.getD_eq_getElem?_getD,List.getElem?_eq_none h']at h
theorem ids_ne(h:Rel F S ρ ids s){k j id:Nat}(hk:ids k=some id){id':Nat}(hj:ids j=some id')(hne:j≠k):id≠id':=λe=>by
 subst e;exact hne (h.idinj j k id hj hk)
theorem Rel.hitG(h:Rel F S ρ ids s){k:Nat}{xid:Option Nat}{a:AR}{cs cs':List PV}{c':SE}{all:Bool}{EE:List Eff}(ha:S.ar.getD k none=some a)(hr:a.rel (S.env ρ ids) k cs)(hid:ids k=xid)
  (hE:∀e∈EE,∃id,xid=some id/\e.id=id/\e.clean) (hc1:c'.ok ρ) (hc2:c'.den ρ=.agg cs') (hl:cs'.length=cs'.length/a.sz*a.sz) (hn:isNil ρ a.born cs'=some xid.isNone)
  (hT:all=false->PV.sub EE (ownV a.born xid a.sz cs)=ownV a.born xid a.sz cs'):
  Rel F (S.setArr k all { a with c:=c' }) ρ ids (s.hit EE)/\AR.rel ((S.setArr k all { a with c:=c' }).env ρ ids) k { a with c:=c' } cs':=by
 have hk:=arr_lt_len ha;have hpl:=hr.plain;have hne:∀j id',ids j=some id'->j≠k->∀e∈EE,e.id≠id':=λj id' hj hjk e he=>by
  obtain⟨id,hx,h1,_⟩:=hE e he;rw[h1];exact ids_ne h (hid.trans hx) hj hjk
 have hnew:AR.rel ((S.setArr k all { a with c:=c' }).env ρ ids) k { a with c:=c' } cs':=⟨hc1,hc2,hr.2.2.1,hl,by
  show isNil ρ a.born cs'=some (ids k).isNone;rw[hn,hid],hr.2.2.2.2.2⟩
 have hother:∀j b,j≠k->(S.env ρ ids).ar.getD j none=some b->((S.setArr k all { a with c:=c' }).env ρ ids).ar.getD j none=some b:=λj b hj hb=>by
  simp only[Sym.env,Sym.setArr,Sym.mapV];rw[getD_set,if_neg (λe=>hj e.1)];exact hb
 have hself:((S.setArr k all { a with c:=c' }).env ρ ids).ar.getD k none=some { a with c:=c' }:=by
  simp only[Sym.env,Sym.setArr,Sym.mapV];rw[getD_set,if_pos ⟨rfl,hk⟩]
 have tr:Tr F (S.env ρ ids) ((S.setArr k all { a with c:=c' }).env ρ ids) (SV.hitS k all) (PV.sub EE):=by
  refine⟨hom_sub EE,List.prefix_refl _,λx=>rfl,rfl,rfl,rfl,λ_ _ _=>rfl,λ_=>by simp only[SV.hitS],λg l=>by simp only[SV.hitS,hitSL_eq],λl=>by simp only[SV.hitS,hitSL_eq],λl=>by simp only[SV.hitS,hitSL_eq],λ_ _ l=>by simp only[SV.hitS,hitSL_eq],λl _=>by simp only[SV.hitS,hitSL_eq],λ_ _ _=>.inr ⟨by simp only[SV.hitS],λ_=>by simp only[SV.hitS]⟩,λi o q hq=>?_,λi o z q hq=>?_,λq hq=>?_,λj q hq=>?_,λj x fo q hq=>?_⟩
  ·have hq':=hq;unfold RV at hq';rw[hq'.1,sub_ptr];refine⟨?_,.inr rfl⟩;show RV F _ (SV.ptr i o) _;unfold RV;exact⟨rfl,by have:=hq'.2;simpa[Sym.env,Sym.setArr,Sym.mapV]using this⟩
  ·have hq':=hq;unfold RV at hq';rw[hq'.1,sub_hd];refine⟨?_,.inr rfl⟩;show RV F _ (SV.hd i o z) _;unfold RV;exact⟨rfl,by have:=hq'.2;simpa[Sym.env,Sym.setArr,Sym.mapV]using this⟩
  ·unfold RV at hq;rw[hq.1,sub_ptr]
  ·unfold RV at hq;obtain⟨b,csj,g1,g2,g3⟩:=hq;by_cases hjk:j=k
   ·subst hjk;cases all with
    |true=>simp only[SV.hitS,and_self,if_true];exact⟨by simp only[RV],.inl trivial⟩
    |false=>
     simp only[SV.hitS,and_false,if_false];have hb:b=a:=by have:=g1.symm.trans ha;injection this
     subst hb;have hcs:=AR.rel_of g2 hr;subst hcs;have hid':(S.env ρ ids).ids j=xid:=hid;rw[hid']at g3;rw[g3];simp only[hT rfl,Bool.false_eq_true,and_false,if_false];refine⟨?_,.inr (ownV_one _ _ _ _)⟩;unfold RV;refine⟨_,cs',hself,hnew,?_⟩;have:((S.setArr j false { b with c:=c' }).env ρ ids).ids j=xid:=hid;rw[this]
   ·simp only[SV.hitS,hjk,false_and,if_false];have hT':PV.sub EE q=q:=by
     rw[g3];cases hi:(S.env ρ ids).ids j with
     |none=>exact sub_snil EE
     |some id'=>exact sub_own_other (hne j id' hi hjk) g2.plain
    rw[hT'];refine⟨?_,.inr (by rw[g3];exact ownV_one _ _ _ _)⟩;unfold RV;exact⟨b,csj,hother j b hjk g1,g2,g3⟩
  ·unfold RV at hq;obtain⟨b,csj,id',nn,kk,g1,g2,g3,g4,g5,g6,g7,g8⟩:=hq;by_cases hjk:j=k
   ·simp only[SV.hitS,hjk,if_true];exact⟨by simp only[RV],.inl trivial⟩
   ·simp only[SV.hitS,hjk,if_false];have hT':PV.sub EE q=q:=by
     rw[g8];exact sub_eref_other (hne j id' g3 hjk) (plainC_drop g2.plain _)
    rw[hT'];refine⟨?_,.inr (by rw[g8];rfl)⟩;unfold RV;exact⟨b,csj,id',nn,kk,hother j b hjk g1,g2,g3,g4,g5,g6,g7,g8⟩
 have hA:∀e∈EE,F.A0<=e.id:=λe he=>by
  obtain⟨id,hx,h1,_⟩:=hE e he;rw[h1];exact(h.idlt k id (hid.trans hx)).1
 refine⟨⟨h.len,h.kn,λt=>?_,by simpa[Sym.setArr,Sym.mapV]using h.boxn,λi hi=>by rw[St.hit_β];exact old_sub h hA hi,λi b hb=>?_,λj id' hj=>?_,h.idinj,λj b hb=>?_,h.a0,h.ent,λe he=>?_,λhe=>?_,λhe=>?_,λhe j hj=>?_,h.bbase,by simpa[Sym.setArr,Sym.mapV]using h.ba,by simpa[Sym.setArr,Sym.mapV]using h.bb,h.an,h.obd,h.rc⟩,hnew⟩
 ·have:(S.setArr k all { a with c:=c' }).get t=SV.hitS k all (S.get t):=by
   simp only[Sym.get,Sym.setArr,Sym.mapV];exact getA_map rfl _ t
  rw[this];exact tr.rv (h.slot t)
 ·simp only[Sym.setArr,Sym.mapV,List.getElem?_map]at hb;obtain⟨b0,hb0,rfl⟩:=Option.map_eq_some_iff.1 hb;have hbox:=h.box i b0 hb0;rw[St.hit_β];cases b0 with
  |cells l=>
   obtain⟨l',e1,e2⟩:=hbox;rw[e1,boxSub_cells];exact⟨_,rfl,tr.rvl e2⟩
  |dice=>rw[show s.m.β (F.n0+i)=.inv F.DI from hbox,boxSub_inv];exact rfl
  |gone=>trivial
 ·obtain⟨g1,g2,g3⟩:=h.idlt j id' hj;exact⟨g1,g2,by simpa[Sym.setArr,Sym.mapV]using g3⟩
 ·by_cases hjk:j=k
  ·subst hjk;have:b={ a with c:=c' }:=by have:=hb.symm.trans hself;injection this
   subst this;exact⟨cs',hnew⟩
  ·have hb':S.ar.getD j none=some b:=by
    simp only[Sym.setArr,Sym.mapV]at hb;rw[getD_set,if_neg (λe=>hjk e.1)]at hb;exact hb
   exact h.arr j b hb'
 ·rw[St.hit_eff]at he;rcases mem_addEff he with he|he
  ·exact h.efc e he
  ·obtain⟨id,hx,h1,h2⟩:=hE e he;exact⟨hA e (by assumption),h2⟩
 ·rw[St.hit_eff,h.eff (eff_or he),addEff_nil];refine dropNew_all λe hee=>?_;obtain⟨id,hx,h1,h2⟩:=hE e hee;rw[h1,h.a0];exact h.young (hid.trans hx) he
 ·simp only[Sym.setArr,Sym.mapV,Bool.or_eq_false_iff,decide_eq_false_iff_not]at he;exact h.new he.1
 ·simp only[Sym.setArr,Sym.mapV,Bool.or_eq_false_iff,decide_eq_false_iff_not]at he;have h2:j<S.base:=hj;obtain⟨g1,g2⟩:=h.keep he.1 j h2;refine⟨?_,g2⟩;simp only[Sym.setArr,Sym.mapV];rw[getD_set,if_neg (λe=>by omega)];exact g1
theorem Rel.hit(h:Rel F S ρ ids s){k id:Nat}{a:AR}{cs cs':List PV}{c':SE}{all:Bool}{EE:List Eff}(ha:S.ar.getD k none=some a)(hr:a.rel (S.env ρ ids) k cs)(hid:ids k=some id)
  (hE:∀e∈EE,e.id=id/\e.clean) (hc1:c'.ok ρ) (hc2:c'.den ρ=.agg cs') (hl:cs'.length=cs'.length/a.sz*a.sz) (hn:isNil ρ a.born cs'=some false)
  (hT:all=false->PV.sub EE (ownV a.born (some id) a.sz cs)=ownV a.born (some id) a.sz cs'):
  Rel F (S.setArr k all { a with c:=c' }) ρ ids (s.hit EE)/\AR.rel ((S.setArr k all { a with c:=c' }).env ρ ids) k { a with c:=c' } cs':=
 h.hitG ha hr hid (λe he=>⟨id,rfl,hE e he⟩) hc1 hc2 hl hn hT
end
end
section
open Go Go.RowKit
variable[Sp]
theorem hom_id:Hom (λq=>q):=⟨λ_ _=>rfl,rfl,λl=>by simp,λl=>by simp,λf l=>by simp,λ_ _ _ l=>by simp,λ_ l=>by simp,λ_=>rfl,λq h _=>.inl h⟩
theorem frz_sl_other{id i:Nat}(h:i≠id){sz off len:Nat}{cs:List PV}(hc:plainC cs=true):PV.frz id (.sl (some i) sz off len cs)=.sl (some i) sz off len cs:=by simp only[PV.frz,if_neg h,plainC_frz id cs hc]
theorem frz_own_other{id i:Nat}(h:i≠id){b:BN}{sz:Nat}{cs:List PV}(hc:plainC cs=true):PV.frz id (ownV b (some i) sz cs)=ownV b (some i) sz cs:=by
 unfold ownV;cases b with
 |map=>simp only[PV.frz,if_neg h]
 |it|tab _|sit=>simp only[PV.frz,if_neg h]
 |_=>exact frz_sl_other h hc
theorem frz_eref_other{id i:Nat}(h:i≠id){off:Nat}{cs:List PV}(hc:plainC cs=true):PV.frz id (.eref (some i) off cs)=.eref (some i) off cs:=by simp only[PV.frz,if_neg h,plainC_frz id cs hc]
section
variable{X:Ctx}{F:Frm}{C:Orc->FuncId->List PV->Option PV}{n:Nat}{R:Out->Prop}{S:Sym}{ρ:List PV}{ids:Nat->Option Nat}{s:St}{K:Sym->M}{t:Tree}{o:Oper}{m0:Mem}{inl yl:Inl}{lx:Option Nat}{key:Nat}{E:Env}
theorem ar_frz{k j:Nat}{x:SE}(hj:j≠k):(S.frzArr k x).ar.getD j none=S.ar.getD j none:=by
 simp only[Sym.frzArr,Sym.mapV];rw[getD_set,if_neg (λe=>hj e.1)]
theorem ar_frz_self{k:Nat}{x:SE}:(S.frzArr k x).ar.getD k none=none:=by
 simp only[Sym.frzArr,Sym.mapV];rw[getD_set];split
 ·rfl
 ·rename_i h;simp only[true_and,Nat.not_lt]at h;simp[List.getD_eq_getElem?_getD,List.getElem?_eq_none h]
theorem tr_frz(h:Rel F S ρ ids s){k:Nat}{a:AR}{cs:List PV}{x:SE}{T:PV->PV}(hT:Hom T)(ha:S.ar.getD k none=some a)(hr:a.rel (S.env ρ ids) k cs)(hx1:x.ok ρ)
  (hp:∀i o,T (.ptr i o)=.ptr i o) (hph:∀i o z,T (.hd i o z)=.hd i o z) (hself:T (ownV a.born (ids k) a.sz cs)=x.den ρ) (hone:(x.den ρ).one=true)
  (hsl:∀j id b sz l,j≠k->ids j=some id->plainC l=true->T (ownV b (some id) sz l)=ownV b (some id) sz l) (hsn:T .snil=.snil)
  (her:∀j id off l,j≠k->ids j=some id->plainC l=true->T (.eref (some id) off l)=.eref (some id) off l):
  Tr F (S.env ρ ids) ((S.frzArr k x).env ρ (withId ids k none)) (SV.frz k x) T:=by
 have hother:∀j b,j≠k->(S.env ρ ids).ar.getD j none=some b->((S.frzArr k x).env ρ (withId ids k none)).ar.getD j none=some b:=λj b hj hb=>by
  simp only[Sym.env];rw[ar_frz hj];exact hb
 have hrel:∀j b l,j≠k->AR.rel (S.env ρ ids) j b l->AR.rel ((S.frzArr k x).env ρ (withId ids k none)) j b l:=λj b l hj hb=>by
  obtain⟨g1,g2,g3,g4,g5,g6⟩:=hb;refine⟨g1,g2,g3,g4,?_,g6⟩;rw[show((S.frzArr k x).env ρ (withId ids k none)).ids j=ids j by simp[Sym.env,withId,hj]];exact g5
 have hids:∀j,j≠k->((S.frzArr k x).env ρ (withId ids k none)).ids j=ids j:=λj hj=>by simp[Sym.env,withId,hj]
 refine⟨hT,List.prefix_refl _,λ_=>rfl,rfl,rfl,rfl,λ_ _ _=>rfl,λ_=>by simp only[SV.frz],λg l=>by simp only[SV.frz,frzSL_eq],λl=>by simp only[SV.frz,frzSL_eq],λl=>by simp only[SV.frz,frzSL_eq],λ_ _ l=>by simp only[SV.frz,frzSL_eq],λl _=>by simp only[SV.frz,frzSL_eq],λ_ _ _=>.inr ⟨by simp only[SV.frz],λ_=>by simp only[SV.frz]⟩,λi o q hq=>?_,λi o z q hq=>?_,λq hq=>?_,λj q hq=>?_,λj y fo q hq=>?_⟩
 ·have hq':=hq;unfold RV at hq';rw[hq'.1,hp];refine⟨?_,.inr rfl⟩;show RV F _ (SV.ptr i o) _;unfold RV;exact⟨rfl,by have:=hq'.2;simpa[Sym.env,Sym.frzArr,Sym.mapV]using this⟩
 ·have hq':=hq;unfold RV at hq';rw[hq'.1,hph];refine⟨?_,.inr rfl⟩;show RV F _ (SV.hd i o z) _;unfold RV;exact⟨rfl,by have:=hq'.2;simpa[Sym.env,Sym.frzArr,Sym.mapV]using this⟩
 ·unfold RV at hq;rw[hq.1,hp]
 ·unfold RV at hq;obtain⟨b,csj,g1,g2,g3⟩:=hq;by_cases hjk:j=k
  ·subst hjk;simp only[SV.frz,if_true];have hb:b=a:=by have:=g1.symm.trans ha;injection this
   subst hb;have hcs:=AR.rel_of g2 hr;subst hcs;have e:T q=x.den ρ:=by rw[g3];exact hself
   rw[e];refine⟨?_,.inr hone⟩;unfold RV;exact⟨rfl,hx1⟩
  ·simp only[SV.frz,hjk,if_false];have hT':T q=q:=by
    rw[g3];cases hi:(S.env ρ ids).ids j with
    |none=>exact hsn
    |some id'=>exact hsl j id' _ _ _ hjk hi g2.plain
   rw[hT'];refine⟨?_,.inr (by rw[g3];exact ownV_one _ _ _ _)⟩;unfold RV;exact⟨b,csj,hother j b hjk g1,hrel j b csj hjk g2,by rw[hids j hjk];exact g3⟩
 ·unfold RV at hq;obtain⟨b,csj,id',nn,kk,g1,g2,g3,g4,g5,g6,g7,g8⟩:=hq;by_cases hjk:j=k
  ·simp only[SV.frz,hjk,if_true];exact⟨by simp only[RV],.inl trivial⟩
  ·simp only[SV.frz,hjk,if_false];have hT':T q=q:=by
    rw[g8];exact her j id' _ _ hjk g3 (plainC_drop g2.plain _)
   rw[hT'];refine⟨?_,.inr (by rw[g8];rfl)⟩;unfold RV;exact⟨b,csj,id',nn,kk,hother j b hjk g1,hrel j b csj hjk g2,by rw[hids j hjk];exact g3,g4,g5,g6,g7,g8⟩
theorem rel_frz_mk(h:Rel F S ρ ids s){k:Nat}{x:SE}{T:PV->PV}{s':St}(tr:Tr F (S.env ρ ids) ((S.frzArr k x).env ρ (withId ids k none)) (SV.frz k x) T)
  (hg:∀t,s'.g t=T (s.g t)) (hn:s'.m.n=s.m.n) (han:s'.m.an=s.m.an) (hold:∀i,i<F.n0->s'.m.β i=F.β0 i) (hβ:∀i l,s.m.β i=.cells l->s'.m.β i=.cells (l.map T)) (hβi:∀i I,s.m.β i=.inv I->s'.m.β i=.inv I)
  (h0:s'.a0=s.a0) (he:∀e∈s'.eff,F.A0<=e.id/\e.clean) (hee:(S.eff||decide (k<S.base))=false\/F.A0=F.ent.a->s'.eff=[]) (hrc:s'.m.rc=s.m.rc):Rel F (S.frzArr k x) ρ (withId ids k none) s':=by
 refine⟨h.len,h.kn,λt=>?_,by rw[hn];simpa[Sym.frzArr,Sym.mapV]using h.boxn,hold,λi b hb=>?_,λj id' hj=>?_,λj j' id' hj hj'=>?_,λj b hb=>?_,by rw[h0];exact h.a0,h.ent,he,hee,λhef j id' hj hge=>?_,λhef j hj=>?_,h.bbase,by simpa[Sym.frzArr,Sym.mapV]using h.ba,by simpa[Sym.frzArr,Sym.mapV]using h.bb,by rw[han];exact h.an,h.obd,by rw[hrc];exact h.rc⟩
 ·have:(S.frzArr k x).get t=SV.frz k x (S.get t):=by
   simp only[Sym.get,Sym.frzArr,Sym.mapV];exact getA_map rfl _ t
  rw[this,hg];exact tr.rv (h.slot t)
 ·simp only[Sym.frzArr,Sym.mapV,List.getElem?_map]at hb;obtain⟨b0,hb0,rfl⟩:=Option.map_eq_some_iff.1 hb;have hbox:=h.box i b0 hb0;cases b0 with
  |cells l=>
   obtain⟨l',e1,e2⟩:=hbox;exact⟨_,hβ _ _ e1,tr.rvl e2⟩
  |dice=>exact hβi _ _ hbox
  |gone=>trivial
 ·simp only[withId]at hj;split at hj
  ·cases hj
  ·obtain⟨g1,g2,g3⟩:=h.idlt j id' hj;exact⟨g1,by rw[han];exact g2,by simpa[Sym.frzArr,Sym.mapV]using g3⟩
 ·simp only[withId]at hj hj';split at hj<;>first|(cases hj;done)|skip
  split at hj'<;>first|(cases hj';done)|skip
  exact h.idinj j j' id' hj hj'
 ·by_cases hjk:j=k
  ·subst hjk;rw[ar_frz_self]at hb;cases hb
  ·rw[ar_frz hjk]at hb;obtain⟨cs,g1,g2,g3,g4,g5,g6⟩:=h.arr j b hb;refine⟨cs,g1,g2,g3,g4,?_,g6⟩;rw[show((S.frzArr k x).env ρ (withId ids k none)).ids j=ids j by simp[Sym.env,withId,hjk]];exact g5
 ·simp only[Sym.frzArr,Sym.mapV,Bool.or_eq_false_iff]at hef;simp only[withId]at hj;split at hj
  ·cases hj
  ·exact h.new hef.1 j id' hj hge
 ·simp only[Sym.frzArr,Sym.mapV,Bool.or_eq_false_iff,decide_eq_false_iff_not]at hef;have h2:j<S.base:=hj;obtain⟨g1,g2⟩:=h.keep hef.1 j h2;rw[ar_frz (by omega)];refine⟨g1,?_⟩;simp only[withId];rw[if_neg (by omega)];exact g2
theorem boxFrz_cells(id:Nat)(l:List PV):BoxC.frz id (.cells l)=.cells (l.map (PV.frz id)):=rfl
theorem Rel.frz(h:Rel F S ρ ids s){k:Nat}{a:AR}{cs:List PV}{x:SE}(ha:S.ar.getD k none=some a)(hr:a.rel (S.env ρ ids) k cs)(hx1:x.ok ρ)(hx2:frzV ρ a.sz a.born (.agg cs)=some (x.den ρ)):
  ∃s1,Silent s s1/\s1.m.n=s.m.n/\Rel F (S.frzArr k x) ρ (withId ids k none) s1:=by
 have hnil:isNil ρ a.born cs=some (ids k).isNone:=hr.2.2.2.2.1;simp only[frzV,hnil]at hx2;cases hi:ids k with
 |none=>
  rw[hi]at hx2;simp only[Option.isNone_none,Option.some.injEq]at hx2;refine⟨s,Silent.refl s,rfl,rel_frz_mk h (T:=λq=>q) (tr_frz h hom_id ha hr hx1 (λ_ _=>rfl) (λ_ _ _=>rfl) (by rw[hi];exact hx2) (by rw[←hx2];rfl) (λ_ _ _ _ _ _ _ _=>rfl) rfl (λ_ _ _ _ _ _ _=>rfl)) (λ_=>rfl) rfl rfl h.old (λi l hl=>by simpa using hl) (λ_ _ hI=>hI) rfl h.efc (λhe=>h.eff (eff_or he)) rfl⟩
 |some id=>
  rw[hi]at hx2;simp only[Option.isNone_some]at hx2;have hx3:PV.frz id (ownV a.born (some id) a.sz cs)=x.den ρ:=by
   cases hbo:a.born with
   |map|tab _=>rw[hbo]at hx2;simp only[Option.some.injEq]at hx2;simp only[ownV,PV.frz,if_true];exact hx2
   |it|sit=>rw[hbo]at hx2;cases hx2
   |_=>rw[hbo]at hx2;simp only[Option.some.injEq]at hx2;simp only[ownV,PV.frz,if_true,plainC_frz id cs hr.plain];exact hx2
  have hone:(x.den ρ).one=true:=by
   split at hx2;all_goals first|(cases hx2;done)|(simp only[Option.some.injEq]at hx2;rw[←hx2];rfl)
  have hid:=h.idlt k id hi;refine⟨s.freeze id,silent_freeze s id,rfl,rel_frz_mk h (T:=PV.frz id) (tr_frz h (hom_frz id) ha hr hx1 (λ_ _=>by simp only[PV.frz]) (λ_ _ _=>by simp only[PV.frz]) ?_ hone (λj id' b sz l hj hj' hl=>frz_own_other (λe=>ids_ne h hi hj' hj e.symm) hl) (by simp only[PV.frz]) (λj id' off l hj hj' hl=>frz_eref_other (λe=>ids_ne h hi hj' hj e.symm) hl)) (λ_=>rfl) rfl rfl (λi hi'=>?_) (λi l hl=>?_) (λi I hI=>?_) rfl (λe he=>?_) (λhe=>?_) rfl⟩
  ·rw[hi];exact hx3
  ·show(s.m.β i).frz id=_;rw[h.old i hi'];cases hb:F.β0 i with
   |cells l=>rw[boxFrz_cells,←frzL_eq,bdL_frz_id hid.1 l (h.obd i l hi' hb)]
   |inv I=>rfl
   |hole=>rfl
  ·show(s.m.β i).frz id=_;rw[hl];rfl
  ·show(s.m.β i).frz id=_;rw[hI];rfl
  ·rcases mem_addEff he with he|he
   ·exact h.efc e he
   ·simp only[List.mem_singleton]at he;subst he;exact⟨hid.1,trivial⟩
  ·show addEff s.a0.a s.eff [.kill id]=[];rw[h.eff (eff_or he),addEff_nil];refine dropNew_all λe hee=>?_;simp only[List.mem_singleton]at hee;subst hee;rw[h.a0];exact h.young hi he
end
end
section
open Go Go.RowKit
variable[Sp]
mutual
def PV.stand(i:Nat)(l:List PV):PV->PV
 |.ptr j o=>if j=i then .eref none o (l.drop o)else .ptr j o
 |.hd j o z=>if j=i then(if l.length=z*o then .sl none o 0 z l else .bad)else .hd j o z
 |.sl id sz off len cs=>.sl id sz off len (standP i l cs)
 |.eref id off cs=>.eref id off (standP i l cs)
 |.fn f cs=>.fn f (standP i l cs)
 |.agg cs=>.agg (standP i l cs)
 |.tup cs=>.tup (standP i l cs)
 |.int k m=>.int k m
 |.bool b=>.bool b
 |.str s=>.str s
 |.undef=>.undef
 |.bad=>.bad
 |.nilp=>.nilp
 |.nilfn=>.nilfn
 |.snil=>.snil
 |.dead k=>.dead k
 |.yld k=>.yld k
 |.mp it id sz cs=>.mp it id sz cs
def standP(i:Nat)(l:List PV):List PV->List PV
 |[]=>[]
 |p::ps=>p.stand i l::standP i l ps
end
theorem standP_eq(i:Nat)(c l:List PV):standP i c l=l.map (PV.stand i c):=by
 induction l with
 |nil=>rfl
 |cons p ps ih=>simp[standP,ih]
def Phi.dropB(φ:Phi)(i:Nat):Phi:={ box:=λj=>if j=i then none else φ.box j,arr:=φ.arr }
section
variable{φ:Phi}{w:World}{m:Mem}{i:Nat}{n an:Nat}
theorem own_dropB{b:Nat}(h:(φ.dropB i).own b):φ.own b:=by
 rcases h with⟨j,h⟩|⟨j,h⟩
 ·simp only[Phi.dropB]at h;split at h
  ·cases h
  ·exact .inl ⟨j,h⟩
 ·exact .inr ⟨j,h⟩
theorem place_dropB{id:Option Nat}{b sz off cap:Nat}(h:place φ w id b sz off cap):place (φ.dropB i) w id b sz off cap:=by
 cases id with
 |none=>exact⟨λk=>h.1 (own_dropB k),h.2⟩
 |some j=>exact h
mutual
theorem VRel.dropB(hn:n<=i):∀(q:PV)(c:Value),VRel φ w q c->q.bd n an->VRel (φ.dropB i) w q c
 |.int _ _,c,h,_ | .bool _,c,h,_ | .str _,c,h,_ | .undef,c,h,_ | .bad,c,h,_ | .nilp,c,h,_ | .nilfn,c,h,_ | .snil,c,h,_ | .dead _,c,h,_ | .yld _,c,h,_=>by simp only[VRel]at h⊢<;>exact h
 |.ptr j o,c,h,hb=>by
  simp only[VRel,PV.bd]at h hb⊢;obtain⟨b,h1,h2⟩:=h;exact⟨b,by simp only[Phi.dropB];rw[if_neg (by omega)];exact h1,h2⟩
 |.hd j o z,c,h,hb=>by
  simp only[VRel,PV.bd]at h hb⊢;obtain⟨b,h1,h2⟩:=h;exact⟨b,by simp only[Phi.dropB];rw[if_neg (by omega)];exact h1,h2⟩
 |.sl id sz off len cs,c,h,hb=>by
  simp only[VRel]at h⊢;obtain⟨hl,a,cap,hv,hc,h⟩:=h;refine⟨hl,a,cap,hv,hc,?_⟩;rcases h with h|⟨b,ha,hp,hr⟩
  ·exact .inl h
  ·refine .inr ⟨b,ha,place_dropB hp,VRelAt.dropB hn b cs off hr ?_⟩;cases id<;>simp only[PV.bd]at hb<;>first|exact hb|exact hb.2
 |.eref id off cs,c,h,hb=>by
  simp only[VRel]at h⊢;obtain⟨b,ha,hp,hr⟩:=h;refine⟨b,ha,place_dropB hp,VRelAt.dropB hn b cs off hr ?_⟩;cases id<;>simp only[PV.bd]at hb<;>first|exact hb|exact hb.2
 |.fn f cs,c,h,hb=>by
  simp only[VRel,PV.bd]at h hb⊢;obtain⟨vs,h1,h2⟩:=h;exact⟨vs,h1,VRelL.dropB hn cs vs h2 hb⟩
 |.agg cs,c,h,hb=>by
  simp only[VRel,PV.bd]at h hb⊢;obtain⟨vs,h1,h2⟩:=h;exact⟨vs,h1,VRelL.dropB hn cs vs h2 hb⟩
 |.tup cs,c,h,hb=>by
  simp only[VRel,PV.bd]at h hb⊢;obtain⟨vs,h1,h2⟩:=h;exact⟨vs,h1,VRelL.dropB hn cs vs h2 hb⟩
 |.mp it id sz cs,c,h,hb=>by
  simp only[VRel]at h⊢;refine h.move (λb o hp hh _ _ _=>⟨?_,hh⟩) λb o hp hh _ _ _=>⟨λk=>hp (own_dropB k),hh⟩;cases id with
  |none=>exact λk=>hp (own_dropB k)
  |some j=>exact hp
theorem VRelL.dropB(hn:n<=i):∀(l:List PV)(vs:List Value),VRelL φ w l vs->bdL n an l->VRelL (φ.dropB i) w l vs
 |[],vs,h,_=>by simp only[VRelL]at h⊢;exact h
 |p::ps,vs,h,hb=>by
  simp only[VRelL,bdL]at h hb⊢;obtain⟨v,vs',e,h0,h1⟩:=h;exact⟨v,vs',e,VRel.dropB hn p v h0 hb.1,VRelL.dropB hn ps vs' h1 hb.2⟩
theorem VRelAt.dropB(hn:n<=i)(b:Nat):∀(l:List PV)(off:Nat),VRelAt φ w b l off->bdL n an l->VRelAt (φ.dropB i) w b l off
 |[],_,_,_=>by simp only[VRelAt]
 |p::ps,off,h,hb=>by
  simp only[VRelAt,bdL]at h hb⊢;obtain⟨⟨c,hc,h0⟩,h1⟩:=h;exact⟨⟨c,hc,VRel.dropB hn p c h0 hb.1⟩,VRelAt.dropB hn b ps (off+1) h1 hb.2⟩
end
theorem box_at(hm:MRel φ m w){l:List PV}{b:Nat}(hb:φ.box i=some b)(hβ:m.β i=.cells l)(hp:plainC l=true)(o:Nat):VRelAt (φ.dropB i) w b (l.drop o) o:=by
 obtain⟨cs,e,h1,h2,h3⟩:=hm.has hb;rw[hβ]at h2;have hl:VRelL φ w l cs.toList:=h2;refine vrelAt_mk λj p hj=>?_;rw[List.getElem?_drop]at hj;obtain⟨v,hv,hr⟩:=vrelL_get hl hj;refine⟨v,by simp only[World.cell?,h1];simpa using hv,?_⟩;exact VRel.dropB (n:=0) (an:=0) (Nat.zero_le _) p v hr (plain_bd 0 0 p (plainC_get hp hj).1)
mutual
theorem VRel.stand(hm:MRel φ m w){l:List PV}(hβ:m.β i=.cells l)(hp:plainC l=true):∀(q:PV)(c:Value),VRel φ w q c->VRel (φ.dropB i) w (q.stand i l) c
 |.int _ _,c,h | .bool _,c,h | .str _,c,h | .undef,c,h | .bad,c,h | .nilp,c,h | .nilfn,c,h | .snil,c,h | .dead _,c,h | .yld _,c,h=>by simp only[VRel,PV.stand]at h⊢<;>exact h
 |.ptr j o,c,h=>by
  simp only[VRel]at h;obtain⟨b,h1,h2⟩:=h;simp only[PV.stand];by_cases hj:j=i
  ·subst hj;rw[if_pos rfl];simp only[VRel];obtain⟨cs,e,g1,_,_⟩:=hm.has h1;refine⟨b,h2,⟨λho=>?_,(Array.getElem?_eq_some_iff.1 g1).1⟩,box_at hm h1 hβ hp o⟩;rcases ho with⟨k,hk⟩|⟨k,hk⟩
   ·simp only[Phi.dropB]at hk;split at hk
    ·cases hk
    ·rename_i hne;exact hne (hm.boxinj k j b hk h1)
   ·exact hm.sep j k b h1 hk
  ·rw[if_neg hj];simp only[VRel];exact⟨b,by simp only[Phi.dropB];rw[if_neg hj];exact h1,h2⟩
 |.hd j o z,c,h=>by
  simp only[VRel]at h;obtain⟨b,h1,cap,h2,h3⟩:=h;simp only[PV.stand];by_cases hj:j=i
  ·subst hj;rw[if_pos rfl];split
   ·rename_i hl;simp only[VRel];obtain⟨cs,e,g1,_,_⟩:=hm.has h1;refine⟨hl,_,cap,h2,h3,.inr ⟨b,rfl,⟨λho=>?_,(Array.getElem?_eq_some_iff.1 g1).1⟩,box_at hm h1 hβ hp 0⟩⟩;rcases ho with⟨k,hk⟩|⟨k,hk⟩
    ·simp only[Phi.dropB]at hk;split at hk
     ·cases hk
     ·rename_i hne;exact hne (hm.boxinj k j b hk h1)
    ·exact hm.sep j k b h1 hk
   ·simp only[VRel]
  ·rw[if_neg hj];simp only[VRel];exact⟨b,by simp only[Phi.dropB];rw[if_neg hj];exact h1,cap,h2,h3⟩
 |.sl id sz off len cs,c,h=>by
  simp only[VRel,PV.stand]at h⊢;obtain⟨hl,a,cap,hv,hc,h⟩:=h;refine⟨by rw[standP_eq,List.length_map];exact hl,a,cap,hv,hc,?_⟩;rcases h with h|⟨b,hab,hpl,hr⟩
  ·exact .inl h
  ·exact .inr ⟨b,hab,place_dropB hpl,VRelAt.stand hm hβ hp b cs off hr⟩
 |.eref id off cs,c,h=>by
  simp only[VRel,PV.stand]at h⊢;obtain⟨b,hab,hpl,hr⟩:=h;exact⟨b,hab,place_dropB hpl,VRelAt.stand hm hβ hp b cs off hr⟩
 |.fn f cs,c,h=>by
  simp only[VRel,PV.stand]at h⊢;obtain⟨vs,h1,h2⟩:=h;exact⟨vs,h1,VRelL.stand hm hβ hp cs vs h2⟩
 |.agg cs,c,h=>by
  simp only[VRel,PV.stand]at h⊢;obtain⟨vs,h1,h2⟩:=h;exact⟨vs,h1,VRelL.stand hm hβ hp cs vs h2⟩
 |.tup cs,c,h=>by
  simp only[VRel,PV.stand]at h⊢;obtain⟨vs,h1,h2⟩:=h;exact⟨vs,h1,VRelL.stand hm hβ hp cs vs h2⟩
 |.mp it id sz cs,c,h=>by
  simp only[VRel,PV.stand]at h⊢;refine h.move (λb o hp hh _ _ _=>⟨?_,hh⟩) λb o hp hh _ _ _=>⟨λk=>hp (own_dropB k),hh⟩;cases id with
  |none=>exact λk=>hp (own_dropB k)
  |some j=>exact hp
theorem VRelL.stand(hm:MRel φ m w){l:List PV}(hβ:m.β i=.cells l)(hp:plainC l=true):∀(ps:List PV)(vs:List Value),VRelL φ w ps vs->VRelL (φ.dropB i) w (standP i l ps) vs
 |[],vs,h=>by simp only[VRelL,standP]at h⊢;exact h
 |p::ps,vs,h=>by
  simp only[VRelL,standP]at h⊢;obtain⟨v,vs',e,h0,h1⟩:=h;exact⟨v,vs',e,VRel.stand hm hβ hp p v h0,VRelL.stand hm hβ hp ps vs' h1⟩
theorem VRelAt.stand(hm:MRel φ m w){l:List PV}(hβ:m.β i=.cells l)(hp:plainC l=true)(b:Nat):∀(ps:List PV)(off:Nat),VRelAt φ w b ps off->VRelAt (φ.dropB i) w b (standP i l ps) off
 |[],_,_=>by simp only[VRelAt,standP]
 |p::ps,off,h=>by
  simp only[VRelAt,standP]at h⊢;obtain⟨⟨c,hc,h0⟩,h1⟩:=h;exact⟨⟨c,hc,VRel.stand hm hβ hp p c h0⟩,VRelAt.stand hm hβ hp b ps (off+1) h1⟩
end
theorem VRelL.dropB_fixed{I:List PV->Prop}(l:List PV)(vs:List Value)(h:VRelL φ w l vs)(hc:∀k,cutbL k l=l)(ha:∀j b,φ.arr j=some b->j<an)(hb:∀j b,φ.box j=some b->j<n):VRelL (φ.dropB i) w l vs:=by
 have hbd:bdL 0 an l:=by
  have h0:=VRelL.cutb (n:=0) (an:=an) ha l vs h;rw[hc 0]at h0;exact bdL_of_rel (λj b hj=>by simp only[Phi.cut]at hj;split at hj<;>first|omega|cases hj) (λj b hj=>by
   simp only[Phi.cut]at hj;split at hj
   ·assumption
   ·cases hj) l vs h0
 exact VRelL.dropB (Nat.zero_le _) l vs h hbd
end
def BoxC.stand(i:Nat)(l:List PV):BoxC->BoxC
 |.cells c=>.cells (c.map (PV.stand i l))
 |.inv I=>.inv I
 |.hole=>.hole
def St.stand(s:St)(i:Nat)(l:List PV):St:={ s with g:=λt=>(s.g t).stand i l,m:={ s.m with β:=λj=>if j=i then .hole else(s.m.β j).stand i l } }
theorem silent_stand(s:St){i:Nat}{l:List PV}(hβ:s.m.β i=.cells l)(hp:plainC l=true)(hi:s.a0.n<=i)(he:∀e∈s.eff,e.clean):Silent s (s.stand i l):=by
 refine⟨rfl,λφ w N a A hs ha hA=>⟨φ.dropB i,⟨λt=>VRel.stand hs.mem hβ hp _ _ (hs.tmp t),hs.size,?_⟩,?_⟩⟩
 ·have hm:=hs.mem;refine⟨λj hj=>?_,λj hj=>?_,λj b h=>hm.arr j b h,λj k b h1 h2=>?_,hm.arrinj,λj k b h1 h2=>?_,hm.rcs⟩
  ·by_cases hji:j=i
   ·subst hji;exact .inl ⟨by simp[St.stand],by simp[Phi.dropB]⟩
   ·rcases hm.box j hj with⟨g1,g2⟩|⟨b,cs,e,hb,hh,hr⟩
    ·exact .inl ⟨by simp[St.stand,hji,g1,BoxC.stand],by simp[Phi.dropB,hji,g2]⟩
    ·refine .inr ⟨b,cs,e,by simp[Phi.dropB,hji,hb],hh,?_⟩;simp only[St.stand,hji,if_false];cases hc:s.m.β j with
     |cells c=>
      rw[hc]at hr;simp only[BoxC.stand,BRel];rw[←standP_eq];exact VRelL.stand hm hβ hp c _ hr
     |inv I=>
      rw[hc]at hr;obtain⟨c,h1,h2,h3,h4⟩:=hr;exact⟨c,h1,h2,h3,VRelL.dropB_fixed (I:=I) (n:=s.m.n) c _ h4 h3 (λk b hk=>(hm.arr k b hk).1) (λk b hk=>Nat.lt_of_not_le λhle=>by rw[hm.boxn k hle]at hk;cases hk)⟩
     |hole=>rw[hc]at hr;exact hr.elim
  ·simp only[Phi.dropB];split
   ·rfl
   ·exact hm.boxn j hj
  ·simp only[Phi.dropB]at h1 h2;split at h1<;>first|(cases h1;done)|skip
   split at h2<;>first|(cases h2;done)|skip
   exact hm.boxinj j k b h1 h2
  ·simp only[Phi.dropB]at h1;split at h1<;>first|(cases h1;done)|skip
   exact hm.sep j k b h1 h2
 ·refine⟨⟨λq c hq=>?_,ha.st.os,ha.st.output,ha.st.size,λb hb ho hl=>?_⟩,ha.re.trans ⟨Nat.le_refl _,λb _ ho _=>⟨rfl,λk=>ho (own_dropB k)⟩⟩⟩
  ·have hbd:q.bd s.a0.n s.a0.a:=bd_of_rel hA.2.1 hA.1 q c hq;exact VRel.dropB hi _ c (ha.st.tr q c hq) (bd_sub he hbd)
  ·exact⟨(ha.st.rest b hb ho hl).1,λk=>(ha.st.rest b hb ho hl).2 (own_dropB k)⟩
end
section
open Go Go.RowKit
variable[Sp]
mutual
theorem plain_stand(i:Nat)(l:List PV):∀p:PV,p.plain=true->p.stand i l=p
 |.int _ _,_ | .bool _,_ | .str _,_ | .nilp,_ | .nilfn,_ | .snil,_=>by simp only[PV.stand]
 |.undef,h | .bad,h | .dead _,h | .yld _,h | .ptr _ _,h | .hd _ _ _,h=>by simp[PV.plain]at h
 |.mp _ _ _ _,h=>by simp only[PV.stand]
 |.sl none _ _ _ cs,h=>by simp only[PV.stand,plainC_stand i l cs (by simpa only[PV.plain]using h)]
 |.sl (some _) _ _ _ cs,h=>by simp[PV.plain]at h
 |.eref none _ cs,h=>by simp only[PV.stand,plainC_stand i l cs (by simpa only[PV.plain]using h)]
 |.eref (some _) _ cs,h=>by simp[PV.plain]at h
 |.fn _ cs,h=>by simp only[PV.stand,plainC_stand i l cs (by simpa only[PV.plain]using h)]
 |.agg cs,h=>by simp only[PV.stand,plainC_stand i l cs (by simpa only[PV.plain]using h)]
 |.tup cs,h=>by simp only[PV.stand,plainT_stand i l cs (by simpa only[PV.plain]using h)]
theorem plainC_stand(i:Nat)(l:List PV):∀c:List PV,plainC c=true->standP i l c=c
 |[],_=>rfl
 |p::ps,h=>by
  simp only[plainC,Bool.and_eq_true]at h;simp only[standP,plain_stand i l p h.1.1,plainC_stand i l ps h.2]
theorem plainT_stand(i:Nat)(l:List PV):∀c:List PV,plainT c=true->standP i l c=c
 |[],_=>rfl
 |p::ps,h=>by
  simp only[plainT,Bool.and_eq_true]at h;simp only[standP,plain_stand i l p h.1,plainT_stand i l ps h.2]
end
mutual
theorem bd_stand_id{n a i:Nat}(hi:n<=i)(l:List PV):∀q:PV,q.bd n a->q.stand i l=q
 |.int _ _,_ | .bool _,_ | .str _,_ | .undef,_ | .bad,_ | .nilp,_ | .nilfn,_ | .snil,_ | .dead _,_ | .yld _,_=>by simp only[PV.stand]
 |.ptr j o,h=>by
  simp only[PV.bd]at h;simp only[PV.stand];rw[if_neg (by omega)]
 |.hd j o z,h=>by
  simp only[PV.bd]at h;simp only[PV.stand];rw[if_neg (by omega)]
 |.sl id _ _ _ cs,h=>by
  have:bdL n a cs:=by cases id<;>simp only[PV.bd]at h<;>first|exact h|exact h.2
  simp only[PV.stand,bdL_stand_id hi l cs this]
 |.eref id _ cs,h=>by
  have:bdL n a cs:=by cases id<;>simp only[PV.bd]at h<;>first|exact h|exact h.2
  simp only[PV.stand,bdL_stand_id hi l cs this]
 |.fn _ cs,h=>by simp only[PV.stand,bdL_stand_id hi l cs (by simpa only[PV.bd]using h)]
 |.agg cs,h=>by simp only[PV.stand,bdL_stand_id hi l cs (by simpa only[PV.bd]using h)]
 |.tup cs,h=>by simp only[PV.stand,bdL_stand_id hi l cs (by simpa only[PV.bd]using h)]
 |.mp _ _ _ _,h=>by simp only[PV.stand]
theorem bdL_stand_id{n a i:Nat}(hi:n<=i)(l:List PV):∀c:List PV,bdL n a c->standP i l c=c
 |[],_=>by simp only[standP]
 |p::ps,h=>by
  simp only[bdL]at h;simp only[standP,bd_stand_id hi l p h.1,bdL_stand_id hi l ps h.2]
end
theorem hom_stand(i:Nat)(l:List PV):Hom (PV.stand i l) where
 plain:=λq h=>plain_stand i l q h
 undef:=by simp only[PV.stand]
 agg:=λc=>by simp only[PV.stand,standP_eq]
 tup:=λc=>by simp only[PV.stand,standP_eq]
 fn:=λf c=>by simp only[PV.stand,standP_eq]
 sl:=λ_ _ _ c=>by simp only[PV.stand,standP_eq]
 eref:=λ_ c=>by simp only[PV.stand,standP_eq]
 yld:=λ_=>by simp only[PV.stand]
 one:=λq h _=>by
  cases q with
  |ptr j o=>simp only[PV.stand];split<;>exact .inl rfl
  |hd j o z=>simp only[PV.stand];split<;>(try split)<;>first|exact .inl rfl|exact .inr rfl
  |undef=>simp[PV.one]at h
  |bad=>simp[PV.one]at h
  |agg _=>simp[PV.one]at h
  |tup _=>simp[PV.one]at h
  |_=>exact .inl rfl
section
variable{X:Ctx}{F:Frm}{C:Orc->FuncId->List PV->Option PV}{n:Nat}{R:Out->Prop}{S:Sym}{ρ:List PV}{ids:Nat->Option Nat}{s:St}{K:Sym->M}{t:Tree}{o:Oper}{m0:Mem}{inl yl:Inl}{lx:Option Nat}{key:Nat}{E:Env}
theorem env_stand(i:Nat)(l:List SV):(S.standBox i l).env ρ ids=S.env ρ ids:=by simp[Sym.env,Sym.standBox,Sym.mapV]
theorem Rel.stand(h:Rel F S ρ ids s){i:Nat}{l:List SV}{ps:List PE}(hb:S.bx[i]?=some (.cells l))(hp:peL l=some ps)(hi:S.bbase<=i):
  ∃s1,Silent s s1/\s1.m.n=s.m.n/\Rel F (S.standBox i l) ρ ids s1:=by
 obtain⟨l',h1,h2⟩:=h.box i _ hb;have hpl:=(peL_den hp h2).2;have hlt:i<S.bx.length:=(List.getElem?_eq_some_iff.1 hb).1;refine⟨s.stand (F.n0+i) l',silent_stand s h1 hpl (by rw[h.a0,h.bbase];omega) (λe he=>(h.efc e he).2),rfl,?_⟩;have tr:Tr F (S.env ρ ids) (S.env ρ ids) (SV.stand i l) (PV.stand (F.n0+i) l'):=by
  refine⟨hom_stand _ _,List.prefix_refl _,λ_=>rfl,rfl,rfl,rfl,λ_ _ _=>rfl,λ_=>by simp only[SV.stand],λg c=>by simp only[SV.stand,standL_eq],λc=>by simp only[SV.stand,standL_eq],λc=>by simp only[SV.stand,standL_eq],λ_ _ c=>by simp only[SV.stand,standL_eq],λc _=>by simp only[SV.stand,standL_eq],λb x fo=>(by by_cases hj:b=i<;>simp[SV.stand,hj]),λj o q hq=>?_,λj o z q hq=>?_,λq hq=>?_,λk q hq=>?_,λk x fo q hq=>?_⟩
  ·unfold RV at hq;rw[hq.1];by_cases hj:j=i
   ·subst hj;simp only[SV.stand,PV.stand,if_true];refine⟨?_,.inr rfl⟩;unfold RV;exact⟨l',h2,hpl,rfl⟩
   ·simp only[SV.stand,PV.stand,hj,if_false];rw[if_neg (by omega)];refine⟨?_,.inr rfl⟩;unfold RV;exact⟨rfl,hq.2⟩
  ·unfold RV at hq;rw[hq.1];by_cases hj:j=i
   ·subst hj;simp only[SV.stand,PV.stand,if_true,(rvl_length h2).symm];split
    ·rename_i hl;refine⟨?_,.inr rfl⟩;unfold RV;exact⟨l',rfl,h2,hpl,by rw[(rvl_length h2).symm];exact hl⟩
    ·exact⟨by simp only[RV],.inl rfl⟩
   ·simp only[SV.stand,PV.stand,hj,if_false];rw[if_neg (by omega)];refine⟨?_,.inr rfl⟩;unfold RV;exact⟨rfl,hq.2⟩
  ·unfold RV at hq;rw[hq.1];simp only[PV.stand];rw[if_neg (by have:=hq.2.1;omega)]
  ·have hq':=hq;unfold RV at hq;obtain⟨b,csj,g1,g2,g3⟩:=hq;have hT:PV.stand (F.n0+i) l' q=q:=by
    rw[g3];unfold ownV;split
    ·split<;>simp only[PV.stand,plainC_stand _ _ _ g2.plain]
    ·simp only[PV.stand]
   rw[hT];exact⟨hq',.inr (by rw[g3];exact ownV_one _ _ _ _)⟩
  ·have hq':=hq;unfold RV at hq;obtain⟨b,csj,id',nn,kk,g1,g2,g3,g4,g5,g6,g7,g8⟩:=hq;have hT:PV.stand (F.n0+i) l' q=q:=by
    rw[g8];simp only[PV.stand,plainC_stand _ _ _ (plainC_drop g2.plain _)]
   rw[hT];exact⟨hq',.inr (by rw[g8];rfl)⟩
 refine⟨h.len,h.kn,λt=>?_,by show s.m.n=_;simp[Sym.standBox,Sym.mapV,h.boxn],λj hj=>?_,λj b hj=>?_,λk id hk=>⟨(h.idlt k id hk).1,(h.idlt k id hk).2.1,by simpa[Sym.standBox,Sym.mapV]using(h.idlt k id hk).2.2⟩,h.idinj,by rw[env_stand];exact h.arr,h.a0,h.ent,h.efc,h.eff,h.new,h.keep,h.bbase,h.ba,by simpa[Sym.standBox,Sym.mapV]using h.bb,h.an,h.obd,h.rc⟩
 ·have:(S.standBox i l).get t=SV.stand i l (S.get t):=by
   simp only[Sym.get,Sym.standBox,Sym.mapV];exact getA_map rfl _ t
  rw[this,env_stand];exact tr.rv (h.slot t)
 ·simp only[St.stand];rw[if_neg (by omega),h.old j hj];cases hb0:F.β0 j with
  |cells c=>simp only[BoxC.stand];rw[←standP_eq,bdL_stand_id (by omega:F.n0<=F.n0+i) l' c (h.obd j c hj hb0)]
  |inv I=>rfl
  |hole=>rfl
 ·rw[env_stand];simp only[Sym.standBox,List.getElem?_set,List.getElem?_map,List.length_map]at hj;split at hj
  ·rename_i hij;subst hij;simp only[hlt,if_true,Option.some.injEq]at hj;subst hj;trivial
  ·rename_i hij;obtain⟨b0,hb0,rfl⟩:=Option.map_eq_some_iff.1 hj;have hbox:=h.box j b0 hb0;simp only[St.stand];rw[if_neg (by omega)];cases b0 with
   |cells c=>
    obtain⟨c',e1,e2⟩:=hbox;rw[e1];exact⟨_,rfl,tr.rvl e2⟩
   |dice=>rw[show s.m.β (F.n0+j)=.inv F.DI from hbox];rfl
   |gone=>trivial
def Sil(X:Ctx)(F:Frm)(C:Orc->FuncId->List PV->Option PV)(n:Nat)(R:Out->Prop)(K:Sym->M)(S:Sym)(ρ:List PV)(s:St):Prop:=
 ∃s1,Silent s s1/\s1.m.n=s.m.n/\Stp X F C n R K S ρ s1
theorem Ext.bind'(S:Sym)(ρ:List PV)(v:PV)(kn:Bool)(k:Nat)(x:SE):Ext S ρ ((S.bind kn).frzArr k x) (ρ++[v]):=
 ⟨List.prefix_append _ _,rfl,rfl,rfl,rfl,rfl,by simp[Sym.frzArr,Sym.mapV,Sym.bind],by simp[Sym.frzArr,Sym.mapV,Sym.bind]⟩
theorem frzV_plain{sz:Nat}{b:BN}{cs:List PV}{v:PV}(hc:plainC cs=true)(h:frzV ρ sz b (.agg cs)=some v):v.plain=true/\v.one=true:=by
 simp only[frzV]at h;split at h
 ·injection h with h;subst h;exact⟨rfl,rfl⟩
 ·split at h;all_goals first|(cases h;done)|(injection h with h;subst h;exact⟨rfl,rfl⟩)|(injection h with h;subst h;exact⟨by simpa only[PV.plain]using hc,rfl⟩)
 ·cases h
theorem isNil_bind{b:BN}{cs:List PV}(hb:∀x,b=.dyn x->x.ok ρ)(v:PV):isNil (ρ++[v]) b cs=isNil ρ b cs:=isNil_prefix (List.prefix_append _ _) hb
theorem frzK_ok{k:Nat}(h:frzK k S K=.ok t)(hr:Rel F S ρ ids s)(hrun:Run X.P C n t ρ R):Sil X F C n R K S ρ s:=by
 unfold frzK at h;split at h
 ·rename_i a ha;obtain⟨t',ht,rfl⟩:=emit_ok h;obtain⟨v,hv,hrun⟩:=hrun.prim;obtain⟨cs,hc⟩:=hr.arr k a ha;have hden:a.c.den ρ=.agg cs:=hc.2.1;simp only[Prim.run,hden]at hv;obtain⟨p1,p2⟩:=frzV_plain hc.plain hv;have hb:=hr.bind v true λ_=>p2;obtain⟨g1,g2⟩:=var_ok hr v p1;have hc':=AR.rel.mono (Env.le_bind S ρ ids v true) ha hc;obtain⟨s1,q1,q2,q3⟩:=Rel.frz hb (x:=.var S.nv) ha hc' g1 (by
   rw[g2];simp only[frzV]at hv⊢;rw[isNil_bind (ρ:=ρ) (b:=a.born) (cs:=cs) hc.2.2.2.2.2 v];exact hv)
  exact⟨s1,q1,q2,_,_,_,t',ht,q3,hrun,Ext.bind' S ρ v true k _⟩
 ·cases h
theorem Sil.of(h:Stp X F C n R K S ρ s):Sil X F C n R K S ρ s:=⟨s,Silent.refl s,rfl,h⟩
theorem frzAll_ok:∀{d:Nat}{ks:List Nat}{S:Sym}{ρ:List PV}{ids:Nat->Option Nat}{s:St}{t:Tree},frzAll d ks S K=.ok t->Rel F S ρ ids s->Run X.P C n t ρ R->Sil X F C n R K S ρ s
 |0,ks,S,ρ,ids,s,t,h,hr,hrun=>by simp only[frzAll]at h;cases h
 |d+1,[],S,ρ,ids,s,t,h,hr,hrun=>by
  simp only[frzAll]at h;exact Sil.of ⟨S,ρ,ids,t,h,hr,hrun,Ext.refl S ρ⟩
 |d+1,k::ks,S,ρ,ids,s,t,h,hr,hrun=>by
  simp only[frzAll]at h;split at h
  ·split at h
   ·obtain⟨s1,q1,q2,S1,ρ1,ids1,t1,h1,h2,h3,h4⟩:=frzK_ok (X:=X) h hr hrun;obtain⟨s2,p1,p2,S2,ρ2,ids2,t2,g1,g2,g3,g4⟩:=frzAll_ok h1 h2 h3;exact⟨s2,q1.trans p1,p2.trans q2,S2,ρ2,ids2,t2,g1,g2,g3,h4.trans g4⟩
   ·exact frzAll_ok h hr hrun
  ·split at h
   ·rename_i c hb;have hb':S.bx[k/2]?=some (.cells c):=by
     rw[List.getD_eq_getElem?_getD]at hb;cases hg:S.bx[k/2]? with
     |none=>rw[hg]at hb;cases hb
     |some b=>rw[hg]at hb;simp only[Option.getD_some]at hb;rw[hb]
    split at h
    ·split at h
     ·rename_i ps hp;split at h
      ·cases h
      ·rename_i hbb;obtain⟨s1,q1,q2,q3⟩:=hr.stand hb' hp (by omega);obtain⟨s2,p1,p2,S2,ρ2,ids2,t2,g1,g2,g3,g4⟩:=frzAll_ok h q3 hrun;have hx:Ext S ρ (S.standBox (k/2) c) ρ:=⟨List.prefix_refl _,rfl,rfl,rfl,rfl,rfl,by simp[Sym.standBox,Sym.mapV],by simp[Sym.standBox,Sym.mapV]⟩;exact⟨s2,q1.trans p1,p2.trans q2,S2,ρ2,ids2,t2,g1,g2,g3,hx.trans g4⟩
     ·cases h
    ·exact frzAll_ok h hr hrun
   ·exact frzAll_ok h hr hrun
end
end
section
open Go Go.RowKit
variable[Sp]
section
variable{X:Ctx}{F:Frm}{C:Orc->FuncId->List PV->Option PV}{n:Nat}{R:Out->Prop}{S:Sym}{ρ:List PV}{ids:Nat->Option Nat}{s:St}{K:Sym->M}{t:Tree}{o:Oper}{m0:Mem}{inl yl:Inl}{lx:Option Nat}{key:Nat}{E:Env}
def SeqOk(X:Ctx)(F:Frm)(C:Orc->FuncId->List PV->Option PV)(n:Nat)(R:Out->Prop)(K:Sym->M)(S:Sym)(ρ:List PV)(s:St)(o:Oper):Prop:=
 ∃s1,Silent s s1/\opW X.P s1 o λs'=>Stp X F C n R K S ρ s'
theorem seq_of_pure(hb:∀t l p,o.op≠.buildSlice t l p)(h:PureOk X F C n R K S ρ s s.m o):SeqOk X F C n R K S ρ s o:=by
 obtain⟨pv,h1,h2⟩:=h;exact⟨s,Silent.refl s,pure_opW (m0:=s.m) ⟨Nat.le_refl _,λ_ _=>rfl⟩ h1 hb h2⟩
theorem stp_mono{S1:Sym}{ρ1:List PV}{s':St}(hx:Ext S ρ S1 ρ1)(h:Stp X F C n R K S1 ρ1 s'):Stp X F C n R K S ρ s':=by
 obtain⟨S',ρ',ids',t',h1,h2,h3,h4⟩:=h;exact⟨S',ρ',ids',t',h1,h2,h3,hx.trans h4⟩
theorem seq_mono{S1:Sym}{ρ1:List PV}{s1:St}(hs:Silent s s1)(hx:Ext S ρ S1 ρ1)(h:SeqOk X F C n R K S1 ρ1 s1 o):SeqOk X F C n R K S ρ s o:=by
 obtain⟨s2,h1,h2⟩:=h;exact⟨s2,hs.trans h1,opW_imp (λs' _ h=>stp_mono hx h) h2⟩
theorem seq_frz{ks:List Nat}{d:Nat}{K':Sym->M}(h:frzAll d ks S K'=.ok t)(hr:Rel F S ρ ids s)(hrun:Run X.P C n t ρ R)
  (hk:∀S1 ρ1 ids1 s1 t1,K' S1=.ok t1->Rel F S1 ρ1 ids1 s1->Run X.P C n t1 ρ1 R->SeqOk X F C n R K S1 ρ1 s1 o):SeqOk X F C n R K S ρ s o:=by
 obtain⟨s1,q1,q2,S1,ρ1,ids1,t1,h1,h2,h3,h4⟩:=frzAll_ok (X:=X) h hr hrun;exact seq_mono q1 h4 (hk S1 ρ1 ids1 s1 t1 h1 h2 h3)
theorem seq_thaw{ks:List Nat}{K':Sym->M}(h:thaw none key ks S K'=.ok t)(hr:Rel F S ρ ids s)(hrun:Run X.P C n t ρ R)
  (hk:∀S1 ρ1 ids1 s1 t1,K' S1=.ok t1->Rel F S1 ρ1 ids1 s1->Run X.P C n t1 ρ1 R->SeqOk X F C n R K S1 ρ1 s1 o):SeqOk X F C n R K S ρ s o:=by
 unfold thaw at h;split at h
 ·exact hk S ρ ids s t h hr hrun
 ·simp only[Option.isSome_none,Bool.false_eq_true,if_false]at h;exact seq_frz h hr hrun hk
theorem stp_newArr(hr:Rel F S ρ ids s){a:AR}{cs:List PV}{len:Nat}(ha:a.c.ok ρ)(hc:a.c.den ρ=.agg cs)(hsz:0<a.sz)(hl:cs.length=len*a.sz)(hb:isNil ρ a.born cs=some false)(hd:∀y,a.born=.dyn y->y.ok ρ)
  (h:K (S.addArr a o.dst)=.ok t) (hrun:Run X.P C n t ρ R) (hlst:a.born.lst=true:=by rfl):Stp X F C n R K S ρ (s.newArr o.dst a.sz len cs):=by
 have hdiv:cs.length/a.sz=len:=by rw[hl];exact Nat.mul_div_cancel _ hsz
 obtain⟨h1,h2⟩:=hr.addAr (x:=some s.m.an) (s':={ s with m:={ s.m with an:=s.m.an+1 } }) ha hc hsz (by rw[hdiv,hl]) (by rw[hb];rfl) hd rfl rfl rfl (Nat.le_succ _) (λid e=>by injection e with e;subst e;exact⟨Nat.le_refl _,Nat.lt_succ_self _⟩) rfl rfl rfl;refine⟨_,ρ,_,t,h,h1.put o.dst (v:=.own S.ar.length) ?_,hrun,?_⟩
 ·unfold RV;refine⟨a,cs,by simp[Sym.env,List.getD_eq_getElem?_getD],h2,?_⟩;rw[ownV_lst hlst];simp[Sym.env,withId,hdiv]
 ·have hx:Ext S ρ ({ S with ar:=S.ar++[some a] }:Sym) ρ:=⟨List.prefix_refl _,rfl,rfl,rfl,rfl,rfl,Nat.le_refl _,rfl⟩;exact hx.put _ _
theorem stp_nilArr(hr:Rel F S ρ ids s){a:AR}(ha:a.c.ok ρ)(hc:a.c.den ρ=.agg [])(hsz:0<a.sz)(hb:isNil ρ a.born []=some true)(hd:∀y,a.born=.dyn y->y.ok ρ)
  (h:K (S.addArr a o.dst)=.ok t) (hrun:Run X.P C n t ρ R):Stp X F C n R K S ρ (s.put o.dst .snil):=by
 obtain⟨h1,h2⟩:=hr.addAr (x:=none) (s':=s) ha hc hsz (by simp) (by rw[hb];rfl) hd rfl rfl rfl (Nat.le_refl _) (λid e=>by cases e) rfl rfl rfl;refine⟨_,ρ,_,t,h,h1.put o.dst (v:=.own S.ar.length) ?_,hrun,?_⟩
 ·unfold RV;refine⟨a,[],by simp[Sym.env,List.getD_eq_getElem?_getD],h2,?_⟩;simp[Sym.env,withId,ownV]
 ·have hx:Ext S ρ ({ S with ar:=S.ar++[some a] }:Sym) ρ:=⟨List.prefix_refl _,rfl,rfl,rfl,rfl,rfl,Nat.le_refl _,rfl⟩;exact hx.put _ _
def BN.mk:BN->Option MK
 |.map=>some .set
 |.it=>some .wlk
 |.tab sc=>some (.tab sc)
 |.sit=>some .sit
 |_=>none
theorem BN.mk_set{b:BN}(h:b.isMap=true):b.mk=some .set:=by cases b<;>first|rfl|cases h
theorem BN.mk_it{b:BN}(h:b.isIt=true):b.mk=some .wlk:=by cases b<;>first|rfl|cases h
theorem BN.mk_nil{ρ:List PV}{b:BN}{it:MK}(h:b.mk=some it)(cs:List PV):isNil ρ b cs=some false:=by cases b<;>first|rfl|cases h
theorem BN.mk_own{b:BN}{it:MK}(h:b.mk=some it)(id sz:Nat)(cs:List PV):ownV b (some id) sz cs=.mp it (some id) sz cs:=by cases b<;>simp only[BN.mk,Option.some.injEq]at h<;>first|(subst h;rfl)|cases h
theorem stp_newMp(hr:Rel F S ρ ids s){a:AR}{cs:List PV}{it:MK}(hab:a.born.mk=some it)(ha:a.c.ok ρ)(hc:a.c.den ρ=.agg cs)(hsz:0<a.sz)(hl:cs.length=cs.length/a.sz*a.sz)
  (h:K (S.addArr a o.dst)=.ok t) (hrun:Run X.P C n t ρ R):Stp X F C n R K S ρ (s.newMp o.dst it a.sz cs):=by
 obtain⟨h1,h2⟩:=hr.addAr (x:=some s.m.an) (s':={ s with m:={ s.m with an:=s.m.an+1 } }) ha hc hsz hl (BN.mk_nil hab _) (λy e=>by rw[e]at hab;cases hab) rfl rfl rfl (Nat.le_succ _) (λid e=>by injection e with e;subst e;exact⟨Nat.le_refl _,Nat.lt_succ_self _⟩) rfl rfl rfl;refine⟨_,ρ,_,t,h,h1.put o.dst (v:=.own S.ar.length) ?_,hrun,?_⟩
 ·unfold RV;refine⟨a,cs,by simp[Sym.env,List.getD_eq_getElem?_getD],h2,?_⟩;have:(({ S with ar:=S.ar++[some a] }:Sym).env ρ (withId ids S.ar.length (some s.m.an))).ids S.ar.length=some s.m.an:=by simp[Sym.env,withId]
  rw[this,BN.mk_own hab]
 ·have hx:Ext S ρ ({ S with ar:=S.ar++[some a] }:Sym) ρ:=⟨List.prefix_refl _,rfl,rfl,rfl,rfl,rfl,Nat.le_refl _,rfl⟩;exact hx.put _ _
theorem b_eq{x y:SE}(h:x.b y=true):x.den ρ=y.den ρ:=by
 induction x generalizing y with
 |var i=>cases y<;>simp[SE.b]at h;subst h;rfl
 |proj x j ih=>cases y<;>simp[SE.b]at h;obtain⟨rfl,h⟩:=h;simp only[SE.den,ih h]
 |cst v=>
  cases y with
  |cst u=>
   simp only[SE.b]at h;simp only[SE.den];unfold pvB at h;split at h
   ·simp only[Bool.and_eq_true,decide_eq_true_eq]at h;rw[h.1,h.2]
   ·simp only[beq_iff_eq]at h;rw[h]
   ·rename_i x y;have h:=of_decide_eq_true h;cases x;cases y;simp only at h;rw[h]
   all_goals first|rfl|cases h
  |_=>simp[SE.b]at h
theorem seq_make{ty:TypeId}{l c:Operand}(hop:o.op=.makeSlice ty l c)(h:compMake X none o ty l c S K=.ok t)(hr:Rel F S ρ ids s)(hrun:Run X.P C n t ρ R):SeqOk X F C n R K S ρ s o:=by
 unfold compMake at h;simp only[Option.isSome_none,Bool.false_eq_true,if_false]at h;split at h
 ·rename_i e hu;split at h
  ·rename_i a b z ha hb hz;split at h
   ·rename_i hcnd;obtain⟨c1,c2,c3,c4,c5⟩:=hcnd;obtain⟨t',ht,rfl⟩:=emit_ok h;obtain⟨v,hv,hrun⟩:=hrun.prim;have hl:=hr.ev l;have hc:=hr.ev c;rw[ha]at hl;rw[hb]at hc;simp only[RV]at hl hc;have hc':s.ev c=s.ev l:=by rw[hl.1,hc.1];exact(b_eq c1).symm
    simp only[Prim.run,mkV,PE.den]at hv;split at hv
    ·rename_i k hk;split at hv
     ·rename_i hbd;injection hv with hv;subst hv;have hl':s.ev l=.int .i64 k:=by rw[hl.1];exact hk
      have hpz:plainC (repl z k.toNat)=true:=by
       have:∀j,plainC (repl z j)=true:=λj=>by
        induction j with
        |zero=>rfl
        |succ j ih=>exact plainC_append c2 ih
       exact this _
      obtain⟨g1,g2⟩:=var_ok hr (.agg (repl z k.toNat)) (by simpa only[PV.plain]using hpz);have hbnd:=hr.bind (.agg (repl z k.toNat)) false (by simp);refine⟨s,Silent.refl s,?_⟩;simp only[opW,hop,hu,hl',hc'];refine⟨z,hz,c3,c4,c5,hbd.1,Int.le_refl _,hbd.2.1,hbd.2.2,?_⟩;exact stp_mono (Ext.bind S ρ _ false) (stp_newArr (a:=⟨X.P.cellsOf e,.real,.var S.nv⟩) hbnd g1 g2 (by rw[←c3];exact c4) (by rw[repl_length,c3]) rfl (λy e=>by cases e) ht hrun)
     ·cases hv
    ·cases hv
   ·cases h
  ·cases h
 ·cases h
theorem seq_box{e:TypeId}{x:Operand}(hop:o.op=.box e x)(h:cellsK X e (S.ev x) S (λc S=>K (S.newBox o.dst c))=.ok t)(hr:Rel F S ρ ids s)(hrun:Run X.P C n t ρ R):SeqOk X F C n R K S ρ s o:=by
 obtain⟨c,S1,ρ1,t1,h1,h2,h3,h4,h5,h6,h7⟩:=cellsK_ok h hr (hr.ev x) hrun;refine⟨s,Silent.refl s,?_⟩;simp only[opW,hop];refine⟨h7,S1.newBox o.dst c,ρ1,ids,t1,h1,h2.newBox o.dst h6,h3,h4.trans ?_⟩;rw[newBox_eq];have hx:Ext S1 ρ1 (S1.addBox c) ρ1:=⟨List.prefix_refl _,rfl,rfl,rfl,rfl,rfl,by simp[Sym.addBox],rfl⟩;exact hx.put _ _
theorem seq_alloc{e:TypeId}{z:List PV}(hop:o.op=.alloc e)(hz:zeroCs X.P e=some z)(h:K (S.newBox o.dst (cstJ z))=.ok t)(hr:Rel F S ρ ids s)(hrun:Run X.P C n t ρ R):SeqOk X F C n R K S ρ s o:=by
 refine⟨s,Silent.refl s,?_⟩;simp only[opW,hop];refine⟨z,hz,S.newBox o.dst (cstJ z),ρ,ids,t,h,hr.newBox o.dst rvl_cstJ,hrun,?_⟩;rw[newBox_eq];have hx:Ext S ρ (S.addBox (cstJ z)) ρ:=⟨List.prefix_refl _,rfl,rfl,rfl,rfl,rfl,by simp[Sym.addBox],rfl⟩;exact hx.put _ _
theorem solid_one{l:List SV}{l':List PV}(h:RVL F E l l')(hs:l.all SV.solid=true):l'.all PV.one=true:=by
 rw[List.all_eq_true]at hs⊢;intro q hq;obtain⟨j,hj⟩:=List.mem_iff_getElem?.1 hq;have hlt:j<l.length:=by rw[rvl_length h];exact(List.getElem?_eq_some_iff.1 hj).1
 have hv:l[j]?=some l[j]:=by simp[hlt]
 refine((rvl_iff.1 h).2 j _ q hv hj).2.resolve_left λe=>?_;have:=hs l[j] (by simp);rw[e]at this;cases this
theorem aTail_plain{sz:Nat}{y:PV}{m:Nat}{news:List PV}(hy:y.plain=true)(h:aTail sz y=some (m,news)):plainC news=true:=by
 unfold aTail at h;split at h
 ·injection h with h;injection h with _ h;subst h;rfl
 ·rename_i id sz' off len cs;split at h
  ·injection h with h;injection h with _ h;subst h;cases id with
   |none=>simpa only[PV.plain]using hy
   |some i=>simp[PV.plain]at hy
  ·cases h
 ·cases h
theorem plainC_noId{l:List PV}(h:plainC l=true)(id:Nat):∀c∈l,noId id c:=λc hc=>plain_sub1 _ c ((plainC_iff _).1 h c hc).1
theorem plainC_one{l:List PV}(h:plainC l=true):l.all PV.one=true:=List.all_eq_true.2 λq hq=>((plainC_iff _).1 h q hq).2
theorem Rel.revive(h:Rel F S ρ ids s){k:Nat}{a:AR}{c':SE}{cs':List PV}{x:Option Nat}(ha:S.ar.getD k none=some a)(hid:ids k=none)(hc1:c'.ok ρ)(hc2:c'.den ρ=.agg cs')(hsz:0<a.sz)(hl:cs'.length=cs'.length/a.sz*a.sz)(hn:isNil ρ a.born cs'=some x.isNone)
  (hd:∀y,a.born=.dyn y->y.ok ρ) {s':St} (hg:s'.g=s.g) (hβ:s'.m.β=s.m.β) (hnn:s'.m.n=s.m.n) (han:s.m.an<=s'.m.an) (hx:∀id,x=some id->s.m.an<=id/\id<s'.m.an) (h0:s'.a0=s.a0) (he:s'.eff=s.eff) (hrc:s'.m.rc=s.m.rc):
  Rel F (S.setArr k true { a with c:=c' }) ρ (withId ids k x) s'/\AR.rel ((S.setArr k true { a with c:=c' }).env ρ (withId ids k x)) k { a with c:=c' } cs':=by
 have hkl:=arr_lt_len ha;have hnew:AR.rel ((S.setArr k true { a with c:=c' }).env ρ (withId ids k x)) k { a with c:=c' } cs':=⟨hc1,hc2,hsz,hl,by simpa[Sym.env,withId]using hn,hd⟩;have hids:∀j,j≠k->((S.setArr k true { a with c:=c' }).env ρ (withId ids k x)).ids j=ids j:=λj hj=>by simp[Sym.env,withId,hj]
 have hother:∀j b,j≠k->(S.env ρ ids).ar.getD j none=some b->((S.setArr k true { a with c:=c' }).env ρ (withId ids k x)).ar.getD j none=some b:=λj b hj hb=>by
  simp only[Sym.env,Sym.setArr,Sym.mapV];rw[getD_set,if_neg (λe=>hj e.1)];exact hb
 have hrel:∀j b l,j≠k->AR.rel (S.env ρ ids) j b l->AR.rel ((S.setArr k true { a with c:=c' }).env ρ (withId ids k x)) j b l:=λj b l hj hb=>by
  obtain⟨g1,g2,g3,g4,g5,g6⟩:=hb;exact⟨g1,g2,g3,g4,by rw[hids j hj];exact g5,g6⟩
 have tr:Tr F (S.env ρ ids) ((S.setArr k true { a with c:=c' }).env ρ (withId ids k x)) (SV.hitS k true) (λq=>q):=by
  refine⟨hom_id,List.prefix_refl _,λx=>rfl,rfl,rfl,rfl,λ_ _ _=>rfl,λ_=>by simp only[SV.hitS],λg l=>by simp only[SV.hitS,hitSL_eq],λl=>by simp only[SV.hitS,hitSL_eq],λl=>by simp only[SV.hitS,hitSL_eq],λ_ _ l=>by simp only[SV.hitS,hitSL_eq],λl _=>by simp only[SV.hitS,hitSL_eq],λ_ _ _=>.inr ⟨by simp only[SV.hitS],λ_=>by simp only[SV.hitS]⟩,λi o q hq=>?_,λi o z q hq=>?_,λq hq=>rfl,λj q hq=>?_,λj y fo q hq=>?_⟩
  ·have hq':=hq;unfold RV at hq';refine⟨?_,.inr (by rw[hq'.1];rfl)⟩;show RV F _ (SV.ptr i o) _;unfold RV;exact⟨hq'.1,by have:=hq'.2;simpa[Sym.env,Sym.setArr,Sym.mapV]using this⟩
  ·have hq':=hq;unfold RV at hq';refine⟨?_,.inr (by rw[hq'.1];rfl)⟩;show RV F _ (SV.hd i o z) _;unfold RV;exact⟨hq'.1,by have:=hq'.2;simpa[Sym.env,Sym.setArr,Sym.mapV]using this⟩
  ·unfold RV at hq;obtain⟨b,csj,g1,g2,g3⟩:=hq;by_cases hjk:j=k
   ·simp only[SV.hitS,hjk,and_self,if_true];exact⟨by simp only[RV],.inl trivial⟩
   ·simp only[SV.hitS,hjk,false_and,if_false];refine⟨?_,.inr (by rw[g3];exact ownV_one _ _ _ _)⟩;unfold RV;exact⟨b,csj,hother j b hjk g1,hrel j b csj hjk g2,by rw[hids j hjk];exact g3⟩
  ·unfold RV at hq;obtain⟨b,csj,id',nn,kk,g1,g2,g3,g4,g5,g6,g7,g8⟩:=hq;by_cases hjk:j=k
   ·simp only[SV.hitS,hjk,if_true];exact⟨by simp only[RV],.inl trivial⟩
   ·simp only[SV.hitS,hjk,if_false];refine⟨?_,.inr (by rw[g8];rfl)⟩;unfold RV;exact⟨b,csj,id',nn,kk,hother j b hjk g1,hrel j b csj hjk g2,by rw[hids j hjk];exact g3,g4,g5,g6,g7,g8⟩
 refine⟨⟨h.len,h.kn,λt=>?_,by rw[hnn];simpa[Sym.setArr,Sym.mapV]using h.boxn,λi hi=>by rw[hβ];exact h.old i hi,λi b hb=>?_,λj id' hj=>?_,λj j' id' hj hj'=>?_,λj b hb=>?_,by rw[h0];exact h.a0,h.ent,by rw[he];exact h.efc,λhef=>?_,λhef j id' hj hge=>?_,λhef j hj=>?_,h.bbase,by simpa[Sym.setArr,Sym.mapV]using h.ba,by simpa[Sym.setArr,Sym.mapV]using h.bb,Nat.le_trans h.an han,h.obd,by rw[hrc];exact h.rc⟩,hnew⟩
 ·have:(S.setArr k true { a with c:=c' }).get t=SV.hitS k true (S.get t):=by
   simp only[Sym.get,Sym.setArr,Sym.mapV];exact getA_map rfl _ t
  rw[this,hg];exact tr.rv (h.slot t)
 ·simp only[Sym.setArr,Sym.mapV,List.getElem?_map]at hb;obtain⟨b0,hb0,rfl⟩:=Option.map_eq_some_iff.1 hb;have hbox:=h.box i b0 hb0;rw[hβ];cases b0 with
  |cells l=>
   obtain⟨l',e1,e2⟩:=hbox;exact⟨_,e1,by have:=tr.rvl e2;simpa using this⟩
  |dice=>exact hbox
  |gone=>trivial
 ·simp only[withId]at hj;split at hj
  ·rename_i e;subst e;obtain⟨h1,h2⟩:=hx id' hj;exact⟨by have:=h.an;have:=h.ent.1;omega,h2,by simpa[Sym.setArr,Sym.mapV]using hkl⟩
  ·obtain⟨h1,h2,h3⟩:=h.idlt j id' hj;exact⟨h1,by omega,by simpa[Sym.setArr,Sym.mapV]using h3⟩
 ·simp only[withId]at hj hj';split at hj<;>split at hj'
  ·omega
  ·obtain⟨h1,h2⟩:=hx id' hj;have:=(h.idlt j' id' hj').2.1;omega
  ·obtain⟨h1,h2⟩:=hx id' hj';have:=(h.idlt j id' hj).2.1;omega
  ·exact h.idinj j j' id' hj hj'
 ·by_cases hjk:j=k
  ·subst hjk;have:b={ a with c:=c' }:=by
    simp only[Sym.setArr,Sym.mapV]at hb;rw[getD_set,if_pos ⟨rfl,hkl⟩]at hb;injection hb with hb;exact hb.symm
   subst this;exact⟨cs',hnew⟩
  ·have hb':S.ar.getD j none=some b:=by
    simp only[Sym.setArr,Sym.mapV]at hb;rw[getD_set,if_neg (λe=>hjk e.1)]at hb;exact hb
   obtain⟨l,hl'⟩:=h.arr j b hb';exact⟨l,hrel j b l hjk hl'⟩
 ·rw[he];exact h.eff (eff_or hef)
 ·simp only[Sym.setArr,Sym.mapV,Bool.or_eq_false_iff]at hef;simp only[withId]at hj;split at hj
  ·obtain⟨h1,h2⟩:=hx id' hj;have:=h.an;omega
  ·exact h.new hef.1 j id' hj hge
 ·simp only[Sym.setArr,Sym.mapV,Bool.or_eq_false_iff,decide_eq_false_iff_not]at hef;have h2:j<S.base:=hj;obtain⟨g1,g2⟩:=h.keep hef.1 j h2;refine⟨?_,by simp only[withId];rw[if_neg (by omega)];exact g2⟩;simp only[Sym.setArr,Sym.mapV];rw[getD_set,if_neg (λe=>by omega)];exact g1
end
end
end Go.Proofs.Ytjfejoadcdoobaa
