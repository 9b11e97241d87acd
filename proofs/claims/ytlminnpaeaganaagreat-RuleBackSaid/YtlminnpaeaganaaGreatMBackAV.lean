/- Part of the proof of RuleBack. No condition. -/
import Derived.Test.YtlminnpaeaganaaGreatMBackAN
import Derived.Test.YtlminnpaeaganaaGreatMBackAU
namespace Go.Proofs.YtlminnpaeaganaaGreat
set_option maxRecDepth 100000
set_option linter.all false
section
open Go Go.RowKit
variable[cQ]
def flagsOf(eM:TypeId)(fn:Func):List Bool:=fn.params.toList.map (λt=>decide (t=eM))++List.replicate fn.nfree false
def mV:List Bool->Nat->List aL
 |[],_=>[]
 |b::bs,i=>(if b=true then .c8 else .e (.var i))::mV bs (i+1)
def dd:List Bool->List aa->Bool
 |[],[]=>true
 |true::bs,.ptr 0 0::amU=>dd bs amU&&!bs.contains true
 |false::bs,a::amU=>a.plain&&dd bs amU
 |_,_=>false
def wK:List Bool->List aa->Nat
 |true::_,.ptr i _::_=>i
 |_::bs,_::amU=>wK bs amU
 |_,_=>0
theorem VZ(a b:List Bool)(i:Nat):mV (a++b) i=mV a i++mV b (i+a.length):=by
 induction a generalizing i with
 |nil=>rfl
 |cons x a az=>grind [mV]
theorem Wl(k i:Nat):mV (List.replicate k false) i=Bm k i:=by
 induction k generalizing i with
 |zero=>rfl
 |succ k az=>grind [mV,Bm]
theorem V0(eM:TypeId)(l:List TypeId)(i:Nat):mV (l.map λt=>decide (t=eM)) i=AW eM l i:=by
 induction l generalizing i with
 |nil=>rfl
 |cons t l az=>simp[mV,AW,az]
theorem Mr(bs:List Bool)(i:Nat):(mV bs i).length=bs.length:=by
 induction bs generalizing i with
 |nil=>rfl
 |cons b bs az=>simp[mV,az]
theorem XU(bs:List Bool)(i t:Nat):(mV bs i)[t]?=bs[t]?.map λb=>if b=true then .c8 else .e (.var (i+t)):=by
 induction bs generalizing i t with
 |nil=>rfl
 |cons b bs az=>grind [mV]
theorem Ho{DI:List aa->Prop}{m:Mem}:∀{bs:List Bool}{amU pM:List aa},dd bs amU=true->im DI m amU pM->amU.length=bs.length/\pM.length=bs.length /\
  ∀(t:Nat),(bs[t]?=some true->pM[t]?=some (.ptr (wK bs pM) 0)/\wK bs pM<m.n/\m.β (wK bs pM)=.inv DI)/\(bs[t]?=some false->∃a,amU[t]?=some a/\pM[t]?=some a/\a.plain=true)
 |[],[],pM,h,au=>by grind [im]
 |[],_::_,pM,h,au=>by trivial
 |b::bs,[],pM,h,au=>by grind [dd]
 |true::bs,a::amU,pM,h,au=>by
  have:a=.ptr 0 0/\dd bs amU=true/\bs.contains true=false:=by
   unfold dd at h;grind
  obtain⟨rfl,U,ab⟩:=this;obtain⟨q,aG,rfl,g1,a2⟩:=au;obtain⟨k1,bf,bP⟩:=Ho U a2;rcases g1 with⟨rfl,ae⟩|⟨_,i,rfl,hi,hb⟩
  ·trivial
  grind [wK]
 |false::bs,a::amU,pM,h,au=>by
  have bc:a.plain=true/\dd bs amU=true:=by grind [dd]
  obtain⟨q,aG,rfl,g1,a2⟩:=au;obtain⟨k1,bf,bP⟩:=Ho bc.2 a2;have aH:q=a:=by
   rcases g1 with⟨rfl,_⟩|⟨rfl,_⟩;all_goals trivial
  grind [wK]
section
variable{X:Ctx}{W:Hints}{C:b2->FuncId->List aa->Option aa}{n:Nat}
theorem Pz{DI:List aa->Prop}{R:Out->Prop}{f:FuncId}{t:Tree}{args args':List aa}{m:Mem}{fn:Func}{K:Func->Sym->M}{Q:aa->List b9->Mem->Prop}(hm:X.P.follows .mixedOrders=true)(hC:jq X.P DI C)(gq:mu X.P DI X.hI)(fe:p7 X DI C)(dX:X.P.funcs[f]?=some fn)
  (h:D7 X W f K=.ok t) (gN:dd (flagsOf X.eM fn) args=true) (au:im DI m args args') (aB:bN X.P C n t args R)
  (fin:∀(F:cP)(S:Sym)(ρ:List aa)(ids:Nat->Option Nat)(s:aA)(t:Tree),F.P=X.P->F.n0=m.n->F.hG=m.an->F.lH=m.β->F.cV=⟨m.an,m.n,[]⟩->F.kv=m.rc->K fn S=.ok t->Rel F S ρ ids s->bN X.P C n t ρ R ->
   ∃s1,dW s s1/\∃pv,pt X.P s1 fn.results.toList=some pv/\∃kS m',leaves s1 pv kS m m'/\Q kS s1.bb m'):gL X.P f args' m Q:=by
 intro φ af w sd ai
 suffices ao:(∀i l,i<m.n->m.β i=.cells l->e5 m.n m.an l)->gL X.P f args' m Q by
  refine ao (λi l hi hb=>?_) φ af w sd ai;obtain⟨b,cs,e,_,_,ad⟩:=sd.cells hi (by grind);rw[hb]at ad;exact ui (λi b vx=>Nat.lt_of_not_le λhle=>by rw[sd.dt i hle]at vx;cases vx) (λi b vx=>(sd.arr i b vx).1) l _ ad
 intro agH;obtain⟨k1,bf,bP⟩:=Ho gN au;unfold D7 at h;split at h
 ·cases h
 ·rename_i cC zn;rw[dX]at zn;injection zn with zn;subst zn;split at h
  ·cases h
  ·rename_i c ah;split at h
   ·cases h
   ·rename_i aV;simp  at aV;have hlen:(flagsOf X.eM fn).length=fn.params.size+fn.nfree:=by simp[flagsOf]
    have aN:AW X.eM fn.params.toList 0++Bm fn.nfree fn.params.size=mV (flagsOf X.eM fn) 0:=by grind [flagsOf,VZ,V0,Wl]
    unfold RM at h;rw[aN]at h;let F:cP:=⟨X.P,m.n,m.an,m.β,wK (flagsOf X.eM fn) args',DI,⟨m.an,m.n,[]⟩,λ_=>none,λ_=>none,m.rc,[]⟩;have lU:Rel F { g:=mV (flagsOf X.eM fn) 0++List.replicate (fn.ntmps-(fn.params.size+fn.nfree)) .undef,bx:=[],bd:=[],ys:=[],cd:=fn.params.size+fn.nfree,cU:=[],ey:=0,site:=0,base:=0,dO:=0,bb:=false } args (λ_=>none) (entry args' m):=by
     refine⟨by rw[k1,hlen],λi hi=>(by simp at hi),λt=>?_,rfl,λi hi=>rfl,λi b hb=>(by simp at hb),λk id aq=>(by cases aq),λk j id aq=>(by cases aq),λk a aq=>(by simp at aq),rfl,⟨Nat.le_refl _,Nat.le_refl _⟩,λe he=>(by cases he),λ_=>rfl,λ_ k id aq=>(by cases aq),λ_ k aq=>(by simp at aq),rfl,Nat.le_refl _,Nat.le_refl _,Nat.le_refl _,agH,⟨List.nil_prefix,rfl,rfl,λi y r aF=>(by simp at aF),λi j r bR hi=>absurd (show([]:List eN)[i]?=some r from hi) (by simp),λr ad=>absurd (show r∈([]:List eN)from ad) (by simp)⟩⟩;simp[Sym.get];show a0 F _ _ ((args'[t]?).getD aa.undef);rcases Nat.lt_or_ge t (flagsOf X.eM fn).length with ak|ak
     ·rw[List.getElem?_append_left (by rw[Mr];exact ak),XU];have e:(flagsOf X.eM fn)[t]?=some (flagsOf X.eM fn)[t]:=by simp[ak]
      cases hb:(flagsOf X.eM fn)[t]with
      |true=>
       rw[hb]at e;obtain⟨g1,a2,bZ⟩:=(bP t).1 e;rw[e,g1];exact⟨rfl,a2,bZ⟩
      |false=>
       rw[hb]at e;obtain⟨a,g1,a2,bZ⟩:=(bP t).2 e;rw[e,a2];have h2:aR.den args (.var (0+t))=a:=by simp[aR.den,g1]
       exact⟨h2.symm,by show(args.getD (0+t) .bad).plain=true;have:args.getD (0+t) .bad=a:=h2;rw[this];exact bZ⟩
     ·rw[List.getElem?_append_right (by rw[Mr];exact ak),List.getElem?_eq_none (by omega:args'.length<=t),List.getElem?_replicate];split
      ·simp[a0]
      ·simp[a0]
    have hw:=QP (X:=X) (W:=W) (C:=C) (n:=n) hm 12;have aq:ri X F.DI C n (vf X W 12) (vg X W 12):=⟨hC,gq,Mp hw.1,hw.2,Mq hw.1,fe⟩;have Kq:=o8 (X:=X) (F:=F) rfl hm aq c h lU aB;refine GQ dX ah (by omega) aV.1.1 aV.1.2 (GZ (oZ Kq λe s' ao=>?_));obtain⟨br,b1,dK,bw,aK,aO,bS,b8⟩:=ao;cases e with
    |normal=>obtain⟨s1,U,ab⟩:=fin F br b1 dK s' bw rfl rfl rfl rfl rfl rfl aK aO bS;exact⟨s1,U,.inl rfl,ab⟩
    |exit i=>cases aK
    |ret=>obtain⟨s1,U,ab⟩:=fin F br b1 dK s' bw rfl rfl rfl rfl rfl rfl aK aO bS;exact⟨s1,U,.inr rfl,ab⟩
theorem Jq{F:cP}{S:Sym}{ρ:List aa}{ids:Nat->Option Nat}{s:aA}{m:Mem}(h:Rel F S ρ ids s)(he:F.cV=⟨m.an,m.n,[]⟩)(ad:F.kv=m.rc):s.m.rc=m.rc:=by rw[h.rc.rc,he,ad];simp
theorem XV{DI:List aa->Prop}{R:Out->Prop}{f:FuncId}{t:Tree}{args args':List aa}{m:Mem}{fn:Func}(hm:X.P.follows .mixedOrders=true)(hC:jq X.P DI C)(gq:mu X.P DI X.hI)(fe:p7 X DI C)(dX:X.P.funcs[f]?=some fn)
  (h:IU X W f=.ok t) (gN:dd (flagsOf X.eM fn) args=true) (au:im DI m args args') (aB:bN X.P C n t args R):FC X.P f args' m λv=>R (.val v):=by
 refine Pz hm hC gq fe dX h gN au aB λF S ρ ids s t f1 f2 f3 f4 f5 f6 U ad aB=>?_;unfold TF at U;split at U
 ·obtain⟨s2,gr,p2,ji,kD,oH,t2,g1,a2,bZ,dR⟩:=o2 (X:=X) U ad aB;simp only[]at g1;split at g1
  ·rename_i xp Kr;split at g1
   ·rename_i v zN;injection g1 with g1;subst g1;obtain⟨q,j7,iD⟩:=Es (X:=X) a2 Kr;obtain⟨L0,Vm⟩:=wJ zN iD;obtain⟨o,tP,cz⟩:=bZ gP;simp[eval]at tP;have rB:s2.bb=[]:=a2.bb (.inr (by rw[f3,f5]));have aI:m.n<=s2.m.n:=by rw[a2.dt,f2];omega
    have ami:q=v.den kD:=L0;refine⟨s2,gr,q,j7,q,m,.inr ⟨rB,Nat.le_refl _,Nat.le_refl _,aI,(Jq a2 f5 f6).symm,(Ag _ _ q Vm).symm,λi hi=>.inl ⟨hi,rfl,by rw[a2.old i (by omega),f4]⟩⟩,?_,Vm,rB,rfl⟩;grind
   ·cases g1
  ·cases g1
 ·cases U
theorem MY{DI:List aa->Prop}{R:Out->Prop}{f:FuncId}{t:Tree}{args args':List aa}{m:Mem}{fn:Func}{r:Option (Nat×Nat)}(hm:X.P.follows .mixedOrders=true)(hC:jq X.P DI C)(gq:mu X.P DI X.hI)(fe:p7 X DI C)(dX:X.P.funcs[f]?=some fn)
  (h:Ir X W r f=.ok t) (gN:dd (flagsOf X.eM fn) args=true) (au:im DI m args args') (aB:bN X.P C n t args R):
  gL X.P f args' m λv E m'=>∃p,R (.val p)/\p.plain=true/\E=[]/\m'={ m with an:=m'.an }/\m.an<=m'.an/\rD r p v m.an m'.an:=by
 refine Pz hm hC gq fe dX h gN au aB λF S ρ ids s t f1 f2 f3 f4 f5 f6 U ad aB=>?_;unfold TG at U;split at U
 ·split at U
  ·obtain⟨s2,gr,p2,ji,kD,oH,t2,g1,a2,bZ,dR⟩:=o2 (X:=X) U ad aB;simp only[]at g1;split at g1
   ·rename_i xp Kr;split at g1
    ·rename_i k aq;split at g1
     ·rename_i a au;split at g1
      ·cases g1
      rename_i akM;have oI:a.born.j2=true:=by grind
      obtain⟨t3,al,rfl⟩:=ig g1;obtain⟨x,aj,afj⟩:=bZ.av;split at al
      ·rename_i v zN;injection al with al;subst al;obtain⟨o,tP,cz⟩:=afj gP;simp only[eval,Option.some.injEq]at tP;subst tP;obtain⟨q,j7,iD⟩:=Es (X:=X) a2 Kr;have rB:s2.bb=[]:=a2.bb (.inr (by rw[f3,f5]));have aI:m.n<=s2.m.n:=by rw[a2.dt,f2];omega
       have fb:=Jq a2 f5 f6;obtain⟨cs,hcs⟩:=a2.arr k a au;obtain⟨cy,dM,gC,jF,kB,kC⟩:=hcs;have RN:=(show a.rel (ji.env kD oH) k cs from⟨cy,dM,gC,jF,kB,kC⟩).plain;have Ls:a.c.den kD=.agg cs:=dM;have aiL:isNil kD a.born cs=some (oH k).isNone:=kB;simp only[Prim.run,iU,Ls,aiL]at aj;have key:∃y eR,a0 F (ji.env kD oH) (.own k) y/\x.plain=true/\x.one=true/\y.one=true/\m.an<=eR/\zq x y m.an eR/\y.anon m.n eR=y:=by
        cases cr:oH k with
        |none=>
         rw[cr]at aj;simp  at aj;subst aj;exact⟨.bC,m.an,(by simp only[a0];exact⟨a,cs,au,⟨cy,dM,gC,jF,kB,kC⟩,by grind [la,Sym.env]⟩),rfl,rfl,rfl,Nat.le_refl _,.inr ⟨rfl,rfl⟩,by rfl⟩
        |some id=>
         rw[cr]at aj;have aj:aa.sl none a.sz 0 (cs.length/a.sz) cs=x:=by
          cases hb:a.born with
          |map=>rw[hb]at oI;cases oI
          |it=>rw[hb]at oI;cases oI
          |_=>rw[hb]at aj;simpa using aj
         subst aj;have h3:=(a2.hO k id cr).1;rw[f3]at h3;exact⟨.sl (some id) a.sz 0 (cs.length/a.sz) cs,id+1,(by simp only[a0];exact⟨a,cs,au,⟨cy,dM,gC,jF,kB,kC⟩,by rw[la oI];simp[Sym.env,cr]⟩),(by simpa only[aa.plain]using RN),rfl,rfl,by omega,
          .inl ⟨a.sz,_,cs,id,rfl,rfl,h3,by omega⟩,by simp only[aa.anon];rw[if_pos (by omega),vZ _ _ cs RN]⟩
       obtain⟨y,eR,w1,w2,Cs,w3,w4,Vn,Vo⟩:=key;have hle:=Env.p0 ji kD oH x true;obtain⟨v1,v2⟩:=fO a2 x w2;have uniq:∀{dj},a0 F (ji.env kD oH) (.own k) dj->dj=y:=λbc=>by
        simp only[a0]at bc w1;obtain⟨eD,dS,fj,gB,k2⟩:=bc;obtain⟨fA,c2,d1,d2,d3⟩:=w1;rw[fj]at d1;injection d1 with d1;subst d1;have:=c6.EK gB d2;subst this;rw[k2,d3]
       have finish:∀p,v.den (kD++[x])=p->p.plain=true->rD r p q m.an eR->q.anon m.n eR=q->∃s1,dW s s1/\∃pv,pt X.P s1 fn.results.toList=some pv/\∃kS m',leaves s1 pv kS m m'/\∃p,R (.val p)/\p.plain=true/\s1.bb=[]/\m'={ m with an:=m'.an }/\m.an<=m'.an/\rD r p kS m.an m'.an:=λp aK aO bS b8=>
        ⟨s2,gr,q,j7,q,{ m with an:=eR },.inr ⟨rB,Nat.le_refl _,w4,aI,fb.symm,b8.symm,λi hi=>.inl ⟨hi,rfl,by rw[a2.old i (by rw[f2];exact hi),f4]⟩⟩,p,by rw[←aK];exact cz,aO,rB,rfl,w4,bS⟩
       cases r with
       |none=>
        have ai:pB xp=.own k:=by
         unfold E1 at aq;split at aq
         ·injection aq with aq;subst aq;assumption
         ·rename_i e _;cases e
         ·cases aq
        simp only[RP,aL.cu,Option.some.injEq]at zN;subst zN;rw[ai]at iD;have:=uniq iD;subst this;exact finish x v2 w2 Vn Vo
       |some z7=>
        obtain⟨dZ,j⟩:=z7;have ai:∃l,pB xp=.agg l/\l[j]?=some (.own k):=by
         unfold E1 at aq;split at aq
         ·rename_i e _;cases e
         ·rename_i eu j5 l aK aO;injection aK with aK;injection aK with _ aK;subst aK;split at aq
          ·split at aq
           ·rename_i ak;injection aq with aq;subst aq;exact⟨l,aO,ak⟩
           ·cases aq
          ·cases aq
         ·cases aq
        obtain⟨l,gk,bQ⟩:=ai;rw[gk]at iD zN;simp only[a0]at iD;obtain⟨aG,rfl,er⟩:=iD;have tl:j<l.length:=(List.getElem?_eq_some_iff.1 bQ).1;have hlen:=mi er;have jB:aG[j]?=some aG[j]:=by simp
        have aF:=uniq ((jL.1 er).2 j _ _ bQ jB).1;have xN:a0 F ((ji.bind true).env (kD++[x]) oH) (.agg (l.set j (.e (.var ji.cd)))) (.agg (aG.set j x)):=by
         simp only[a0];refine⟨_,rfl,QQ (cJ.mono hle er) ?_ Cs j⟩;simp only[a0];exact⟨v2.symm,v1⟩
        obtain⟨d1,d2⟩:=wJ zN xN;refine finish (.agg (aG.set j x)) d1.symm d2 ⟨aG.set j x,x,y,rfl,by simp[List.getElem?_set];omega,?_,Vn⟩ ?_
        ·rw[List.set_set];congr 1;rw[←aF];exact(List.set_getElem_self _).symm
        ·have BP:bG (aG.set j x)=true:=by simpa only[aa.plain]using d2
         simp only[aa.anon];congr 1;rw[DU];refine List.ext_getElem? λi=>?_;rw[List.getElem?_map];cases hi:aG[i]? with
         |none=>rfl
         |some z=>
          simp ;by_cases e:i=j
          ·subst e;rw[jB]at hi;injection hi with hi;rw[←hi,aF];exact Vo
          ·refine Ag _ _ z ((hH _).1 BP z (List.mem_of_getElem? (i:=i) ?_)).1;rw[List.getElem?_set_ne (λh=>e h.symm)];exact hi
      ·cases al
     ·cases g1
    ·cases g1
   ·cases g1
  ·split at U
   ·rename_i UG;injection U with U;subst U;rename_i af e0 _ _ _ heq;obtain⟨q,j7,iD⟩:=Es (X:=X) ad e0;rw[heq]at iD;simp only[a0,aR.den]at iD;obtain⟨rfl,_⟩:=iD;obtain⟨o,tP,cz⟩:=aB gP;simp only[eval,aS.den,aR.den,Option.some.injEq]at tP;subst tP;have rB:s.bb=[]:=ad.bb (.inr (by rw[f3,f5]));have aI:m.n<=s.m.n:=by rw[ad.dt,f2];omega
    exact⟨s,dW.refl s,.bC,j7,.bC,m,.inr ⟨rB,Nat.le_refl _,Nat.le_refl _,aI,(Jq ad f5 f6).symm,by simp only[aa.anon],λi hi=>.inl ⟨hi,rfl,by rw[ad.old i (by rw[f2];exact hi),f4]⟩⟩,.bC,cz,rfl,rB,rfl,Nat.le_refl _,.inr ⟨rfl,rfl⟩⟩
   ·cases U
 ·cases U
theorem Oz{p v:aa}{a a' n:Nat}(h:zq p v a a')(ae:p.plain=true):v.anon n a=p:=by
 rcases h with⟨sz,len,cs,id,rfl,rfl,U,ab⟩|⟨rfl,rfl⟩;all_goals grind [aa.plain,aa.anon,vZ]
theorem Zk{r:Option (Nat×Nat)}{p v:aa}{a a' n:Nat}(h:rD r p v a a')(ae:p.plain=true):v.anon n a=p:=by
 cases r with
 |none=>exact Oz h ae
 |some z7=>
  obtain⟨ps,x,y,rfl,U,rfl,ab⟩:=h;have ah:bG ps=true:=by assumption
  simp only[aa.anon];congr 1;rw[DU];refine List.ext_getElem? λi=>?_;grind [Oz,Ag,hH]
theorem XW{R:aa->Prop}{f:FuncId}{args':List aa}{m:Mem}{r:Option (Nat×Nat)}
  (h:gL X.P f args' m λv E m'=>∃p,R p/\p.plain=true/\E=[]/\m'={ m with an:=m'.an }/\m.an<=m'.an/\rD r p v m.an m'.an):FC X.P f args' m R:=by
 intro φ af w hm ai;refine(h φ af w hm ai).mono ?_;rintro e w' ⟨v,pv,E,m',bn,rfl,eW,eX,eo,p,cn,ae,rfl,he,l7,nj⟩;have ix:∀i b,φ.box i=some b->i<m.n:=λi b hi=>Nat.lt_of_not_le λhle=>(by rw[hm.dt i hle]at hi;cases hi);have Cn:∀i b,φ.arr i=some b->i<m.an:=λi b hi=>(hm.arr i b hi).1;refine⟨v,p,[],m,bn.cut m.n m.an,rfl,?_,?_,?_,cn,ae,rfl,rfl⟩
 ·have:=aY.anon (n:=m.n) (an:=m.an) eX pv v eW;grind [Zk]
 ·refine H4 (m':=m) eX (by rw[he]) (by grind) (λi hi g=>by rw[he]at g;exact g) λi af hi ad=>?_;have ad:m3 bn w' (m.β i) af:=by rw[he]at ad;exact ad
  cases ah:m.β i with
  |cells l=>
   rw[ah]at ad;obtain⟨b,cs,bS,g1,a2,bZ⟩:=hm.cells hi (by grind);rw[ah]at bZ;exact bl.cut l af ad (ui ix Cn l _ bZ)
  |inv I=>
   rw[ah]at ad;obtain⟨l,g1,a2,bZ,dR⟩:=ad;refine⟨l,g1,a2,bZ,?_⟩;have:=bl.anon (n:=m.n) (an:=m.an) eX l af dR;grind [ug]
  |hole=>rw[ah]at ad;trivial
 grind [DT]
end
section
variable(P:Program)(eM:TypeId)(cA:FuncId->Option Tree)(nI:b2->FuncId->List aa->Option aa)(n:Nat)
def g6:Nat->b2->FuncId->List aa->Option aa
 |0,_,_,_=>none
 |k+1,ω,g,args=>match cA g with
  |none=>nI ω g args
  |some t=>match P.funcs[g]? with
   |none=>none
   |some fn=>if dd (flagsOf eM fn) args=true then match eval P (g6 k) n t ω args with
     |some (.val v)=>if v.plain=true then some v else none
     |_=>none
    else none
end
structure RQ(P:Program)(eM:TypeId)(hI:zr)(own:FuncId->Option (Option (Nat×Nat)))(g:FuncId)(t:Tree)(X:Ctx)(W:Hints)(fn:Func):Prop where
 p:X.P=P
 CG:X.eM=eM
 aP:X.hI=hI
 cf:∀g' r,mW X.nb g'=some r->own g'=some r.1
 L1:P.funcs[g]?=some fn
 da:fn.name ≠ "runtime.NumGoroutine"
 cT:fn.body.isSome
 tr:match own g with
  |none=>IU X W g=.ok t
  |some r=>Ir X W r g=.ok t
structure E2(P:Program)(eM:TypeId)(hI:zr)(own:FuncId->Option (Option (Nat×Nat)))(cA:FuncId->Option Tree):Prop where
 tr:∀g t,cA g=some t->∃X W fn,RQ P eM hI own g t X W fn
 cf:∀g r,own g=some r->(cA g).isSome
theorem C9{P:Program}{eM:TypeId}{hI:zr}{own:FuncId->Option (Option (Nat×Nat))}{cA:FuncId->Option Tree}{nI:b2->FuncId->List aa->Option aa}{n:Nat}{DI:List aa->Prop}(hm:P.follows .mixedOrders=true)(ek:E2 P eM hI own cA)(aT:jq P DI nI)(gq:mu P DI hI):
  ∀k,jq P DI (g6 P eM cA nI n k)/\∀g r,own g=some r->wi P DI (g6 P eM cA nI n k) g r
 |0=>⟨⟨λg args h=>(by simp_all[g6]),λω g args v h=>(by trivial),λω g args v h=>(by trivial)⟩,λg r _ args h=>(by simp_all[g6])⟩
 |k+1=>by
  obtain⟨aq,aiM⟩:=C9 (n:=n) hm ek aT gq k;have run:∀g args t fn,cA g=some t->P.funcs[g]?=some fn->(∀ω,(g6 P eM cA nI n (k+1) ω g args).isSome)->dd (flagsOf eM fn) args=true/\bN P (g6 P eM cA nI n k) n t args λo=>∃v,o=.val v/\∃ω,g6 P eM cA nI n (k+1) ω g args=some v:=by
   intro g args t fn a1 dX h;have e:∀ω,g6 P eM cA nI n (k+1) ω g args=if dd (flagsOf eM fn) args=true then match eval P (g6 P eM cA nI n k) n t ω args with
     |some (.val v)=>if v.plain=true then some v else none
     |_=>none
    else none:=λω=>by grind [g6]
   have gN:dd (flagsOf eM fn) args=true:=by
    have:=h gP;grind
   refine⟨gN,λω=>?_⟩;have U:=h ω;grind
  have ju:∀{X:Ctx}{g t W fn},RQ P eM hI own g t X W fn->p7 X DI (g6 P eM cA nI n k):=λfz g' r ad=>by rw[fz.p];exact aiM g' r.1 (fz.cf g' r ad)
  refine⟨⟨λg args h args' m au=>?_,λω g args v h=>?_,λω g args v h=>?_⟩,λg r ad args h args' m au=>?_⟩
  ·cases a1:cA g with
   |none=>
    have e:∀ω,g6 P eM cA nI n (k+1) ω g args=nI ω g args:=λω=>by grind [g6]
    have:=aT.zG g args (λω=>by grind) args' m au;grind
   |some t=>
    obtain⟨X,W,fn,fz⟩:=ek.tr g t a1;obtain⟨gN,aB⟩:=run g args t fn a1 fz.L1 h;have ar:=ju fz;obtain⟨rfl,rfl,rfl,_,dX,hs,hb,vk⟩:=fz;have key:FC X.P g args' m λv=>∃a3,Out.val v=.val a3/\∃ω,g6 X.P X.eM cA nI n (k+1) ω g args=some a3:=by
     cases aN:own g with
     |none=>grind [XV]
     |some r=>rw[aN]at vk;exact XW (R:=λv=>∃a3,Out.val v=.val a3/\∃ω,g6 X.P X.eM cA nI n (k+1) ω g args=some a3) (MY hm aq gq ar dX vk gN au aB)
    grind
  ·simp only[g6]at h;split at h
   ·exact aT.plain _ _ _ _ h
   grind
  ·cases a1:cA g with
   |none=>
    simp only[g6,a1]at h;exact aT.fn _ _ _ _ h
   |some t=>
    obtain⟨X,W,fn,fz⟩:=ek.tr g t a1;exact⟨fn,fz.L1,fz.da,fz.cT⟩
  ·obtain⟨t,a1⟩:=Option.isSome_iff_exists.1 (ek.cf g r ad);obtain⟨X,W,fn,fz⟩:=ek.tr g t a1;obtain⟨gN,aB⟩:=run g args t fn a1 fz.L1 h;have ar:=ju fz;obtain⟨rfl,rfl,rfl,_,dX,hs,hb,vk⟩:=fz;grind [MY]
end
section
open Go Go.RowKit
structure x8 where
 g:FuncId
 s:List Nat:=[]
 k:List (Nat×Nat×mz):=[]
 o:List (Nat×Nat):=[]
 c:List (Nat×Nat):=[]
 r:List (FuncId×Option (Nat×Nat)×Nat×Bool):=[]
 i:List FuncId:=[]
 t:List (Nat×Nat×Nat):=[]
structure iN where
 P:Program
 aP:zr
 c5:List FuncId
 cp:List (Nat×Nat×Nat)
 own:FuncId->Option (Option (Nat×Nat))
 rows:List x8
def iN.X(T:iN)(w:x8):Ctx:={ P:=T.P,inl:=T.c5++w.i,own:=w.o,TK:=w.c,nb:=w.r,eM:=23,hI:=T.aP }
def iN.W(T:iN)(w:x8):Hints:={ sites:=w.s,cp:=T.cp,thaw:=w.t,KA:=w.k }
def Gq:M->Option Tree
 |.ok t=>some t
 |_=>none
def iN.tree(T:iN)(w:x8):Option Tree:=match T.own w.g with
 |none=>Gq (IU (T.X w) (T.W w) w.g)
 |some q=>Gq (Ir (T.X w) (T.W w) q w.g)
def iN.find(T:iN):List x8->FuncId->Option Tree
 |[],_=>none
 |w::l,g=>if w.g=g then T.tree w else T.find l g
def iN.cA(T:iN)(g:FuncId):Option Tree:=T.find T.rows g
def iN.ok(T:iN):Bool:=T.rows.all λw=>w.r.all (λx=>decide (T.own x.1=some x.2.1))&&(match T.P.funcs[w.g]? with
 |some fn=>fn.name != "runtime.NumGoroutine" && fn.body.isSome
 |none=>false)
theorem iN.DW{T:iN}{g:FuncId}{t:Tree}:∀{l:List x8},T.find l g=some t->∃w∈l,w.g=g/\T.tree w=some t
 |[],h=>by cases h
 |w::l,h=>by
  simp only[iN.find]at h;split at h
  ·exact⟨w,by simp,by assumption,h⟩
  ·obtain⟨w',hm,h⟩:=iN.DW h;exact⟨w',by simp[hm],h⟩
theorem NU{g:FuncId}{r:Option (Nat×Nat)×Nat×Bool}:∀{l:List (FuncId×Option (Nat×Nat)×Nat×Bool)},mW l g=some r->(g,r)∈l
 |[],h=>by cases h
 |(f,q)::l,h=>by
  simp only[mW]at h;split at h
  ·rename_i e;injection h with h;subst e h;simp
  ·simp[NU h]
theorem PW{m:M}{t:Tree}(h:Gq m=some t):m=.ok t:=by
 unfold Gq at h;split at h
 ·injection h with h;rw[h]
 ·cases h
section
variable[cQ]
theorem iN.S5(T:iN)(h:T.ok=true)(ar:∀g r,T.own g=some r->(T.cA g).isSome):E2 T.P 23 T.aP T.own T.cA:=by
 refine⟨λg t a1=>?_,ar⟩;obtain⟨w,hm,rfl,hw⟩:=iN.DW a1;have aq:=List.all_eq_true.1 h w hm;simp only[Bool.and_eq_true]at aq;obtain⟨U,ab⟩:=aq;split at ab
 ·rename_i fn dX;simp only[Bool.and_eq_true,bne_iff_ne,ne_eq]at ab;refine⟨T.X w,T.W w,fn,rfl,rfl,rfl,λg' r ad=>?_,dX,ab.1,ab.2,?_⟩
  ·have:=List.all_eq_true.1 U _ (NU ad);simpa using this
  ·unfold iN.tree at hw;split at hw
   ·rename_i e;first|exact PW hw|(rw[e];exact PW hw)
   ·rename_i q e;first|exact PW hw|(rw[e];exact PW hw)
 ·cases ab
end
def ag(i:Nat):aS:=.e (.var i)
def aD(i j:Nat):aS:=.e (.proj (.var i) j)
def aM(k:Int):aS:=.e (.bu (.int .i64 k))
def ae(i:Nat):Pos:=⟨false,i,0,none,false⟩
def ao(a b:Nat)(p:List Pos)(l:List Nat)(bd Vi:List Nat:=[]):Nat×Nat×mz:=(a,b,⟨p,bd,l,Vi,false⟩)
end
section
open Go Go.RowKit
@[simp]def iy(i:Nat):aS:=.agg [.e (.proj (.var i) 0),.e (.proj (.var i) 1)]
@[simp]def jC(i:Nat):aS:=.agg [.e (.proj (.var i) 0),.e (.proj (.var i) 1),.e (.proj (.var i) 2)]
@[simp]def k0(i:Nat):aS:=.agg [.e (.proj (.var i) 0),.e (.proj (.var i) 1),.e (.proj (.var i) 2),.e (.proj (.var i) 3),.e (.proj (.var i) 4)]
def t3:Tree:=.av (.ints (ag 0)) (.call 12 [.e (.bu (.ptr 0 0)),aM 3] (.av (.agg 2 (ag 2)) (.call 13 [.e (.bu (.ptr 0 0)),iy 3] (.call 13 [.e (.bu (.ptr 0 0)),iy 3] (.av (.agg 5 (ag 4)) (.av (.agg 5 (ag 5)) (.call 14 [iy 3,k0 6,k0 6] (.av (.ext (ag 8) 0) (.av (.ext (ag 8) 1) (.call 15 [iy 3,k0 6] (.av (.ext (ag 11) 0) (.av (.ext (ag 11) 1) (.call 14 [iy 3,k0 6,k0 7] (.av (.ext (ag 14) 0) (.av (.ext (ag 14) 1) (.call 14 [iy 3,k0 7,k0 6] (.av (.ext (ag 17) 0) (.av (.ext (ag 17) 1) (.call 15 [iy 3,k0 7] (.av (.ext (ag 20) 0) (.av (.ext (ag 20) 1) (.join 0 (.av (.bin .neq 32 (ag 10) (aM 0)) (.ite (.var 23) (.jump 0 [.e (.bu (.bool true))]) (.av (.bin .neq 32 (ag 13) (aM 0)) (.ite (.var 24) (.jump 0 [.e (.bu (.bool true))]) (.av (.bin .neq 32 (ag 16) (aM 0)) (.ite (.var 25) (.jump 0 [.e (.bu (.bool true))]) (.av (.bin .neq 32 (ag 19) (aM 0)) (.ite (.var 26) (.jump 0 [.e (.bu (.bool true))]) (.av (.bin .neq 32 (ag 22) (aM 0)) (.ite (.var 27) (.jump 0 [.e (.bu (.bool true))]) (.call 16 [ag 9,ag 12] (.av (.un .not (ag 28)) (.ite (.var 29) (.jump 0 [.e (.bu (.bool true))]) (.call 16 [ag 15,ag 18] (.av (.un .not (ag 30)) (.jump 0 [ag 31])))))))))))))))) (.ite (.var 23) (.ret (.e (.bu (.bool false)))) (.join 1 (.loop 2 [aM 0] (.av (.len 22 (ag 15)) (.av (.bin .lss 3 (ag 24) (ag 25)) (.ite (.var 26) (.join 3 (.av (.row 1 (ag 15) (ag 24)) (.call 17 [ag 12,aD 27 0] (.av (.bin .lss 3 (ag 28) (aM 0)) (.ite (.var 29) (.jump 3 [.e (.bu (.bool true))]) (.av (.row 1 (ag 15) (ag 24)) (.call 17 [ag 21,aD 30 0] (.av (.bin .lss 3 (ag 31) (aM 0)) (.jump 3 [ag 32])))))))) (.ite (.var 27) (.ret (.e (.bu (.bool false)))) (.av (.row 1 (ag 15) (ag 24)) (.call 18 [iy 3,aD 28 0,k0 6] (.av (.ext (ag 29) 0) (.av (.ext (ag 29) 1) (.av (.row 1 (ag 15) (ag 24)) (.call 18 [iy 3,aD 32 0,k0 7] (.av (.ext (ag 33) 0) (.av (.ext (ag 33) 1) (.join 4 (.loop 5 [.e (.bu (.bool false)),aM 0] (.av (.len 38 (ag 30)) (.av (.bin .lss 3 (ag 37) (ag 38)) (.ite (.var 39) (.join 6 (.ite (.var 36) (.jump 6 [.e (.bu (.bool true))]) (.av (.row 2 (ag 30) (ag 37)) (.call 19 [ag 34,iy 40] (.jump 6 [ag 41])))) (.av (.bin .add 3 (ag 37) (aM 1)) (.jump 5 [ag 40,ag 41]))) (.jump 4 [ag 36]))))) (.join 5 (.av (.bin .neq 32 (ag 31) (aM 0)) (.ite (.var 37) (.jump 5 [.e (.bu (.bool true))]) (.av (.bin .neq 32 (ag 35) (aM 0)) (.ite (.var 38) (.jump 5 [.e (.bu (.bool true))]) (.av (.un .not (ag 36)) (.jump 5 [ag 39])))))) (.ite (.var 37) (.ret (.e (.bu (.bool false)))) (.av (.bin .add 3 (ag 24) (aM 1)) (.jump 2 [ag 38]))))))))))))))) (.jump 1 []))))) (.call 20 [] (.ret (ag 24)))))))))))))))))))))))))))
def t12:Tree:=.call 23 [.e (.bu (.ptr 0 0)),aM 3] (.av (.one (ag 2)) (.call 51 [.e (.bu (.ptr 0 0)),.lit 1 4 [aM 0,aM 1,aM 1,ag 3]] (.av (.one (ag 4)) (.call 52 [.e (.bu (.ptr 0 0)),aM 1,ag 1] (.join 0 (.loop 1 [ag 6,.e (.bu (.agg []))] (.av (.bin .gtr 3 (ag 7) (aM 0)) (.ite (.var 9) (.call 30 [.e (.bu (.ptr 0 0))] (.av (.agg 3 (ag 10)) (.av (.push 3 40 (.var 8) (.lit 3 1 [aD 11 0,aD 11 1,aD 11 2])) (.av (.bin .sub 3 (ag 7) (aM 1)) (.jump 1 [ag 13,ag 12]))))) (.jump 0 [ag 8])))) (.av (.bK 3 .cZ (.var 7)) (.ret (.agg [ag 5,ag 8]))))))))
def t13:Tree:=.av (.agg 2 (ag 1)) (.av (.len 25 (aD 2 1)) (.av (.bin .sub 3 (ag 3) (aM 1)) (.call 23 [.e (.bu (.ptr 0 0)),ag 4] (.av (.row 3 (aD 2 1) (ag 5)) (.av (.bin .sub 3 (aD 6 1) (aM 1)) (.call 23 [.e (.bu (.ptr 0 0)),ag 7] (.av (.bin .sub 3 (aD 6 1) (aM 1)) (.call 51 [.e (.bu (.ptr 0 0)),.lit 1 3 [aM 1,aM 2,aM 5]] (.call 23 [.e (.bu (.ptr 0 0)),ag 10] (.av (.bin .add 3 (ag 8) (ag 11)) (.av (.iz false [ag 9,ag 12]) (.call 54 [.e (.bu (.ptr 0 0)),jC 6,ag 8,ag 13] (.call 53 [.e (.bu (.ptr 0 0)),ag 14,aD 2 0] (.av (.agg 5 (ag 15)) (.av (.cont true 1 (aD 16 0)) (.call 55 [.e (.bu (.ptr 0 0)),aM 3] (.join 0 (.ite (.var 18) (.jump 0 [aM 0,aM 0]) (.jump 0 [aD 16 1,aD 16 2])) (.join 1 (.av (.oG 1 (.var 17)) (.av (.bin .gtr 3 (ag 21) (aM 0)) (.ite (.var 22) (.call 55 [.e (.bu (.ptr 0 0)),aM 4] (.jump 1 [ag 23])) (.jump 1 [.e (.bu (.bool false))])))) (.join 2 (.ite (.var 21) (.av (.oG 1 (.var 17)) (.av (.bin .sub 3 (ag 22) (aM 1)) (.call 23 [.e (.bu (.ptr 0 0)),ag 23] (.call 52 [.e (.bu (.ptr 0 0)),aM 1,aM 12] (.av (.kX 1 (.var 17) (ag 24)) (.av (.one (ag 25)) (.av (.put 1 0 (.var 17) (.var 26) [ag 27]) (.jump 2 [ag 28])))))))) (.jump 2 [ag 17])) (.call 55 [.e (.bu (.ptr 0 0)),aM 3] (.av (.one (ag 23)) (.av (.bK 1 .real (.var 22)) (.ret (.agg [ag 25,ag 19,ag 20,aD 16 3,ag 24]))))))))))))))))))))))))
def t14:Tree:=.av (.agg 2 (ag 0)) (.av (.agg 5 (ag 1)) (.av (.agg 5 (ag 2)) (.call 56 [iy 3,.e (.bu .bC),.lit 5 2 [aD 4 0,aD 4 1,aD 4 2,aD 4 3,aD 4 4,aD 5 0,aD 5 1,aD 5 2,aD 5 3,aD 5 4]] (.av (.ext (ag 6) 0) (.av (.ext (ag 6) 1) (.av (.agg 2 (ag 7)) (.av (.bin .neq 32 (ag 8) (aM 0)) (.ite (.var 10) (.ret (.bD [.e (.bu .bC),ag 8])) (.av (.len 25 (aD 9 1)) (.join 0 (.loop 1 [.e (.bu (.agg [])),aM 0] (.av (.bin .lss 3 (ag 13) (ag 11)) (.ite (.var 14) (.av (.j2 []) (.call 57 [iy 9,ag 13,k0 4] (.av (.len 38 (ag 16)) (.join 2 (.loop 3 [aM 0,ag 12,ag 15] (.av (.bin .lss 3 (ag 18) (ag 17)) (.ite (.var 21) (.av (.row 2 (ag 16) (ag 18)) (.av (.ins 43 2 (.var 20) [aD 22 0,aD 22 1]) (.av (.bin .add 3 (ag 18) (aM 1)) (.jump 3 [ag 24,ag 19,ag 23])))) (.jump 2 [ag 19,ag 20])))) (.call 57 [iy 9,ag 13,k0 5] (.av (.len 38 (ag 20)) (.join 3 (.av (.bK 2 .map (.var 19)) (.loop 4 [ag 22,.e (.bu (.bool false)),aM 0] (.av (.bin .lss 3 (ag 25) (ag 21)) (.ite (.var 26) (.av (.row 2 (ag 20) (ag 25)) (.av (.keys 2 (ag 23)) (.join 5 (.loop 6 [ag 24,ag 28] (.pick 2 (.var 30) (.ite (.proj (.var 31) 0) (.av (.lI (.var 31)) (.av (.mI 2 (.var 32)) (.join 7 (.ite (.var 29) (.jump 7 [.e (.bu (.bool true))]) (.av (.bin .eql 43 (iy 33) (iy 27)) (.jump 7 [ag 34]))) (.jump 6 [ag 34,ag 32])))) (.jump 5 [ag 29])))) (.av (.bin .add 3 (ag 25) (aM 1)) (.jump 4 [ag 23,ag 29,ag 30]))))) (.jump 3 [ag 24]))))) (.join 4 (.ite (.var 22) (.av (.one (ag 13)) (.av (.push 1 8 (.var 18) (.lit 1 1 [ag 23])) (.jump 4 [ag 24]))) (.jump 4 [ag 18])) (.av (.bin .add 3 (ag 13) (aM 1)) (.jump 1 [ag 23,ag 24])))))))))) (.jump 0 [ag 12])))) (.av (.bK 1 .cZ (.var 12)) (.ret (.bD [ag 13,aM 0])))))))))))))
def t15:Tree:=.av (.agg 2 (ag 0)) (.av (.agg 5 (ag 1)) (.call 56 [iy 2,.e (.bu .bC),.lit 5 1 [aD 3 0,aD 3 1,aD 3 2,aD 3 3,aD 3 4]] (.av (.ext (ag 4) 0) (.av (.ext (ag 4) 1) (.av (.agg 2 (ag 5)) (.av (.bin .neq 32 (ag 6) (aM 0)) (.ite (.var 8) (.ret (.bD [.e (.bu .bC),ag 6])) (.call 58 [iy 7,k0 3] (.ret (.bD [ag 9,aM 0]))))))))))
def t16:Tree:=.av (.len 22 (ag 0)) (.av (.len 22 (ag 1)) (.av (.bin .eql 3 (ag 2) (ag 3)) (.join 0 (.loop 1 [ag 4,aM 0] (.join 2 (.ite (.var 5) (.av (.len 22 (ag 0)) (.av (.bin .lss 3 (ag 6) (ag 7)) (.jump 2 [ag 8]))) (.jump 2 [.e (.bu (.bool false))])) (.ite (.var 7) (.av (.row 1 (ag 0) (ag 6)) (.av (.row 1 (ag 1) (ag 6)) (.av (.bin .eql 3 (aD 8 0) (aD 9 0)) (.av (.bin .add 3 (ag 6) (aM 1)) (.jump 1 [ag 10,ag 11]))))) (.jump 0 [ag 5])))) (.ret (ag 5)))))
def t17:Tree:=.join 0 (.loop 1 [aM 0] (.join 2 (.av (.len 22 (ag 0)) (.av (.bin .lss 3 (ag 2) (ag 3)) (.ite (.var 4) (.av (.row 1 (ag 0) (ag 2)) (.av (.bin .neq 3 (aD 5 0) (ag 1)) (.jump 2 [ag 6]))) (.jump 2 [.e (.bu (.bool false))])))) (.ite (.var 3) (.av (.bin .add 3 (ag 2) (aM 1)) (.jump 1 [ag 4])) (.jump 0 [ag 2])))) (.av (.len 22 (ag 0)) (.av (.bin .eql 3 (ag 2) (ag 3)) (.ite (.var 4) (.ret (aM (-1))) (.ret (ag 2)))))
def t18:Tree:=.av (.agg 2 (ag 0)) (.av (.agg 5 (ag 2)) (.av (.one (ag 1)) (.call 56 [iy 3,.lit 1 1 [ag 5],.lit 5 1 [aD 4 0,aD 4 1,aD 4 2,aD 4 3,aD 4 4]] (.av (.ext (ag 6) 0) (.av (.ext (ag 6) 1) (.av (.agg 2 (ag 7)) (.av (.bin .neq 32 (ag 8) (aM 0)) (.ite (.var 10) (.ret (.bD [.e (.bu .bC),ag 8])) (.call 57 [iy 9,ag 1,k0 4] (.ret (.bD [ag 11,aM 0])))))))))))
def t19:Tree:=.av (.agg 2 (ag 1)) (.join 0 (.loop 1 [aM 0] (.av (.len 38 (ag 0)) (.av (.bin .lss 3 (ag 3) (ag 4)) (.ite (.var 5) (.av (.row 2 (ag 0) (ag 3)) (.av (.bin .eql 43 (iy 6) (iy 2)) (.ite (.var 7) (.ret (.e (.bu (.bool true)))) (.av (.bin .add 3 (ag 3) (aM 1)) (.jump 1 [ag 8]))))) (.jump 0 []))))) (.ret (.e (.bu (.bool false)))))
def t21:Tree:=.av (.agg 2 (ag 0)) (.join 0 (.av (.len 25 (aD 2 1)) (.av (.bin .gtr 3 (ag 3) (aM 20)) (.ite (.var 4) (.jump 0 [.e (.bu (.bool true))]) (.av (.len 47 (ag 1)) (.av (.bin .gtr 3 (ag 5) (aM 20)) (.jump 0 [ag 6])))))) (.ite (.var 3) (.ret (.e (.bu (.bool true)))) (.join 1 (.loop 2 [aM 0] (.av (.len 25 (aD 2 1)) (.av (.bin .lss 3 (ag 4) (ag 5)) (.ite (.var 6) (.av (.row 3 (aD 2 1) (ag 4)) (.av (.len 22 (aD 7 0)) (.av (.bin .gtr 3 (ag 8) (aM 20)) (.ite (.var 9) (.ret (.e (.bu (.bool true)))) (.av (.bin .add 3 (ag 4) (aM 1)) (.jump 2 [ag 10])))))) (.jump 1 []))))) (.join 2 (.loop 3 [aM 0] (.av (.len 47 (ag 1)) (.av (.bin .lss 3 (ag 4) (ag 5)) (.ite (.var 6) (.av (.row 5 (ag 1) (ag 4)) (.av (.len 22 (aD 7 0)) (.av (.bin .gtr 3 (ag 8) (aM 20)) (.ite (.var 9) (.ret (.e (.bu (.bool true)))) (.av (.bin .add 3 (ag 4) (aM 1)) (.jump 3 [ag 10])))))) (.jump 2 []))))) (.ret (.e (.bu (.bool false))))))))
def t22:Tree:=.av (.agg 2 (ag 0)) (.call 12 [.e (.bu (.ptr 0 0)),aM 3] (.av (.agg 2 (ag 3)) (.av (.len 25 (aD 4 1)) (.av (.mk [.bC,.int .i64 0,.int .i64 0] 40 (ag 5)) (.join 0 (.loop 1 [aM 0,ag 6] (.av (.oG 3 (.var 8)) (.av (.bin .lss 3 (ag 7) (ag 9)) (.ite (.var 10) (.av (.row 3 (aD 4 1) (ag 7)) (.call 61 [jC 11] (.av (.kX 3 (.var 8) (ag 7)) (.av (.agg 3 (ag 12)) (.av (.put 3 0 (.var 8) (.var 13) [aD 14 0,aD 14 1,aD 14 2]) (.av (.bin .add 3 (ag 7) (aM 1)) (.jump 1 [ag 16,ag 15]))))))) (.jump 0 [ag 8]))))) (.av (.len 25 (aD 2 1)) (.av (.bin .gtr 3 (ag 8) (aM 0)) (.join 1 (.ite (.var 9) (.av (.oG 3 (.var 7)) (.av (.bin .sub 3 (ag 10) (aM 1)) (.call 23 [.e (.bu (.ptr 0 0)),ag 11] (.av (.row 3 (aD 2 1) (aM 0)) (.call 61 [jC 13] (.av (.kX 3 (.var 7) (ag 12)) (.av (.agg 3 (ag 14)) (.av (.put 3 0 (.var 7) (.var 15) [aD 16 0,aD 16 1,aD 16 2]) (.jump 1 [ag 17]))))))))) (.jump 1 [ag 7])) (.av (.bK 3 .real (.var 10)) (.ret (.lit 2 4 [aD 2 0,aD 2 1,aD 4 0,aD 4 1,aD 4 0,ag 11,aD 4 0,aD 4 1])))))))))))
def t23:Tree:=.av (.bin .leq 3 (ag 1) (aM 0)) (.ite (.var 2) (.ret (aM 0)) (.call 62 [.e (.bu (.ptr 0 0))] (.av (.bin .add 3 (ag 1) (aM 1)) (.av (.conv 3 83 (ag 4)) (.av (.bin .mul 83 (ag 3) (ag 5)) (.av (.bin .shr 83 (ag 6) (.e (.bu (.int .u64 32)))) (.av (.conv 83 3 (ag 7)) (.ret (ag 8)))))))))
def t24:Tree:=.av (.agg 2 (ag 0)) (.av (.len 25 (aD 1 1)) (.av (.mk [.bC,.int .i64 0,.int .i64 0] 40 (ag 2)) (.join 0 (.loop 1 [aM 0,ag 3] (.av (.oG 3 (.var 5)) (.av (.bin .lss 3 (ag 4) (ag 6)) (.ite (.var 7) (.av (.row 3 (aD 1 1) (ag 4)) (.call 61 [jC 8] (.av (.kX 3 (.var 5) (ag 4)) (.av (.agg 3 (ag 9)) (.av (.put 3 0 (.var 5) (.var 10) [aD 11 0,aD 11 1,aD 11 2]) (.av (.bin .add 3 (ag 4) (aM 1)) (.jump 1 [ag 13,ag 12]))))))) (.jump 0 [ag 5]))))) (.av (.bK 3 .real (.var 4)) (.ret (.agg [aD 1 0,ag 5]))))))
def t25:Tree:=.av (.agg 5 (ag 0)) (.call 63 [aD 1 0] (.av (.one (ag 2)) (.ret (.agg [ag 3,aD 1 1,aD 1 2,aD 1 3,aD 1 4]))))
def t26:Tree:=.av (.agg 2 (ag 0)) (.av (.agg 5 (ag 1)) (.call 64 [iy 2,.e (.bu .bC),.lit 5 1 [aD 3 0,aD 3 1,aD 3 2,aD 3 3,aD 3 4]] (.av (.bin .neq 32 (ag 4) (aM 0)) (.ite (.var 5) (.ret (.bD [.e (.bu .bC),ag 4])) (.call 65 [iy 2,k0 3] (.ret (.bD [ag 6,aM 0])))))))
def t27:Tree:=.av (.agg 2 (ag 0)) (.av (.agg 5 (ag 2)) (.av (.one (ag 1)) (.call 56 [iy 3,.lit 1 1 [ag 5],.lit 5 1 [aD 4 0,aD 4 1,aD 4 2,aD 4 3,aD 4 4]] (.av (.ext (ag 6) 0) (.av (.ext (ag 6) 1) (.av (.agg 2 (ag 7)) (.av (.bin .neq 32 (ag 8) (aM 0)) (.ite (.var 10) (.ret (.bD [aM 0,ag 8])) (.call 58 [iy 9,k0 4] (.call 66 [ag 11,ag 1] (.av (.un .not (ag 12)) (.ite (.var 13) (.ret (.bD [aM 2,aM 0])) (.av (.len 22 (ag 11)) (.av (.bin .eql 3 (ag 14) (aM 1)) (.ite (.var 15) (.ret (.bD [aM 1,aM 0])) (.ret (.bD [aM 3,aM 0])))))))))))))))))
def t28:Tree:=.av (.agg 2 (ag 0)) (.av (.agg 5 (ag 2)) (.av (.one (ag 1)) (.call 64 [iy 3,.lit 1 1 [ag 5],.lit 5 1 [aD 4 0,aD 4 1,aD 4 2,aD 4 3,aD 4 4]] (.av (.bin .neq 32 (ag 6) (aM 0)) (.ite (.var 7) (.ret (.bD [aM 0,ag 6])) (.call 65 [iy 3,k0 4] (.call 67 [ag 8,ag 1] (.av (.un .not (ag 9)) (.ite (.var 10) (.ret (.bD [aM 2,aM 0])) (.av (.len 22 (ag 8)) (.av (.bin .eql 3 (ag 11) (aM 1)) (.ite (.var 12) (.ret (.bD [aM 1,aM 0])) (.ret (.bD [aM 3,aM 0]))))))))))))))
def t29:Tree:=.av (.agg 2 (ag 0)) (.av (.agg 2 (ag 1)) (.join 0 (.call 68 [iy 4,iy 5] (.ite (.var 6) (.call 69 [ag 2,ag 3] (.jump 0 [ag 7])) (.jump 0 [.e (.bu (.bool false))]))) (.ret (ag 6))))
def t30:Tree:=.call 51 [.e (.bu (.ptr 0 0)),.lit 1 3 [aM 6,aM 9,aM 12]] (.call 52 [.e (.bu (.ptr 0 0)),aM 2,ag 1] (.call 52 [.e (.bu (.ptr 0 0)),aM 1,aM 60] (.av (.one (ag 3)) (.call 51 [.e (.bu (.ptr 0 0)),.lit 1 4 [aM 30,aM 32,aM 40,ag 4]] (.av (.one (ag 2)) (.av (.one (ag 5)) (.call 52 [.e (.bu (.ptr 0 0)),aM 1,aM 3] (.join 0 (.loop 1 [ag 8,.e (.bu (.agg []))] (.av (.bin .gtr 3 (ag 9) (aM 0)) (.ite (.var 11) (.call 52 [.e (.bu (.ptr 0 0)),aM 5,aM 9] (.call 52 [.e (.bu (.ptr 0 0)),aM 5,aM 9] (.call 52 [.e (.bu (.ptr 0 0)),aM 2,aM 20] (.av (.one (ag 12)) (.av (.one (ag 13)) (.av (.one (ag 14)) (.call 51 [.e (.bu (.ptr 0 0)),.lit 1 3 [ag 15,ag 16,ag 17]] (.av (.one (ag 18)) (.av (.push 1 8 (.var 10) (.lit 1 1 [ag 19])) (.av (.bin .sub 3 (ag 9) (aM 1)) (.jump 1 [ag 21,ag 20]))))))))))) (.jump 0 [ag 10])))) (.av (.bK 1 .cZ (.var 9)) (.ret (.agg [ag 10,ag 6,ag 7])))))))))))
def t41:Tree:=.av (.agg 2 (ag 0)) (.call 88 [aD 1 0,aM 0,aM 3] (.av (.un .not (ag 2)) (.ite (.var 3) (.ret (aM 1)) (.av (.len 25 (aD 1 1)) (.call 89 [ag 4,aM 4] (.av (.bin .neq 32 (ag 5) (aM 0)) (.ite (.var 6) (.ret (ag 5)) (.av (.len 25 (aD 1 1)) (.join 0 (.loop 1 [aM 0] (.av (.bin .lss 3 (ag 8) (ag 7)) (.ite (.var 9) (.av (.row 3 (aD 1 1) (ag 8)) (.call 90 [jC 10] (.av (.bin .neq 32 (ag 11) (aM 0)) (.ite (.var 12) (.ret (ag 11)) (.av (.bin .add 3 (ag 8) (aM 1)) (.jump 1 [ag 13])))))) (.jump 0 [])))) (.ret (aM 0)))))))))))
def t51:Tree:=.av (.len 22 (ag 1)) (.av (.bin .sub 3 (ag 2) (aM 1)) (.call 23 [.e (.bu (.ptr 0 0)),ag 3] (.av (.row 1 (ag 1) (ag 4)) (.ret (aD 5 0)))))
def t52:Tree:=.av (.bin .sub 3 (ag 2) (ag 1)) (.call 23 [.e (.bu (.ptr 0 0)),ag 3] (.av (.bin .add 3 (ag 1) (ag 4)) (.ret (ag 5))))
def t53:Tree:=.av (.agg 5 (ag 1)) (.av (.len 22 (aD 3 0)) (.av (.mk [.int .i64 0] 8 (ag 4)) (.join 0 (.loop 1 [aM 0,ag 5] (.av (.len 22 (aD 3 0)) (.av (.bin .lss 3 (ag 6) (ag 8)) (.ite (.var 9) (.av (.row 1 (aD 3 0) (ag 6)) (.av (.kX 1 (.var 7) (ag 6)) (.av (.put 1 0 (.var 7) (.var 11) [aD 10 0]) (.av (.bin .add 3 (ag 6) (aM 1)) (.jump 1 [ag 13,ag 12]))))) (.jump 0 [ag 7]))))) (.join 1 (.loop 2 [aM 0,ag 6] (.av (.oG 1 (.var 8)) (.av (.bin .lss 3 (ag 7) (ag 9)) (.ite (.var 10) (.av (.kX 1 (.var 8) (ag 7)) (.av (.get 1 0 1 (.var 8) (.var 11)) (.call 97 [.e (.bu (.ptr 0 0)),aD 12 0,ag 2,aM 1,aM 30] (.av (.kX 1 (.var 8) (ag 7)) (.av (.one (ag 13)) (.av (.put 1 0 (.var 8) (.var 14) [ag 15]) (.av (.bin .add 3 (ag 7) (aM 1)) (.jump 2 [ag 17,ag 16])))))))) (.jump 1 [ag 8]))))) (.call 97 [.e (.bu (.ptr 0 0)),aD 3 1,ag 2,aM 0,aM 30] (.call 97 [.e (.bu (.ptr 0 0)),aD 3 2,ag 2,aM 0,aM 30] (.av (.one (ag 8)) (.av (.one (ag 9)) (.av (.bin .gtr 3 (aD 3 3) (aM 0)) (.join 2 (.ite (.var 12) (.call 97 [.e (.bu (.ptr 0 0)),aD 3 3,ag 2,aM 1,aM 60] (.av (.one (ag 13)) (.jump 2 [ag 14]))) (.jump 2 [aD 3 3])) (.av (.bK 1 .real (.var 7)) (.ret (.agg [ag 14,ag 10,ag 11,ag 13,aD 3 4])))))))))))))
def t54:Tree:=.av (.agg 3 (ag 1)) (.join 0 (.loop 1 [ag 2,.e (.bu (.agg []))] (.av (.bin .lss 3 (ag 5) (ag 3)) (.ite (.var 7) (.call 98 [jC 4,ag 5] (.av (.one (ag 8)) (.av (.push 1 8 (.var 6) (.lit 1 1 [ag 9])) (.av (.bin .add 3 (ag 5) (aM 1)) (.jump 1 [ag 11,ag 10]))))) (.jump 0 [ag 6])))) (.call 23 [.e (.bu (.ptr 0 0)),aM 30] (.call 23 [.e (.bu (.ptr 0 0)),aM 30] (.av (.one (ag 6)) (.av (.one (ag 7)) (.av (.bin .gtr 3 (ag 2) (aM 0)) (.join 1 (.ite (.var 10) (.av (.bin .sub 3 (ag 2) (aM 1)) (.call 98 [jC 4,ag 11] (.av (.bin .sub 3 (ag 12) (aM 1)) (.call 23 [.e (.bu (.ptr 0 0)),ag 13] (.av (.one (ag 14)) (.jump 1 [ag 15])))))) (.jump 1 [ag 8])) (.av (.bin .sub 3 (aD 4 1) (aM 1)) (.av (.bin .lss 3 (ag 3) (ag 12)) (.join 2 (.ite (.var 13) (.call 98 [jC 4,ag 3] (.av (.bin .sub 3 (ag 14) (aM 1)) (.call 23 [.e (.bu (.ptr 0 0)),ag 15] (.av (.one (ag 16)) (.jump 2 [ag 17]))))) (.jump 2 [ag 9])) (.call 51 [.e (.bu (.ptr 0 0)),.lit 1 2 [aM 0,aD 4 2]] (.av (.one (ag 15)) (.av (.bK 1 .cZ (.var 5)) (.ret (.agg [ag 17,ag 11,ag 14,ag 16,.e (.bu (.bool false))])))))))))))))))
def t55:Tree:=.av (.bin .sub 3 (ag 1) (aM 1)) (.call 23 [.e (.bu (.ptr 0 0)),ag 2] (.av (.bin .quo 3 (ag 1) (aM 2)) (.av (.bin .eql 3 (ag 3) (ag 4)) (.ret (ag 5)))))
def t56:Tree:=.av (.agg 2 (ag 0)) (.call 41 [iy 3] (.av (.bin .neq 32 (ag 4) (aM 0)) (.ite (.var 5) (.ret (.bD [.agg [aM 0,.e (.bu .bC)],ag 4])) (.av (.len 22 (ag 1)) (.join 0 (.loop 1 [aM 0] (.av (.bin .lss 3 (ag 7) (ag 6)) (.ite (.var 8) (.av (.row 1 (ag 1) (ag 7)) (.av (.len 25 (aD 3 1)) (.av (.bin .sub 3 (ag 10) (aM 1)) (.call 88 [aD 9 0,aM 0,ag 11] (.av (.un .not (ag 12)) (.ite (.var 13) (.ret (.bD [.agg [aM 0,.e (.bu .bC)],aM 3])) (.av (.bin .add 3 (ag 7) (aM 1)) (.jump 1 [ag 14])))))))) (.jump 0 [])))) (.av (.len 47 (ag 2)) (.join 1 (.loop 2 [aM 0] (.av (.bin .lss 3 (ag 8) (ag 7)) (.ite (.var 9) (.av (.row 5 (ag 2) (ag 8)) (.call 99 [k0 10] (.av (.bin .neq 32 (ag 11) (aM 0)) (.ite (.var 12) (.ret (.bD [.agg [aM 0,.e (.bu .bC)],ag 11])) (.av (.bin .add 3 (ag 8) (aM 1)) (.jump 2 [ag 13])))))) (.jump 1 [])))) (.ret (.bD [iy 3,aM 0])))))))))
def t57:Tree:=.av (.agg 2 (ag 0)) (.av (.agg 5 (ag 2)) (.call 91 [aD 3 0] (.av (.row 3 (aD 3 1) (ag 1)) (.av (.agg 2 (ag 5)) (.join 0 (.join 1 (.join 2 (.loop 3 [aM 0,.e (.bu (.agg []))] (.av (.bin .lss 3 (ag 8) (aD 6 1)) (.ite (.var 10) (.join 4 (.call 130 [iy 7,jC 6,k0 4,ag 8,.e (.bu (.int .u8 0))] (.ite (.var 11) (.av (.one (ag 8)) (.av (.push 2 16 (.var 9) (.lit 2 1 [ag 12,.e (.bu (.bool false))])) (.jump 4 [.e (.bu (.bool false)),ag 13]))) (.jump 4 [.e (.bu (.bool false)),ag 9]))) (.ite (.var 11) (.jump 1 [.e (.bu (.bool true)),ag 12]) (.av (.bin .add 3 (ag 8) (aM 1)) (.jump 3 [ag 13,ag 12])))) (.jump 2 [ag 9])))) (.av (.un .not (aD 4 4)) (.jump 1 [ag 9,ag 8]))) (.ite (.var 8) (.jump 0 [ag 9]) (.av (.len 22 (aD 4 0)) (.join 2 (.loop 3 [.e (.bu (.int .u8 0)),aM 0] (.av (.bin .lss 3 (ag 12) (ag 10)) (.ite (.var 13) (.call 123 [.e (.bu (.int .u8 0)),ag 12] (.join 4 (.ite (.var 14) (.av (.len 22 (aD 4 0)) (.av (.bin .sub 3 (ag 15) (aM 1)) (.av (.bin .sub 3 (ag 16) (ag 12)) (.av (.bin .shl 130 (.e (.bu (.int .u8 1))) (ag 17)) (.av (.bin .or 130 (ag 11) (ag 18)) (.jump 4 [ag 19])))))) (.jump 4 [ag 11])) (.av (.bin .add 3 (ag 12) (aM 1)) (.jump 3 [ag 15,ag 16])))) (.jump 2 [ag 11])))) (.call 131 [k0 4] (.av (.agg 5 (ag 12)) (.join 3 (.loop 4 [aM 0,ag 9] (.av (.bin .lss 3 (ag 14) (aD 6 1)) (.ite (.var 16) (.join 5 (.call 130 [iy 7,jC 6,k0 13,ag 14,ag 11] (.ite (.var 17) (.av (.one (ag 14)) (.av (.push 2 16 (.var 15) (.lit 2 1 [ag 18,.e (.bu (.bool true))])) (.jump 5 [.e (.bu (.bool false)),ag 19]))) (.jump 5 [.e (.bu (.bool false)),ag 15]))) (.ite (.var 17) (.jump 0 [ag 18]) (.av (.bin .add 3 (ag 14) (aM 1)) (.jump 4 [ag 19,ag 18])))) (.jump 3 [ag 15])))) (.jump 0 [ag 14])))))))) (.av (.bK 2 .cZ (.var 8)) (.ret (ag 9))))))))
def t61:Tree:=.av (.agg 3 (ag 0)) (.call 63 [aD 1 0] (.av (.one (ag 2)) (.ret (.agg [ag 3,aD 1 1,aD 1 2]))))
def t63:Tree:=.av (.len 22 (ag 0)) (.av (.mk [.int .i64 0] 8 (ag 1)) (.join 0 (.loop 1 [aM 0,ag 2] (.av (.len 22 (ag 0)) (.av (.bin .lss 3 (ag 3) (ag 5)) (.ite (.var 6) (.av (.row 1 (ag 0) (ag 3)) (.av (.kX 1 (.var 4) (ag 3)) (.av (.put 1 0 (.var 4) (.var 8) [aD 7 0]) (.av (.bin .add 3 (ag 3) (aM 1)) (.jump 1 [ag 10,ag 9]))))) (.jump 0 [ag 4]))))) (.av (.bK 1 .real (.var 3)) (.ret (ag 4)))))
def t64:Tree:=.av (.agg 2 (ag 0)) (.call 73 [iy 3] (.av (.bin .neq 32 (ag 4) (aM 0)) (.ite (.var 5) (.ret (ag 4)) (.join 0 (.loop 1 [aM 0] (.av (.len 22 (ag 1)) (.av (.bin .lss 3 (ag 6) (ag 7)) (.ite (.var 8) (.av (.row 1 (ag 1) (ag 6)) (.av (.len 25 (aD 3 1)) (.av (.bin .sub 3 (ag 10) (aM 1)) (.call 106 [aD 9 0,aM 0,ag 11] (.av (.un .not (ag 12)) (.ite (.var 13) (.ret (aM 3)) (.av (.bin .add 3 (ag 6) (aM 1)) (.jump 1 [ag 14])))))))) (.jump 0 []))))) (.join 1 (.loop 2 [aM 0] (.av (.len 47 (ag 2)) (.av (.bin .lss 3 (ag 6) (ag 7)) (.ite (.var 8) (.av (.row 5 (ag 2) (ag 6)) (.call 107 [k0 9] (.av (.bin .neq 32 (ag 10) (aM 0)) (.ite (.var 11) (.ret (ag 10)) (.av (.bin .add 3 (ag 6) (aM 1)) (.jump 2 [ag 12])))))) (.jump 1 []))))) (.ret (aM 0)))))))
def t65:Tree:=.av (.agg 2 (ag 0)) (.av (.agg 5 (ag 1)) (.join 0 (.loop 1 [.e (.bu (.agg [])),aM 0] (.av (.len 25 (aD 2 1)) (.av (.bin .lss 3 (ag 5) (ag 6)) (.ite (.var 7) (.av (.row 3 (aD 2 1) (ag 5)) (.call 82 [k0 3] (.call 81 [jC 8,aD 2 0,k0 3,ag 9] (.av (.len 38 (ag 10)) (.av (.bin .gtr 3 (ag 11) (aM 0)) (.join 2 (.ite (.var 12) (.av (.one (ag 5)) (.av (.push 1 8 (.var 4) (.lit 1 1 [ag 13])) (.jump 2 [ag 14]))) (.jump 2 [ag 4])) (.av (.bin .add 3 (ag 5) (aM 1)) (.jump 1 [ag 13,ag 14])))))))) (.jump 0 [ag 4]))))) (.av (.bK 1 .cZ (.var 4)) (.ret (ag 5)))))
def t66:Tree:=.call 108 [ag 0,ag 1] (.av (.bin .geq 3 (ag 2) (aM 0)) (.ret (ag 3)))
def t67:Tree:=.join 0 (.loop 1 [aM 0] (.av (.len 22 (ag 0)) (.av (.bin .lss 3 (ag 2) (ag 3)) (.ite (.var 4) (.av (.row 1 (ag 0) (ag 2)) (.av (.bin .eql 3 (aD 5 0) (ag 1)) (.ite (.var 6) (.ret (.e (.bu (.bool true)))) (.av (.bin .add 3 (ag 2) (aM 1)) (.jump 1 [ag 7]))))) (.jump 0 []))))) (.ret (.e (.bu (.bool false))))
def t68:Tree:=.av (.agg 2 (ag 0)) (.av (.agg 2 (ag 1)) (.join 0 (.av (.bin .neq 3 (aD 2 0) (aD 3 0)) (.ite (.var 4) (.jump 0 [.e (.bu (.bool true))]) (.av (.len 25 (aD 2 1)) (.av (.len 25 (aD 3 1)) (.av (.bin .neq 3 (ag 5) (ag 6)) (.jump 0 [ag 7])))))) (.ite (.var 4) (.ret (.e (.bu (.bool false)))) (.join 1 (.loop 2 [aM 0] (.av (.len 25 (aD 2 1)) (.av (.bin .lss 3 (ag 5) (ag 6)) (.ite (.var 7) (.av (.row 3 (aD 2 1) (ag 5)) (.av (.row 3 (aD 3 1) (ag 5)) (.join 3 (.call 16 [aD 8 0,aD 9 0] (.av (.un .not (ag 10)) (.ite (.var 11) (.jump 3 [.e (.bu (.bool true))]) (.av (.bin .neq 3 (aD 8 1) (aD 9 1)) (.ite (.var 12) (.jump 3 [.e (.bu (.bool true))]) (.av (.bin .neq 3 (aD 8 2) (aD 9 2)) (.jump 3 [ag 13]))))))) (.ite (.var 10) (.ret (.e (.bu (.bool false)))) (.av (.bin .add 3 (ag 5) (aM 1)) (.jump 2 [ag 11])))))) (.jump 1 []))))) (.ret (.e (.bu (.bool true))))))))
def t69:Tree:=.av (.len 47 (ag 0)) (.av (.len 47 (ag 1)) (.av (.bin .neq 3 (ag 2) (ag 3)) (.ite (.var 4) (.ret (.e (.bu (.bool false)))) (.join 0 (.loop 1 [aM 0] (.av (.len 47 (ag 0)) (.av (.bin .lss 3 (ag 5) (ag 6)) (.ite (.var 7) (.av (.row 5 (ag 0) (ag 5)) (.av (.row 5 (ag 1) (ag 5)) (.join 2 (.call 16 [aD 8 0,aD 9 0] (.av (.un .not (ag 10)) (.ite (.var 11) (.jump 2 [.e (.bu (.bool true))]) (.av (.bin .neq 3 (aD 8 1) (aD 9 1)) (.ite (.var 12) (.jump 2 [.e (.bu (.bool true))]) (.av (.bin .neq 3 (aD 8 2) (aD 9 2)) (.ite (.var 13) (.jump 2 [.e (.bu (.bool true))]) (.av (.bin .neq 3 (aD 8 3) (aD 9 3)) (.ite (.var 14) (.jump 2 [.e (.bu (.bool true))]) (.av (.bin .neq 4 (aD 8 4) (aD 9 4)) (.jump 2 [ag 15]))))))))))) (.ite (.var 10) (.ret (.e (.bu (.bool false)))) (.av (.bin .add 3 (ag 5) (aM 1)) (.jump 1 [ag 11])))))) (.jump 0 []))))) (.ret (.e (.bu (.bool true))))))))
def t73:Tree:=.av (.agg 2 (ag 0)) (.call 106 [aD 1 0,aM 0,aM 3] (.av (.un .not (ag 2)) (.ite (.var 3) (.ret (aM 1)) (.av (.len 25 (aD 1 1)) (.av (.bin .eql 3 (ag 4) (aM 0)) (.ite (.var 5) (.ret (aM 7)) (.av (.len 25 (aD 1 1)) (.av (.bin .gtr 3 (ag 6) (aM 4)) (.ite (.var 7) (.ret (aM 6)) (.join 0 (.loop 1 [aM 0] (.av (.len 25 (aD 1 1)) (.av (.bin .lss 3 (ag 8) (ag 9)) (.ite (.var 10) (.av (.row 3 (aD 1 1) (ag 8)) (.call 114 [jC 11] (.av (.bin .neq 32 (ag 12) (aM 0)) (.ite (.var 13) (.ret (ag 12)) (.av (.bin .add 3 (ag 8) (aM 1)) (.jump 1 [ag 14])))))) (.jump 0 []))))) (.ret (aM 0))))))))))))
def t81:Tree:=.av (.agg 3 (ag 0)) (.av (.agg 5 (ag 2)) (.join 0 (.loop 1 [.e (.bu (.agg [])),aM 0] (.av (.bin .lss 3 (ag 7) (aD 4 1)) (.ite (.var 8) (.call 115 [jC 4,ag 1,k0 5,ag 7,ag 3] (.join 2 (.ite (.var 9) (.av (.one (ag 7)) (.av (.push 2 16 (.var 6) (.lit 2 1 [ag 10,.e (.bu (.bool false))])) (.jump 2 [ag 11]))) (.jump 2 [ag 6])) (.av (.bin .add 3 (ag 7) (aM 1)) (.jump 1 [ag 10,ag 11])))) (.jump 0 [ag 6])))) (.loop 1 [aM 0,ag 6] (.join 2 (.av (.bin .lss 3 (ag 7) (aD 4 1)) (.ite (.var 9) (.jump 2 [aD 5 4]) (.jump 2 [.e (.bu (.bool false))]))) (.ite (.var 9) (.call 116 [k0 5] (.call 117 [ag 3] (.call 115 [jC 4,ag 1,ag 10,ag 7,ag 11] (.ite (.var 12) (.av (.one (ag 7)) (.av (.push 2 16 (.var 8) (.lit 2 1 [ag 13,.e (.bu (.bool true))])) (.av (.bin .add 3 (ag 7) (aM 1)) (.jump 1 [ag 15,ag 14])))) (.av (.bin .add 3 (ag 7) (aM 1)) (.jump 1 [ag 13,ag 8])))))) (.av (.bK 2 .cZ (.var 8)) (.ret (ag 10))))))))
def t82:Tree:=.av (.agg 5 (ag 0)) (.av (.len 22 (aD 1 0)) (.av (.mk [.bool false] 1 (ag 2)) (.av (.bK 1 .real (.var 3)) (.ret (ag 4)))))
def t88:Tree:=.join 0 (.av (.bin .leq 3 (ag 1) (ag 0)) (.ite (.var 3) (.av (.bin .leq 3 (ag 0) (ag 2)) (.jump 0 [ag 4])) (.jump 0 [.e (.bu (.bool false))]))) (.ret (ag 3))
def t89:Tree:=.av (.bin .lss 3 (ag 0) (aM 1)) (.ite (.var 2) (.ret (aM 7)) (.av (.bin .gtr 3 (ag 0) (ag 1)) (.ite (.var 3) (.ret (aM 6)) (.ret (aM 0)))))
def t90:Tree:=.av (.agg 3 (ag 0)) (.av (.len 22 (aD 1 0)) (.call 89 [ag 2,aM 3] (.av (.bin .neq 32 (ag 3) (aM 0)) (.ite (.var 4) (.ret (ag 3)) (.av (.len 22 (aD 1 0)) (.join 0 (.loop 1 [aM 0] (.av (.bin .lss 3 (ag 6) (ag 5)) (.ite (.var 7) (.av (.row 1 (aD 1 0) (ag 6)) (.call 88 [aD 8 0,aM 2,aM 20] (.av (.un .not (ag 9)) (.ite (.var 10) (.ret (aM 1)) (.av (.bin .add 3 (ag 6) (aM 1)) (.jump 1 [ag 11])))))) (.jump 0 [])))) (.join 1 (.call 88 [aD 1 1,aM 2,aM 12] (.av (.un .not (ag 6)) (.ite (.var 7) (.jump 1 [.e (.bu (.bool true))]) (.call 88 [aD 1 2,aM 1,aM 60] (.av (.un .not (ag 8)) (.jump 1 [ag 9])))))) (.ite (.var 6) (.ret (aM 1)) (.ret (aM 0))))))))))
def t91:Tree:=.av (.one (ag 0)) (.ret (.agg [.fn 121 [.ref [ag 1]],.fn 122 [.ref [ag 1]]]))
def t92:Tree:=.av (.agg 2 (ag 0)) (.av (.agg 3 (ag 1)) (.av (.agg 5 (ag 2)) (.av (.one (ag 3)) (.join 0 (.join 1 (.loop 2 [aM 0] (.av (.bin .lss 3 (ag 8) (aD 5 1)) (.ite (.var 9) (.call 130 [iy 4,jC 5,k0 6,ag 8,ag 7] (.ite (.var 10) (.av (.one (ag 8)) (.ret (.e (.bu (.bool true))))) (.av (.bin .add 3 (ag 8) (aM 1)) (.jump 2 [ag 11])))) (.jump 1 [])))) (.av (.un .not (aD 6 4)) (.ite (.var 8) (.jump 0 []) (.av (.len 22 (aD 6 0)) (.join 2 (.loop 3 [.e (.bu (.int .u8 0)),aM 0] (.av (.bin .lss 3 (ag 11) (ag 9)) (.ite (.var 12) (.call 123 [ag 7,ag 11] (.join 4 (.ite (.var 13) (.av (.len 22 (aD 6 0)) (.av (.bin .sub 3 (ag 14) (aM 1)) (.av (.bin .sub 3 (ag 15) (ag 11)) (.av (.bin .shl 130 (.e (.bu (.int .u8 1))) (ag 16)) (.av (.bin .or 130 (ag 10) (ag 17)) (.jump 4 [ag 18])))))) (.jump 4 [ag 10])) (.av (.bin .add 3 (ag 11) (aM 1)) (.jump 3 [ag 14,ag 15])))) (.jump 2 [ag 10])))) (.call 131 [k0 6] (.av (.agg 5 (ag 11)) (.join 3 (.loop 4 [aM 0] (.av (.bin .lss 3 (ag 13) (aD 5 1)) (.ite (.var 14) (.call 130 [iy 4,jC 5,k0 12,ag 13,ag 10] (.ite (.var 15) (.av (.one (ag 13)) (.ret (.e (.bu (.bool true))))) (.av (.bin .add 3 (ag 13) (aM 1)) (.jump 4 [ag 16])))) (.jump 3 [])))) (.jump 0 []))))))))) (.ret (.e (.bu (.bool false))))))))
def t96:Tree:=.av (.agg 3 (ag 0)) (.av (.len 22 (aD 2 0)) (.av (.bin .rem 3 (ag 1) (ag 3)) (.av (.row 1 (aD 2 0) (ag 4)) (.ret (aD 5 0)))))
def t97:Tree:=.av (.un .neg (ag 2)) (.call 52 [.e (.bu (.ptr 0 0)),ag 5,ag 2] (.av (.bin .add 3 (ag 1) (ag 6)) (.av (.iz true [ag 3,ag 7]) (.av (.iz false [ag 4,ag 8]) (.ret (ag 9))))))
def t98:Tree:=.av (.agg 3 (ag 0)) (.av (.len 22 (aD 2 0)) (.call 126 [ag 1,ag 3] (.av (.row 1 (aD 2 0) (ag 4)) (.ret (aD 5 0)))))
def t99:Tree:=.av (.agg 5 (ag 0)) (.av (.len 22 (aD 1 0)) (.av (.bin .gtr 3 (ag 2) (aM 5)) (.ite (.var 3) (.ret (aM 6)) (.av (.len 22 (aD 1 0)) (.join 0 (.loop 1 [aM 0] (.av (.bin .lss 3 (ag 5) (ag 4)) (.ite (.var 6) (.av (.row 1 (aD 1 0) (ag 5)) (.call 88 [aD 7 0,aM 1,aM 30] (.av (.un .not (ag 8)) (.ite (.var 9) (.ret (aM 1)) (.av (.bin .add 3 (ag 5) (aM 1)) (.jump 1 [ag 10])))))) (.jump 0 [])))) (.join 1 (.call 88 [aD 1 1,aM 0,aM 30] (.av (.un .not (ag 5)) (.ite (.var 6) (.jump 1 [.e (.bu (.bool true))]) (.call 88 [aD 1 2,aM 0,aM 30] (.av (.un .not (ag 7)) (.ite (.var 8) (.jump 1 [.e (.bu (.bool true))]) (.call 88 [aD 1 3,aM 0,aM 60] (.av (.un .not (ag 9)) (.jump 1 [ag 10]))))))))) (.ite (.var 5) (.ret (aM 1)) (.ret (aM 0)))))))))
def t106:Tree:=.join 0 (.av (.bin .geq 3 (ag 0) (ag 1)) (.ite (.var 3) (.av (.bin .leq 3 (ag 0) (ag 2)) (.jump 0 [ag 4])) (.jump 0 [.e (.bu (.bool false))]))) (.ret (ag 3))
def t107:Tree:=.av (.agg 5 (ag 0)) (.av (.len 22 (aD 1 0)) (.av (.bin .gtr 3 (ag 2) (aM 5)) (.ite (.var 3) (.ret (aM 6)) (.join 0 (.loop 1 [aM 0] (.av (.len 22 (aD 1 0)) (.av (.bin .lss 3 (ag 4) (ag 5)) (.ite (.var 6) (.av (.row 1 (aD 1 0) (ag 4)) (.call 106 [aD 7 0,aM 1,aM 30] (.av (.un .not (ag 8)) (.ite (.var 9) (.ret (aM 1)) (.av (.bin .add 3 (ag 4) (aM 1)) (.jump 1 [ag 10])))))) (.jump 0 []))))) (.join 1 (.call 106 [aD 1 1,aM 0,aM 30] (.av (.un .not (ag 4)) (.ite (.var 5) (.jump 1 [.e (.bu (.bool true))]) (.call 106 [aD 1 2,aM 0,aM 30] (.av (.un .not (ag 6)) (.ite (.var 7) (.jump 1 [.e (.bu (.bool true))]) (.call 106 [aD 1 3,aM 0,aM 60] (.av (.un .not (ag 8)) (.jump 1 [ag 9]))))))))) (.ite (.var 4) (.ret (aM 1)) (.ret (aM 0))))))))
def t108:Tree:=.av (.len 22 (ag 0)) (.join 0 (.loop 1 [aM 0] (.av (.bin .lss 3 (ag 3) (ag 2)) (.ite (.var 4) (.av (.row 1 (ag 0) (ag 3)) (.av (.bin .eql 3 (ag 1) (aD 5 0)) (.ite (.var 6) (.ret (ag 3)) (.av (.bin .add 3 (ag 3) (aM 1)) (.jump 1 [ag 7]))))) (.jump 0 [])))) (.ret (aM (-1))))
def t114:Tree:=.av (.agg 3 (ag 0)) (.av (.len 22 (aD 1 0)) (.av (.bin .eql 3 (ag 2) (aM 0)) (.ite (.var 3) (.ret (aM 7)) (.av (.len 22 (aD 1 0)) (.av (.bin .gtr 3 (ag 4) (aM 3)) (.ite (.var 5) (.ret (aM 6)) (.join 0 (.loop 1 [aM 0] (.av (.len 22 (aD 1 0)) (.av (.bin .lss 3 (ag 6) (ag 7)) (.ite (.var 8) (.av (.row 1 (aD 1 0) (ag 6)) (.call 106 [aD 9 0,aM 2,aM 20] (.av (.un .not (ag 10)) (.ite (.var 11) (.ret (aM 1)) (.av (.bin .add 3 (ag 6) (aM 1)) (.jump 1 [ag 12])))))) (.jump 0 []))))) (.join 1 (.call 106 [aD 1 1,aM 2,aM 12] (.av (.un .not (ag 6)) (.ite (.var 7) (.jump 1 [.e (.bu (.bool true))]) (.call 106 [aD 1 2,aM 1,aM 60] (.av (.un .not (ag 8)) (.jump 1 [ag 9])))))) (.ite (.var 6) (.ret (aM 1)) (.ret (aM 0)))))))))))
def t115:Tree:=.av (.agg 3 (ag 0)) (.av (.agg 5 (ag 2)) (.av (.len 22 (aD 6 0)) (.av (.bin .add 3 (ag 3) (ag 7)) (.join 0 (.av (.bin .lss 3 (ag 3) (aM 0)) (.ite (.var 9) (.jump 0 [.e (.bu (.bool true))]) (.av (.bin .sub 3 (aD 5 1) (aM 1)) (.av (.bin .gtr 3 (ag 8) (ag 10)) (.jump 0 [ag 11]))))) (.ite (.var 9) (.ret (.e (.bu (.bool false)))) (.join 1 (.loop 2 [aM 0] (.av (.len 22 (aD 6 0)) (.av (.bin .lss 3 (ag 10) (ag 11)) (.ite (.var 12) (.join 3 (.av (.row 1 (ag 4) (ag 10)) (.av (.un .not (aD 13 0)) (.ite (.var 14) (.av (.row 1 (aD 6 0) (ag 10)) (.av (.bin .add 3 (ag 3) (ag 10)) (.call 118 [jC 5,ag 16] (.call 151 [aD 15 0,ag 17,ag 1] (.av (.un .not (ag 18)) (.jump 3 [ag 19])))))) (.jump 3 [.e (.bu (.bool false))])))) (.ite (.var 13) (.ret (.e (.bu (.bool false)))) (.av (.bin .add 3 (ag 10) (aM 1)) (.jump 2 [ag 14])))) (.jump 1 []))))) (.join 2 (.av (.bin .gtr 3 (ag 3) (aM 0)) (.ite (.var 10) (.av (.bin .sub 3 (ag 3) (aM 1)) (.call 118 [jC 5,ag 11] (.av (.bin .sub 3 (aD 6 1) (ag 1)) (.av (.bin .leq 3 (ag 12) (ag 13)) (.jump 2 [ag 14]))))) (.jump 2 [.e (.bu (.bool false))]))) (.ite (.var 10) (.ret (.e (.bu (.bool false)))) (.join 3 (.av (.bin .sub 3 (aD 5 1) (aM 1)) (.av (.bin .lss 3 (ag 8) (ag 11)) (.ite (.var 12) (.call 118 [jC 5,ag 8] (.av (.bin .sub 3 (aD 6 2) (ag 1)) (.av (.bin .leq 3 (ag 13) (ag 14)) (.jump 3 [ag 15])))) (.jump 3 [.e (.bu (.bool false))])))) (.ite (.var 11) (.ret (.e (.bu (.bool false)))) (.join 4 (.av (.bin .eql 3 (aD 6 3) (aM 0)) (.ite (.var 12) (.jump 4 [.e (.bu (.bool true))]) (.call 151 [aD 6 3,aD 5 2,ag 1] (.jump 4 [ag 13])))) (.ret (ag 12)))))))))))))
def t116:Tree:=.av (.agg 5 (ag 0)) (.av (.len 22 (aD 1 0)) (.av (.bin .sub 3 (ag 2) (aM 1)) (.join 0 (.loop 1 [ag 3,.e (.bu (.agg []))] (.av (.bin .geq 3 (ag 4) (aM 0)) (.ite (.var 6) (.av (.row 1 (aD 1 0) (ag 4)) (.av (.push 1 8 (.var 5) (.lit 1 1 [aD 7 0])) (.av (.bin .sub 3 (ag 4) (aM 1)) (.jump 1 [ag 9,ag 8])))) (.jump 0 [ag 5])))) (.av (.bK 1 .cZ (.var 4)) (.ret (.agg [ag 5,aD 1 2,aD 1 1,aD 1 3,aD 1 4]))))))
def t117:Tree:=.av (.len 119 (ag 0)) (.av (.bin .sub 3 (ag 1) (aM 1)) (.join 0 (.loop 1 [.e (.bu (.agg [])),ag 2] (.av (.bin .geq 3 (ag 4) (aM 0)) (.ite (.var 5) (.av (.row 1 (ag 0) (ag 4)) (.av (.push 1 1 (.var 3) (.lit 1 1 [aD 6 0])) (.av (.bin .sub 3 (ag 4) (aM 1)) (.jump 1 [ag 7,ag 8])))) (.jump 0 [ag 3])))) (.av (.bK 1 .cZ (.var 3)) (.ret (ag 4)))))
def t118:Tree:=.av (.agg 3 (ag 0)) (.av (.len 22 (aD 2 0)) (.av (.bin .rem 3 (ag 1) (ag 3)) (.av (.row 1 (aD 2 0) (ag 4)) (.ret (aD 5 0)))))
def t121:Tree:=.join 0 (.av (.bin .sub 3 (ag 0) (ag 1)) (.av (.deref 1 (ag 2)) (.av (.bin .leq 3 (ag 3) (aD 4 0)) (.ite (.var 5) (.av (.bin .sub 3 (ag 1) (ag 0)) (.av (.deref 1 (ag 2)) (.av (.bin .leq 3 (ag 6) (aD 7 0)) (.jump 0 [ag 8])))) (.jump 0 [.e (.bu (.bool false))]))))) (.ret (ag 3))
def t122:Tree:=.av (.deref 1 (ag 2)) (.av (.bin .sub 3 (ag 0) (aD 3 0)) (.av (.bin .gtr 3 (ag 1) (ag 4)) (.ret (ag 5))))
def t123:Tree:=.av (.bin .shr 130 (ag 0) (ag 1)) (.av (.bin .and 130 (ag 2) (.e (.bu (.int .u8 1)))) (.av (.bin .eql 130 (ag 3) (.e (.bu (.int .u8 1)))) (.ret (ag 4))))
def t126:Tree:=.av (.bin .rem 3 (ag 0) (ag 1)) (.av (.bin .add 3 (ag 2) (ag 1)) (.av (.bin .rem 3 (ag 3) (ag 1)) (.ret (ag 4))))
def t130:Tree:=.av (.agg 2 (ag 0)) (.av (.agg 3 (ag 1)) (.av (.agg 5 (ag 2)) (.av (.len 22 (aD 7 0)) (.av (.bin .add 3 (ag 3) (ag 8)) (.join 0 (.av (.bin .lss 3 (ag 3) (aM 0)) (.ite (.var 10) (.jump 0 [.e (.bu (.bool true))]) (.av (.bin .sub 3 (aD 6 1) (aM 1)) (.av (.bin .gtr 3 (ag 9) (ag 11)) (.jump 0 [ag 12]))))) (.ite (.var 10) (.ret (.e (.bu (.bool false)))) (.av (.len 22 (aD 7 0)) (.join 1 (.loop 2 [aM 0] (.av (.bin .lss 3 (ag 12) (ag 11)) (.ite (.var 13) (.av (.row 1 (aD 7 0) (ag 12)) (.join 3 (.call 123 [ag 4,ag 12] (.av (.un .not (ag 15)) (.ite (.var 16) (.av (.bin .add 3 (ag 3) (ag 12)) (.call 96 [jC 6,ag 17] (.kL (.proj (.var 5) 0) [aD 14 0,ag 18] (.av (.un .not (ag 19)) (.jump 3 [ag 20]))))) (.jump 3 [.e (.bu (.bool false))])))) (.ite (.var 15) (.ret (.e (.bu (.bool false)))) (.av (.bin .add 3 (ag 12) (aM 1)) (.jump 2 [ag 16]))))) (.jump 1 [])))) (.join 2 (.av (.bin .gtr 3 (ag 3) (aM 0)) (.ite (.var 12) (.av (.bin .sub 3 (ag 3) (aM 1)) (.call 96 [jC 6,ag 13] (.kL (.proj (.var 5) 1) [aD 7 1,ag 14] (.av (.un .not (ag 15)) (.ite (.var 16) (.jump 2 [.e (.bu (.bool true))]) (.av (.bin .sub 3 (aD 6 1) (aM 1)) (.av (.bin .lss 3 (ag 9) (ag 17)) (.ite (.var 18) (.call 96 [jC 6,ag 9] (.kL (.proj (.var 5) 1) [aD 7 2,ag 19] (.av (.un .not (ag 20)) (.jump 2 [ag 21])))) (.jump 2 [.e (.bu (.bool false))]))))))))) (.av (.bin .sub 3 (aD 6 1) (aM 1)) (.av (.bin .lss 3 (ag 9) (ag 13)) (.ite (.var 14) (.call 96 [jC 6,ag 9] (.kL (.proj (.var 5) 1) [aD 7 2,ag 15] (.av (.un .not (ag 16)) (.jump 2 [ag 17])))) (.jump 2 [.e (.bu (.bool false))])))))) (.ite (.var 12) (.ret (.e (.bu (.bool false)))) (.join 3 (.av (.bin .eql 3 (aD 7 3) (aM 0)) (.ite (.var 13) (.jump 3 [.e (.bu (.bool true))]) (.kL (.proj (.var 5) 0) [aD 7 3,aD 6 2] (.jump 3 [ag 14])))) (.ret (ag 13)))))))))))))
def t131:Tree:=.av (.agg 5 (ag 0)) (.call 163 [aD 1 0] (.av (.cont false 1 (ag 2)) (.av (.wZ (ag 2)) (.av (.oG 1 (.var 3)) (.av (.bin .sub 3 (ag 5) (aM 1)) (.join 0 (.loop 1 [aM 0,ag 6,ag 3] (.av (.bin .lss 3 (ag 7) (ag 8)) (.ite (.var 10) (.av (.kX 1 (.var 9) (ag 8)) (.av (.get 1 0 1 (.var 9) (.var 11)) (.av (.kX 1 (.var 9) (ag 7)) (.av (.get 1 0 1 (.var 9) (.var 13)) (.av (.kX 1 (.var 9) (ag 7)) (.av (.put 1 0 (.var 9) (.var 15) [aD 12 0]) (.av (.kX 1 (.var 16) (ag 8)) (.av (.put 1 0 (.var 16) (.var 17) [aD 14 0]) (.av (.bin .add 3 (ag 7) (aM 1)) (.av (.bin .sub 3 (ag 8) (aM 1)) (.jump 1 [ag 19,ag 20,ag 18]))))))))))) (.jump 0 [ag 9])))) (.av (.bK 1 (.dyn (.var 4)) (.var 7)) (.ret (.agg [ag 8,aD 1 2,aD 1 1,aD 1 3,aD 1 4])))))))))
def t151:Tree:=.join 0 (.av (.bin .sub 3 (ag 0) (ag 1)) (.av (.bin .leq 3 (ag 3) (ag 2)) (.ite (.var 4) (.av (.bin .sub 3 (ag 1) (ag 0)) (.av (.bin .leq 3 (ag 5) (ag 2)) (.jump 0 [ag 6]))) (.jump 0 [.e (.bu (.bool false))])))) (.ret (ag 3))
def t163:Tree:=.av (.bin .eql 22 (ag 0) (.e (.bu .bC))) (.ite (.var 1) (.ret (.e (.bu .bC))) (.av (.j2 []) (.av (.push 1 8 (.var 2) (ag 0)) (.av (.bK 1 .real (.var 3)) (.ret (ag 4))))))
namespace PP
def t58:Tree:=.join 0 (.jump 0 []) (.av (.deref 4 (ag 5)) (.join 1 (.loop 2 [.e (.bu (.agg [])),aM 0] (.av (.bin .lss 3 (ag 8) (aM 4)) (.ite (.var 9) (.av (.idx 142 (.agg [aD 6 0,aD 6 1,aD 6 2,aD 6 3]) (ag 8)) (.join 3 (.ite (.var 10) (.av (.one (ag 8)) (.av (.push 1 8 (.var 7) (.lit 1 1 [ag 11])) (.jump 3 [ag 12]))) (.jump 3 [ag 7])) (.av (.bin .add 3 (ag 8) (aM 1)) (.jump 2 [ag 11,ag 12])))) (.jump 1 [ag 7])))) (.av (.bK 1 .cZ (.var 7)) (.ret (ag 8)))))
def t103:Tree:=.join 0 (.jump 0 []) (.av (.deref 1 (ag 2)) (.av (.deref 2 (ag 1)) (.call 91 [aD 6 0] (.av (.deref 2 (ag 1)) (.av (.deref 1 (ag 2)) (.av (.row 3 (aD 8 1) (aD 9 0)) (.av (.deref 5 (ag 3)) (.call 92 [ag 7,jC 10,k0 11,.e (.bu (.int .u8 0))] (.ret (.bD [ag 12,aD 5 0]))))))))))
end PP
end
namespace PP
open Go Go.RowKit
variable[cQ]
def pn(l:List aa):Prop:=False
def nU:b2->FuncId->List aa->Option aa:=λ_ _ _=>none
theorem yi:jq cl pn nU:=⟨λg args h=>(by have:=h gP;cases this),λω g args v h=>(by cases h),λω g args v h=>(by cases h)⟩
theorem adL:(cl.funcs[9999]?).isSome=false:=by kernel_rfl
theorem Rs:mu cl pn ⟨9999,none,none⟩:=⟨λh=>(by rw[adL]at h;cases h),λf h=>(by cases h),λf h=>(by cases h)⟩
end PP
end Go.Proofs.YtlminnpaeaganaaGreat
