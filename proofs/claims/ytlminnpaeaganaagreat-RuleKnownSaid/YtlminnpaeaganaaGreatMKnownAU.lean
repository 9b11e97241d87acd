/- Part of the proof of RuleKnown. No condition. -/
import Derived.Test.YtlminnpaeaganaaGreatMKnownAT
namespace Go.Proofs.YtlminnpaeaganaaGreat
set_option maxRecDepth 100000
set_option linter.all false
section
open Go Go.RowKit
variable[cQ]
section
variable{X:Ctx}{F:cP}{C:b2->FuncId->List aa->Option aa}{n:Nat}{R:Out->Prop}{S:Sym}{ρ:List aa}{ids:Nat->Option Nat}{s:aA}{K:Sym->M}{t:Tree}{o:Oper}{m0:Mem}{inl yl:fh}{lx:Option Nat}{key:Nat}{E:Env}
theorem Ck{b:e9}(h:b.isMap=true):b=.map:=by cases b<;>first|rfl|cases h
theorem rW{b:e9}(h:b.Kx=true):b=.it:=by cases b<;>first|rfl|cases h
theorem sf{k:Nat}{a:c6}{q:aa}{it:Bool}(hb:a.born=if it then .it else .map)(au:S.bd.getD k none=some a)(aH:bZ F (S.env ρ ids) (.own k) q):∃cs id,a.rel (S.env ρ ids) k cs/\ids k=some id/\q=.mp it (some id) a.sz cs:=by
 obtain⟨a',cs,U,ab,al⟩:=aH;have:a'=a:=by have:=U.symm.trans au;grind
 subst this;have aI:=ab.2.2.2.2.1;have cr:((S.env ρ ids).ids k).isNone=false:=by grind [isNil]
 cases aX:(S.env ρ ids).ids k with
 |none=>grind
 |some id=>
  rw[aX,hb]at al;exact⟨cs,id,ab,aX,by rw[al];cases it<;>rfl⟩
theorem pG{a b:List aa}(au:bG a=true)(hb:bG b=true):bG (a++b)=true:=by grind [hH]
theorem rl{a:List aa}(au:bG a=true)(i:Nat):bG (a.take i)=true:=by grind [hH]
theorem rM{a:List aa}(au:bG a=true)(i:Nat):bG (a.drop i)=true:=by grind [hH]
theorem Rh{l:List aa}(h:bG l=true)(id sz:Nat):b9.clean (.wr id sz (.agg l)):=λn an=>by grind [aa.cT,yu]
theorem Pl{ty:TypeId}{r:Option Operand}(aE:o.op=.makeMap ty r)(h:pe X none o ty r S K=.ok t)(ad:Rel F S ρ ids s)(aB:bN X.P C n t ρ R):hM X F C n R K S ρ s o:=by
 unfold pe at h;split at h
 ·cases h
 ·split at h
  ·rename_i cR e hu;split at h
   ·rename_i eb;obtain⟨bw,a1,rfl⟩:=ig h;obtain⟨v,ai,aB⟩:=aB.av;simp[Prim.run,ep]at ai;subst ai;have hb:=ad.bind (.agg []) false (by simp);obtain⟨g1,g2⟩:=fO ad (.agg []) rfl;refine⟨s,dW.refl s,?_⟩;simp only[eQ,aE,hu];refine⟨?_,nL (Ext.bind S ρ _ false) (BA (a:=⟨X.P.cellsOf cR,.map,.var S.cd⟩) (it:=false) hb rfl g1 g2 eb (by simp) a1 aB)⟩;simp_all
   ·cases h
  ·cases h
theorem D2{k id:Nat}{a:c6}{it:Bool}{cs cs':List aa}(bL:a.born=if it then .it else .map)(au:S.bd.getD k none=some a)(ad:Rel F S ρ ids s)(lU:a.rel (S.env ρ ids) k cs)(cr:ids k=some id)(cD:bG cs'=true)(ak:cs'.length=cs'.length/a.sz*a.sz)
  {x:aR} (g1:x.ok ρ) (g2:x.den ρ=.agg cs'):Rel F (S.dm k false { a with c:=x }) ρ ids (s.q6 id a.sz cs'):=by
 refine(ad.gY (k:=k) (id:=id) (c':=x) (all:=false) (EE:=[.wr id a.sz (.agg cs')]) au lU cr (λe he=>?_) g1 g2 ak (by rw[bL];cases it<;>rfl) (λ_=>?_)).1
 ·simp  at he;subst he;exact⟨rfl,Rh cD id a.sz⟩
 grind [mO,aa.sub,aa.bW]
theorem P4{sz:Nat}{cs k:List aa}(bX:0<sz)(aq:k.length=sz)(ak:cs.length=cs.length/sz*sz):(m4 sz cs k).length=(m4 sz cs k).length/sz*sz:=by grind [m4,Nat.add_div_right]
theorem NR{ty:TypeId}{m k x:Operand}(aE:o.op=.mapUpdate ty m k x)(h:o7 X none o ty m k S K=.ok t)(ad:Rel F S ρ ids s)(aB:bN X.P C n t ρ R):hM X F C n R K S ρ s o:=by
 unfold o7 at h;split at h
 ·cases h
 ·have nX:o.dst=none:=by simp_all
  split at h
  ·rename_i cR e hu;split at h
   ·rename_i Yi;split at h
    ·rename_i l gJ aq hm;split at h
     ·rename_i a a7 au gy;split at h
      ·rename_i J6;obtain⟨bw,a1,rfl⟩:=ig h;obtain⟨v,ai,aB⟩:=aB.av;have Gb:=ad.ay m;rw[hm]at Gb;obtain⟨cs,id,ab,cr,aH⟩:=sf (it:=false) (Ck J6) au Gb;have ia:=ad.ay k;rw[aq]at ia;obtain⟨aG,er,WB⟩:=ia;obtain⟨gr,p2⟩:=sG gy WB;have h2:a.c.den ρ=.agg cs:=ab.2.1;simp only[Prim.run,h2,Ku]at ai;rw[show ep ρ a7=aG from gr.symm]at ai;split at ai
       ·rename_i ah;obtain⟨dS,c2,c3,c4⟩:=ah;injection ai with ai;subst ai;have cD:bG (m4 a.sz cs aG)=true:=by
         unfold m4;split
         ·exact ab.plain
         ·exact pG ab.plain p2
        have hb:=ad.bind (.agg (m4 a.sz cs aG)) false (by simp);obtain⟨g1,g2⟩:=fO ad (.agg (m4 a.sz cs aG)) (by simpa only[aa.plain]using cD);have ha:=c6.rel.mono (Env.p0 S ρ ids (.agg (m4 a.sz cs aG)) false) au ab;refine⟨s,dW.refl s,?_⟩;simp only[eQ,aE,hu,aH,er];exact⟨nX,Rf Yi,dS,c2,c3,c4,_,_,ids,bw,a1,D2 (it:=false) (S:=S.bind false) (Ck J6) au hb ha cr cD (P4 dS c2 ab.2.2.2.1) g1 g2,aB,(Ext.bind S ρ _ false).trans (qW gJ false _)⟩
       ·cases ai
      ·cases h
     ·cases h
    ·cases h
   ·cases h
  ·cases h
theorem Cl(z:aa):∀n,(e8 [z] n).length=n
 |0=>rfl
 |n+1=>by simp[e8,Cl z n]
theorem zm:∀n,bG (e8 [.ca] n)=true
 |0=>rfl
 |n+1=>by simp only[e8,List.singleton_append,bG,zm n];rfl
theorem P3{ty:TypeId}{x:Operand}(aE:o.op=.range ty x)(h:ps X none o ty x S K=.ok t)(ad:Rel F S ρ ids s)(aB:bN X.P C n t ρ R):hM X F C n R K S ρ s o:=by
 unfold ps at h;split at h
 ·cases h
 ·split at h
  ·rename_i cR e hu;refine Ey h ad aB λS ρ ids s t h ad aB=>?_;split at h
   ·rename_i y aj;obtain⟨bw,a1,rfl⟩:=ig h;obtain⟨v,ai,aB⟩:=aB.av;have hd:=ad.ay x;rw[aj]at hd;simp only[Prim.run,aS.den]at ai;have gH:s.ay x=y.den ρ:=hd.1;rw[←gH]at ai;unfold JZ at ai;split at ai
    ·rename_i iL cs aH;split at ai
     ·rename_i ah;obtain⟨rfl,dS,c2,c3⟩:=ah;injection ai with ai;subst ai;have cD:bG (e8 [.ca] (X.P.cellsOf cR)++cs)=true:=pG (zm _) c2;have hb:=ad.bind (.agg (e8 [.ca] (X.P.cellsOf cR)++cs)) false (by simp);obtain⟨g1,g2⟩:=fO ad (.agg (e8 [.ca] (X.P.cellsOf cR)++cs)) (by assumption);refine⟨s,dW.refl s,?_⟩;simp only[eQ,aE,hu,aH];refine⟨dS,nL (Ext.bind S ρ _ false) (BA (a:=⟨X.P.cellsOf cR,.it,.var S.cd⟩) (it:=true) hb rfl g1 g2 dS ?_ a1 aB)⟩;grind [Cl,Nat.add_div_left]
     ·cases ai
    ·cases ai
   ·cases h
  ·cases h
theorem Rg{x:Operand}(aE:o.op=.entry x)(h:pH none o x S K=.ok t)(ad:Rel F S ρ ids s)(aB:bN X.P C n t ρ R):hM X F C n R K S ρ s o:=by
 unfold pH at h;simp only[Option.isSome_none,Bool.false_eq_true,if_false]at h;split at h
 ·rename_i k aj;split at h
  ·rename_i a au;split at h
   ·rename_i gY;obtain⟨bw,a1,rfl⟩:=ig h;obtain⟨v,ai,aB⟩:=aB.av;have hd:=ad.ay x;rw[aj]at hd;obtain⟨cs,id,ab,cr,aH⟩:=sf (it:=true) (rW gY) au hd;have h2:a.c.den ρ=.agg cs:=ab.2.1;simp only[Prim.run,h2,Lz]at ai;split at ai
    ·rename_i ah;obtain⟨dS,c2,c3⟩:=ah;injection ai with ai;subst ai;have cD:bG (cs.take a.sz)=true:=rl ab.plain _;have hb:=ad.bind (.agg (cs.take a.sz)) false (by simp);obtain⟨g1,g2⟩:=fO ad (.agg (cs.take a.sz)) (by simpa only[aa.plain]using cD);refine⟨s,dW.refl s,?_⟩;simp only[eQ,aE,aH];refine⟨dS,c2,_,_,ids,bw,a1,hb.put o.dst ?_,aB,(Ext.bind S ρ _ false).put _ _⟩;simp only[bZ];refine⟨_,rfl,_,_,rfl,⟨_,rfl,ym g2 g1 c3⟩,_,_,rfl,trivial,rfl⟩
    ·cases ai
   ·cases h
  ·cases h
 ·cases h
theorem Rt{sz:Nat}{rem:List aa}{j:Nat}(aC:j<rem.length/sz):(chunk sz rem j).length=sz:=by
 have eb:0<sz:=by
  rcases Nat.eq_zero_or_pos sz with h|h
  ·rw[h,Nat.div_zero]at aC;omega
  ·exact h
 have:(j+1)*sz<=rem.length:=(Nat.le_div_iff_mul_le eb).1 aC;rw[Nat.succ_mul]at this;simp only[chunk,List.length_take,List.length_drop];omega
theorem Ru{sz:Nat}{rem:List aa}{j:Nat}(ak:rem.length=rem.length/sz*sz)(aC:j<rem.length/sz):(hL sz rem j).length=(rem.length/sz-1)*sz:=by
 obtain⟨m,hm⟩:∃m,rem.length/sz=m+1:=⟨rem.length/sz-1,by omega⟩;rw[hm]at ak aC⊢;have U:j*sz<=m*sz:=Nat.mul_le_mul_right _ (by omega);simp only[hL,List.length_append,List.length_take,List.length_drop,Nat.succ_mul,Nat.add_sub_cancel]at ak⊢;omega
theorem Sz{x:Operand}{str:Bool}(aE:o.op=.next x str)(h:pR none o x str S K=.ok t)(ad:Rel F S ρ ids s)(aB:bN X.P C n t ρ R):hM X F C n R K S ρ s o:=by
 unfold pR at h;split at h
 ·cases h
 ·rename_i s9;have ao:str=false:=by cases str with|false=>rfl|true=>exact absurd (.inr rfl) s9
  subst ao;split at h
  ·rename_i k aj;split at h
   ·rename_i a au;split at h
    ·rename_i gY;cases aW:(emit (.lI (.var S.cd)) false S.var λv S=>K ((S.dm k false { a with c:=v }).put o.dst (.bD [.e (.bu (.bool true)),.bT,.bT])))with
     |error e=>rw[aW]at h;cases h
     |ok Yt=>
      cases dH:K (S.var.put o.dst (.bD [.e (.bu (.bool false))]))with
      |error e=>rw[aW,dH]at h;cases h
      |ok Ng=>
       rw[aW,dH]at h;simp only[bind,Except.bind,pure,Except.pure,Except.ok.injEq]at h;subst h;obtain⟨cs',gv,aB⟩:=aB.pick;have hd:=ad.ay x;rw[aj]at hd;obtain⟨cs,id,ab,cr,aH⟩:=sf (it:=true) (rW gY) au hd;have h2:a.c.den ρ=.agg cs:=ab.2.1;have:cs'=cs:=by have:=gv.symm.trans h2;injection this
       subst this;have eb:=ab.2.2.1;have hlen:=ab.2.2.2.1;refine⟨s,dW.refl s,?_⟩;simp only[eQ,aE,aH];refine⟨trivial,eb,λaT=>?_,λi aX=>?_⟩
       ·have ai:y8 a.sz cs' 0=.agg [.bool false]:=by simp only[y8,w6,aT,if_true]
        have aB:=aB 0;rw[ai]at aB;have hb:=ad.bind (.agg [.bool false]) false (by simp);obtain⟨g1,g2⟩:=fO ad (.agg [.bool false]) rfl;have pO:(aR.proj (.var S.cd) 0).den (ρ++[.agg [.bool false]])=.bool false:=by simp only[aR.den]at g2⊢;rw[g2];rfl
        have Bo:bN X.P C n Ng (ρ++[.agg [.bool false]]) R:=λω=>by
         obtain⟨o,ar,cn⟩:=aB ω;simp only[eval,pO]at ar;exact⟨o,ar,cn⟩
        refine⟨_,_,ids,Ng,dH,Rel.put (S:=S.var) hb o.dst ?_,Bo,(Ext.bind S ρ _ false).put _ _⟩;simp only[bZ];exact⟨_,rfl,_,_,rfl,⟨rfl,rfl⟩,rfl⟩
       ·have gq:w6 a.sz cs'≠0:=by unfold w6;omega
        have ai:y8 a.sz cs' i=.agg (.bool true::(chunk a.sz (cs'.drop a.sz) i++hL a.sz (cs'.drop a.sz) i)):=by
         simp only[y8];rw[if_neg gq,Nat.mod_eq_of_lt (by unfold w6;exact aX)]
        have aB:=aB i;rw[ai]at aB;have qw:bG (cs'.drop a.sz)=true:=rM ab.plain _;have cD:bG (chunk a.sz (cs'.drop a.sz) i++hL a.sz (cs'.drop a.sz) i)=true:=pG (rl (rM qw _) _) (pG (rl qw _) (rM qw _));have WC:bG (.bool true::(chunk a.sz (cs'.drop a.sz) i++hL a.sz (cs'.drop a.sz) i))=true:=by simp only[bG,cD];rfl
        obtain⟨j7,iD⟩:=fO ad (.agg (.bool true::(chunk a.sz (cs'.drop a.sz) i++hL a.sz (cs'.drop a.sz) i))) (by simpa only[aa.plain]using WC);have lY:=ad.bind (.agg (.bool true::(chunk a.sz (cs'.drop a.sz) i++hL a.sz (cs'.drop a.sz) i))) false (by simp);have pO:(aR.proj (.var S.cd) 0).den (ρ++[.agg (.bool true::(chunk a.sz (cs'.drop a.sz) i++hL a.sz (cs'.drop a.sz) i))])=.bool true:=by simp only[aR.den]at iD⊢;rw[iD];rfl
        have sW:bN X.P C n Yt (ρ++[.agg (.bool true::(chunk a.sz (cs'.drop a.sz) i++hL a.sz (cs'.drop a.sz) i))]) R:=λω=>by
         obtain⟨o,ar,cn⟩:=aB ω;simp only[eval,pO]at ar;exact⟨o,ar,cn⟩
        obtain⟨bw,a1,rfl⟩:=ig aW;obtain⟨v,gm,sW⟩:=sW.av;simp only[Prim.run]at gm;rw[iD]at gm;simp only[LA,Option.some.injEq]at gm;subst gm;have Jh:Rel F S.var (ρ++[.agg (.bool true::(chunk a.sz (cs'.drop a.sz) i++hL a.sz (cs'.drop a.sz) i))]) ids s:=lY;have oK:=Jh.bind (.agg (chunk a.sz (cs'.drop a.sz) i++hL a.sz (cs'.drop a.sz) i)) false (by simp);obtain⟨g1,g2⟩:=fO Jh (.agg (chunk a.sz (cs'.drop a.sz) i++hL a.sz (cs'.drop a.sz) i)) (by simpa only[aa.plain]using cD);have ha:=c6.rel.mono (Env.p0 S ρ ids (.agg (.bool true::(chunk a.sz (cs'.drop a.sz) i++hL a.sz (cs'.drop a.sz) i))) false) au ab;have Xd:=c6.rel.mono (Env.p0 S.var _ ids (.agg (chunk a.sz (cs'.drop a.sz) i++hL a.sz (cs'.drop a.sz) i)) false) au ha;have Yj:(cs'.drop a.sz).length=(cs'.drop a.sz).length/a.sz*a.sz:=by
         rw[List.length_drop,hlen];obtain⟨m,hm⟩:∃m,cs'.length/a.sz=m:=⟨_,rfl⟩;rw[hm];cases m with
         |zero=>simp
         |succ m=>rw[Nat.succ_mul,Nat.add_sub_cancel,Nat.mul_div_cancel _ eb]
        have bQ:(chunk a.sz (cs'.drop a.sz) i++hL a.sz (cs'.drop a.sz) i).length=(chunk a.sz (cs'.drop a.sz) i++hL a.sz (cs'.drop a.sz) i).length/a.sz*a.sz:=by
         rw[List.length_append,Rt aX,Ru Yj aX,Nat.add_mul_div_right _ _ eb,Nat.div_self eb,Nat.add_mul];omega
        have Xj:=D2 (it:=true) (S:=S.var.bind false) (rW gY) au oK Xd cr cD bQ g1 g2;refine⟨_,_,ids,bw,a1,Xj.put o.dst ?_,sW,((Ext.bind S ρ _ false).trans ((Ext.bind S.var _ _ false).trans (qW k false _))).put _ _⟩;simp only[bZ];exact⟨_,rfl,_,_,rfl,⟨rfl,rfl⟩,_,_,rfl,trivial,_,_,rfl,trivial,rfl⟩
    ·cases h
   ·cases h
  ·cases h
theorem OP(l:List Int):bG (l.map (aa.int .i64))=true:=by
 induction l with
 |nil=>rfl
 |cons x l az=>simp only[List.map_cons,bG,az];rfl
theorem DH(cs:List aa):(lP cs).length=cs.length:=by simp[lP]
theorem NS(s:aA):s.after [] s.m=s:=by
 have:gV s.a0.a s.bb []=s.bb:=by cases s.bb<;>simp[gV]
 simp[aA.after,aa.sub,this]
theorem abj{c:Call}{f:Operand}{g:FuncId}{k:Nat}{a:c6}{fn:Func}(iB:Sc X.P g)(aE:o.op=.call c)(de:c.callee=.value f)(aQ:S.ay f=.fn g [])(hm:c.args.toList.map S.ay=[.own k])(au:S.bd.getD k none=some a)(bX:a.sz=1)(bh:a.born.still=true)
  (dX:X.P.funcs[g]?=some fn) (hs:¬(fn.name = "runtime.NumGoroutine" \/ fn.body.isNone=true)) (h:emit (.qz a.c) false S (λv S=>K ((S.dm k false { a with c:=v }).put o.dst .undef))=.ok t) (ad:Rel F S ρ ids s) (aB:bN X.P C n t ρ R):hM X F C n R K S ρ s o:=by
 obtain⟨bw,a1,rfl⟩:=ig h;obtain⟨v,ai,aB⟩:=aB.av;have eH:=ad.ay f;rw[aQ]at eH;unfold bZ at eH;obtain⟨aG,e,ak⟩:=eH;simp only[cJ]at ak;subst ak;have fR:=qX ad c.args.toList;rw[hm]at fR;obtain⟨q,ei,aO,aH,bQ⟩:=fR;simp only[jd]at bQ;subst bQ;unfold bZ at aH;obtain⟨a',cs,U,ab,al⟩:=aH;have:a'=a:=by have:=U.symm.trans au;injection this
 subst this;have h2:a'.c.den ρ=.agg cs:=ab.2.1;simp only[Prim.run,h2,Kv]at ai;split at ai
 case isFalse=>cases ai
 rename_i ah;injection ai with ai;subst ai;have cD:bG (lP cs)=true:=OP _;have hb:=ad.bind (.agg (lP cs)) false (by simp);obtain⟨g1,g2⟩:=fO ad (.agg (lP cs)) (by simpa only[aa.plain]using cD);have ha:=c6.rel.mono (Env.p0 S ρ ids (.agg (lP cs)) false) U ab;have hlen:(lP cs).length=(lP cs).length/a'.sz*a'.sz:=by rw[bX];simp
 refine⟨s,dW.refl s,?_⟩;simp only[eQ,aE,de,e];refine⟨⟨fn,dX,λe=>hs (.inl e),by cases hb:fn.body<;>simp[hb]at hs⊢⟩,?_⟩;rw[List.append_nil,aO];have fK:=ab.2.2.2.2.1;cases cr:ids k with
 |some id=>
  rw[show(S.env ρ ids).ids k=some id from cr,la (qM bh),bX]at al;rw[show(S.env ρ ids).ids k=some id from cr]at fK;simp only[Nat.div_one]at al;rw[al];refine gL.y (((iB cs s.m ah.1 ah.2).1 id).mono ?_);rintro v E m' ⟨rfl,rfl,rfl⟩;have qv:isNil (ρ++[.agg (lP cs)]) a'.born (lP cs)=some false:=by
   rw[Aj (ρ:=ρ) ab.2.2.2.2.2];have J2:isNil ρ a'.born cs=some false:=fK;cases hb:a'.born with
   |real=>rfl
   |cZ=>
    rw[hb]at J2;cases hcs:cs with
    |nil=>rw[hcs]at J2;simp[isNil]at J2
    |cons x xs=>
     cases ao:lP (x::xs)with
     |nil=>have:=DH (x::xs);rw[ao]at this;simp at this
     |cons _ _=>rfl
   |dyn y=>rw[hb]at bh;cases bh
   |map=>rw[hb]at bh;cases bh
   |it=>rw[hb]at bh;cases bh
  obtain⟨eh,r2⟩:=hb.gY (k:=k) (id:=id) (c':=.var S.cd) (all:=false) (EE:=nd id 0 (lP cs)) U ha cr (λe he=>by
    obtain⟨CO,u,hF,p,rfl⟩:=I5 he;exact⟨rfl,λn an=>AL n an u ((hH _).1 cD u hF).1⟩) g1 g2 hlen qv (λ_=>by
     rw[la (qM bh),la (qM bh)];simp only;rw[I4 id a'.sz _ _ _ cs ab.plain cD (by rw[DH];omega),DH];congr 1;simp[fa,DH])
  refine⟨_,_,ids,bw,a1,eh.put o.dst (v:=.undef) (by simp only[bZ]),aB,((Ext.bind S ρ _ false).trans (qW k false _)).put _ _⟩
 |none=>
  rw[show(S.env ρ ids).ids k=none from cr,la (qM bh)]at al;rw[show(S.env ρ ids).ids k=none from cr]at fK;obtain⟨ix,hcs⟩:=Ht bh fK;subst hcs;simp only at al;rw[al];refine gL.y ((iB [] s.m ah.1 ah.2).2.mono ?_);rintro v E m' ⟨rfl,rfl,rfl⟩;rw[NS];have F6:lP []=[]:=by simp[lP]
  rw[F6]at hb g1 g2 ha aB;obtain⟨eh,r2⟩:=hb.KC (k:=k) (xid:=none) (c':=.var S.cd) (cs':=[]) (all:=false) (EE:=[]) U ha cr (λe he=>by cases he) g1 g2 (by simp) (by rw[ix];rfl) (λ_=>rfl);have bq:s.gY []=s:=by
   have:gV s.a0.a s.bb []=s.bb:=by cases s.bb<;>simp[gV]
   have fW:(λi=>(s.m.β i).sub [])=s.m.β:=by funext i;simp
   simp only[aA.gY,aa.Ed,this,fW]
  rw[bq]at eh;refine⟨_,_,ids,bw,a1,eh.put o.dst (v:=.undef) (by simp only[bZ]),aB,((Ext.bind S ρ _ false).trans (qW k false _)).put _ _⟩
theorem abk{c:Call}{f:Operand}{g:FuncId}{k:Nat}{a:c6}{fn:Func}(iB:Sd X.P g)(aE:o.op=.call c)(de:c.callee=.value f)(aQ:S.ay f=.fn g [])(hm:c.args.toList.map S.ay=[.own k])(au:S.bd.getD k none=some a)(bX:a.sz=1)(bh:a.born.still=true)
  (dX:X.P.funcs[g]?=some fn) (hs:¬(fn.name = "runtime.NumGoroutine" \/ fn.body.isNone=true)) (h:emit (.qA a.born a.c) true S (λv S=>K ((S.dm k true a).put o.dst (.e v)))=.ok t) (ad:Rel F S ρ ids s) (aB:bN X.P C n t ρ R):hM X F C n R K S ρ s o:=by
 obtain⟨bw,a1,rfl⟩:=ig h;obtain⟨v,ai,S3⟩:=aB.av;have eH:=ad.ay f;rw[aQ]at eH;unfold bZ at eH;obtain⟨aG,e,ak⟩:=eH;simp only[cJ]at ak;subst ak;have fR:=qX ad c.args.toList;rw[hm]at fR;obtain⟨q,ei,aO,aH,bQ⟩:=fR;simp only[jd]at bQ;subst bQ;unfold bZ at aH;obtain⟨a',cs,U,ab,al⟩:=aH;have:a'=a:=by have:=U.symm.trans au;injection this
 subst this;have h2:a'.c.den ρ=.agg cs:=ab.2.1;have fK:isNil ρ a'.born cs=some (ids k).isNone:=ab.2.2.2.2.1;simp only[Prim.run,h2,Kw,fK]at ai;split at ai
 case isFalse=>cases ai
 rename_i ah;have xz:v.plain=true/\v.one=true:=by
  split at ai
  ·injection ai with ai;subst ai;exact⟨rfl,rfl⟩
  ·injection ai with ai;subst ai;exact⟨by simp only[aa.plain];exact OP _,rfl⟩
  ·cases ai
 have hb:=ad.bind v true (λ_=>xz.2);obtain⟨g1,g2⟩:=fO ad v xz.1;have ha:=c6.rel.mono (Env.p0 S ρ ids v true) U ab;refine⟨s,dW.refl s,?_⟩;simp only[eQ,aE,de,e];refine⟨⟨fn,dX,λe=>hs (.inl e),by cases hb:fn.body<;>simp[hb]at hs⊢⟩,?_⟩;rw[List.append_nil,aO];have hA:aR.ok (ρ++[v]) a'.c:=ha.1;have oT:aR.den (ρ++[v]) a'.c=.agg cs:=ha.2.1;cases cr:ids k with
 |some id=>
  rw[show(S.env ρ ids).ids k=some id from cr,la (qM bh),bX]at al;rw[cr]at ai fK;simp only[Nat.div_one]at al;simp only[Option.isNone_some,Option.some.injEq]at ai;rw[al];refine gL.y (((iB cs s.m ah.1 ah.2).1 id).mono ?_);rintro w E m' ⟨rfl,rfl,rfl⟩;obtain⟨eh,r2⟩:=hb.gY (k:=k) (id:=id) (c':=a'.c) (all:=true) (EE:=[.kill id]) U ha cr (λe he=>by simp only[List.mem_singleton]at he;subst he;exact⟨rfl,trivial⟩) hA oT ab.2.2.2.1 (by rw[Aj (ρ:=ρ) ab.2.2.2.2.2];exact fK) (λe=>by cases e);refine⟨_,_,ids,bw,a1,eh.put o.dst (v:=.e (.var S.cd)) ?_,S3,((Ext.bind S ρ _ true).trans (qW k true _)).put _ _⟩;simp only[bZ];exact⟨ai.trans g2.symm,g1⟩
 |none=>
  rw[show(S.env ρ ids).ids k=none from cr,la (qM bh)]at al;rw[cr]at ai fK;obtain⟨ix,hcs⟩:=Ht bh fK;subst hcs;simp only[Option.isNone_none,Option.some.injEq]at ai;simp only at al;rw[al];refine gL.y ((iB [] s.m ah.1 ah.2).2.mono ?_);rintro w E m' ⟨rfl,rfl,rfl⟩;rw[NS];obtain⟨eh,r2⟩:=hb.KC (k:=k) (xid:=none) (c':=a'.c) (cs':=[]) (all:=true) (EE:=[]) U ha cr (λe he=>by cases he) hA oT (by simp) (by rw[ix];rfl) (λ_=>rfl);have bq:s.gY []=s:=by
   have:gV s.a0.a s.bb []=s.bb:=by cases s.bb<;>simp[gV]
   have fW:(λi=>(s.m.β i).sub [])=s.m.β:=by funext i;simp
   simp only[aA.gY,aa.Ed,this,fW]
  rw[bq]at eh;refine⟨_,_,ids,bw,a1,eh.put o.dst (v:=.e (.var S.cd)) ?_,S3,((Ext.bind S ρ _ true).trans (qW k true _)).put _ _⟩;simp only[bZ];exact⟨ai.trans g2.symm,g1⟩
end
end
section
open Go Go.RowKit
variable[cQ]
def SS(X:Ctx)(C:b2->FuncId->List aa->Option aa)(n:Nat)(inl:fh):Prop:=
 ∀(F:cP)(R:Out->Prop)(f:FuncId)(h:Operand)(a7:Array Tmp)(a b:Code)(p:Nat)(K:eJ->Sym->M)(S:Sym)(ρ:List aa)(ids:Nat->Option Nat)(s:aA)(t:Tree),
  F.P=X.P->jq X.P F.DI C->mu X.P F.DI X.hI->p7 X F.DI C->HK X inl f h a7 a b p S K=.ok t->Rel F S ρ ids s->bN X.P C n t ρ R ->
  ff X.P (.rangeFunc h a7 a b) s λe s'=>hS X F C n R (K e) S ρ s'
structure ri(X:Ctx)(DI:List aa->Prop)(C:b2->FuncId->List aa->Option aa)(n:Nat)(c5 ajD:fh):Prop where
 c:jq X.P DI C
 new:mu X.P DI X.hI
 inl:JR X C n c5
 yl:JS X C n ajD
 tN:SS X C n c5
 own:∀g r,mW X.nb g=some r->wi X.P DI C g r.1
section
variable{X:Ctx}{F:cP}{C:b2->FuncId->List aa->Option aa}{n:Nat}{R:Out->Prop}{S:Sym}{ρ:List aa}{ids:Nat->Option Nat}{s:aA}{K:Sym->M}{t:Tree}{o:Oper}{m0:Mem}{inl yl:fh}{lx:Option Nat}{key:Nat}{E:Env}
theorem EO{α β:Type}{x:Except String α}{f:α->β}{b:β}(h:Except.map f x=.ok b):∃a,x=.ok a/\f a=b:=by
 cases x with
 |error e=>cases h
 |ok a=>exact⟨a,rfl,by simpa[Except.map]using h⟩
theorem yH{α β:Type}{x:Except String α}{f:α->Except String β}{b:β}(h:(x >>= f)=.ok b):∃a,x=.ok a/\f a=.ok b:=by
 cases x with
 |error e=>cases h
 |ok a=>exact⟨a,rfl,h⟩
theorem abi{c:Call}{f:Operand}(aw:F.P=X.P)(aq:ri X F.DI C n inl yl)(aE:o.op=.call c)(de:c.callee=.value f)(h:AK X inl yl none key o f c.args.toList S K=.ok t)(ad:Rel F S ρ ids s)(aB:bN X.P C n t ρ R):hM X F C n R K S ρ s o:=by
 unfold AK at h;split at h
 ·rename_i g bf aQ;split at h
  ·rename_i fn dX;split at h
   ·cases h
   ·rename_i hs;split at h
    ·rename_i aN;simp only[Option.isSome_none,Bool.false_eq_true,if_false]at h;refine AO h ad aB λS ρ ids s t h ad aB=>?_;split at h
     ·rename_i g' _ p pJ ae;split at h
      ·rename_i CB;exact abh aq.new aE de (by rw[pJ,CB,aN]) ae (by rw[←aN];exact dX) hs h ad aB
      ·cases h
     ·cases h
    ·split at h
     ·rename_i agT;simp only[Option.isSome_none,Bool.false_eq_true,if_false]at h;split at h
      ·rename_i k qb;split at h
       ·rename_i a au;split at h
        ·rename_i ah;exact abj (aq.new.qz _ agT) aE de aQ qb au ah.1 ah.2 dX hs h ad aB
        ·cases h
       ·cases h
      ·cases h
     split at h
     ·rename_i agU;simp only[Option.isSome_none,Bool.false_eq_true,if_false]at h;split at h
      ·rename_i k qb;split at h
       ·rename_i a au;split at h
        ·rename_i ah;exact abk (aq.new.qA _ agU) aE de aQ qb au ah.1 ah.2 dX hs h ad aB
        ·cases h
       ·cases h
      ·cases h
     split at h
     ·exact ac3 aw aq.c aq.new aq.own aq.inl aE de aQ dX hs h ad aB
     ·refine AO h ad aB λS ρ ids s t h ad aB=>?_;split at h
      ·rename_i g' afq pJ;split at h
       ·rename_i CB;subst CB;split at h
        ·rename_i a7 gy;obtain⟨bw,a1,h⟩:=EO h;have eH:=ad.ay f;rw[pJ]at eH;unfold bZ at eH;obtain⟨aG,e,ak⟩:=eH;subst h;obtain⟨U,ab⟩:=aB.call;have au:=uo (m0:=s.m) (lx:=none) ad rfl ⟨Nat.le_refl _,λ_ _=>rfl⟩ gy (Ak (qX ad _) (yj ak));have plain:K (S.var.put o.dst (.e (.var S.cd)))=.ok bw->hM X F C n R K S ρ s o:=λa1=>
          Mt (args:=a7) (args':=[]) aq.c aE de e (by rw[List.append_nil];exact au) (by rw[List.append_nil];exact U) (by rw[List.append_nil];exact ab) ad a1
         split at a1
         ·rename_i r Bq;split at a1
          ·refine⟨s,dW.refl s,?_⟩;simp only[eQ,aE,de,e];obtain⟨v0,pD⟩:=Option.isSome_iff_exists.1 (U gP);refine⟨aq.c.fn _ _ _ _ pD,((aq.own g' r Bq _ U _ s.m au).mono ?_).y⟩;rintro v E m' ⟨p,ω,ai,ae,rfl,eX,l7,ar⟩;have KD:s.after [] m'={ s with m:=m' }:=by
            have:gV s.a0.a s.bb []=s.bb:=by cases s.bb<;>simp[gV]
            simp[aA.after,aa.sub,this]
           rw[KD];obtain⟨pK,pL,uZ,tO,k1,k2,bP,cX⟩:=NP (X:=X) a1 ad (ab ω p ai) ae ar eX l7;exact⟨pK,pL,uZ,tO,k1,k2,bP,cX⟩
          ·split at a1
           ·rename_i aj;simp at aj
           ·exact plain a1
         ·exact plain a1
        ·cases h
       ·cases h
      ·cases h
  ·cases h
 ·simp only[Option.isSome_none,Bool.false_and,Bool.false_eq_true,if_false]at h;refine AO h ad aB λS ρ ids s t h ad aB=>?_;split at h
  ·rename_i x aj;split at h
   ·rename_i a7 gy;obtain⟨bw,a1,h⟩:=EO h;subst h;obtain⟨g,bf,e,U,ab⟩:=aB.kL;have eH:=ad.ay f;rw[aj]at eH;unfold bZ at eH;have e':s.ay f=.fn g bf:=by rw[eH.1];exact e
    have cD:(s.ay f).plain=true:=by rw[eH.1];exact aR.jJ eH.2
    rw[e']at cD;have LG:bG bf=true:=by simpa only[aa.plain]using cD
    have au:=uo (m0:=s.m) (lx:=none) ad rfl ⟨Nat.le_refl _,λ_ _=>rfl⟩ gy (qX ad _);have iu:∀{a a':List aa}{b:List aa},im F.DI s.m a a'->bG b=true->im F.DI s.m (a++b) (a'++b):=by
     intro a;induction a with
     |nil=>
      intro a' b h hb;simp only[im]at h;subst h;induction b with
      |nil=>rfl
      |cons q b az=>
       simp only[bG,Bool.and_eq_true]at hb;exact⟨q,b,rfl,.inl ⟨rfl,hb.1.1⟩,az hb.2⟩
     |cons p a az=>
      rintro a' b ⟨q,aG,rfl,U,ab⟩ hb;exact⟨q,aG++b,rfl,U,az ab hb⟩
    exact Mt aq.c aE de e' (iu au LG) U ab ad a1
   ·cases h
  ·cases h
 ·rename_i y aQ;simp only[Option.isSome_none,Bool.false_eq_true,if_false]at h;exact ac4 aw aq.c aq.new aq.own aq.yl aE de aQ h ad aB
 ·cases h
theorem aeb(aw:F.P=X.P)(aq:ri X F.DI C n inl yl)(h:sQ X inl yl none key o S K=.ok t)(ad:Rel F S ρ ids s)(aB:bN X.P C n t ρ R):hM X F C n R K S ρ s o:=by
 unfold sQ at h;split at h
 ·rename_i x aE;exact jI (by simp[aE]) (ic h ad aB (by simp only[bV,aE]) (ad.ay x))
 ·rename_i x aE;exact jI (by simp[aE]) (ic h ad aB (by simp only[bV,aE]) (ad.ay x))
 ·rename_i c x y aE;exact jI (by simp[aE]) (Q1 aE h ad aB)
 ·rename_i op ty x y Gl aE;split at h
  ·rename_i p q ae aH;exact jI (by simp[aE]) (R2 aE ae aH h ad aB)
  ·cases h
 ·rename_i ty x aE;split at h
  ·rename_i b ae;obtain⟨e,_⟩:=ad.cu ae;exact jI (by simp[aE]) (ic h ad aB (pv:=.bool !b) (by simp only[bV,aE,e];rfl) (by unfold bZ;exact⟨rfl,rfl⟩))
  ·rename_i p _ ae;exact jI (by simp[aE]) (E9 aE ae h ad aB)
  ·cases h
 ·rename_i op ty x _ aE;split at h
  ·rename_i p ae;exact jI (by simp[aE]) (E9 aE ae h ad aB)
  ·cases h
 ·rename_i a b x aE;split at h
  ·rename_i p ae;exact jI (by simp[aE]) (Q4 aE ae h ad aB)
  ·cases h
 ·rename_i x aE;exact jI (by simp[aE]) (R0 aE h ad aB)
 ·rename_i x i aE;exact jI (by simp[aE]) (R1 aE h ad aB)
 ·rename_i ty x f aE;exact jI (by simp[aE]) (PN aE h ad aB)
 ·rename_i ty x f aE;exact jI (by simp[aE]) (OM aE h ad aB)
 ·rename_i ty x i aE;exact jI (by simp[aE]) (MI aE h ad aB)
 ·rename_i ty x i aE;split at h
  ·rename_i p q ae aH;exact jI (by simp[aE]) (PO aE ae aH h ad aB)
  ·cases h
 ·rename_i ty x aE;exact jI (by simp[aE]) (Q3 (lx:=none) aE h ad rfl aB)
 ·rename_i ty x y aE;exact ZI aE h ad aB
 ·rename_i ty x aE;exact ac2 aE h ad aB
 ·rename_i ty aE;split at h
  ·rename_i z bO;split at h
   ·rename_i ae;exact ZG aE bO ae h ad aB
   ·cases h
  ·cases h
 ·rename_i ty parts aE;exact jI (by simp[aE]) (PQ aE h ad aB)
 ·rename_i ty len parts aE;exact VL aE h ad aB
 ·rename_i ty l c aE;exact abf aE h ad aB
 ·rename_i ty x cw aX aE;unfold HS at h;refine AO h ad aB λS ρ ids s t h ad aB=>?_;split at h
  ·rename_i p a b ae au hb;exact jI (by simp[aE]) (ok_slice aE ae au hb h ad aB)
  ·cases h
 ·rename_i f first bf aE
  split at h
  ·cases h
  ·rename_i ah;have U:first.size=0:=Classical.byContradiction λe=>ah (.inl e);have ab:(bf.toList.all λx=>(S.ay x).yN S)=true:=by
    cases bq:(bf.toList.all λx=>(S.ay x).yN S)with
    |true=>rfl
    |false=>exact absurd (.inr bq) ah
   exact jI (by simp[aE]) (M9 aE U h ab ad aB)
 ·rename_i c aE;split at h
  ·rename_i f de;exact abi aw aq aE de h ad aB
  ·rename_i de;split at h
   ·rename_i ty x a1 aj;exact jI (by simp[aE]) (R6 aE de a1 aj h ad aB)
   ·cases h
  ·rename_i de;split at h
   ·rename_i l ak;exact jI (by simp[aE]) (R4 aE de ak h ad aB)
   ·cases h
  ·rename_i de;split at h
   ·rename_i l ak;exact jI (by simp[aE]) (R5 aE de ak h ad aB)
   ·cases h
  ·rename_i de;split at h
   ·rename_i ty Gl x y dA F2;split at h
    ·rename_i e;subst e;exact Yh aE de dA F2 h ad aB
    ·cases h
   ·cases h
  ·cases h
 ·rename_i ty r aE;exact Pl aE h ad aB
 ·rename_i ty m k x aE;exact NR aE h ad aB
 ·rename_i ty x aE;exact P3 aE h ad aB
 ·rename_i x str aE;exact Sz aE h ad aB
 ·rename_i x aE;exact Rg aE h ad aB
 ·simp only[pure,Except.pure,Except.ok.injEq]at h;subst h;obtain⟨o,ar,_⟩:=aB gP;simp[eval]at ar
 ·simp only[pure,Except.pure,Except.ok.injEq]at h;subst h;obtain⟨o,ar,_⟩:=aB gP;simp[eval]at ar
 ·cases h
end
end
section
open Go Go.RowKit
variable[cQ]
section
variable{X:Ctx}{F:cP}{C:b2->FuncId->List aa->Option aa}{n:Nat}{R:Out->Prop}{S:Sym}{ρ:List aa}{ids:Nat->Option Nat}{s:aA}{K:Sym->M}{t:Tree}{o:Oper}{m0:Mem}{inl yl:fh}{lx:Option Nat}{key:Nat}{E:Env}{ops:Array Oper}{e2:Nat}
theorem abm{s:aA}{d:Nat}{v:aa}(h:s.g d=v):s.put (some d) v=s:=by
 cases s with
 |mk g m a0 bb=>
  simp only[aA.put]at h⊢;congr 1;grind
theorem uz(ad:Rel F S ρ ids s){d:Nat}{b:Bool}(h:s.g d=.bool b):Rel F (S.put (some d) (.e (.bu (.bool b)))) ρ ids s:=by
 have:=ad.put (some d) (v:=.e (.bu (.bool b))) (q:=.bool b) (by trivial);grind [abm]
theorem PU(ad:Rel F S ρ ids s)(d:Option Tmp):Rel F (S.put d .undef) ρ ids (s.put d .undef):=ad.put d (by rfl)
theorem pU{P:Program}{K fy:aA->Prop}(aq:∀s,K s->fy s):∀(l:List Oper)(s:aA),h1 P ops l s K->h1 P ops l s fy
 |[],s,h=>aq s h
 |o::l,s,h=>Hy h (λ⟨s1,U,ab⟩=>⟨s1,U,uC (λs' _ h=>pU aq l s' h) ab⟩) (λh=>pU aq l _ h)
theorem Ez{x:aR}{a b:M}(h:FG x a b=.ok t):∃a' a6,a=.ok a'/\b=.ok a6/\t=.ite x a' a6:=by
 unfold FG at h;grind
theorem AU(aw:F.P=X.P)(aq:ri X F.DI C n inl yl):∀(l:List Oper)(i:Nat){S:Sym}{ρ:List aa}{ids:Nat->Option Nat}{s:aA}{t:Tree},kh X inl yl none ops e2 l i S K=.ok t->Rel F S ρ ids s->bN X.P C n t ρ R ->
  h1 X.P ops l s λs'=>hS X F C n R K S ρ s'
 |[],i,S,ρ,ids,s,t,h,ad,aB=>by exact⟨S,ρ,ids,t,h,ad,aB,Ext.refl S ρ⟩
 |o::l,i,S,ρ,ids,s,t,h,ad,aB=>by
  have run:∀{S:Sym}{t:Tree},sQ X inl yl none (e2*1000+i) o S (λS=>kh X inl yl none ops e2 l (i+1) S K)=.ok t->Rel F S ρ ids s->bN X.P C n t ρ R ->
    ∃s1,dW s s1/\eQ X.P s1 o λs'=>h1 X.P ops l s' λs'=>hS X F C n R K S ρ s':=λ{S t} h ad aB=>by
   obtain⟨s1,cy,dM⟩:=aeb aw aq h ad aB;refine⟨s1,cy,uC (λs' _ ao=>?_) dM⟩;obtain⟨br,b1,dK,bw,U,ab,al,aJ⟩:=ao;exact pU (λl6 h=>nL aJ h) l s' (AU aw aq l (i+1) U ab al)
  have skip:∀{S:Sym}{t:Tree},kh X inl yl none ops e2 l (i+1) (S.put o.dst .undef) K=.ok t->Rel F S ρ ids s->bN X.P C n t ρ R->h1 X.P ops l (s.put o.dst .undef) λs'=>hS X F C n R K S ρ s':=λ{S t} h ad aB=>
   pU (λl6 h=>nL ((Ext.refl S ρ).put _ _) h) l _ (AU aw aq l (i+1) h (PU ad o.dst) aB)
  have back:∀{d:Nat}{v:aL}{s':aA},hS X F C n R K (S.put (some d) v) ρ s'->hS X F C n R K S ρ s':=λh=>nL ((Ext.refl S ρ).put _ _) h;simp only[kh]at h;simp only[h1,ld];split at h
  ·grind
  ·rename_i j want aN;simp only[aN];split at h
   ·rename_i aV;simp only[aV];exact skip h ad aB
   ·rename_i d aV;simp only[aV];have hB:=ad.slot d;split at h
    ·rename_i ai;rw[ai]at hB;simp only[bZ]at hB;simp only[hB];exact skip h ad aB
    ·rename_i b ai;rw[ai]at hB;simp only[bZ,aR.den]at hB;simp only[hB.1];split at h
     ·rename_i hb;rw[if_pos hb];exact run h ad aB
     ·rename_i hb;rw[if_neg hb];exact skip h ad aB
    ·rename_i x _ ai;rw[ai]at hB;cases want with
     |true=>
      obtain⟨a,b,au,hb,rfl⟩:=Ez h;rcases aB.ite with⟨U,ab⟩|⟨U,ab⟩
      ·have e:s.g d=.bool true:=by rw[hB.1];exact U
       simp only[e,if_true];obtain⟨s1,cy,dM⟩:=run au (uz ad e) ab;exact⟨s1,cy,uC (λs' _ h=>pU (λl6 h=>back h) l s' h) dM⟩
      ·have e:s.g d=.bool false:=by rw[hB.1];exact U
       simp[e,if_false];exact pU (λl6 h=>back h) l _ (skip hb (uz ad e) ab)
     |false=>
      obtain⟨a,b,au,hb,rfl⟩:=Ez h;rcases aB.ite with⟨U,ab⟩|⟨U,ab⟩
      ·have e:s.g d=.bool true:=by rw[hB.1];exact U
       simp[e,if_false];exact pU (λl6 h=>back h) l _ (skip au (uz ad e) ab)
      ·have e:s.g d=.bool false:=by rw[hB.1];exact U
       simp only[e,if_true];obtain⟨s1,cy,dM⟩:=run hb (uz ad e) ab;exact⟨s1,cy,uC (λs' _ h=>pU (λl6 h=>back h) l s' h) dM⟩
    ·cases h
def vj(X:Ctx)(F:cP)(C:b2->FuncId->List aa->Option aa)(n:Nat)(R:Out->Prop)(K:Sym->M)(S:Sym)(ρ:List aa)(b:Nat)(m0:Mem)(s':aA):Prop:=hS X F C n R K S ρ s'/\lf F (some b) m0 s'
def n5(X:Ctx)(C:b2->FuncId->List aa->Option aa):l0:=λg args an v eR=>match mW X.nb g with
 |none=>eR=an/\v.plain=true/\∃ω,C ω g (args.map Bp)=some v
 |some r=>∃p ω,C ω g (args.map Bp)=some p/\p.plain=true/\an<=eR/\rD r.1 p v an eR
theorem PV{DI:List aa->Prop}(hC:jq X.P DI C)(ar:∀g r,mW X.nb g=some r->wi X.P DI C g r.1){g:FuncId}{args args':List aa}(au:∀m,pw m0 m->im DI m args args')(oE:∀ω,(C ω g args).isSome)(an:Nat)(nk:∀r,mW X.nb g=some r->∀ω p,C ω g args=some p->∃v,rD r.1 p v an (an+1)):EB X.P m0 (n5 X C) g args' an:=by
 have aV:args'.map Bp=args:=Dq (au m0 ⟨Nat.le_refl _,λ_ _=>rfl⟩);unfold EB n5;cases aQ:mW X.nb g with
 |none=>
  have agZ:=λm hm=>hC.zG g args oE args' m (au m hm);refine⟨?_,λm hm l7=>(agZ m hm).mono ?_⟩
  ·obtain⟨v,ai⟩:=Option.isSome_iff_exists.1 (oE gP);exact⟨v,an,rfl,hC.plain _ _ _ _ ai,gP,by grind⟩
  ·rintro v E m' ⟨⟨ω,ai⟩,ae,rfl,rfl⟩;grind
 |some r=>
  refine⟨?_,λm hm l7=>(ar g r aQ args oE args' m (au m hm)).mono ?_⟩
  ·obtain⟨v,ai⟩:=Option.isSome_iff_exists.1 (oE gP);obtain⟨y,aF⟩:=nk r aQ gP v ai;exact⟨y,an+1,v,gP,by grind,hC.plain _ _ _ _ ai,by omega,aF⟩
  grind
end
end
section
open Go Go.RowKit
variable[cQ]
section
variable{X:Ctx}{F:cP}{C:b2->FuncId->List aa->Option aa}{n:Nat}{R:Out->Prop}{S:Sym}{ρ:List aa}{ids:Nat->Option Nat}{s:aA}{K:Sym->M}{t:Tree}{o:Oper}{m0:Mem}{inl yl:fh}{b:Nat}{key:Nat}{E:Env}{ops:Array Oper}{e2:Nat}
def qf(X:Ctx)(F:cP)(C:b2->FuncId->List aa->Option aa)(n:Nat)(R:Out->Prop)(K:Sym->M)(S:Sym)(ρ:List aa)(b:Nat)(m0:Mem)(s:aA)(o:Oper):Prop:=mY X.P m0 (n5 X C) s o λs'=>vj X F C n R K S ρ b m0 s'
def hX(o:Oper):Bool:=match o.op with
 |.alloc _ | .box _ _ | .store _ _ _=>false
 |.call c=>match c.callee with
  |.value _=>false
  |_=>true
 |_=>true
theorem AP(aI:lf F (some b) m0 s)(d:Option Tmp)(v:aa):lf F (some b) m0 (s.put d v):=by grind [lf,aA.aeg]
theorem jl(aq:hX o=true)(aI:lf F (some b) m0 s)(h:jr X F C n R K S ρ s m0 o):qf X F C n R K S ρ b m0 s o:=by
 obtain⟨pv,U,ab⟩:=h;unfold qf mY;unfold hX at aq;split at aq
 ·cases aq
 ·cases aq
 ·cases aq
 ·rename_i c aE;simp only[aE];split at aq
  ·cases aq
  ·split
   ·grind
   ·exact⟨pv,U,ab,AP aI _ _⟩
 ·split
  ·grind
  ·grind
  ·grind
  ·grind
  ·exact⟨pv,U,ab,AP aI _ _⟩
theorem Nd(aI:lf F (some b) m0 s)(d:Option Tmp)(l:List aa):lf F (some b) m0 (s.gu d l):=by
 obtain⟨U,ab,al⟩:=aI;refine⟨U,by grind [aA.OQ],λi aX=>?_⟩;rw[aA.OQ];grind [qK]
theorem Yk{l af:List aa}(h:l.length=af.length):fa l 0 af=af:=by grind [fa]
theorem Mu{c:Call}{f:Operand}{g:FuncId}{bf args:List aa}(hC:jq X.P F.DI C)(ar:∀g r,mW X.nb g=some r->wi X.P F.DI C g r.1)(fu:mW X.nb g=none)(aE:o.op=.call c)(de:c.callee=.value f)(aQ:s.ay f=.fn g bf)(aI:lf F (some b) m0 s)
  (au:∀m,pw m0 m->im F.DI m args (c.args.toList.map s.ay++bf)) {bw:Tree} (oE:∀ω,(C ω g args).isSome) (aB:∀ω v,C ω g args=some v->bN X.P C n bw (ρ++[v]) R) (ad:Rel F S ρ ids s) (h:K (S.var.put o.dst (.e (.var S.cd)))=.ok bw):qf X F C n R K S ρ b m0 s o:=by
 unfold qf mY;simp only[aE,de,aQ];obtain⟨v0,pD⟩:=Option.isSome_iff_exists.1 (oE gP);refine⟨hC.fn _ _ _ _ pD,PV hC ar au oE _ (λr ad=>by grind),?_⟩;intro v eR ek;unfold n5 at ek;rw[fu]at ek;obtain⟨rfl,ae,ω,ai⟩:=ek;rw[Dq (au m0 ⟨Nat.le_refl _,λ_ _=>rfl⟩)]at ai;have ao:({ s with m:={ s.m with an:=s.m.an } }:aA)=s:=rfl;have hb:=ad.bind v false (by simp);obtain⟨g1,g2⟩:=fO ad v ae;exact⟨⟨_,_,ids,bw,h,hb.put o.dst (by exact⟨g2.symm,g1⟩),aB ω v ai,(Ext.bind S ρ v false).put _ _⟩,AP aI _ _⟩
theorem Wy{c:Call}{f:Operand}{g:FuncId}{bf args:List aa}{r:Option (Nat×Nat)×Nat×Bool}(hC:jq X.P F.DI C)(ar:∀g r,mW X.nb g=some r->wi X.P F.DI C g r.1)(zV:mW X.nb g=some r)(aE:o.op=.call c)(de:c.callee=.value f)(aQ:s.ay f=.fn g bf)(aI:lf F (some b) m0 s)
  (au:∀m,pw m0 m->im F.DI m args (c.args.toList.map s.ay++bf)) {bw:Tree} (oE:∀ω,(C ω g args).isSome) (aB:∀ω v,C ω g args=some v->bN X.P C n bw (ρ++[v]) R) (ad:Rel F S ρ ids s) (h:uI r (.var S.cd) o.dst S.var K=.ok bw):qf X F C n R K S ρ b m0 s o:=by
 unfold qf mY;simp only[aE,de,aQ];obtain⟨v0,pD⟩:=Option.isSome_iff_exists.1 (oE gP);refine⟨hC.fn _ _ _ _ pD,PV hC ar au oE _ (λbR ir ω p ae=>?_),?_⟩
 ·rw[zV]at ir;injection ir with ir;subst ir;exact Wa (X:=X) h ad (aB ω p ae) (hC.plain _ _ _ _ ae) _
 ·intro v eR ek;unfold n5 at ek;rw[zV]at ek;obtain⟨p,ω,ai,ae,l7,nj⟩:=ek;rw[Dq (au m0 ⟨Nat.le_refl _,λ_ _=>rfl⟩)]at ai;obtain⟨pK,pL,uZ,tO,k1,k2,bP,cX⟩:=NP (X:=X) (m':={ s.m with an:=eR }) h ad (aB ω p ai) ae nj rfl l7;exact⟨⟨pK,pL,uZ,tO,k1,k2,bP,cX⟩,AP (s:={ s with m:={ s.m with an:=eR } }) ⟨aI.1,aI.2.1,aI.2.2⟩ _ _⟩
theorem NT{DI:List aa->Prop}{m:Mem}:∀{b:List aa},bG b=true->im DI m b b
 |[],_=>rfl
 |q::b,h=>by
  simp[bG]at h;exact⟨q,b,rfl,.inl ⟨rfl,h.1.1⟩,NT h.2⟩
theorem Nf{DI:List aa->Prop}{m:Mem}:∀{a a' b a6:List aa},im DI m a a'->im DI m b a6->im DI m (a++b) (a'++a6)
 |[],a',b,a6,h,k=>by grind [im]
 |p::a,a',b,a6,⟨q,aG,e,U,ab⟩,k=>by subst e;exact⟨q,aG++a6,rfl,U,Nf ab k⟩
theorem HY{ck:List Nat}{fy:Sym->M}(h:thaw (some b) key ck S fy=.ok t):fy S=.ok t:=by
 unfold thaw at h;split at h
 ·exact h
 trivial
theorem abn{c:Call}{f:Operand}(aq:ri X F.DI C n inl yl)(aE:o.op=.call c)(de:c.callee=.value f)(h:AK X inl yl (some b) key o f c.args.toList S K=.ok t)(ad:Rel F S ρ ids s)(aI:lf F (some b) m0 s)(aB:bN X.P C n t ρ R):qf X F C n R K S ρ b m0 s o:=by
 unfold AK at h;split at h
 ·split at h
  ·split at h
   ·cases h
   ·split at h
    ·trivial
    ·split at h
     ·trivial
     split at h
     ·trivial
     split at h
     ·grind
     ·have h:=HY h;split at h
      ·rename_i g' afq pJ;split at h
       ·rename_i CB;subst CB;split at h
        ·rename_i a7 gy;obtain⟨bw,a1,h⟩:=EO h;have eH:=ad.ay f;rw[pJ]at eH;obtain⟨aG,e,ak⟩:=eH;subst h;obtain⟨U,ab⟩:=aB.call;split at a1
         ·rename_i r Bq;split at a1
          ·exact Wy (args:=ep ρ a7) aq.c aq.own Bq aE de e aI (λm hm=>uo ad aI hm gy (Ak (qX ad _) (yj ak))) U ab ad a1
          ·all_goals trivial
         ·rename_i Bq;exact Mu (args:=ep ρ a7) aq.c aq.own Bq aE de e aI (λm hm=>uo ad aI hm gy (Ak (qX ad _) (yj ak))) U ab ad a1
        ·cases h
       ·cases h
      ·cases h
  ·cases h
 ·split at h
  ·cases h
  rename_i KE;have KE:X.nb=[]:=by simpa using KE
  have h:=HY h;split at h
  ·rename_i x aj;split at h
   ·rename_i a7 gy;obtain⟨bw,a1,h⟩:=EO h;subst h;obtain⟨g,bf,e,U,ab⟩:=aB.kL;have eH:=ad.ay f;rw[aj]at eH;have e':s.ay f=.fn g bf:=by rw[eH.1];exact e
    have cD:(s.ay f).plain=true:=by rw[eH.1];exact aR.jJ eH.2
    rw[e']at cD;have LG:bG bf=true:=by simpa only[aa.plain]using cD
    exact Mu (args:=ep ρ a7++bf) aq.c aq.own (by rw[KE];rfl) aE de e' aI (λm hm=>Nf (uo ad aI hm gy (qX ad _)) (NT LG)) U ab ad a1
   ·cases h
  ·cases h
 ·cases h
 ·cases h
theorem aec(aw:F.P=X.P)(aq:ri X F.DI C n inl yl)(h:sQ X inl yl (some b) key o S K=.ok t)(ad:Rel F S ρ ids s)(aI:lf F (some b) m0 s)(aB:bN X.P C n t ρ R):qf X F C n R K S ρ b m0 s o:=by
 unfold sQ at h;split at h
 ·rename_i x aE;exact jl (by simp[hX,aE]) aI (ic h ad aB (by grind [bV]) (ad.ay x))
 ·rename_i x aE;exact jl (by simp[hX,aE]) aI (ic h ad aB (by grind [bV]) (ad.ay x))
 ·grind [jl,hX,Q1]
 ·rename_i op ty x y Gl aE;split at h
  ·grind [jl,hX,R2]
  ·cases h
 ·rename_i ty x aE;split at h
  ·rename_i b ae;obtain⟨e,_⟩:=ad.cu ae;exact jl (by simp[hX,aE]) aI (ic h ad aB (pv:=.bool !b) (by simp only[bV,aE,e];rfl) (by trivial))
  ·grind [jl,hX,E9]
  ·cases h
 ·rename_i op ty x _ aE;split at h
  ·grind [jl,hX,E9]
  ·cases h
 ·rename_i a b x aE;split at h
  ·grind [jl,hX,Q4]
  ·cases h
 ·grind [jl,hX,R0]
 ·grind [jl,hX,R1]
 ·grind [jl,hX,PN]
 ·grind [jl,hX,OM]
 ·grind [jl,hX,MI]
 ·rename_i ty x i aE;split at h
  ·grind [jl,hX,PO]
  ·cases h
 ·grind [jl,hX,Q3]
 ·rename_i ty x y aE;unfold DC at h;split at h
  ·cases h
  ·rename_i aV;have nX:o.dst=none:=by simp_all
   have c1:(X.P.info? ty).isSome:=by cases bq:X.P.info? ty<;>simp[bq]at aV⊢
   split at h
   ·rename_i i off aj;obtain⟨aK,aO,bS,b8,l,en,l9,L6,ue⟩:=NO (lx:=some b) aj h ad aB;obtain⟨rfl,BW,sh⟩:=L6 b rfl;unfold qf mY;simp only[aE];refine⟨nX,c1,bS,b8,F.n0+i,l,aK,by rw[aI.1];omega,by rw[ad.dt];omega,en,sh,?_⟩;rw[Yk sh]at ue;refine⟨ue,aI.1,aI.2.1,λj aC=>?_⟩;have jB:j<F.n0+b:=by rw[←aI.1];exact aC
    simp only[aA.hq,qK _ _ _ _ (by omega:j≠F.n0+i)];exact aI.2.2 j aC
   ·simp only[Option.isSome_some,true_or,if_true]at h;cases h
   ·injection h with h;grind [QZ]
   ·cases h
 ·rename_i ty x aE;obtain⟨c,ba,bY,t1,U,ab,al,aJ,bm,bI,cS⟩:=Ax h ad (ad.ay x) aB;unfold qf mY;simp only[aE];refine⟨cS,⟨ba.gu o.dst c,bY,ids,t1,U,ab.gu o.dst bI,al,aJ.trans ?_⟩,Nd aI _ _⟩;rw[HU];have aj:Ext ba bY (ba.mq c) bY:=⟨List.prefix_refl _,rfl,rfl,rfl,rfl,rfl,by simp[Sym.mq],rfl⟩;exact aj.put _ _
 ·rename_i ty aE;split at h
  ·rename_i z bO;split at h
   ·rename_i ae;unfold qf mY;simp only[aE];refine⟨z,bO,⟨S.gu o.dst (oJ z),ρ,ids,t,h,ad.gu o.dst (wB ae),aB,?_⟩,Nd aI _ _⟩;rw[HU];have aj:Ext S ρ (S.mq (oJ z)) ρ:=⟨List.prefix_refl _,rfl,rfl,rfl,rfl,rfl,by simp[Sym.mq],rfl⟩;exact aj.put _ _
   ·cases h
  ·cases h
 ·grind [jl,hX,PQ]
 ·grind [jl,hX,VM]
 ·rename_i ty l c aE;simp only[D8,Option.isSome_some,if_true]at h;cases h
 ·rename_i ty x cw aX aE;unfold HS at h;have h:=HY h;split at h
  ·grind [jl,hX,ok_slice]
  ·cases h
 ·rename_i f first bf aE
  split at h
  ·cases h
  grind [jl,hX,M9]
 ·rename_i c aE;split at h
  ·rename_i f de;exact abn aq aE de h ad aI aB
  ·rename_i de;split at h
   ·rename_i ty x a1 aj;exact jl (by simp[hX,aE,de]) aI (R6 aE de a1 aj h ad aB)
   ·cases h
  ·rename_i de;split at h
   ·rename_i l ak;exact jl (by simp[hX,aE,de]) aI (R4 aE de ak h ad aB)
   ·cases h
  ·rename_i de;split at h
   ·rename_i l ak;exact jl (by simp[hX,aE,de]) aI (R5 aE de ak h ad aB)
   ·cases h
  ·rename_i de;split at h
   ·split at h
    ·simp only[Dl,Option.isSome_some,if_true]at h;cases h
    ·cases h
   ·cases h
  ·cases h
 ·simp[pe,die]at h
 ·simp[o7,die]at h
 ·simp[ps,die]at h
 ·simp[pR,die]at h
 ·simp[pH,die]at h
 ·simp only[pure,Except.pure,Except.ok.injEq]at h;subst h;obtain⟨o,ar,_⟩:=aB gP;simp[eval]at ar
 ·simp only[pure,Except.pure,Except.ok.injEq]at h;subst h;obtain⟨o,ar,_⟩:=aB gP;simp[eval]at ar
 ·cases h
theorem HZ{ba:Sym}{bY:List aa}{s':aA}(aj:Ext S ρ ba bY)(h:vj X F C n R K ba bY b m0 s'):vj X F C n R K S ρ b m0 s':=⟨nL aj h.1,h.2⟩
theorem Eo(aw:F.P=X.P)(aq:ri X F.DI C n inl yl):∀(l:List Oper)(i:Nat){S:Sym}{ρ:List aa}{ids:Nat->Option Nat}{s:aA}{t:Tree},kh X inl yl (some b) ops e2 l i S K=.ok t->Rel F S ρ ids s->lf F (some b) m0 s->bN X.P C n t ρ R ->
  kO X.P m0 (n5 X C) ops l s λs'=>vj X F C n R K S ρ b m0 s'
 |[],i,S,ρ,ids,s,t,h,ad,aI,aB=>by exact⟨⟨S,ρ,ids,t,h,ad,aB,Ext.refl S ρ⟩,aI⟩
 |o::l,i,S,ρ,ids,s,t,h,ad,aI,aB=>by
  have run:∀{S:Sym}{t:Tree},sQ X inl yl (some b) (e2*1000+i) o S (λS=>kh X inl yl (some b) ops e2 l (i+1) S K)=.ok t->Rel F S ρ ids s->bN X.P C n t ρ R ->
    mY X.P m0 (n5 X C) s o λs'=>kO X.P m0 (n5 X C) ops l s' λs'=>vj X F C n R K S ρ b m0 s':=λ{S t} h ad aB=>
   DJ (λs' ao=>by
    obtain⟨⟨br,b1,dK,bw,U,ab,al,aJ⟩,bm⟩:=ao;exact sC (λl6 h=>HZ aJ h) l s' (Eo aw aq l (i+1) U ab bm al)) (aec aw aq h ad aI aB)
  have skip:∀{S:Sym}{t:Tree},kh X inl yl (some b) ops e2 l (i+1) (S.put o.dst .undef) K=.ok t->Rel F S ρ ids s->bN X.P C n t ρ R->kO X.P m0 (n5 X C) ops l (s.put o.dst .undef) λs'=>vj X F C n R K S ρ b m0 s':=λ{S t} h ad aB=>
   sC (λl6 h=>HZ ((Ext.refl S ρ).put _ _) h) l _ (Eo aw aq l (i+1) h (PU ad o.dst) (AP aI _ _) aB)
  have back:∀{d:Nat}{v:aL}{s':aA},vj X F C n R K (S.put (some d) v) ρ b m0 s'->vj X F C n R K S ρ b m0 s':=λh=>HZ ((Ext.refl S ρ).put _ _) h;simp only[kh]at h;simp only[kO,ld];split at h
  ·grind
  ·rename_i j want aN;simp only[aN];split at h
   ·grind
   ·rename_i d aV;simp only[aV];have hB:=ad.slot d;split at h
    ·grind [bZ]
    ·grind [bZ,aR.den]
    ·rename_i x _ ai;rw[ai]at hB;cases want with
     |true=>
      obtain⟨a,b,au,hb,rfl⟩:=Ez h;rcases aB.ite with⟨U,ab⟩|⟨U,ab⟩
      ·have e:s.g d=.bool true:=by rw[hB.1];exact U
       simp only[e,if_true];exact DJ (λs' h=>sC (λl6 h=>back h) l s' h) (run au (uz ad e) ab)
      ·have e:s.g d=.bool false:=by rw[hB.1];exact U
       simp[e,if_false];exact sC (λl6 h=>back h) l _ (skip hb (uz ad e) ab)
     |false=>
      obtain⟨a,b,au,hb,rfl⟩:=Ez h;rcases aB.ite with⟨U,ab⟩|⟨U,ab⟩
      ·have e:s.g d=.bool true:=by rw[hB.1];exact U
       simp[e,if_false];exact sC (λl6 h=>back h) l _ (skip au (uz ad e) ab)
      ·have e:s.g d=.bool false:=by rw[hB.1];exact U
       simp only[e,if_true];exact DJ (λs' h=>sC (λl6 h=>back h) l s' h) (run hb (uz ad e) ab)
    ·cases h
where
 DJ {s:aA} {o:Oper} {K fy:aA->Prop} (aq:∀s,K s->fy s) (h:mY X.P m0 (n5 X C) s o K):mY X.P m0 (n5 X C) s o fy:=by
  unfold mY at *;split at h
  ·obtain⟨z,U,ab⟩:=h;exact⟨z,U,aq _ ab⟩
  ·exact⟨h.1,aq _ h.2⟩
  ·obtain⟨U,ab,al,aJ,id,l,bm,bI,cS,et,gp,h7⟩:=h;exact⟨U,ab,al,aJ,id,l,bm,bI,cS,et,gp,aq _ h7⟩
  ·split at h
   ·split at h
    ·exact⟨h.1,h.2.1,λv eR ek=>aq _ (h.2.2 v eR ek)⟩
    ·exact h.elim
   ·obtain⟨v,U,ab⟩:=h;exact⟨v,U,aq _ ab⟩
  ·obtain⟨v,U,ab⟩:=h;exact⟨v,U,aq _ ab⟩
 sC {K fy:aA->Prop} (aq:∀s,K s->fy s):∀(l:List Oper)(s:aA),kO X.P m0 (n5 X C) ops l s K->kO X.P m0 (n5 X C) ops l s fy
  |[],s,h=>aq s h
  |o::l,s,h=>Hy h (DJ λs' h=>sC aq l s' h) (λh=>sC aq l _ h)
end
end
section
open Go Go.RowKit
variable[cQ]
theorem RI{a b:aa}(h:Cx a b=true):a=b:=by
 unfold Cx at h;grind
theorem aR.dh:∀{x y:aR},x.b y=true->x=y
 |.var i,y,h=>by cases y<;>simp[aR.b]at h;rw[h]
 |.proj x j,y,h=>by
  cases y<;>simp[aR.b]at h;rw[h.1,aR.dh h.2]
 |.bu v,y,h=>by
  cases y<;>simp[aR.b]at h;rw[RI h]
theorem e9.dh{x y:e9}(h:x.b y=true):x=y:=by cases x<;>cases y<;>simp[e9.b]at h<;>first|rfl|rw[aR.dh h]
mutual
theorem aL.dh:∀{x y:aL},x.b y=true->x=y
 |.e x,y,h=>by cases y<;>simp[aL.b]at h;rw[aR.dh h]
 |.undef,y,h=>by cases y<;>simp[aL.b]at h;rfl
 |.bT,y,h=>by cases y<;>simp[aL.b]at h
 |.ptr i o,y,h=>by cases y<;>simp[aL.b]at h;rw[h.1,h.2]
 |.aV i o z,y,h=>by cases y<;>simp[aL.b]at h;rw[h.1.1,h.1.2,h.2]
 |.c8,y,h=>by cases y<;>simp[aL.b]at h;rfl
 |.cq a,y,h=>by cases y<;>simp[aL.b]at h;rw[h]
 |.own k,y,h=>by cases y<;>simp[aL.b]at h;rw[h]
 |.fF k x fo,y,h=>by cases y<;>simp[aL.b]at h;rw[h.1.1,aR.dh h.1.2,h.2]
 |.fQ x s fo,y,h=>by cases y<;>simp[aL.b]at h;rw[aR.dh h.1.1,h.1.2,h.2]
 |.ft l a,y,h=>by cases y<;>simp[aL.b]at h;rw[h.1,yP h.2]
 |.fn f l,y,h=>by cases y<;>simp[aL.b]at h;rw[h.1,yP h.2]
 |.agg l,y,h=>by cases y<;>simp[aL.b]at h;rw[yP h]
 |.bD l,y,h=>by cases y<;>simp[aL.b]at h;rw[yP h]
 |.lit a b l,y,h=>by cases y<;>simp[aL.b]at h;rw[h.1.1,h.1.2,yP h.2]
theorem yP:∀{l m:List aL},rF l m=true->l=m
 |[],m,h=>by cases m<;>simp[rF]at h;rfl
 |x::l,m,h=>by
  cases m with
  |nil=>simp[rF]at h
  |cons y m=>
   simp[rF]at h;rw[aL.dh h.1,yP h.2]
end
theorem Jo{a b:Option c6}(h:tS a b=true):a=b:=by
 cases a with
 |none=>grind [tS]
 |some a=>cases b with
  |none=>trivial
  |some b=>
   simp[tS]at h;cases a;cases b;grind [e9.dh,aR.dh]
mutual
theorem Yl{n a k:Nat}(h:n<=k):∀q:aa,q.cT n a->q.cH k=q
 |.int _ _,_ | .bool _,_ | .str _,_ | .undef,_ | .bad,_ | .ca,_ | .eL,_ | .bC,_ | .dead _,_ | .cq _,_=>by simp only[aa.cH]
 |.ptr i o,hb=>by
  simp only[aa.cT]at hb;simp only[aa.cH];rw[if_pos (by omega)]
 |.aV i o z,hb=>by
  simp only[aa.cT]at hb;simp only[aa.cH];rw[if_pos (by omega)]
 |.sl id _ _ _ cs,hb=>by
  have:e5 n a cs:=by cases id<;>simp only[aa.cT]at hb<;>first|exact hb|exact hb.2
  simp only[aa.cH,vY h cs this]
 |.bJ id _ cs,hb=>by
  have:e5 n a cs:=by cases id<;>simp only[aa.cT]at hb<;>first|exact hb|exact hb.2
  simp only[aa.cH,vY h cs this]
 |.fn _ cs,hb=>by simp only[aa.cH,vY h cs (by simpa only[aa.cT]using hb)]
 |.agg cs,hb=>by simp only[aa.cH,vY h cs (by simpa only[aa.cT]using hb)]
 |.bD cs,hb=>by simp only[aa.cH,vY h cs (by simpa only[aa.cT]using hb)]
 |.mp _ _ _ _,hb=>by simp only[aa.cH]
theorem vY{n a k:Nat}(h:n<=k):∀c:List aa,e5 n a c->iR k c=c
 |[],_=>by simp only[iR]
 |p::a7,hb=>by
  simp only[e5]at hb;simp only[iR,Yl h p hb.1,vY h a7 hb.2]
end
theorem WW(s:aA){n:Nat}(aI:n<=s.m.n)(aT:s.a0.n<=n)(Cn:s.a0.a<=s.m.an)(he:∀e∈s.bb,e.clean):dW s (s.trim n):=by
 refine⟨rfl,λφ w N a A ao au aW=>⟨φ.cut n s.m.an,N8 ao aI,?_⟩⟩;have ah:=DT (n:=n) (an:=s.m.an) he au.st (λi b hb=>Nat.lt_of_lt_of_le (aW.2.1 i b hb) aT) (λi b hb=>Nat.lt_of_lt_of_le (aW.1 i b hb) Cn);exact⟨by simp_all,au.a8.trans ⟨Nat.le_refl _,λb _ ar _=>⟨rfl,λk=>ar (pZ k)⟩⟩⟩
section
variable{F:cP}{S ba H:Sym}{ρ bY:List aa}{ids kP:Nat->Option Nat}{s s1:aA}{af:List aa}{idsH:Nat->Option Nat}
structure mc(F:cP)(nJ E k7:Env)(H:Sym)(hn:Nat):Prop where
 gr:nJ.ρ<+:E.ρ
 Vv:nJ.ρ<+:k7.ρ
 fw:nJ.fw=k7.fw
 bd:k7.bd=H.bd
 arr:∀k cs a,k<hn->H.arr k=some a->(∃a',E.bd.getD k none=some a'/\a'.rel E k cs)->a.rel k7 k cs/\k7.ids k=E.ids k/\(∀a',E.bd.getD k none=some a'->a'.sz=a.sz/\a'.born=a.born)
theorem RG{E:Env}{v:aL}(h:bZ F E v .bad):v=.bT:=by
 cases v with
 |bT=>rfl
 |e x=>grind [bZ,aR.jJ,aa.plain]
 |own k=>
  obtain⟨a,cs,_,_,h⟩:=h;have:=wm a.born (E.ids k) a.sz cs;rw[←h]at this;cases this
 |_=>grind [bZ]
theorem Zf{N:Nat}{b:e9}{id:Option Nat}{sz:Nat}{cs:List aa}(ae:bG cs=true):(mO b id sz cs).cH N=mO b id sz cs:=by
 unfold mO;grind [aa.cH,ox]
mutual
theorem mc.ow{nJ E k7:Env}{hn:Nat}(m:mc F nJ E k7 H hn):∀{v:aL}{q hE:aa},v.qj H hn=true->bZ F nJ v hE->bZ F E v q->bZ F k7 v (q.cH (F.n0+k7.fw))
 |.e x,q,hE,a1,aT,h=>by
  unfold bZ at aT h⊢;obtain⟨aK,_⟩:=aR.j9 m.gr aT.2;obtain⟨aO,k2⟩:=aR.j9 m.Vv aT.2;rw[Df _ q (by rw[h.1];exact aR.jJ h.2)];exact⟨by rw[h.1,aK,aO],k2⟩
 |.undef,q,hE,a1,aT,h=>by
  unfold bZ at h⊢;rw[h];simp only[aa.cH]
 |.bT,q,hE,a1,aT,h=>by simp only[bZ]
 |.ptr i o,q,hE,a1,aT,h=>by
  unfold bZ at aT h⊢;have aX:i<k7.fw:=by rw[←m.fw];exact aT.2
  rw[h.1];simp only[aa.cH];rw[if_pos (by omega)];exact⟨rfl,aX⟩
 |.aV i o z,q,hE,a1,aT,h=>by
  unfold bZ at aT h⊢;have aX:i<k7.fw:=by rw[←m.fw];exact aT.2
  rw[h.1];simp only[aa.cH];rw[if_pos (by omega)];exact⟨rfl,aX⟩
 |.c8,q,hE,a1,aT,h=>by
  unfold bZ at h⊢;rw[h.1];simp only[aa.cH];rw[if_pos (by have:=h.2.1;omega)];exact⟨rfl,h.2⟩
 |.cq _,q,hE,a1,aT,h=>by
  simp only[bZ]at h⊢;obtain⟨l,U,rfl⟩:=h;exact⟨l,U,by simp only[aa.cH]⟩
 |.own k,q,hE,a1,aT,h=>by
  simp only[aL.qj,Bool.and_eq_true,decide_eq_true_eq]at a1;obtain⟨a,au⟩:=Option.isSome_iff_exists.1 a1.2;unfold bZ at h⊢;obtain⟨a',cs,U,ab,al⟩:=h;obtain⟨g1,g2,g3⟩:=m.arr k cs a a1.1 au ⟨a',U,ab⟩;refine⟨a,cs,by rw[m.bd];exact au,g1,?_⟩;rw[al,g2,(g3 a' U).1,(g3 a' U).2];unfold mO;split
  ·split<;>simp only[aa.cH,ox _ cs ab.plain]
  ·simp only[aa.cH]
 |.fF _ _ _,q,hE,a1,aT,h=>by simp[aL.qj]at a1
 |.fQ x sz fo,q,hE,a1,aT,h=>by
  unfold bZ at aT h⊢;obtain⟨cs,off,lI,U,ab,al,aJ⟩:=h;obtain⟨gD,_,_,k1,k2,_,_⟩:=aT;obtain⟨aK,_⟩:=aR.j9 m.gr k2;obtain⟨aO,bP⟩:=aR.j9 m.Vv k2;have ae:bG cs=true:=by have:=aR.jJ ab;rw[U]at this;simpa only[aa.plain]using this
  refine⟨cs,off,lI.map (aa.cH (F.n0+k7.fw)),by rw[aO,←aK];exact U,bP,al,?_⟩;rw[aJ];simp only[aa.cH,o3,List.map_append];congr 2;rw[←o3,ox _ _ (qJ ae fo)]
 |.ft l fo,q,hE,a1,aT,h=>by
  simp only[aL.qj]at a1;unfold bZ at aT h⊢;obtain⟨aG,U,ab,al⟩:=h;obtain⟨fY,k1,_,_⟩:=aT;have:=mc.nx m a1 k1 U;rw[←o3,ox _ aG ab]at this;refine⟨aG,this,ab,?_⟩;rw[al];simp only[aa.cH,ox _ _ (qJ ab fo)]
 |.fn f l,q,hE,a1,aT,h=>by
  simp only[aL.qj]at a1;unfold bZ at aT h⊢;obtain⟨aG,rfl,ab⟩:=h;obtain⟨fY,_,k2⟩:=aT;exact⟨_,by simp only[aa.cH,o3],mc.nx m a1 k2 ab⟩
 |.agg l,q,hE,a1,aT,h=>by
  simp only[aL.qj]at a1;unfold bZ at aT h⊢;obtain⟨aG,rfl,ab⟩:=h;obtain⟨fY,_,k2⟩:=aT;exact⟨_,by simp only[aa.cH,o3],mc.nx m a1 k2 ab⟩
 |.bD l,q,hE,a1,aT,h=>by
  simp only[aL.qj]at a1;unfold bZ at aT h⊢;obtain⟨aG,rfl,ab⟩:=h;obtain⟨fY,_,k2⟩:=aT;exact⟨_,by simp only[aa.cH,o3],mc.Cy m a1 k2 ab⟩
 |.lit sz len l,q,hE,a1,aT,h=>by
  simp only[aL.qj]at a1;unfold bZ at aT h⊢;obtain⟨aG,rfl,ab,al,aJ⟩:=h;obtain⟨fY,_,k2,_,_⟩:=aT;have:=mc.nx m a1 k2 ab;rw[←o3,ox _ aG al]at this;exact⟨aG,by simp only[aa.cH,ox _ aG al],this,al,aJ⟩
theorem mc.nx{nJ E k7:Env}{hn:Nat}(m:mc F nJ E k7 H hn):∀{l:List aL}{aG fY:List aa},rk H hn l=true->cJ F nJ l fY->cJ F E l aG->cJ F k7 l (aG.map (aa.cH (F.n0+k7.fw)))
 |[],aG,fY,a1,aT,h=>by simp only[cJ]at h;subst h;simp[cJ]
 |v::af,aG,fY,a1,aT,h=>by
  simp only[rk,Bool.and_eq_true]at a1;simp only[cJ]at aT h;obtain⟨q,r,rfl,U,ab,al⟩:=h;obtain⟨hE,r0,_,k1,_,bP⟩:=aT;simp only[List.map_cons,cJ];refine⟨_,_,rfl,mc.ow m a1.1 k1 U,?_,mc.nx m a1.2 bP al⟩;rcases ab with ab|ab
  ·exact .inl ab
  ·have xN:=mc.ow m a1.1 k1 U;cases q with
   |ptr i o=>
    simp only[aa.cH]at xN⊢;split at xN
    ·rename_i ah;rw[if_pos ah];exact .inr rfl
    ·exact .inl (RG xN)
   |aV i o z=>
    simp only[aa.cH]at xN⊢;split at xN
    ·rename_i ah;rw[if_pos ah];exact .inr rfl
    ·exact .inl (RG xN)
   |undef=>simp[aa.one]at ab
   |bad=>simp[aa.one]at ab
   |agg _=>simp[aa.one]at ab
   |bD _=>simp[aa.one]at ab
   |_=>exact .inr rfl
theorem mc.Cy{nJ E k7:Env}{hn:Nat}(m:mc F nJ E k7 H hn):∀{l:List aL}{aG fY:List aa},rk H hn l=true->hk F nJ l fY->hk F E l aG->hk F k7 l (aG.map (aa.cH (F.n0+k7.fw)))
 |[],aG,fY,a1,aT,h=>by simp only[hk]at h;subst h;simp[hk]
 |v::af,aG,fY,a1,aT,h=>by
  simp only[rk,Bool.and_eq_true]at a1;simp only[hk]at aT h;obtain⟨q,r,rfl,U,al⟩:=h;obtain⟨hE,r0,_,k1,bP⟩:=aT;simp only[List.map_cons,hk];exact⟨_,_,rfl,mc.ow m a1.1 k1 U,mc.Cy m a1.2 bP al⟩
end
end
end
end Go.Proofs.YtlminnpaeaganaaGreat
