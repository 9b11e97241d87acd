/- Part of the proof of RuleKnown. No condition. -/
import Derived.Test.YtlminnpaeaganaaGreatMKnownAR
namespace Go.Proofs.YtlminnpaeaganaaGreat
set_option maxRecDepth 100000
set_option linter.all false
section
open Go Go.RowKit
variable[cQ]
section
variable{X:Ctx}{F:cP}{C:b2->FuncId->List aa->Option aa}{n:Nat}{R:Out->Prop}{S:Sym}{ρ:List aa}{ids:Nat->Option Nat}{s:aA}{K:Sym->M}{t:Tree}{o:Oper}{m0:Mem}{inl yl:fh}{lx:Option Nat}{key:Nat}
theorem sH{p:Prim}(h:emit p true S (λv S=>K (S.put o.dst (.e v)))=.ok t)(ad:Rel F S ρ ids s)(aB:bN X.P C n t ρ R)
  (ae:∀v,p.run X.P ρ=some v->v.plain=true/\v.one=true) (ai:p.run X.P ρ=bV X.P m0 s.ay o):jr X F C n R K S ρ s m0 o:=by
 obtain⟨v,U,ab⟩:=aa7 h ad aB ae;exact⟨v,by grind,ab⟩
theorem R2{op:BinOp}{ty Gl:TypeId}{x y:Operand}{p q:aS}(aE:o.op=.binOp op ty x y Gl)(ae:(S.ay x).cu=some p)(aH:(S.ay y).cu=some q)(h:emit (.bin op ty p q) true S (λv S=>K (S.put o.dst (.e v)))=.ok t)(ad:Rel F S ρ ids s)(aB:bN X.P C n t ρ R):jr X F C n R K S ρ s m0 o:=
 sH h ad aB (λv ai=>Ya ai) (by simp only[bV,aE,Prim.run,(ad.cu ae).1,(ad.cu aH).1])
theorem E9{op:UnOp}{ty:TypeId}{x:Operand}{p:aS}(aE:o.op=.unOp op ty x)(ae:(S.ay x).cu=some p)(h:emit (.un op p) true S (λv S=>K (S.put o.dst (.e v)))=.ok t)(ad:Rel F S ρ ids s)(aB:bN X.P C n t ρ R):jr X F C n R K S ρ s m0 o:=
 sH h ad aB (λv ai=>ZA ai) (by simp only[bV,aE,Prim.run,(ad.cu ae).1])
theorem Q4{a b:TypeId}{x:Operand}{p:aS}(aE:o.op=.convert a b x)(ae:(S.ay x).cu=some p)(h:emit (.conv a b p) true S (λv S=>K (S.put o.dst (.e v)))=.ok t)(ad:Rel F S ρ ids s)(aB:bN X.P C n t ρ R):jr X F C n R K S ρ s m0 o:=
 sH h ad aB (λv ai=>W6 ai) (by simp only[bV,aE,Prim.run,(ad.cu ae).1])
theorem PO{ty:TypeId}{x y:Operand}{p q:aS}(aE:o.op=.index ty x y)(ae:(S.ay x).cu=some p)(aH:(S.ay y).cu=some q)(h:emit (.idx ty p q) true S (λv S=>K (S.put o.dst (.e v)))=.ok t)(ad:Rel F S ρ ids s)(aB:bN X.P C n t ρ R):jr X F C n R K S ρ s m0 o:=
 sH h ad aB (λv ai=>Ws (by rw[←(ad.cu ae).1];exact(ad.cu ae).2) ai) (by simp only[bV,aE,Prim.run,(ad.cu ae).1,(ad.cu aH).1])
theorem R3(ad:Rel F S ρ ids s){x:Option Operand}{p:Option aS}(h:zY S x=some p):x.map s.ay=p.map (aS.den ρ):=by
 cases x with
 |none=>grind [zY]
 |some x=>
  obtain⟨q,aH,rfl⟩:=Option.map_eq_some_iff.1 h;simp[(ad.cu aH).1]
theorem ok_slice{ty:TypeId}{x:Operand}{cw aX:Option Operand}{p:aS}{a b:Option aS}(aE:o.op=.slice ty x cw aX none)(ae:(S.ay x).cu=some p)(au:zY S cw=some a)(hb:zY S aX=some b)
  (h:emit (.slice ty p a b) true S (λv S=>K (S.put o.dst (.e v)))=.ok t) (ad:Rel F S ρ ids s) (aB:bN X.P C n t ρ R):jr X F C n R K S ρ s m0 o:=
 sH h ad aB (λv ai=>Wr (by rw[←(ad.cu ae).1];exact(ad.cu ae).2) ai) (by simp only[bV,aE,Prim.run,(ad.cu ae).1,R3 ad au,R3 ad hb])
theorem R4{c:Call}{l:List aS}(aE:o.op=.call c)(ah:c.callee=.builtin .min)(ak:hT (c.args.toList.map S.ay)=some l)(h:emit (.iz false l) true S (λv S=>K (S.put o.dst (.e v)))=.ok t)(ad:Rel F S ρ ids s)(aB:bN X.P C n t ρ R):jr X F C n R K S ρ s m0 o:=
 sH h ad aB (λv ai=>Yc (by simpa[Prim.run,xK,if_false]using ai)) (by simp[bV,aE,ah,Prim.run,xK,if_false,(ad.evs _ _ ak).1])
theorem R5{c:Call}{l:List aS}(aE:o.op=.call c)(ah:c.callee=.builtin .max)(ak:hT (c.args.toList.map S.ay)=some l)(h:emit (.iz true l) true S (λv S=>K (S.put o.dst (.e v)))=.ok t)(ad:Rel F S ρ ids s)(aB:bN X.P C n t ρ R):jr X F C n R K S ρ s m0 o:=
 sH h ad aB (λv ai=>Yd (by simpa only[Prim.run,xK,if_true]using ai)) (by simp only[bV,aE,ah,Prim.run,xK,if_true,(ad.evs _ _ ak).1])
theorem aa8{P:Program}{ty e:TypeId}{k:Nat}(hu:P.underlying ty=some (.array k e))(x:aa):ht P ty x=some (.int .i64 k):=by simp only[ht,hu]
theorem R6{c:Call}{ty:TypeId}{x:Operand}(aE:o.op=.call c)(ah:c.callee=.builtin .len)(a1:c.argTypes[0]?=some ty)(aj:c.args.toList=[x])(h:I3 X o ty x S K=.ok t)(ad:Rel F S ρ ids s)(aB:bN X.P C n t ρ R):jr X F C n R K S ρ s m0 o:=by
 have eW:bV X.P m0 s.ay o=ht X.P ty (s.ay x):=by simp only[bV,aE,ah,a1,aj]
 unfold I3 at h;have UU:=ad.ay x;split at h
 ·rename_i b sz len hb;rw[hb]at UU;simp only[bZ]at UU;split at h
  ·rename_i e hu;exact ic h ad aB (pv:=.int .i64 len) (by rw[eW,UU.1];simp only[ht,hu]) (by unfold bZ;exact⟨rfl,rfl⟩)
  ·cases h
 ·rename_i k hb;rw[hb]at UU;simp only[bZ]at UU;obtain⟨a,cs,U,ab,al⟩:=UU;split at h
  ·rename_i e a' hu kR;have:a'=a:=by have:=kR.symm.trans U;injection this
   subst this;split at h
   ·cases h
   rename_i ak;have oI:a'.born.j2=true:=by simpa using ak
   refine sH h ad aB (λv ai=>?_) ?_
   ·simp only[Prim.run,Bg]at ai;split at ai
    ·injection ai with ai;subst ai;exact⟨rfl,rfl⟩
    ·cases ai
   ·have aK:a'.c.den ρ=.agg cs:=ab.2.1;simp only[Prim.run,Bg,aK];rw[eW,al,la oI];have aO:(S.env ρ ids).ids k=ids k:=rfl;rw[aO];cases aX:ids k with
    |some id=>simp only[ht,hu]
    |none=>
     have:cs=[]:=Classical.byContradiction λbU=>by
      obtain⟨id,cr⟩:=ab.some bU;have KB:ids k=some id:=cr;rw[aX]at KB;cases KB
     subst this;simp[ht,hu]
  ·cases h
 ·rename_i fu;split at h
  ·rename_i k e hu;exact ic h ad aB (by rw[eW,aa8 hu]) (by unfold bZ;exact⟨rfl,rfl⟩)
  ·split at h
   ·rename_i p ae;exact sH h ad aB (λv ai=>Yb ai) (by rw[eW];simp only[Prim.run,(ad.cu ae).1])
   ·cases h
theorem NJ(ad:Rel F S ρ ids s):∀(l:List Operand),(∀x∈l,(S.ay x=.bT\/(s.ay x).one=true))->cJ F (S.env ρ ids) (l.map S.ay) (l.map s.ay)
 |[],_=>by simp[cJ]
 |x::l,h=>by exact⟨_,_,rfl,ad.ay x,h x (by simp),NJ ad l λy aF=>h y (by simp[aF])⟩
theorem aa9(ad:Rel F S ρ ids s){x:aR}(h:S.E6 x=true)(aq:x.ok ρ):(x.den ρ).one=true:=by
 cases x with
 |bu v=>exact h
 |proj e j=>exact Zz (aR.jJ aq.1) aq.2
 |var i=>
  simp[Sym.E6]at h;exact ad.cU i h
theorem NK(ad:Rel F S ρ ids s){v:aL}{q:aa}(h:v.yN S=true)(ai:bZ F (S.env ρ ids) v q):v=.bT\/q.one=true:=by
 cases v with
 |e x=>
  simp only[bZ]at ai;simp only[aL.yN]at h;exact .inr (by rw[ai.1];exact aa9 ad h ai.2)
 |bT=>exact .inl rfl
 |ptr i o=>simp only[bZ]at ai;rw[ai.1];exact .inr rfl
 |aV i o z=>simp only[bZ]at ai;rw[ai.1];exact .inr rfl
 |c8=>simp only[bZ]at ai;rw[ai.1];exact .inr rfl
 |own k=>
  simp only[bZ]at ai;obtain⟨a,cs,_,_,rfl⟩:=ai;exact .inr (wm _ _ _ _)
 |fn f l=>simp only[bZ]at ai;obtain⟨aG,rfl,_⟩:=ai;exact .inr rfl
 |lit a b l=>simp only[bZ]at ai;obtain⟨aG,rfl,_⟩:=ai;exact .inr rfl
 |ft l o=>simp only[bZ]at ai;obtain⟨aG,_,_,rfl⟩:=ai;exact .inr rfl
 |cq y=>simp only[bZ]at ai;obtain⟨l,_,rfl⟩:=ai;exact .inr rfl
 |_=>simp[aL.yN]at h
structure kq(S br:Sym):Prop where
 g:br.g=S.g
 bx:br.bx=S.bx
 bd:br.bd=S.bd
 bb:br.bb=S.bb
theorem kq.refl(S:Sym):kq S S:=⟨rfl,rfl,rfl,rfl⟩
theorem kq.trans{S ba ji:Sym}(h:kq S ba)(k:kq ba ji):kq S ji:=⟨k.g.trans h.g,k.bx.trans h.bx,k.bd.trans h.bd,k.bb.trans h.bb⟩
theorem kq.bind(S:Sym)(cU:Bool):kq S (S.bind cU):=⟨rfl,rfl,rfl,rfl⟩
theorem kq.ay{S br:Sym}(h:kq S br)(x:Operand):br.ay x=S.ay x:=by cases x<;>simp only[Sym.ay,Sym.get,h.g]
theorem kq.le{S br:Sym}{ρ b1:List aa}{ids:Nat->Option Nat}(h:kq S br)(ae:ρ<+:b1):(S.env ρ ids).le (br.env b1 ids):=
 ⟨ae,λk a au=>by simp only[Sym.env,h.bd]at au⊢;exact au,by simp only[Sym.env,h.bx];grind,λ_ _ _=>rfl⟩
def R7(X:Ctx)(F:cP)(C:b2->FuncId->List aa->Option aa)(n:Nat)(R:Out->Prop)(ids:Nat->Option Nat)(s:aA)(S:Sym)(ρ:List aa)(K:List aL->Sym->M)(q:aa):Prop:=
 ∃c br b1 bw,K c br=.ok bw/\Rel F br b1 ids s/\bN X.P C n bw b1 R/\Ext S ρ br b1/\kq S br/\cJ F (br.env b1 ids) c q.cells/\q.known=true
theorem OL{q:aa}(h:q.one=true):q.cells=[q]/\q.known=true:=by cases q<;>simp[aa.one]at h<;>exact⟨rfl,rfl⟩
theorem Ax{ty:TypeId}{v:aL}{K:List aL->Sym->M}{q:aa}(h:uP X ty v S K=.ok t)(ad:Rel F S ρ ids s)(ai:bZ F (S.env ρ ids) v q)(aB:bN X.P C n t ρ R):R7 X F C n R ids s S ρ K q:=by
 have single:∀u,K [u] S=.ok t->bZ F (S.env ρ ids) u q->q.one=true->R7 X F C n R ids s S ρ K q:=λu aq hu ar=>by
  obtain⟨aK,aO⟩:=OL ar;refine⟨[u],S,ρ,t,aq,ad,aB,Ext.refl S ρ,kq.refl S,?_,aO⟩;rw[aK];simp only[cJ];exact⟨q,[],rfl,hu,.inr ar,rfl⟩
 have lR:∀u,u.yN S=true->u.E5=true->bZ F (S.env ρ ids) u q->q.one=true:=λu ah ao hu=>(NK ad ah hu).resolve_left λe=>by subst e;cases ao
 unfold uP at h;split at h
 ·rename_i l aN;split at h
  ·rename_i ak;have iw:=ai;simp only[bZ]at iw;obtain⟨aG,rfl,er⟩:=iw;exact⟨l,S,ρ,t,h,ad,aB,Ext.refl S ρ,kq.refl S,er,rfl⟩
  ·cases h
 ·rename_i x aN;simp only[bZ]at ai;obtain⟨bw,a1,rfl⟩:=ig h;obtain⟨v,gm,aB⟩:=aB.av;simp only[Prim.run,vc,aS.den]at gm;split at gm
  ·rename_i cs hcs;split at gm
   ·rename_i ak;injection gm with gm;subst gm;have aH:q=.agg cs:=by rw[ai.1];exact hcs
    subst aH;have ae:(aa.agg cs).plain=true:=by rw[ai.1];exact aR.jJ ai.2
    have hb:=ad.bind (x.den ρ) false (by simp);obtain⟨g1,g2⟩:=fO ad (x.den ρ) (by rw[hcs];exact ae);refine⟨_,_,_,bw,a1,hb,aB,Ext.bind S ρ _ false,kq.bind S false,ym (g2.trans hcs) g1 ak,rfl⟩
   ·cases gm
  ·cases gm
 ·rename_i x aN;split at h
  ·rename_i ar;exact single _ h ai (lR (.e x) ar rfl ai)
  ·simp only[bZ]at ai;obtain⟨bw,a1,rfl⟩:=ig h;obtain⟨v,gm,aB⟩:=aB.av;change na (x.den ρ)=some v at gm;unfold na at gm;by_cases ar:(aR.den ρ x).one=true
   ·rw[if_pos ar]at gm;injection gm with gm;subst gm;have hb:=ad.bind (x.den ρ) true (λ_=>ar);obtain⟨g1,g2⟩:=fO ad (x.den ρ) (aR.jJ ai.2);have aH:q=x.den ρ:=ai.1;obtain⟨aK,aO⟩:=OL (q:=q) (by rw[aH];exact ar);refine⟨_,_,_,bw,a1,hb,aB,Ext.bind S ρ _ true,kq.bind S true,?_,aO⟩;rw[aK];simp only[cJ];refine⟨q,[],rfl,?_,.inr (by rw[aH];exact ar),rfl⟩;unfold bZ;exact⟨aH.trans g2.symm,g1⟩
   ·rw[if_neg ar]at gm;cases gm
 ·exact single _ h ai (lR _ rfl rfl ai)
 ·exact single _ h ai (lR _ rfl rfl ai)
 ·exact single _ h ai (lR _ rfl rfl ai)
 ·exact single _ h ai (lR _ rfl rfl ai)
 ·exact single _ h ai (lR _ rfl rfl ai)
 ·exact single _ h ai (lR _ rfl rfl ai)
 ·exact single _ h ai (lR _ rfl rfl ai)
 ·exact single _ h ai (lR _ rfl rfl ai)
 ·cases h
theorem ad9{E:Env}{l:List aL}{aG:List aa}{j:Nat}{v:aL}{q:aa}(h:cJ F E l aG)(ai:l[j]?=some v)(aH:aG[j]?=some q):bZ F E v q:=((jL.1 h).2 _ _ _ ai aH).1
theorem OM{ty:TypeId}{x:Operand}{f:Nat}(aE:o.op=.field ty x f)(h:Hp X o ty x f S K=.ok t)(ad:Rel F S ρ ids s)(aB:bN X.P C n t ρ R):jr X F C n R K S ρ s m0 o:=by
 unfold Hp at h;have ah:=ad.ay x;split at h
 ·rename_i fs hu;split at h
  ·rename_i fd aQ;split at h
   ·rename_i TP;split at h
    ·rename_i l hb;rw[hb]at ah;obtain⟨aG,e,ak⟩:=ah;split at h
     ·rename_i v ai;have aU:fd.offset<aG.length:=by grind [mi]
      have aH:aG[fd.offset]?=some aG[fd.offset]:=by simp[aU]
      exact ic h ad aB (by grind [bV,yB]) ((jL.1 ak).2 _ _ _ ai aH).1
     ·cases h
    ·rename_i e hb;rw[hb]at ah;simp only[bZ]at ah;split at h
     ·rename_i aU;obtain⟨bw,a1,rfl⟩:=ig h;obtain⟨v,gm,aB⟩:=aB.av;simp only[Prim.run,vc,aS.den]at gm;split at gm
      ·rename_i cs hcs;split at gm
       ·rename_i ak;injection gm with gm;subst gm;have aH:s.ay x=.agg cs:=by rw[ah.1];exact hcs
        have ae:(aa.agg cs).plain=true:=by grind [aR.jJ]
        have dB:=ad.bind (e.den ρ) false (by simp);obtain⟨g1,g2⟩:=fO ad (e.den ρ) (by grind);have iu:fd.offset<cs.length:=by omega
        have ai4:cs[fd.offset]?=some cs[fd.offset]:=by simp[iu]
        have ai:((List.range (X.P.cellsOf ty)).map λj=>aL.e (.proj (.var S.cd) j))[fd.offset]?=some (.e (.proj (.var S.cd) fd.offset)):=by simp[aU]
        refine⟨_,by grind [bV,yB],_,_,ids,bw,a1,dB.put o.dst (ad9 (ym (g2.trans hcs) g1 ak) ai ai4),aB,(Ext.bind S ρ _ false).put _ _⟩
       ·cases gm
      ·cases gm
     ·cases h
    ·cases h
   ·cases h
  ·cases h
 ·cases h
end
end
section
open Go Go.RowKit
variable[cQ]
section
variable{X:Ctx}{F:cP}{C:b2->FuncId->List aa->Option aa}{n:Nat}{R:Out->Prop}{S:Sym}{ρ:List aa}{ids:Nat->Option Nat}{s:aA}{K:Sym->M}{t:Tree}{o:Oper}{m0:Mem}{inl yl:fh}{lx:Option Nat}{key:Nat}{E:Env}
theorem Dp:∀{a:List aL}{a':List aa}{b:List aL}{a6:List aa},cJ F E a a'->cJ F E b a6->cJ F E (a++b) (a'++a6)
 |[],a',b,a6,h,k=>by simp only[cJ]at h;subst h;simpa using k
 |v::a,a',b,a6,h,k=>by
  simp only[cJ]at h;obtain⟨q,r,rfl,U,ab,al⟩:=h;simp only[List.cons_append,cJ];exact⟨q,r++a6,rfl,U,ab,Dp al k⟩
theorem aba{a:List aL}{a':List aa}(h:cJ F E a a')(k:Nat):cJ F E (a.take k) (a'.take k):=by
 refine jL.2 ⟨by simp[mi h],λj v q ai aH=>?_⟩;rw[List.getElem?_take]at ai aH;split at ai
 ·rename_i aC;rw[if_pos aC]at aH;exact(jL.1 h).2 j v q ai aH
 ·cases ai
theorem abb{a:List aL}{a':List aa}(h:cJ F E a a')(k:Nat):cJ F E (a.drop k) (a'.drop k):=by
 refine jL.2 ⟨by simp[mi h],λj v q ai aH=>?_⟩;rw[List.getElem?_drop]at ai aH;exact(jL.1 h).2 _ v q ai aH
theorem NL{l af:List aL}{aG cB:List aa}(h:cJ F E l aG)(k:cJ F E af cB)(off:Nat):cJ F E (AX l off af) (fa aG off cB):=by
 unfold AX fa;rw[mi k];exact Dp (Dp (aba h _) k) (abb h _)
theorem wB:∀{z:List aa},bG z=true->cJ F E (oJ z) z
 |[],_=>by simp[oJ,cJ]
 |q::z,h=>by
  simp only[bG,Bool.and_eq_true]at h;simp only[oJ,cJ];exact⟨q,z,rfl,by unfold bZ;exact⟨rfl,h.1.1⟩,.inr h.1.2,wB h.2⟩
theorem Iw{z:List aL}{dy:List aa}(h:cJ F E z dy):∀k,cJ F E (E7 z k) (e8 dy k)
 |0=>by simp[E7,e8,cJ]
 |k+1=>Dp h (Iw h k)
def s0(F:cP)(E:Env):List (Nat×List aL)->List (Nat×aa)->Prop
 |[],l=>l=[]
 |(i,c)::cs,l=>∃q aG,l=(i,q)::aG/\cJ F E c q.cells/\q.known=true/\s0 F E cs aG
theorem s0.mono{E':Env}(h:E.le E'):∀{cs:List (Nat×List aL)}{l:List (Nat×aa)},s0 F E cs l->s0 F E' cs l
 |[],l,k=>k
 |(i,c)::cs,l,⟨q,aG,e,U,ab,al⟩=>⟨q,aG,e,cJ.mono h U,ab,s0.mono h al⟩
theorem AN{place:Nat->Option (Nat×Nat)}:∀{a7:List (Nat×List aL)}{bz:List (Nat×aa)}{c:List aL}{c':List aa}{l:List aL},s0 F E a7 bz->cJ F E c c'->w7 place c a7=some l ->
  ∃aG,kJ place c' bz=some aG/\cJ F E l aG
 |[],bz,c,c',l,ae,ah,h=>by
  simp only[s0]at ae;subst ae;simp only[w7,Option.some.injEq]at h;subst h;exact⟨c',rfl,ah⟩
 |(i,v)::a7,bz,c,c',l,ae,ah,h=>by
  obtain⟨q,Lm,rfl,U,ab,al⟩:=ae;simp only[w7]at h;split at h
  ·cases h
  ·rename_i off size cD;split at h
   ·rename_i hx;obtain⟨aG,g1,g2⟩:=AN al (NL ah U off) h;refine⟨aG,?_,g2⟩;simp only[kJ,cD];rw[if_pos ⟨ab,by rw[←mi U];exact hx.1,by rw[←mi ah];exact hx.2⟩];exact g1
   ·cases h
theorem NM:∀{l:List (Nat×TypeId×aL)}{K:List (Nat×List aL)->Sym->M}{bz:List (Nat×aa)}{S:Sym}{ρ:List aa}{t:Tree},wA X l S K=.ok t->Rel F S ρ ids s->bN X.P C n t ρ R ->
  (∀E:Env,(S.env ρ ids).le E->True)->l.map (λp=>p.1)=bz.map (λp=>p.1)->(∀(j:Nat) p q,l[j]?=some p->bz[j]?=some q->bZ F (S.env ρ ids) p.2.2 q.2) ->
  ∃cs br b1 bw,K cs br=.ok bw/\Rel F br b1 ids s/\bN X.P C n bw b1 R/\Ext S ρ br b1/\kq S br/\s0 F (br.env b1 ids) cs bz
 |[],K,bz,S,ρ,t,h,ad,aB,_,ak,ai=>by
  cases bz with
  |nil=>exact⟨[],S,ρ,t,h,ad,aB,Ext.refl S ρ,kq.refl S,rfl⟩
  |cons _ _=>simp at ak
 |(i,ty,v)::l,K,bz,S,ρ,t,h,ad,aB,_,ak,ai=>by
  cases bz with
  |nil=>simp at ak
  |cons q bz=>
   simp only[List.map_cons,List.cons.injEq]at ak;obtain⟨cm,q⟩:=q;simp only at ak;obtain⟨rfl,ak⟩:=ak;simp only[wA]at h;obtain⟨c,ba,bY,t1,U,ab,al,aJ,bm,bI,cS⟩:=Ax h ad (ai 0 _ _ rfl rfl) aB;have hle:(S.env ρ ids).le (ba.env bY ids):=bm.le aJ.pre;obtain⟨cs,ji,kD,t2,g1,g2,g3,g4,g5,g6⟩:=NM U ab al (λ_ _=>trivial) ak (λj p q ae aH=>bZ.mono hle (ai (j+1) p q ae aH));exact⟨(i,c)::cs,ji,kD,t2,g1,g2,g3,aJ.trans g4,bm.trans g5,q,bz,rfl,cJ.mono (g5.le g4.pre) bI,cS,g6⟩
theorem Ec(ad:Rel F S ρ ids s)(parts:Array (Nat×Operand))(f:Nat×Operand->TypeId){K:List (Nat×List aL)->Sym->M}
  (h:wA X (parts.toList.map λp=>(p.1,f p,S.ay p.2)) S K=.ok t) (aB:bN X.P C n t ρ R):
  ∃cs br b1 bw,K cs br=.ok bw/\Rel F br b1 ids s/\bN X.P C n bw b1 R/\Ext S ρ br b1/\kq S br/\s0 F (br.env b1 ids) cs (parts.toList.map λp=>(p.1,s.ay p.2)):=by
 refine NM h ad aB (λ_ _=>trivial) (by simp) λj p q ae aH=>?_;rw[List.getElem?_map]at ae aH;cases aC:parts.toList[j]? with
 |none=>rw[aC]at ae;cases ae
 |some x=>
  rw[aC]at ae aH;simp only[Option.map_some,Option.some.injEq]at ae aH;subst ae;subst aH;exact ad.ay x.2
theorem PQ{ty:TypeId}{parts:Array (Nat×Operand)}(aE:o.op=.build ty parts)(h:HR X o ty parts S K=.ok t)(ad:Rel F S ρ ids s)(aB:bN X.P C n t ρ R):jr X F C n R K S ρ s m0 o:=by
 have eW:bV X.P m0 s.ay o=sI X.P ty (parts.toList.map λp=>(p.1,s.ay p.2)):=by simp only[bV,aE]
 unfold HR at h;split at h
 ·rename_i fs z hu bO;split at h
  ·rename_i hx;obtain⟨cs,ba,bY,t1,U,ab,al,aJ,bm,bI⟩:=Ec ad parts _ h aB;split at U
   ·rename_i l ak;obtain⟨aG,g1,g2⟩:=AN bI (wB hx.1) ak;refine⟨.agg aG,?_,_,_,ids,t1,U,ab.put o.dst (by unfold bZ;exact⟨aG,rfl,g2⟩),al,aJ.put _ _⟩;rw[eW];simp only[sI,hu,bO];rw[if_pos hx.2,g1];rfl
   ·cases U
  ·cases h
 ·rename_i k e z hu bO;split at h
  ·rename_i hx;obtain⟨cs,ba,bY,t1,U,ab,al,aJ,bm,bI⟩:=Ec ad parts _ h aB;split at U
   ·rename_i l ak;obtain⟨aG,g1,g2⟩:=AN bI (wB hx.1) ak;refine⟨.agg aG,?_,_,_,ids,t1,U,ab.put o.dst (by unfold bZ;exact⟨aG,rfl,g2⟩),al,aJ.put _ _⟩;rw[eW];simp only[sI,hu,bO];rw[if_pos hx.2,g1];rfl
   ·cases U
  ·cases h
 ·cases h
theorem G1{place:Nat->Option (Nat×Nat)}:∀{bz:List (Nat×aa)}{c l:List aa},kJ place c bz=some l->l.length=c.length
 |[],c,l,h=>by simp only[kJ,Option.some.injEq]at h;rw[h]
 |(i,v)::bz,c,l,h=>by
  simp only[kJ]at h;split at h
  ·cases h
  ·rename_i off size ae;split at h
   ·rename_i ah;rw[G1 h];unfold fa;simp;omega
   ·cases h
theorem M9{f:FuncId}{first bf:Array Operand}(aE:o.op=.makeFunc (.func f) first bf)(aQ:first.size=0)(h:K (S.put o.dst (.fn f (bf.toList.map S.ay)))=.ok t)(ah:(bf.toList.all λx=>(S.ay x).yN S)=true)(ad:Rel F S ρ ids s)(aB:bN X.P C n t ρ R):jr X F C n R K S ρ s m0 o:=by
 have pJ:first=#[]:=Array.eq_empty_of_size_eq_zero aQ
 refine ic h ad aB (pv:=.fn f (bf.toList.map s.ay)) (by simp only[bV,aE];rw[if_pos pJ]) ?_;unfold bZ;exact⟨_,rfl,NJ ad _ λx aj=>NK ad (List.all_eq_true.1 ah x aj) (ad.ay x)⟩
end
end
section
open Go Go.RowKit
variable[cQ]
mutual
theorem ZC{n a:Nat}{e:b9}(he:a<=e.id):∀q:aa,q.cT n a->q.bW e=q
 |.int _ _,_ | .bool _,_ | .str _,_ | .undef,_ | .bad,_ | .ca,_ | .eL,_ | .bC,_ | .dead _,_ | .cq _,_ | .ptr _ _,_ | .aV _ _ _,_=>by simp only[aa.bW]
 |.sl none _ _ _ cs,h=>by simp only[aa.bW,sw he cs (by simpa only[aa.cT]using h)]
 |.sl (some i) _ _ _ cs,h=>by
  simp only[aa.cT]at h;have ah:=sw he cs h.2;cases e with
  |kill j=>simp only[b9.id]at he;simp only[aa.bW];rw[if_neg (by omega),ah]
  |wr j p v=>simp only[b9.id]at he;simp only[aa.bW];rw[if_neg (by omega),ah]
 |.bJ none _ cs,h=>by simp only[aa.bW,sw he cs (by simpa only[aa.cT]using h)]
 |.bJ (some i) _ cs,h=>by
  simp only[aa.cT]at h;have ah:=sw he cs h.2;cases e with
  |kill j=>simp only[b9.id]at he;simp only[aa.bW];rw[if_neg (by omega),ah]
  |wr j p v=>simp only[b9.id]at he;simp only[aa.bW];rw[if_neg (by omega),ah]
 |.fn _ cs,h=>by simp only[aa.bW,sw he cs (by simpa only[aa.cT]using h)]
 |.agg cs,h=>by simp only[aa.bW,sw he cs (by simpa only[aa.cT]using h)]
 |.bD cs,h=>by simp only[aa.bW,sw he cs (by simpa only[aa.cT]using h)]
 |.mp _ none _ _,h=>by simp only[aa.bW]
 |.mp _ (some i) _ cs,h=>by
  simp only[aa.cT]at h;cases e with
  |kill j=>simp only[b9.id]at he;simp only[aa.bW];rw[if_neg (by omega)]
  |wr j p v=>simp only[b9.id]at he;simp only[aa.bW];rw[if_neg (by omega)]
theorem sw{n a:Nat}{e:b9}(he:a<=e.id):∀l:List aa,e5 n a l->eF e l=l
 |[],_=>by simp only[eF]
 |p::a7,h=>by
  simp only[e5]at h;simp only[eF,ZC he p h.1,sw he a7 h.2]
end
mutual
theorem ZD{n a id:Nat}(he:a<=id):∀q:aa,q.cT n a->q.bK id=q
 |.int _ _,_ | .bool _,_ | .str _,_ | .undef,_ | .bad,_ | .ca,_ | .eL,_ | .bC,_ | .dead _,_ | .cq _,_ | .ptr _ _,_ | .aV _ _ _,_=>by simp only[aa.bK]
 |.sl none _ _ _ cs,h=>by simp only[aa.bK,sx he cs (by simpa only[aa.cT]using h)]
 |.sl (some i) _ _ _ cs,h=>by
  simp only[aa.cT]at h;simp only[aa.bK];rw[if_neg (by omega),sx he cs h.2]
 |.bJ none _ cs,h=>by simp only[aa.bK,sx he cs (by simpa only[aa.cT]using h)]
 |.bJ (some i) _ cs,h=>by
  simp only[aa.cT]at h;simp only[aa.bK];rw[if_neg (by omega),sx he cs h.2]
 |.fn _ cs,h=>by simp only[aa.bK,sx he cs (by simpa only[aa.cT]using h)]
 |.agg cs,h=>by simp only[aa.bK,sx he cs (by simpa only[aa.cT]using h)]
 |.bD cs,h=>by simp only[aa.bK,sx he cs (by simpa only[aa.cT]using h)]
 |.mp _ none _ _,h=>by simp only[aa.bK]
 |.mp _ (some i) _ _,h=>by
  simp only[aa.cT]at h;simp only[aa.bK];rw[if_neg (by omega)]
theorem sx{n a id:Nat}(he:a<=id):∀l:List aa,e5 n a l->iW id l=l
 |[],_=>by simp only[iW]
 |p::a7,h=>by
  simp only[e5]at h;simp only[iW,ZD he p h.1,sx he a7 h.2]
end
section
variable{X:Ctx}{F:cP}{C:b2->FuncId->List aa->Option aa}{n:Nat}{R:Out->Prop}{S:Sym}{ρ:List aa}{ids:Nat->Option Nat}{s:aA}{K:Sym->M}{t:Tree}{o:Oper}{m0:Mem}{inl yl:fh}{lx:Option Nat}{key:Nat}{E:Env}
theorem ac0(h:Rel F S ρ ids s){EE:List b9}(he:∀e∈EE,F.hG<=e.id){i:Nat}(aX:i<F.n0):(s.m.β i).sub EE=F.lH i:=by
 rw[h.old i aX];have:∀(EE:List b9)(c:di),(∀e∈EE,F.hG<=e.id)->(∀l,c=.cells l->e5 F.n0 F.hG l)->c.sub EE=c:=by
  intro EE;induction EE with
  |nil=>simp_all
  |cons e EE az=>
   intro c he ah;have U:c.bW e=c:=by
    cases c with
    |cells l=>
     simp only[di.bW];rw[←pV,sw (he e (by simp)) l (ah l rfl)]
    |inv I=>rfl
    |hole=>rfl
   simp_all[di.sub]
 exact this EE _ he (λl ak=>h.kZ i l aX ak)
def Sym.mq(S:Sym)(l:List aL):Sym:={ S with bx:=S.bx++[ga.cells l] }
theorem HU(d:Option Tmp)(l:List aL):S.gu d l=(S.mq l).put d (.ptr S.bx.length 0):=rfl
theorem ZE(l:List aL):(S.env ρ ids).le ((S.mq l).env ρ ids):=⟨List.prefix_refl _,λ_ _ h=>h,by simp[Sym.env,Sym.mq],λ_ _ _=>rfl⟩
theorem Rel.mq(h:Rel F S ρ ids s){l:List aL}{aG:List aa}(ak:cJ F (S.env ρ ids) l aG):Rel F (S.mq l) ρ ids { s with m:={ s.m with β:=ea s.m.β s.m.n (.cells aG),n:=s.m.n+1 } }:=by
 have hle:=ZE (S:=S) (ρ:=ρ) (ids:=ids) l;refine⟨h.len,h.cU,λt=>bZ.mono hle (h.slot t),by simp[Sym.mq,h.dt];omega,λi aX=>?_,λi b hb=>?_,h.hO,h.mv,λk a au=>?_,h.a0,h.cV,h.kY,h.bb,h.new,h.keep,h.dO,h.lG,by have:=h.mS;simp[Sym.mq];omega,h.an,h.kZ,h.rc⟩
 ·have:=h.dt;simp only[qK _ _ _ _ (by omega:i≠s.m.n)];exact h.old i aX
 ·simp only[Sym.mq,List.getElem?_append]at hb;have aI:=h.dt;split at hb
  ·rename_i aU;simp only[qK _ _ _ _ (by omega:F.n0+i≠s.m.n)];exact Ex hle (h.box i b hb)
  ·rename_i h3;have:i=S.bx.length:=by
    have:=(List.getElem?_eq_some_iff.1 hb).1;simp at this;omega
   subst this;simp at hb;subst hb;rw[←aI];simp only[NW];exact⟨aG,rfl,cJ.mono hle ak⟩
 ·obtain⟨cs,ah⟩:=h.arr k a au;exact⟨cs,c6.rel.mono hle au ah⟩
theorem Rel.gu(h:Rel F S ρ ids s)(d:Option Tmp){l:List aL}{aG:List aa}(ak:cJ F (S.env ρ ids) l aG):Rel F (S.gu d l) ρ ids (s.gu d aG):=by
 rw[HU,aA.gu];refine Rel.put (h.mq ak) d ?_;unfold bZ;exact⟨by rw[h.dt],by simp[Sym.env,Sym.mq]⟩
theorem Ci(d:Option Tmp)(sz len:Nat)(l:List aL):S.dz d sz len l=(S.mq l).put d (.aV S.bx.length sz len):=rfl
theorem Ext.dz(S:Sym)(ρ:List aa)(d:Option Tmp)(sz len:Nat)(l:List aL):Ext S ρ (S.dz d sz len l) ρ:=by
 rw[Ci];have aj:Ext S ρ (S.mq l) ρ:=⟨List.prefix_refl _,rfl,rfl,rfl,rfl,rfl,by simp[Sym.mq],rfl⟩;exact aj.put _ _
theorem Rel.dz(h:Rel F S ρ ids s)(d:Option Tmp)(sz len:Nat){l:List aL}{aG:List aa}(ak:cJ F (S.env ρ ids) l aG):Rel F (S.dz d sz len l) ρ ids (s.dz d sz len aG):=by
 rw[Ci,aA.dz];refine Rel.put (h.mq ak) d ?_;unfold bZ;exact⟨by rw[h.dt],by simp[Sym.env,Sym.mq]⟩
theorem Rel.hq(h:Rel F S ρ ids s){i:Nat}{b:ga}(aX:S.bx[i]?=some b){l:List aL}{aG:List aa}(ak:cJ F (S.env ρ ids) l aG):Rel F (S.hq i l) ρ ids (s.hq (F.n0+i) aG):=by
 have aU:i<S.bx.length:=(List.getElem?_eq_some_iff.1 aX).1;have he:(S.hq i l).env ρ ids=S.env ρ ids:=by simp[Sym.env,Sym.hq]
 refine⟨h.len,h.cU,λt=>by rw[he];exact h.slot t,by simp[Sym.hq,h.dt],λj aC=>?_,λj c ah=>?_,h.hO,h.mv,by exact h.arr,h.a0,h.cV,h.kY,h.bb,h.new,h.keep,h.dO,h.lG,by have:=h.mS;grind [Sym.hq],h.an,h.kZ,h.rc⟩
 ·simp only[aA.hq,qK _ _ _ _ (by omega:j≠F.n0+i)];exact h.old j aC
 ·rw[he];simp only[Sym.hq,List.getElem?_set]at ah;split at ah
  ·rename_i dL;subst dL;simp  at ah;subst ah;simp ;exact⟨aG,rfl,ak⟩
  ·simp only[aA.hq,qK _ _ _ _ (by omega:F.n0+j≠F.n0+i)];exact h.box j c ah
def eA(ids:Nat->Option Nat)(k:Nat)(x:Option Nat):Nat->Option Nat:=λj=>if j=k then x else ids j
theorem abc(a:c6)(x:Option Nat):(S.env ρ ids).le (({ S with bd:=S.bd++[some a] }:Sym).env ρ (eA ids S.bd.length x)):=by
 have aU:∀k b,S.bd.getD k none=some b->k<S.bd.length:=λk b hb=>by grind
 refine⟨List.prefix_refl _,λk b hb=>?_,Nat.le_refl _,λk b hb=>?_⟩
 ·grind [Sym.env]
 ·have:=aU k b hb;simp only[Sym.env,eA];grind
theorem Rel.Fa(h:Rel F S ρ ids s){a:c6}{cs:List aa}{x:Option Nat}(au:a.c.ok ρ)(ah:a.c.den ρ=.agg cs)(bX:0<a.sz)(ak:cs.length=cs.length/a.sz*a.sz)(hb:isNil ρ a.born cs=some x.isNone)(aV:∀y,a.born=.dyn y->y.ok ρ)
  {s':aA} (aN:s'.g=s.g) (fW:s'.m.β=s.m.β) (aI:s'.m.n=s.m.n) (l7:s.m.an<=s'.m.an) (aj:∀id,x=some id->s.m.an<=id/\id<s'.m.an) (aT:s'.a0=s.a0) (he:s'.bb=s.bb) (fb:s'.m.rc=s.m.rc):
  Rel F { S with bd:=S.bd++[some a] } ρ (eA ids S.bd.length x) s'/\a.rel (({ S with bd:=S.bd++[some a] }:Sym).env ρ (eA ids S.bd.length x)) S.bd.length cs:=by
 have hle:=abc (S:=S) (ρ:=ρ) (ids:=ids) a x;have gM:a.rel (({ S with bd:=S.bd++[some a] }:Sym).env ρ (eA ids S.bd.length x)) S.bd.length cs:=⟨au,ah,bX,ak,by simp_all[Sym.env,eA],aV⟩;refine⟨⟨h.len,h.cU,λt=>by rw[aN];exact bZ.mono hle (h.slot t),by rw[aI];exact h.dt,λi aX=>by rw[fW];exact h.old i aX,λi b hb=>by rw[fW];exact Ex hle (h.box i b hb),λk id aq=>?_,λk j id aq aC=>?_,λk b hb=>?_,by rw[aT];exact h.a0,h.cV,by rw[he];exact h.kY,by rw[he];exact h.bb,λlA k id aq h3=>?_,λlA k aU=>?_,h.dO,by have:=h.lG;simp;omega,h.mS,Nat.le_trans h.an l7,h.kZ,by rw[fb];exact h.rc⟩,gM⟩
 ·simp only[eA]at aq;split at aq
  ·rename_i e;subst e;obtain⟨U,ab⟩:=aj id aq;exact⟨by have:=h.an;have:=h.cV.1;omega,ab,by simp⟩
  ·obtain⟨U,ab,al⟩:=h.hO k id aq;grind
 ·simp only[eA]at aq aC;split at aq<;>split at aC
  ·omega
  ·obtain⟨U,ab⟩:=aj id aq;have:=(h.hO j id aC).2.1;omega
  ·obtain⟨U,ab⟩:=aj id aC;have:=(h.hO k id aq).2.1;omega
  ·exact h.mv k j id aq aC
 ·rcases Nat.lt_trichotomy k S.bd.length with aU|rfl|amu
  ·have dB:S.bd.getD k none=some b:=by grind
   obtain⟨cs',gv⟩:=h.arr k b dB;exact⟨cs',c6.rel.mono hle dB gv⟩
  all_goals grind
 ·simp only[eA]at aq;split at aq
  ·obtain⟨U,ab⟩:=aj id aq;have:=h.an;omega
  ·exact h.new lA k id aq h3
 ·have ab:k<S.base:=aU;have U:=h.lG;obtain⟨g1,g2⟩:=h.keep lA k ab;grind [eA]
end
end
section
open Go Go.RowKit
variable[cQ]
theorem Ep(EE:List b9)(i o:Nat):aa.sub EE (.ptr i o)=.ptr i o:=by
 induction EE with
 |nil=>rfl
 |cons e EE az=>assumption
theorem DL(EE:List b9)(i o z:Nat):aa.sub EE (.aV i o z)=.aV i o z:=by
 induction EE with
 |nil=>rfl
 |cons e EE az=>simp only[aa.sub,aa.bW,az]
theorem abd(EE:List b9):aa.sub EE .bC=.bC:=OJ EE rfl
theorem Wt{EE:List b9}{id:Nat}(h:∀e∈EE,e.id≠id){sz off len:Nat}{cs:List aa}(ah:bG cs=true):aa.sub EE (.sl (some id) sz off len cs)=.sl (some id) sz off len cs:=by
 induction EE with
 |nil=>rfl
 |cons e EE az=>
  have U:aa.bW e (.sl (some id) sz off len cs)=.sl (some id) sz off len cs:=by
   have bU:=h e (by simp);cases e with
   |kill j=>grind [b9.id,aa.bW,pS]
   |wr j p v=>grind [b9.id,aa.bW,pS]
  grind [aa.sub]
theorem VJ{EE:List b9}{id:Nat}(h:∀e∈EE,e.id≠id){off:Nat}{cs:List aa}(ah:bG cs=true):aa.sub EE (.bJ (some id) off cs)=.bJ (some id) off cs:=by
 induction EE with
 |nil=>rfl
 |cons e EE az=>
  have U:aa.bW e (.bJ (some id) off cs)=.bJ (some id) off cs:=by
   have bU:=h e (by simp);cases e with
   |kill j=>grind [b9.id,aa.bW,pS]
   |wr j p v=>grind [b9.id,aa.bW,pS]
  grind [aa.sub]
theorem Wu(EE:List b9)(l:List aa):di.sub EE (.cells l)=.cells (l.map (aa.sub EE)):=by
 induction EE generalizing l with
 |nil=>simp[aa.sub]
 |cons e EE az=>
  show di.sub EE (.cells (l.map (aa.bW e)))=_;rw[az,List.map_map];rfl
theorem Ye(EE:List b9)(I:List aa->Prop):di.sub EE (.inv I)=.inv I:=by
 induction EE with
 |nil=>rfl
 |cons e EE az=>exact az
theorem Na{a:Nat}{e:b9}:∀{l:List b9},e∈pX a l->e∈l
 |[],h=>h
 |x::l,h=>by
  simp only[pX]at h;split at h
  ·exact List.mem_cons_of_mem _ (Na h)
  ·exact h
theorem Hn{a:Nat}{e:b9}{l EE:List b9}(h:e∈gV a l EE):e∈l\/e∈EE:=by
 cases l with
 |nil=>exact .inr (Na h)
 |cons x l=>exact List.mem_append.1 h
theorem Da{a:Nat}:∀{l:List b9},(∀e∈l,a<=e.id)->pX a l=[]
 |[],_=>rfl
 |x::l,h=>by
  simp only[pX];rw[if_pos (h x (by simp))];exact Da λe he=>h e (by simp[he])
theorem G2{id:Nat}:∀{EE:List b9}(_:∀e∈EE,e.id≠id){it:Bool}{sz:Nat}{cs:List aa},aa.sub EE (.mp it (some id) sz cs)=.mp it (some id) sz cs
 |[],_,_,_,_=>rfl
 |e::EE,h,it,sz,cs=>by
  have he:=h e (by simp);have U:aa.bW e (.mp it (some id) sz cs)=.mp it (some id) sz cs:=by cases e<;>simp only[aa.bW,b9.id]at he⊢<;>rw[if_neg (Ne.symm he)]
  simp only[aa.sub,U];exact G2 λe he=>h e (by simp[he])
theorem V6{EE:List b9}{id:Nat}(h:∀e∈EE,e.id≠id){b:e9}{sz:Nat}{cs:List aa}(ah:bG cs=true):aa.sub EE (mO b (some id) sz cs)=mO b (some id) sz cs:=by
 unfold mO;grind [G2,Wt]
theorem hJ{f:aL->aL}(aQ:f .bT=.bT):∀(l:List (Nat×aL))(t:Nat),cF (mapA f l) t=f (cF l t)
 |[],_=>aQ.symm
 |(d,v)::l,t=>by
  have:=hJ aQ l t;simp only[mapA,List.map_cons,cF]at this⊢;split
  ·rfl
  ·exact this
section
variable{X:Ctx}{F:cP}{C:b2->FuncId->List aa->Option aa}{n:Nat}{R:Out->Prop}{S:Sym}{ρ:List aa}{ids:Nat->Option Nat}{s:aA}{K:Sym->M}{t:Tree}{o:Oper}{m0:Mem}{inl yl:fh}{lx:Option Nat}{key:Nat}{E:Env}
theorem o5{l:List (Option c6)}{k j:Nat}{x:Option c6}:(l.set k x).getD j none=if j=k/\k<l.length then x else l.getD j none:=by grind
theorem Ai{k:Nat}{a:c6}(h:S.bd.getD k none=some a):k<S.bd.length:=by grind
theorem Jy(h:Rel F S ρ ids s){k j id:Nat}(aq:ids k=some id){eG:Nat}(aC:ids j=some eG)(bU:j≠k):id≠eG:=λe=>by
 subst e;exact bU (h.mv j k id aC aq)
theorem Rel.KC(h:Rel F S ρ ids s){k:Nat}{xid:Option Nat}{a:c6}{cs cs':List aa}{c':aR}{all:Bool}{EE:List b9}(au:S.bd.getD k none=some a)(ad:a.rel (S.env ρ ids) k cs)(cr:ids k=xid)
  (ej:∀e∈EE,∃id,xid=some id/\e.id=id/\e.clean) (hA:c'.ok ρ) (oT:c'.den ρ=.agg cs') (ak:cs'.length=cs'.length/a.sz*a.sz) (aI:isNil ρ a.born cs'=some xid.isNone)
  (ek:all=false->aa.sub EE (mO a.born xid a.sz cs)=mO a.born xid a.sz cs'):
  Rel F (S.dm k all { a with c:=c' }) ρ ids (s.gY EE)/\c6.rel ((S.dm k all { a with c:=c' }).env ρ ids) k { a with c:=c' } cs':=by
 have aq:=Ai au;have cD:=ad.plain;have bU:∀j eG,ids j=some eG->j≠k->∀e∈EE,e.id≠eG:=λj eG aC ev e he=>by
  obtain⟨id,aj,U,_⟩:=ej e he;rw[U];exact Jy h (cr.trans aj) aC ev
 have gM:c6.rel ((S.dm k all { a with c:=c' }).env ρ ids) k { a with c:=c' } cs':=⟨hA,oT,ad.2.2.1,ak,by
  show isNil ρ a.born cs'=some (ids k).isNone;rw[aI,cr],ad.2.2.2.2.2⟩
 have kH:∀j b,j≠k->(S.env ρ ids).bd.getD j none=some b->((S.dm k all { a with c:=c' }).env ρ ids).bd.getD j none=some b:=λj b aC hb=>by
  simp only[Sym.env,Sym.dm,Sym.dD];rw[o5,if_neg (λe=>aC e.1)];exact hb
 have uX:((S.dm k all { a with c:=c' }).env ρ ids).bd.getD k none=some { a with c:=c' }:=by
  simp only[Sym.env,Sym.dm,Sym.dD];rw[o5,if_pos ⟨rfl,aq⟩]
 have tr:j8 F (S.env ρ ids) ((S.dm k all { a with c:=c' }).env ρ ids) (aL.q2 k all) (aa.sub EE):=by
  refine⟨QM EE,List.prefix_refl _,λx=>rfl,rfl,rfl,rfl,λ_ _ _=>rfl,λ_=>by simp only[aL.q2],λg l=>by simp only[aL.q2,qQ],λl=>by simp only[aL.q2,qQ],λl=>by simp only[aL.q2,qQ],λ_ _ l=>by simp only[aL.q2,qQ],λl _=>by simp only[aL.q2,qQ],λi o q aH=>?_,λi o z q aH=>?_,λq aH=>?_,λj q aH=>?_,λj x fo q aH=>?_⟩
  ·have iX:=aH;unfold bZ at iX;rw[iX.1,Ep];refine⟨?_,.inr rfl⟩;show bZ F _ (aL.ptr i o) _;unfold bZ;exact⟨rfl,by have:=iX.2;simpa[Sym.env,Sym.dm,Sym.dD]using this⟩
  ·have iX:=aH;unfold bZ at iX;rw[iX.1,DL];refine⟨?_,.inr rfl⟩;show bZ F _ (aL.aV i o z) _;unfold bZ;exact⟨rfl,by have:=iX.2;simpa[Sym.env,Sym.dm,Sym.dD]using this⟩
  ·unfold bZ at aH;rw[aH.1,Ep]
  ·unfold bZ at aH;obtain⟨b,lz,g1,g2,g3⟩:=aH;by_cases ev:j=k
   ·subst ev;cases all with
    |true=>simp only[aL.q2,and_self,if_true];exact⟨by simp only[bZ],.inl trivial⟩
    |false=>
     simp only[aL.q2,and_false,if_false];have hb:b=a:=by have:=g1.symm.trans au;injection this
     subst hb;have hcs:=c6.EK g2 ad;subst hcs;have KB:(S.env ρ ids).ids j=xid:=cr;rw[KB]at g3;rw[g3];simp only[ek rfl,Bool.false_eq_true,and_false,if_false];refine⟨?_,.inr (wm _ _ _ _)⟩;unfold bZ;refine⟨_,cs',uX,gM,?_⟩;have:((S.dm j false { b with c:=c' }).env ρ ids).ids j=xid:=cr;rw[this]
   ·simp only[aL.q2,ev,false_and,if_false];have xR:aa.sub EE q=q:=by
     rw[g3];cases aX:(S.env ρ ids).ids j with
     |none=>exact abd EE
     |some eG=>exact V6 (bU j eG aX ev) g2.plain
    rw[xR];refine⟨?_,.inr (by rw[g3];exact wm _ _ _ _)⟩;unfold bZ;exact⟨b,lz,kH j b ev g1,g2,g3⟩
  ·unfold bZ at aH;obtain⟨b,lz,eG,dZ,gJ,g1,g2,g3,g4,g5,g6,g7,g8⟩:=aH;by_cases ev:j=k
   ·simp only[aL.q2,ev,if_true];exact⟨by simp only[bZ],.inl trivial⟩
   ·simp only[aL.q2,ev,if_false];have xR:aa.sub EE q=q:=by
     rw[g8];exact VJ (bU j eG g3 ev) (qJ g2.plain _)
    rw[xR];refine⟨?_,.inr (by rw[g8];rfl)⟩;unfold bZ;exact⟨b,lz,eG,dZ,gJ,kH j b ev g1,g2,g3,g4,g5,g6,g7,g8⟩
 have aW:∀e∈EE,F.hG<=e.id:=λe he=>by
  obtain⟨id,aj,U,_⟩:=ej e he;rw[U];exact(h.hO k id (cr.trans aj)).1
 refine⟨⟨h.len,h.cU,λt=>?_,by simpa[Sym.dm,Sym.dD]using h.dt,λi aX=>by rw[aA.Sg];exact ac0 h aW aX,λi b hb=>?_,λj eG aC=>?_,h.mv,λj b hb=>?_,h.a0,h.cV,λe he=>?_,λhe=>?_,λhe=>?_,λhe j aC=>?_,h.dO,by simpa[Sym.dm,Sym.dD]using h.lG,by simpa[Sym.dm,Sym.dD]using h.mS,h.an,h.kZ,h.rc⟩,gM⟩
 ·have:(S.dm k all { a with c:=c' }).get t=aL.q2 k all (S.get t):=by
   simp only[Sym.get,Sym.dm,Sym.dD];exact hJ rfl _ t
  rw[this];exact tr.ow (h.slot t)
 ·simp only[Sym.dm,Sym.dD,List.getElem?_map]at hb;obtain⟨gf,ix,rfl⟩:=Option.map_eq_some_iff.1 hb;have qk:=h.box i gf ix;rw[aA.Sg];cases gf with
  |cells l=>
   obtain⟨aG,aK,aO⟩:=qk;rw[aK,Wu];exact⟨_,rfl,tr.nx aO⟩
  |c8=>rw[show s.m.β (F.n0+i)=.inv F.DI from qk,Ye];exact rfl
  |gone=>trivial
 ·obtain⟨g1,g2,g3⟩:=h.hO j eG aC;exact⟨g1,g2,by simpa[Sym.dm,Sym.dD]using g3⟩
 ·by_cases ev:j=k
  ·subst ev;have:b={ a with c:=c' }:=by have:=hb.symm.trans uX;injection this
   subst this;exact⟨cs',gM⟩
  ·have dB:S.bd.getD j none=some b:=by
    simp only[Sym.dm,Sym.dD]at hb;rw[o5,if_neg (λe=>ev e.1)]at hb;exact hb
   exact h.arr j b dB
 ·rw[aA.Ix]at he;rcases Hn he with he|he
  ·exact h.kY e he
  ·obtain⟨id,aj,U,ab⟩:=ej e he;exact⟨aW e (by assumption),ab⟩
 ·rw[aA.Ix,h.bb (A9 he),Ha];refine Da λe vC=>?_;obtain⟨id,aj,U,ab⟩:=ej e vC;rw[U,h.a0];exact h.S1 (cr.trans aj) he
 ·simp only[Sym.dm,Sym.dD,Bool.or_eq_false_iff,decide_eq_false_iff_not]at he;exact h.new he.1
 ·simp only[Sym.dm,Sym.dD,Bool.or_eq_false_iff,decide_eq_false_iff_not]at he;have ab:j<S.base:=aC;obtain⟨g1,g2⟩:=h.keep he.1 j ab;refine⟨?_,g2⟩;simp only[Sym.dm,Sym.dD];rw[o5,if_neg (λe=>by omega)];exact g1
theorem Rel.gY(h:Rel F S ρ ids s){k id:Nat}{a:c6}{cs cs':List aa}{c':aR}{all:Bool}{EE:List b9}(au:S.bd.getD k none=some a)(ad:a.rel (S.env ρ ids) k cs)(cr:ids k=some id)
  (ej:∀e∈EE,e.id=id/\e.clean) (hA:c'.ok ρ) (oT:c'.den ρ=.agg cs') (ak:cs'.length=cs'.length/a.sz*a.sz) (aI:isNil ρ a.born cs'=some false)
  (ek:all=false->aa.sub EE (mO a.born (some id) a.sz cs)=mO a.born (some id) a.sz cs'):
  Rel F (S.dm k all { a with c:=c' }) ρ ids (s.gY EE)/\c6.rel ((S.dm k all { a with c:=c' }).env ρ ids) k { a with c:=c' } cs':=
 h.KC au ad cr (λe he=>⟨id,rfl,ej e he⟩) hA oT ak aI ek
end
end
section
open Go Go.RowKit
variable[cQ]
theorem R8:xQ (λq=>q):=⟨λ_ _=>rfl,rfl,λl=>by simp,λl=>by simp,λf l=>by simp,λ_ _ _ l=>by simp,λ_ l=>by simp,λ_=>rfl,λq h _=>.inl h⟩
theorem Wv{id i:Nat}(h:i≠id){sz off len:Nat}{cs:List aa}(ah:bG cs=true):aa.bK id (.sl (some i) sz off len cs)=.sl (some i) sz off len cs:=by grind [aa.bK,um]
theorem V7{id i:Nat}(h:i≠id){b:e9}{sz:Nat}{cs:List aa}(ah:bG cs=true):aa.bK id (mO b (some i) sz cs)=mO b (some i) sz cs:=by
 unfold mO;grind [aa.bK,Wv]
theorem VK{id i:Nat}(h:i≠id){off:Nat}{cs:List aa}(ah:bG cs=true):aa.bK id (.bJ (some i) off cs)=.bJ (some i) off cs:=by grind [aa.bK,um]
section
variable{X:Ctx}{F:cP}{C:b2->FuncId->List aa->Option aa}{n:Nat}{R:Out->Prop}{S:Sym}{ρ:List aa}{ids:Nat->Option Nat}{s:aA}{K:Sym->M}{t:Tree}{o:Oper}{m0:Mem}{inl yl:fh}{lx:Option Nat}{key:Nat}{E:Env}
theorem Jz{k j:Nat}{x:aR}(aC:j≠k):(S.hK k x).bd.getD j none=S.bd.getD j none:=by grind [Sym.hK]
theorem W7{k:Nat}{x:aR}:(S.hK k x).bd.getD k none=none:=by grind [Sym.hK]
theorem R9(h:Rel F S ρ ids s){k:Nat}{a:c6}{cs:List aa}{x:aR}{T:aa->aa}(ek:xQ T)(au:S.bd.getD k none=some a)(ad:a.rel (S.env ρ ids) k cs)(lv:x.ok ρ)
  (ae:∀i o,T (.ptr i o)=.ptr i o) (fH:∀i o z,T (.aV i o z)=.aV i o z) (uX:T (mO a.born (ids k) a.sz cs)=x.den ρ) (lR:(x.den ρ).one=true)
  (hB:∀j id b sz l,j≠k->ids j=some id->bG l=true->T (mO b (some id) sz l)=mO b (some id) sz l) (UG:T .bC=.bC)
  (ai5:∀j id off l,j≠k->ids j=some id->bG l=true->T (.bJ (some id) off l)=.bJ (some id) off l):
  j8 F (S.env ρ ids) ((S.hK k x).env ρ (eA ids k none)) (aL.bK k x) T:=by
 have kH:∀j b,j≠k->(S.env ρ ids).bd.getD j none=some b->((S.hK k x).env ρ (eA ids k none)).bd.getD j none=some b:=λj b aC hb=>by
  simp only[Sym.env];rw[Jz aC];exact hb
 have lU:∀j b l,j≠k->c6.rel (S.env ρ ids) j b l->c6.rel ((S.hK k x).env ρ (eA ids k none)) j b l:=λj b l aC hb=>by
  obtain⟨g1,g2,g3,g4,g5,g6⟩:=hb;refine⟨g1,g2,g3,g4,?_,g6⟩;rw[show((S.hK k x).env ρ (eA ids k none)).ids j=ids j by simp[Sym.env,eA,aC]];exact g5
 have zs:∀j,j≠k->((S.hK k x).env ρ (eA ids k none)).ids j=ids j:=λj aC=>by simp[Sym.env,eA,aC]
 refine⟨ek,List.prefix_refl _,λ_=>rfl,rfl,rfl,rfl,λ_ _ _=>rfl,λ_=>by simp only[aL.bK],λg l=>by simp only[aL.bK,AM],λl=>by simp only[aL.bK,AM],λl=>by simp only[aL.bK,AM],λ_ _ l=>by simp only[aL.bK,AM],λl _=>by simp only[aL.bK,AM],λi o q aH=>?_,λi o z q aH=>?_,λq aH=>?_,λj q aH=>?_,λj y fo q aH=>?_⟩
 ·have iX:=aH;unfold bZ at iX;rw[iX.1,ae];refine⟨?_,.inr rfl⟩;show bZ F _ (aL.ptr i o) _;unfold bZ;exact⟨rfl,by have:=iX.2;simpa[Sym.env,Sym.hK,Sym.dD]using this⟩
 ·have iX:=aH;unfold bZ at iX;rw[iX.1,fH];refine⟨?_,.inr rfl⟩;show bZ F _ (aL.aV i o z) _;unfold bZ;exact⟨rfl,by have:=iX.2;simpa[Sym.env,Sym.hK,Sym.dD]using this⟩
 ·unfold bZ at aH;rw[aH.1,ae]
 ·unfold bZ at aH;obtain⟨b,lz,g1,g2,g3⟩:=aH;by_cases ev:j=k
  ·subst ev;simp only[aL.bK,if_true];have hb:b=a:=by have:=g1.symm.trans au;injection this
   subst hb;have hcs:=c6.EK g2 ad;subst hcs;have e:T q=x.den ρ:=by rw[g3];exact uX
   rw[e];refine⟨?_,.inr lR⟩;unfold bZ;exact⟨rfl,lv⟩
  ·simp only[aL.bK,ev,if_false];have xR:T q=q:=by
    rw[g3];cases aX:(S.env ρ ids).ids j with
    |none=>exact UG
    |some eG=>exact hB j eG _ _ _ ev aX g2.plain
   rw[xR];refine⟨?_,.inr (by rw[g3];exact wm _ _ _ _)⟩;unfold bZ;exact⟨b,lz,kH j b ev g1,lU j b lz ev g2,by rw[zs j ev];exact g3⟩
 ·unfold bZ at aH;obtain⟨b,lz,eG,dZ,gJ,g1,g2,g3,g4,g5,g6,g7,g8⟩:=aH;by_cases ev:j=k
  ·simp only[aL.bK,ev,if_true];exact⟨by simp only[bZ],.inl trivial⟩
  ·simp only[aL.bK,ev,if_false];have xR:T q=q:=by
    rw[g8];exact ai5 j eG _ _ ev g3 (qJ g2.plain _)
   rw[xR];refine⟨?_,.inr (by rw[g8];rfl)⟩;unfold bZ;exact⟨b,lz,eG,dZ,gJ,kH j b ev g1,lU j b lz ev g2,by rw[zs j ev];exact g3,g4,g5,g6,g7,g8⟩
theorem NN(h:Rel F S ρ ids s){k:Nat}{x:aR}{T:aa->aa}{s':aA}(tr:j8 F (S.env ρ ids) ((S.hK k x).env ρ (eA ids k none)) (aL.bK k x) T)
  (aN:∀t,s'.g t=T (s.g t)) (aI:s'.m.n=s.m.n) (l7:s'.m.an=s.m.an) (hold:∀i,i<F.n0->s'.m.β i=F.lH i) (fW:∀i l,s.m.β i=.cells l->s'.m.β i=.cells (l.map T)) (ai6:∀i I,s.m.β i=.inv I->s'.m.β i=.inv I)
  (aT:s'.a0=s.a0) (he:∀e∈s'.bb,F.hG<=e.id/\e.clean) (vC:(S.bb||decide (k<S.base))=false\/F.hG=F.cV.a->s'.bb=[]) (fb:s'.m.rc=s.m.rc):Rel F (S.hK k x) ρ (eA ids k none) s':=by
 refine⟨h.len,h.cU,λt=>?_,by rw[aI];simpa[Sym.hK,Sym.dD]using h.dt,hold,λi b hb=>?_,λj eG aC=>?_,λj j5 eG aC jB=>?_,λj b hb=>?_,by rw[aT];exact h.a0,h.cV,he,vC,λlA j eG aC h3=>?_,λlA j aC=>?_,h.dO,by simpa[Sym.hK,Sym.dD]using h.lG,by simpa[Sym.hK,Sym.dD]using h.mS,by rw[l7];exact h.an,h.kZ,by rw[fb];exact h.rc⟩
 ·have:(S.hK k x).get t=aL.bK k x (S.get t):=by
   simp only[Sym.get,Sym.hK,Sym.dD];exact hJ rfl _ t
  rw[this,aN];exact tr.ow (h.slot t)
 ·simp only[Sym.hK,Sym.dD,List.getElem?_map]at hb;obtain⟨gf,ix,rfl⟩:=Option.map_eq_some_iff.1 hb;have qk:=h.box i gf ix;cases gf with
  |cells l=>
   obtain⟨aG,aK,aO⟩:=qk;exact⟨_,fW _ _ aK,tr.nx aO⟩
  |c8=>exact ai6 _ _ qk
  |gone=>trivial
 ·simp only[eA]at aC;split at aC
  ·cases aC
  ·obtain⟨g1,g2,g3⟩:=h.hO j eG aC;exact⟨g1,by rw[l7];exact g2,by simpa[Sym.hK,Sym.dD]using g3⟩
 ·simp only[eA]at aC jB;split at aC<;>first|(cases aC;done)|skip
  split at jB<;>first|(cases jB;done)|skip
  exact h.mv j j5 eG aC jB
 ·by_cases ev:j=k
  ·subst ev;rw[W7]at hb;cases hb
  ·rw[Jz ev]at hb;obtain⟨cs,g1,g2,g3,g4,g5,g6⟩:=h.arr j b hb;refine⟨cs,g1,g2,g3,g4,?_,g6⟩;rw[show((S.hK k x).env ρ (eA ids k none)).ids j=ids j by simp[Sym.env,eA,ev]];exact g5
 ·simp only[Sym.hK,Sym.dD,Bool.or_eq_false_iff]at lA;simp only[eA]at aC;split at aC
  ·cases aC
  ·exact h.new lA.1 j eG aC h3
 ·simp only[Sym.hK,Sym.dD,Bool.or_eq_false_iff,decide_eq_false_iff_not]at lA;have ab:j<S.base:=aC;obtain⟨g1,g2⟩:=h.keep lA.1 j ab;rw[Jz (by omega)];refine⟨g1,?_⟩;simp only[eA];rw[if_neg (by omega)];exact g2
theorem Ww(id:Nat)(l:List aa):di.bK id (.cells l)=.cells (l.map (aa.bK id)):=rfl
theorem Rel.bK(h:Rel F S ρ ids s){k:Nat}{a:c6}{cs:List aa}{x:aR}(au:S.bd.getD k none=some a)(ad:a.rel (S.env ρ ids) k cs)(lv:x.ok ρ)(dG:iU ρ a.sz a.born (.agg cs)=some (x.den ρ)):
  ∃s1,dW s s1/\s1.m.n=s.m.n/\Rel F (S.hK k x) ρ (eA ids k none) s1:=by
 have fK:isNil ρ a.born cs=some (ids k).isNone:=ad.2.2.2.2.1;simp only[iU,fK]at dG;cases aX:ids k with
 |none=>
  rw[aX]at dG;simp only[Option.isNone_none,Option.some.injEq]at dG;refine⟨s,dW.refl s,rfl,NN h (T:=λq=>q) (R9 h R8 au ad lv (λ_ _=>rfl) (λ_ _ _=>rfl) (by rw[aX];exact dG) (by rw[←dG];rfl) (λ_ _ _ _ _ _ _ _=>rfl) rfl (λ_ _ _ _ _ _ _=>rfl)) (λ_=>rfl) rfl rfl h.old (λi l ak=>by simpa using ak) (λ_ _ iM=>iM) rfl h.kY (λhe=>h.bb (A9 he)) rfl⟩
 |some id=>
  rw[aX]at dG;simp only[Option.isNone_some]at dG;have Cj:aa.bK id (mO a.born (some id) a.sz cs)=x.den ρ:=by
   cases LB:a.born with
   |map=>rw[LB]at dG;simp only[Option.some.injEq]at dG;simp only[mO,aa.bK,if_true];exact dG
   |it=>rw[LB]at dG;cases dG
   |_=>rw[LB]at dG;simp only[Option.some.injEq]at dG;simp only[mO,aa.bK,if_true,um id cs ad.plain];exact dG
  have lR:(x.den ρ).one=true:=by
   split at dG
   ·simp only[Option.some.injEq]at dG;rw[←dG];rfl
   ·cases dG
   ·simp only[Option.some.injEq]at dG;rw[←dG];rfl
  have cr:=h.hO k id aX;refine⟨s.freeze id,V5 s id,rfl,NN h (T:=aa.bK id) (R9 h (acW id) au ad lv (λ_ _=>by simp only[aa.bK]) (λ_ _ _=>by simp only[aa.bK]) ?_ lR (λj eG b sz l aC jB ak=>V7 (λe=>Jy h aX jB aC e.symm) ak) (by simp only[aa.bK]) (λj eG off l aC jB ak=>VK (λe=>Jy h aX jB aC e.symm) ak)) (λ_=>rfl) rfl rfl (λi e1=>?_) (λi l ak=>?_) (λi I iM=>?_) rfl (λe he=>?_) (λhe=>?_) rfl⟩
  ·rw[aX];exact Cj
  ·show(s.m.β i).bK id=_;rw[h.old i e1];cases hb:F.lH i with
   |cells l=>rw[Ww,←sF,sx cr.1 l (h.kZ i l e1 hb)]
   |inv I=>rfl
   |hole=>rfl
  ·show(s.m.β i).bK id=_;rw[ak];rfl
  ·show(s.m.β i).bK id=_;rw[iM];rfl
  ·rcases Hn he with he|he
   ·exact h.kY e he
   ·simp only[List.mem_singleton]at he;subst he;exact⟨cr.1,trivial⟩
  ·show gV s.a0.a s.bb [.kill id]=[];rw[h.bb (A9 he),Ha];refine Da λe vC=>?_;simp only[List.mem_singleton]at vC;subst vC;rw[h.a0];exact h.S1 aX he
end
end
section
open Go Go.RowKit
variable[cQ]
mutual
def aa.cx(i:Nat)(l:List aa):aa->aa
 |.ptr j o=>if j=i then .bJ none o (l.drop o)else .ptr j o
 |.aV j o z=>if j=i then(if l.length=z*o then .sl none o 0 z l else .bad)else .aV j o z
 |.sl id sz off len cs=>.sl id sz off len (jP i l cs)
 |.bJ id off cs=>.bJ id off (jP i l cs)
 |.fn f cs=>.fn f (jP i l cs)
 |.agg cs=>.agg (jP i l cs)
 |.bD cs=>.bD (jP i l cs)
 |.int k m=>.int k m
 |.bool b=>.bool b
 |.str s=>.str s
 |.undef=>.undef
 |.bad=>.bad
 |.ca=>.ca
 |.eL=>.eL
 |.bC=>.bC
 |.dead k=>.dead k
 |.cq k=>.cq k
 |.mp it id sz cs=>.mp it id sz cs
def jP(i:Nat)(l:List aa):List aa->List aa
 |[]=>[]
 |p::a7=>p.cx i l::jP i l a7
end
theorem ur(i:Nat)(c l:List aa):jP i c l=l.map (aa.cx i c):=by
 induction l with
 |nil=>rfl
 |cons p a7 az=>simp[jP,az]
def bo.fP(φ:bo)(i:Nat):bo:={ box:=λj=>if j=i then none else φ.box j,arr:=φ.arr }
section
variable{φ:bo}{w:World}{m:Mem}{i:Nat}{n an:Nat}
theorem wb{b:Nat}(h:(φ.fP i).own b):φ.own b:=by
 rcases h with⟨j,h⟩|⟨j,h⟩
 ·simp only[bo.fP]at h;split at h
  ·cases h
  ·exact .inl ⟨j,h⟩
 ·exact .inr ⟨j,h⟩
theorem Dd{id:Option Nat}{b sz off cap:Nat}(h:place φ w id b sz off cap):place (φ.fP i) w id b sz off cap:=by
 cases id with
 |none=>exact⟨λk=>h.1 (wb k),h.2⟩
 |some j=>exact h
mutual
theorem aY.fP(aI:n<=i):∀(q:aa)(c:Value),aY φ w q c->q.cT n an->aY (φ.fP i) w q c
 |.int _ _,c,h,_ | .bool _,c,h,_ | .str _,c,h,_ | .undef,c,h,_ | .bad,c,h,_ | .ca,c,h,_ | .eL,c,h,_ | .bC,c,h,_ | .dead _,c,h,_ | .cq _,c,h,_=>by simp only[aY]at h⊢<;>exact h
 |.ptr j o,c,h,hb=>by
  simp only[aY,aa.cT]at h hb⊢;obtain⟨b,U,ab⟩:=h;exact⟨b,by simp only[bo.fP];rw[if_neg (by omega)];exact U,ab⟩
 |.aV j o z,c,h,hb=>by
  simp only[aY,aa.cT]at h hb⊢;obtain⟨b,U,ab⟩:=h;exact⟨b,by simp only[bo.fP];rw[if_neg (by omega)];exact U,ab⟩
 |.sl id sz off len cs,c,h,hb=>by
  simp only[aY]at h⊢;obtain⟨ak,a,cap,ai,ah,h⟩:=h;refine⟨ak,a,cap,ai,ah,?_⟩;rcases h with h|⟨b,au,ae,ad⟩
  ·exact .inl h
  ·refine .inr ⟨b,au,Dd ae,b7.fP aI b cs off ad ?_⟩;cases id<;>simp only[aa.cT]at hb<;>first|exact hb|exact hb.2
 |.bJ id off cs,c,h,hb=>by
  simp only[aY]at h⊢;obtain⟨b,au,ae,ad⟩:=h;refine⟨b,au,Dd ae,b7.fP aI b cs off ad ?_⟩;cases id<;>simp only[aa.cT]at hb<;>first|exact hb|exact hb.2
 |.fn f cs,c,h,hb=>by
  simp only[aY,aa.cT]at h hb⊢;obtain⟨af,U,ab⟩:=h;exact⟨af,U,bl.fP aI cs af ab hb⟩
 |.agg cs,c,h,hb=>by
  simp only[aY,aa.cT]at h hb⊢;obtain⟨af,U,ab⟩:=h;exact⟨af,U,bl.fP aI cs af ab hb⟩
 |.bD cs,c,h,hb=>by
  simp only[aY,aa.cT]at h hb⊢;obtain⟨af,U,ab⟩:=h;exact⟨af,U,bl.fP aI cs af ab hb⟩
 |.mp it id sz cs,c,h,hb=>by
  simp only[aY]at h⊢;refine h.move (λb o ae bq _ _ _=>⟨?_,bq⟩) λb o ae bq _ _ _=>⟨λk=>ae (wb k),bq⟩;cases id with
  |none=>exact λk=>ae (wb k)
  |some j=>exact ae
theorem bl.fP(aI:n<=i):∀(l:List aa)(af:List Value),bl φ w l af->e5 n an l->bl (φ.fP i) w l af
 |[],af,h,_=>by simp only[bl]at h⊢;exact h
 |p::a7,af,h,hb=>by
  simp only[bl,e5]at h hb⊢;obtain⟨v,cB,e,aT,U⟩:=h;exact⟨v,cB,e,aY.fP aI p v aT hb.1,bl.fP aI a7 cB U hb.2⟩
theorem b7.fP(aI:n<=i)(b:Nat):∀(l:List aa)(off:Nat),b7 φ w b l off->e5 n an l->b7 (φ.fP i) w b l off
 |[],_,_,_=>by simp only[b7]
 |p::a7,off,h,hb=>by
  simp only[b7,e5]at h hb⊢;obtain⟨⟨c,ah,aT⟩,U⟩:=h;exact⟨⟨c,ah,aY.fP aI p c aT hb.1⟩,b7.fP aI b a7 (off+1) U hb.2⟩
end
theorem aea(hm:c0 φ m w){l:List aa}{b:Nat}(hb:φ.box i=some b)(fW:m.β i=.cells l)(ae:bG l=true)(o:Nat):b7 (φ.fP i) w b (l.drop o) o:=by
 obtain⟨cs,e,U,ab,al⟩:=hm.has hb;rw[fW]at ab;have ak:bl φ w l cs.toList:=ab;refine sA λj p aC=>?_;rw[List.getElem?_drop]at aC;obtain⟨v,ai,ad⟩:=o1 ak aC;refine⟨v,by grind [World.cell?],?_⟩;exact aY.fP (n:=0) (an:=0) (Nat.zero_le _) p v ad (AL 0 0 p (Hq ae aC).1)
mutual
theorem aY.cx(hm:c0 φ m w){l:List aa}(fW:m.β i=.cells l)(ae:bG l=true):∀(q:aa)(c:Value),aY φ w q c->aY (φ.fP i) w (q.cx i l) c
 |.int _ _,c,h | .bool _,c,h | .str _,c,h | .undef,c,h | .bad,c,h | .ca,c,h | .eL,c,h | .bC,c,h | .dead _,c,h | .cq _,c,h=>by simp only[aY,aa.cx]at h⊢<;>exact h
 |.ptr j o,c,h=>by
  simp only[aY]at h;obtain⟨b,U,ab⟩:=h;simp only[aa.cx];by_cases aC:j=i
  ·subst aC;rw[if_pos rfl];simp only[aY];obtain⟨cs,e,g1,_,_⟩:=hm.has U;refine⟨b,ab,⟨λar=>?_,(Array.getElem?_eq_some_iff.1 g1).1⟩,aea hm U fW ae o⟩;rcases ar with⟨k,aq⟩|⟨k,aq⟩
   ·simp only[bo.fP]at aq;split at aq
    ·cases aq
    ·rename_i bU;exact bU (hm.jo k j b aq U)
   ·exact hm.sep j k b U aq
  ·rw[if_neg aC];simp only[aY];exact⟨b,by simp only[bo.fP];rw[if_neg aC];exact U,ab⟩
 |.aV j o z,c,h=>by
  simp only[aY]at h;obtain⟨b,U,cap,ab,al⟩:=h;simp only[aa.cx];by_cases aC:j=i
  ·subst aC;rw[if_pos rfl];split
   ·rename_i ak;simp only[aY];obtain⟨cs,e,g1,_,_⟩:=hm.has U;refine⟨ak,_,cap,ab,al,.inr ⟨b,rfl,⟨λar=>?_,(Array.getElem?_eq_some_iff.1 g1).1⟩,aea hm U fW ae 0⟩⟩;rcases ar with⟨k,aq⟩|⟨k,aq⟩
    ·simp only[bo.fP]at aq;split at aq
     ·cases aq
     ·rename_i bU;exact bU (hm.jo k j b aq U)
    ·exact hm.sep j k b U aq
   ·simp only[aY]
  ·rw[if_neg aC];simp only[aY];exact⟨b,by simp only[bo.fP];rw[if_neg aC];exact U,cap,ab,al⟩
 |.sl id sz off len cs,c,h=>by
  simp only[aY,aa.cx]at h⊢;obtain⟨ak,a,cap,ai,ah,h⟩:=h;refine⟨by rw[ur,List.length_map];exact ak,a,cap,ai,ah,?_⟩;rcases h with h|⟨b,bL,cD,ad⟩
  ·exact .inl h
  ·exact .inr ⟨b,bL,Dd cD,b7.cx hm fW ae b cs off ad⟩
 |.bJ id off cs,c,h=>by
  simp only[aY,aa.cx]at h⊢;obtain⟨b,bL,cD,ad⟩:=h;exact⟨b,bL,Dd cD,b7.cx hm fW ae b cs off ad⟩
 |.fn f cs,c,h=>by
  simp only[aY,aa.cx]at h⊢;obtain⟨af,U,ab⟩:=h;exact⟨af,U,bl.cx hm fW ae cs af ab⟩
 |.agg cs,c,h=>by
  simp only[aY,aa.cx]at h⊢;obtain⟨af,U,ab⟩:=h;exact⟨af,U,bl.cx hm fW ae cs af ab⟩
 |.bD cs,c,h=>by
  simp only[aY,aa.cx]at h⊢;obtain⟨af,U,ab⟩:=h;exact⟨af,U,bl.cx hm fW ae cs af ab⟩
 |.mp it id sz cs,c,h=>by
  simp only[aY,aa.cx]at h⊢;refine h.move (λb o ae bq _ _ _=>⟨?_,bq⟩) λb o ae bq _ _ _=>⟨λk=>ae (wb k),bq⟩;cases id with
  |none=>exact λk=>ae (wb k)
  |some j=>exact ae
theorem bl.cx(hm:c0 φ m w){l:List aa}(fW:m.β i=.cells l)(ae:bG l=true):∀(a7:List aa)(af:List Value),bl φ w a7 af->bl (φ.fP i) w (jP i l a7) af
 |[],af,h=>by simp only[bl,jP]at h⊢;exact h
 |p::a7,af,h=>by
  simp only[bl,jP]at h⊢;obtain⟨v,cB,e,aT,U⟩:=h;exact⟨v,cB,e,aY.cx hm fW ae p v aT,bl.cx hm fW ae a7 cB U⟩
theorem b7.cx(hm:c0 φ m w){l:List aa}(fW:m.β i=.cells l)(ae:bG l=true)(b:Nat):∀(a7:List aa)(off:Nat),b7 φ w b a7 off->b7 (φ.fP i) w b (jP i l a7) off
 |[],_,_=>by simp only[b7,jP]
 |p::a7,off,h=>by
  simp only[b7,jP]at h⊢;obtain⟨⟨c,ah,aT⟩,U⟩:=h;exact⟨⟨c,ah,aY.cx hm fW ae p c aT⟩,b7.cx hm fW ae b a7 (off+1) U⟩
end
theorem bl.W8{I:List aa->Prop}(l:List aa)(af:List Value)(h:bl φ w l af)(ah:∀k,iR k l=l)(au:∀j b,φ.arr j=some b->j<an)(hb:∀j b,φ.box j=some b->j<n):bl (φ.fP i) w l af:=by
 have lp:e5 0 an l:=by
  have aT:=bl.cH (n:=0) (an:=an) au l af h;rw[ah 0]at aT;exact ui (λj b aC=>by grind [bo.cut]) (λj b aC=>by grind [bo.cut]) l af aT
 exact bl.fP (Nat.zero_le _) l af h lp
end
def di.cx(i:Nat)(l:List aa):di->di
 |.cells c=>.cells (c.map (aa.cx i l))
 |.inv I=>.inv I
 |.hole=>.hole
def aA.cx(s:aA)(i:Nat)(l:List aa):aA:={ s with g:=λt=>(s.g t).cx i l,m:={ s.m with β:=λj=>if j=i then .hole else(s.m.β j).cx i l } }
theorem Wx(s:aA){i:Nat}{l:List aa}(fW:s.m.β i=.cells l)(ae:bG l=true)(aX:s.a0.n<=i)(he:∀e∈s.bb,e.clean):dW s (s.cx i l):=by
 refine⟨rfl,λφ w N a A ao au aW=>⟨φ.fP i,⟨λt=>aY.cx ao.mem fW ae _ _ (ao.tmp t),ao.size,?_⟩,?_⟩⟩
 ·have hm:=ao.mem;refine⟨λj aC=>?_,λj aC=>?_,λj b h=>hm.arr j b h,λj k b U ab=>?_,hm.hp,λj k b U ab=>?_,hm.gw⟩
  ·by_cases kT:j=i
   ·grind [aA.cx,bo.fP]
   ·rcases hm.box j aC with⟨g1,g2⟩|⟨b,cs,e,hb,bq,ad⟩
    ·grind [aA.cx,di.cx,bo.fP]
    ·refine .inr ⟨b,cs,e,by grind [bo.fP],bq,?_⟩;simp only[aA.cx,kT,if_false];cases ah:s.m.β j with
     |cells c=>
      rw[ah]at ad;simp only[di.cx,m3];rw[←ur];exact bl.cx hm fW ae c _ ad
     |inv I=>
      rw[ah]at ad;obtain⟨c,U,ab,al,aJ⟩:=ad;exact⟨c,U,ab,al,bl.W8 (I:=I) (n:=s.m.n) c _ aJ al (λk b aq=>(hm.arr k b aq).1) (λk b aq=>Nat.lt_of_not_le λhle=>by rw[hm.dt k hle]at aq;cases aq)⟩
     |hole=>rw[ah]at ad;trivial
  ·simp only[bo.fP];split
   ·rfl
   ·exact hm.dt j aC
  ·simp only[bo.fP]at U ab;split at U<;>first|(cases U;done)|skip
   split at ab<;>first|(cases ab;done)|skip
   exact hm.jo j k b U ab
  ·simp only[bo.fP]at U;split at U<;>first|(cases U;done)|skip
   exact hm.sep j k b U ab
 ·refine⟨⟨λq c aH=>?_,au.st.os,au.st.output,au.st.size,λb hb ar ak=>?_⟩,au.a8.trans ⟨Nat.le_refl _,λb _ ar _=>⟨rfl,λk=>ar (wb k)⟩⟩⟩
  ·have lp:q.cT s.a0.n s.a0.a:=Du aW.2.1 aW.1 q c aH;exact aY.fP aX _ c (au.st.tr q c aH) (I7 he lp)
  ·exact⟨(au.st.rest b hb ar ak).1,λk=>(au.st.rest b hb ar ak).2 (wb k)⟩
end
end Go.Proofs.YtlminnpaeaganaaGreat
