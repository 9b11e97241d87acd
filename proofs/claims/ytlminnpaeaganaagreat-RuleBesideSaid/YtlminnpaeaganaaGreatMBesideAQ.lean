/- Part of the proof of RuleBeside. No condition. -/
import Derived.Test.YtlminnpaeaganaaGreatMBesideAP
namespace Go.Proofs.YtlminnpaeaganaaGreat
set_option maxRecDepth 100000
set_option linter.all false
section
open Go Go.RowKit
variable[cQ]
section
variable{P:Program}
theorem Ya{op:BinOp}{t:TypeId}{x y v:aa}(h:eB P op t x y=some v):v.plain=true/\v.one=true:=by
 unfold eB at h;split at h
 ·split at h
  ·split at h<;>first|(cases h;done)|(injection h with h;subst h;exact⟨rfl,rfl⟩)
  ·split at h<;>first|(cases h;done)|(injection h with h;subst h;exact⟨rfl,rfl⟩)
  ·split at h
   ·split at h<;>first|(cases h;done)|(injection h with h;subst h;exact⟨rfl,rfl⟩)|(split at h<;>first|(cases h;done)|(injection h with h;subst h;exact⟨rfl,rfl⟩))
   ·cases h
 all_goals first|(cases h;done)|(split at h<;>first|(cases h;done)|(injection h with h;subst h;exact⟨rfl,rfl⟩))
theorem ZA{op:UnOp}{x v:aa}(h:rH op x=some v):v.plain=true/\v.one=true:=by
 unfold rH at h;split at h<;>first|(cases h;done)|(injection h with h;subst h;exact⟨rfl,rfl⟩)
theorem W6{s d:TypeId}{x v:aa}(h:q5 P s d x=some v):v.plain=true/\v.one=true:=by
 unfold q5 at h;split at h<;>first|(cases h;done)|(injection h with h;subst h;exact⟨rfl,rfl⟩)
theorem Yb{t:TypeId}{x v:aa}(h:ht P t x=some v):v.plain=true/\v.one=true:=by
 unfold ht at h;split at h<;>first|(cases h;done)|(injection h with h;subst h;exact⟨rfl,rfl⟩)
theorem Yc{l:List aa}{v:aa}(h:s4 l=some v):v.plain=true/\v.one=true:=by
 unfold s4 at h;split at h<;>first|(cases h;done)|(split at h<;>first|(cases h;done)|(injection h with h;subst h;exact⟨rfl,rfl⟩))
theorem Yd{l:List aa}{v:aa}(h:u3 l=some v):v.plain=true/\v.one=true:=by
 unfold u3 at h;split at h<;>first|(cases h;done)|(split at h<;>first|(cases h;done)|(injection h with h;subst h;exact⟨rfl,rfl⟩))
theorem uh{l:List aa}(h:bG l=true)(k:Nat):bG (l.take k)=true:=(hH _).2 λp ae=>(hH _).1 h p (List.mem_of_mem_take ae)
theorem qJ{l:List aa}(h:bG l=true)(k:Nat):bG (l.drop k)=true:=(hH _).2 λp ae=>(hH _).1 h p (List.mem_of_mem_drop ae)
theorem C0{l aG:List aa}(h:bG l=true)(bc:bG aG=true):bG (l++aG)=true:=(hH _).2 λp ae=>by
 rcases List.mem_append.1 ae with ae|ae
 ·exact(hH _).1 h p ae
 ·exact(hH _).1 bc p ae
theorem Hq{l:List aa}(h:bG l=true){k:Nat}{v:aa}(ai:l[k]?=some v):v.plain=true/\v.one=true:=(hH _).1 h v (List.mem_of_getElem? ai)
theorem Wr{t:TypeId}{x v:aa}{lo hi:Option aa}(aj:x.plain=true)(h:p1 P t x lo hi=some v):v.plain=true/\v.one=true:=by
 unfold p1 at h;split at h
 ·rename_i e id sz off len cs hu;split at h
  ·split at h
   ·split at h
    ·injection h with h;subst h;exact⟨rfl,rfl⟩
    ·injection h with h;subst h;cases id with
     |none=>exact⟨by simp only[aa.plain]at aj⊢;exact uh (qJ aj _) _,rfl⟩
     |some i=>simp[aa.plain]at aj
   ·cases h
  ·cases h
 ·split at h
  ·split at h
   ·injection h with h;subst h;exact⟨rfl,rfl⟩
   ·cases h
  ·cases h
 ·cases h
theorem Ws{t:TypeId}{x i v:aa}(aj:x.plain=true)(h:uJ P t x i=some v):v.plain=true/\v.one=true:=by
 unfold uJ at h;split at h
 ·split at h
  ·exact Hq (by simpa only[aa.plain]using aj) h
  ·cases h
 ·cases h
end
def cj.core(y:cj):cj:={ y with pend:=none,busy:=false }
structure Ext(S:Sym)(ρ:List aa)(br:Sym)(b1:List aa):Prop where
 pre:ρ<+:b1
 base:br.base=S.base
 dO:br.dO=S.dO
 site:br.site=S.site
 ey:br.site=S.site
 ys:br.ys.map cj.core=S.ys.map cj.core
 bx:S.bx.length<=br.bx.length
 g:br.g.length=S.g.length
theorem Ext.refl(S:Sym)(ρ:List aa):Ext S ρ S ρ:=⟨List.prefix_refl _,rfl,rfl,rfl,rfl,rfl,Nat.le_refl _,rfl⟩
theorem Ext.trans{S ba ji:Sym}{ρ bY kD:List aa}(h:Ext S ρ ba bY)(k:Ext ba bY ji kD):Ext S ρ ji kD:=
 ⟨h.pre.trans k.pre,k.base.trans h.base,k.dO.trans h.dO,k.site.trans h.site,k.ey.trans h.ey,k.ys.trans h.ys,Nat.le_trans h.bx k.bx,k.g.trans h.g⟩
theorem Ext.put{S br:Sym}{ρ b1:List aa}(h:Ext S ρ br b1)(d:Option Tmp)(v:aL):Ext S ρ (br.put d v) b1:=by
 cases d with
 |none=>exact h
 |some d=>exact⟨h.pre,h.base,h.dO,h.site,h.ey,h.ys,h.bx,by simpa[Sym.put]using h.g⟩
theorem Ext.bind(S:Sym)(ρ:List aa)(v:aa)(cU:Bool):Ext S ρ (S.bind cU) (ρ++[v]):=⟨List.prefix_append _ _,rfl,rfl,rfl,rfl,rfl,Nat.le_refl _,rfl⟩
section
variable{X:Ctx}{F:cP}{C:b2->FuncId->List aa->Option aa}{n:Nat}{R:Out->Prop}{S:Sym}{ρ:List aa}{ids:Nat->Option Nat}{s:aA}{K:Sym->M}{t:Tree}{o:Oper}{m0:Mem}{inl yl:fh}{lx:Option Nat}{key:Nat}
def hS(X:Ctx)(F:cP)(C:b2->FuncId->List aa->Option aa)(n:Nat)(R:Out->Prop)(K:Sym->M)(S:Sym)(ρ:List aa)(s':aA):Prop:=
 ∃br b1 dK bw,K br=.ok bw/\Rel F br b1 dK s'/\bN X.P C n bw b1 R/\Ext S ρ br b1
theorem aa7{p:Prim}{cU:Bool}(h:emit p cU S (λv S=>K (S.put o.dst (.e v)))=.ok t)(ad:Rel F S ρ ids s)(aB:bN X.P C n t ρ R)
  (ae:∀v,p.run X.P ρ=some v->v.plain=true/\v.one=true):∃v,p.run X.P ρ=some v/\hS X F C n R K S ρ (s.put o.dst v):=by
 obtain⟨bw,a1,rfl⟩:=ig h;obtain⟨v,ai,aB⟩:=aB.av;obtain⟨U,ab⟩:=ae v ai;have hb:=ad.bind v cU λ_=>ab;obtain⟨g1,g2⟩:=fO ad v U;exact⟨v,ai,_,_,ids,bw,a1,hb.put o.dst (by simp only[bZ];exact⟨g2.symm,g1⟩),aB,(Ext.bind S ρ v cU).put _ _⟩
def lf(F:cP)(lx:Option Nat)(m0:Mem)(s:aA):Prop:=match lx with
 |none=>m0=s.m
 |some b=>m0.n=F.n0+b/\pw m0 s.m
theorem Q0(aI:lf F lx m0 s):pw m0 s.m:=by
 cases lx with
 |none=>simp only[lf]at aI;subst aI;exact⟨Nat.le_refl _,λ_ _=>rfl⟩
 |some b=>exact aI.2
theorem Px(ad:Rel F S ρ ids s)(aI:lf F lx m0 s){ty:TypeId}{i off:Nat}{v:aL}(h:E8 X S lx ty i off=some v):
  ∃q,h0 X.P m0 ty (.ptr (F.n0+i) off)=some q/\bZ F (S.env ρ ids) v q:=by
 unfold E8 at h;have key:∀l,S.bx[i]?=some (.cells l)->(lx.all λb=>decide (i<b))=true->∃aG,nW m0 (.ptr (F.n0+i) off)=some (aG.drop off)/\cJ F (S.env ρ ids) l aG:=λl ak aj=>by
  obtain⟨aG,U,ab⟩:=ad.box i _ ak;have hi:i<S.bx.length:=(List.getElem?_eq_some_iff.1 ak).1;refine⟨aG,?_,ab⟩;have aU:F.n0+i<m0.n/\m0.β (F.n0+i)=s.m.β (F.n0+i):=by
   cases lx with
   |none=>simp only[lf]at aI;subst aI;exact⟨by rw[ad.dt];omega,rfl⟩
   |some b=>
    simp only[Option.all_some,decide_eq_true_eq]at aj;have al:F.n0+i<m0.n:=by rw[aI.1];omega
    exact⟨al,(aI.2.2 _ al).symm⟩
  simp only[nW,aU.1,if_true,aU.2,U]
 split at h
 ·rename_i l hb aN;split at h
  ·rename_i ah;obtain⟨U,ab,al⟩:=ah;injection h with h;subst h;obtain⟨aG,g1,g2⟩:=key l hb al;have hlen:=mi g2;refine⟨_,by simp only[h0,g1,aN];rw[if_pos ⟨by simp;omega,ab⟩],?_⟩;simp only[bZ];refine⟨_,rfl,jL.2 ⟨by simp;omega,λj v q ai aH=>?_⟩⟩;rw[List.getElem?_take]at ai aH;split at ai
   ·rename_i aC;rw[if_pos aC]at aH;rw[List.getElem?_drop]at ai aH;exact(jL.1 g2).2 _ v q ai aH
   ·cases ai
  ·cases h
 ·rename_i l hb aN;split at h
  ·rename_i al;obtain⟨aG,g1,g2⟩:=key l hb al;have aU:off<aG.length:=by rw[←mi g2];exact(List.getElem?_eq_some_iff.1 h).1
   have aV:aG.drop off=aG[off]::aG.drop (off+1):=List.drop_eq_getElem_cons aU;refine⟨aG[off],by simp only[h0,g1,aN,aV],((jL.1 g2).2 off v aG[off] h (by simp[aU])).1⟩
  ·cases h
 ·cases h
end
end
section
open Go Go.RowKit
variable[cQ]
section
variable{X:Ctx}{F:cP}{C:b2->FuncId->List aa->Option aa}{n:Nat}{R:Out->Prop}{S:Sym}{ρ:List aa}{ids:Nat->Option Nat}{s:aA}{K:Sym->M}{t:Tree}{o:Oper}{m0:Mem}{inl yl:fh}{lx:Option Nat}{key:Nat}
def jr(X:Ctx)(F:cP)(C:b2->FuncId->List aa->Option aa)(n:Nat)(R:Out->Prop)(K:Sym->M)(S:Sym)(ρ:List aa)(s:aA)(m0:Mem)(o:Oper):Prop:=
 ∃pv,bV X.P m0 s.ay o=some pv/\hS X F C n R K S ρ (s.put o.dst pv)
theorem ic{v:aL}{pv:aa}(h:K (S.put o.dst v)=.ok t)(ad:Rel F S ρ ids s)(aB:bN X.P C n t ρ R)(ae:bV X.P m0 s.ay o=some pv)(ai:bZ F (S.env ρ ids) v pv):jr X F C n R K S ρ s m0 o:=
 ⟨pv,ae,_,_,ids,t,h,ad.put o.dst ai,aB,(Ext.refl S ρ).put _ _⟩
theorem uq{p:Prim}{cU:Bool}{f:aR->aL}(h:emit p cU S (λv S=>K (S.put o.dst (f v)))=.ok t)(ad:Rel F S ρ ids s)(aB:bN X.P C n t ρ R)
  (aq:cU=true->∀v,p.run X.P ρ=some v->v.one=true) {Q:aa->aa->Prop}
  (ae:∀v,p.run X.P ρ=some v->∃pv,Q v pv/\(Rel F (S.bind cU) (ρ++[v]) ids s->bZ F ((S.bind cU).env (ρ++[v]) ids) (f (.var S.cd)) pv)):∃v pv,p.run X.P ρ=some v/\Q v pv/\hS X F C n R K S ρ (s.put o.dst pv):=by
 obtain⟨bw,a1,rfl⟩:=ig h;obtain⟨v,ai,aB⟩:=aB.av;have hb:=ad.bind v cU λe=>aq e v ai;obtain⟨pv,aH,xN⟩:=ae v ai;exact⟨v,pv,ai,aH,_,_,ids,bw,a1,hb.put o.dst (xN hb),aB,(Ext.bind S ρ v cU).put _ _⟩
theorem Q1{c x y:Operand}(aE:o.op=.pick c x y)(h:Iu o c x y S K=.ok t)(ad:Rel F S ρ ids s)(aB:bN X.P C n t ρ R):jr X F C n R K S ρ s m0 o:=by
 unfold Iu at h;have ah:=ad.ay c;split at h
 ·rename_i b hb;rw[hb]at ah;simp only[bZ,aR.den]at ah;refine ic h ad aB (pv:=if b=true then s.ay x else s.ay y) (by simp only[bV,aE,ah.1]) ?_;cases b
  ·exact ad.ay y
  ·exact ad.ay x
 ·rename_i e _ hb;rw[hb]at ah;simp only[bZ]at ah;simp only[bind,Except.bind,pure,Except.pure]at h;split at h
  ·cases h
  ·rename_i a au;split at h
   ·cases h
   ·rename_i b dB;injection h with h;subst h;rcases aB.ite with⟨U,ab⟩|⟨U,ab⟩
    ·exact ic au ad ab (by simp only[bV,aE,ah.1,Sym.env,U];rfl) (ad.ay x)
    ·exact ic dB ad ab (by simp only[bV,aE,ah.1,Sym.env,U];rfl) (ad.ay y)
 ·cases h
theorem R0{x:Operand}(aE:o.op=.nilCheck x)(h:I1 o x S K=.ok t)(ad:Rel F S ρ ids s)(aB:bN X.P C n t ρ R):jr X F C n R K S ρ s m0 o:=by
 unfold I1 at h;have ah:=ad.ay x;split at h
 ·rename_i i off hb;rw[hb]at ah;have gv:=ah;simp only[bZ]at ah;exact ic (pv:=s.ay x) h ad aB (by simp only[bV,aE,ah.1]) gv
 ·rename_i f l hb;rw[hb]at ah;have gv:=ah;simp only[bZ]at ah;obtain⟨aG,e,ak⟩:=ah;exact ic (pv:=s.ay x) h ad aB (by simp only[bV,aE,e]) gv
 ·cases h
theorem Q2{E:Env}:∀{l:List aL}{aG:List aa}{i:Nat}{v:aL},hk F E l aG->l[i]?=some v->∃q,aG[i]?=some q/\bZ F E v q
 |[],aG,i,v,h,ai=>by simp at ai
 |u::us,aG,i,v,h,ai=>by
  simp only[hk]at h;obtain⟨q,r,rfl,U,ab⟩:=h;cases i with
  |zero=>simp at ai;subst ai;exact⟨q,rfl,U⟩
  |succ i=>
   obtain⟨p,al,aJ⟩:=Q2 ab (i:=i) (v:=v) (by simpa using ai);exact⟨p,by simpa using al,aJ⟩
theorem R1{x:Operand}{i:Nat}(aE:o.op=.extract x i)(h:I2 o x i S K=.ok t)(ad:Rel F S ρ ids s)(aB:bN X.P C n t ρ R):jr X F C n R K S ρ s m0 o:=by
 unfold I2 at h;have ah:=ad.ay x;split at h
 ·rename_i l hb;rw[hb]at ah;simp only[bZ]at ah;obtain⟨aG,e,ak⟩:=ah;split at h
  ·rename_i v ai;obtain⟨q,U,ab⟩:=Q2 ak ai;exact ic h ad aB (by simp only[bV,aE,e,U]) ab
  ·cases h
 ·rename_i e hb;rw[hb]at ah;simp only[bZ]at ah;have cD:=aR.jJ ah.2;obtain⟨v,pv,U,rfl,al⟩:=uq (Q:=λv pv=>pv=v) h ad aB (by simp) λv ai=>⟨v,rfl,λhb=>by
   simp only[Prim.run,ll,aS.den]at ai;split at ai
   ·rename_i af e0;rw[show aR.den (S.env ρ ids).ρ e=aR.den ρ e from rfl,e0]at cD;have:jO af=true:=by simpa only[aa.plain]using cD
    have ae:=(X9 _).1 this v (List.mem_of_getElem? ai);obtain⟨g1,g2⟩:=fO ad v ae;simp only[bZ];exact⟨g2.symm,g1⟩
   ·cases ai⟩
  refine⟨pv,?_,al⟩;simp only[Prim.run,ll,aS.den]at U;simp only[bV,aE,ah.1];exact U
 ·cases h
theorem ZB{P:Program}{ty:TypeId}{fs:Array Field}{f:Nat}{fd:Field}(hu:P.underlying ty=some (.struct fs))(aQ:fs[f]?=some fd)(ah:¬(P.cellsOf fd.type=0\/(P.info? fd.type).isNone))(id off:Nat):
  pd P ty (.ptr id off) f=some (.ptr id (off+fd.offset)):=by simp only[pd,hu,aQ,if_neg ah]
theorem DF{P:Program}{ty:TypeId}{fs:Array Field}{f:Nat}{fd:Field}(hu:P.underlying ty=some (.struct fs))(aQ:fs[f]?=some fd)(ah:¬(P.cellsOf fd.type=0\/(P.info? fd.type).isNone))(id:Option Nat)(off:Nat)(cs:List aa):
  pd P ty (.bJ id off cs) f=some (.bJ id (off+fd.offset) (cs.drop fd.offset)):=by simp only[pd,hu,aQ,if_neg ah]
theorem M8{dZ:Nat}{x v:aa}(aj:x.plain=true)(h:A5 dZ x=some v):∃off cs,x=.bJ none off cs/\v=.agg (cs.take dZ)/\(cs.take dZ).length=dZ/\bG cs=true:=by
 unfold A5 at h;split at h
 ·rename_i off cs;split at h
  ·rename_i ak;injection h with h;exact⟨off,cs,rfl,h.symm,ak.symm,by simpa only[aa.plain]using aj⟩
  ·cases h
 ·cases h
theorem PN{ty:TypeId}{x:Operand}{f:Nat}(aE:o.op=.fieldAddr ty x f)(h:HQ X o ty x f S K=.ok t)(ad:Rel F S ρ ids s)(aB:bN X.P C n t ρ R):jr X F C n R K S ρ s m0 o:=by
 unfold HQ at h;have ah:=ad.ay x;split at h
 ·rename_i fs hu;split at h
  ·rename_i fd aQ;split at h
   ·cases h
   ·rename_i pO;have eW:bV X.P m0 s.ay o=pd X.P ty (s.ay x) f:=by simp only[bV,aE]
    split at h
    ·rename_i i off hb;rw[hb]at ah;simp only[bZ]at ah;exact ic h ad aB (by rw[eW,ah.1,ZB hu aQ pO]) (by unfold bZ;exact⟨rfl,ah.2⟩)
    ·rename_i e sz fo hb;rw[hb]at ah;simp only[bZ]at ah;obtain⟨cs,off,lI,U,ab,al,aJ⟩:=ah;refine ic h ad aB (by rw[eW,aJ,DF hu aQ pO]) ?_;simp only[bZ];by_cases hle:fo+fd.offset<=cs.length
     ·refine⟨cs,off+fd.offset,lI,U,ab,al,?_⟩;rw[List.drop_append_of_le_length (by simp;omega),List.drop_drop]
     ·refine⟨cs,off+fd.offset,(cs.drop fo++lI).drop fd.offset,U,ab,al,?_⟩;rw[List.drop_of_length_le (by omega:cs.length<=fo+fd.offset)];rfl
    ·rename_i l fo hb;rw[hb]at ah;simp only[bZ]at ah;obtain⟨aG,U,ab,al⟩:=ah;refine ic h ad aB (by rw[eW,al,DF hu aQ pO]) ?_;simp only[bZ];exact⟨aG,U,ab,by rw[List.drop_drop]⟩
    ·rename_i k e fo hb;rw[hb]at ah;simp only[bZ]at ah;obtain⟨a,cs,id,dZ,gJ,U,ab,al,aJ,bm,bI,cS,et⟩:=ah;refine ic h ad aB (by rw[eW,et,DF hu aQ pO]) ?_;simp only[bZ];exact⟨a,cs,id,dZ,gJ,U,ab,al,aJ,bm,bI,cS,by rw[List.drop_drop,Nat.add_assoc]⟩
    ·rename_i e hb;rw[hb]at ah;simp only[bZ]at ah;obtain⟨v,pv,U,ab,al⟩:=uq (f:=λv=>aL.fQ v (X.P.cellsOf ty) fd.offset) (Q:=λv pv=>pd X.P ty (s.ay x) f=some pv) h ad aB (by simp) λv ai=>by
      simp only[Prim.run,aS.den]at ai;obtain⟨off,cs,aK,rfl,bS,b8⟩:=M8 (aR.jJ ah.2) ai;refine⟨_,by rw[ah.1,aK,DF hu aQ pO],λhb=>?_⟩;obtain⟨g1,g2⟩:=fO ad (.agg (cs.take (X.P.cellsOf ty))) (by simp only[aa.plain];exact uh b8 _);simp only[bZ];refine⟨_,off+fd.offset,cs.drop (max fd.offset (X.P.cellsOf ty)),g2,g1,bS,?_⟩;congr 1
      conv=>lhs;rw[←List.take_append_drop (X.P.cellsOf ty) cs]
      by_cases hle:fd.offset<=X.P.cellsOf ty
      ·rw[List.drop_append_of_le_length (by omega),Nat.max_eq_right hle]
      ·rw[List.drop_append,List.drop_of_length_le (by omega:(cs.take (X.P.cellsOf ty)).length<=fd.offset),bS,List.drop_drop,Nat.max_eq_left (by omega)];congr 2;omega
     exact⟨pv,by rw[eW];exact ab,al⟩
    ·cases h
  ·cases h
 ·cases h
end
end
section
open Go Go.RowKit
variable[cQ]
section
variable{X:Ctx}{F:cP}{C:b2->FuncId->List aa->Option aa}{n:Nat}{R:Out->Prop}{S:Sym}{ρ:List aa}{ids:Nat->Option Nat}{s:aA}{K:Sym->M}{t:Tree}{o:Oper}{m0:Mem}{inl yl:fh}{lx:Option Nat}{key:Nat}
theorem c6.rel.some{E:Env}{k:Nat}{a:c6}{cs:List aa}(h:a.rel E k cs)(ah:cs≠[]):∃id,E.ids k=some id:=by
 obtain⟨_,_,_,_,bm,_⟩:=h;cases hi:E.ids k with
 |some id=>grind
 |none=>
  unfold isNil at bm;grind
theorem c6.rel.plain{E:Env}{k:Nat}{a:c6}{cs:List aa}(h:a.rel E k cs):bG cs=true:=by
 have:=aR.jJ h.1;rw[h.2.1]at this;assumption
theorem MI{ty:TypeId}{x i:Operand}(aE:o.op=.indexAddr ty x i)(h:GW X o ty x i S K=.ok t)(ad:Rel F S ρ ids s)(aB:bN X.P C n t ρ R):jr X F C n R K S ρ s m0 o:=by
 unfold GW at h;have ah:=ad.ay x;have eW:bV X.P m0 s.ay o=pT X.P ty (s.ay x) (s.ay i):=by grind [bV]
 split at h
 ·rename_i e hu;split at h
  ·rename_i pi Gd;obtain⟨hi,_⟩:=ad.cu Gd;split at h
   ·cases h
   ·rename_i pO;have agN:(X.P.info? e).isSome/\X.P.cellsOf e≠0:=by cases bq:X.P.info? e<;>simp[bq]at pO⊢<;>exact pO
    split at h
    ·rename_i k hb;rw[hb]at ah;obtain⟨a,cs,U,ab,al⟩:=ah;split at h
     ·rename_i a' kR;have:a'=a:=by have:=kR.symm.trans U;grind
      subst this;split at h
      ·rename_i agO;obtain⟨bX,oI⟩:=agO;obtain⟨v,pv,g1,g2,g3⟩:=uq (f:=λv=>aL.fF k v 0) (Q:=λv pv=>pT X.P ty (s.ay x) (s.ay i)=some pv) h ad aB
        (λ_ v ai=>by
         simp only[Prim.run,zj]at ai;split at ai
         ·split at ai
          ·injection ai with ai;subst ai;rfl
          ·cases ai
         ·cases ai) λv ai=>by
        simp only[Prim.run,zj]at ai;split at ai
        ·rename_i cs' gJ dZ aK aO;have:cs'=cs:=by have:=aK.symm.trans ab.2.1;grind
         subst this;split at ai
         ·rename_i aU;injection ai with ai;subst ai;have bU:cs'≠[]:=by rintro rfl;simp at aU
          obtain⟨id,cr⟩:=ab.some bU;rw[cr,la oI]at al;have KB:ids k=some id:=cr;refine⟨.bJ (some id) (0+dZ.toNat*X.P.cellsOf e) (cs'.drop (dZ.toNat*X.P.cellsOf e)),?_,λhb=>?_⟩
          ·simp only[pT,hu];grind
          ·obtain⟨v1,v2⟩:=fO ad (.int gJ dZ) rfl;exact⟨a',cs',id,dZ,gJ,U,c6.rel.mono (Env.p0 S ρ ids _ true) U ab,KB,v2,v1,aU.1,aU.2,by rw[bX];simp⟩
         ·cases ai
        ·cases ai
       exact⟨pv,by rw[eW];exact g2,g3⟩
      ·cases h
     ·cases h
    ·split at h
     ·rename_i Vr ai3;obtain⟨aj,Gk⟩:=ad.cu ai3;obtain⟨v,pv,g1,g2,g3⟩:=uq (f:=λv=>aL.fQ v (X.P.cellsOf e) 0) (Q:=λv pv=>pT X.P ty (s.ay x) (s.ay i)=some pv) h ad aB (by simp) λv ai=>by
       simp only[Prim.run,kp]at ai;split at ai
       ·rename_i sz off len cs gJ dZ aK aO;split at ai
        ·rename_i hx;obtain⟨cy,dM,gC,jF⟩:=hx;injection ai with ai;subst ai;refine⟨.bJ none (off+dZ.toNat*X.P.cellsOf e) (cs.drop (dZ.toNat*X.P.cellsOf e)),?_,λhb=>?_⟩
         ·rw[aj,hi,aK,aO];simp only[pT,hu];rw[if_pos ⟨cy,dM,gC.symm,agN.1⟩,gC]
         ·rw[aj,aK]at Gk;have cD:bG cs=true:=by simpa only[aa.plain]using Gk
          obtain⟨v1,v2⟩:=fO ad (.agg ((cs.drop (dZ.toNat*X.P.cellsOf e)).take (X.P.cellsOf e))) (by exact uh (qJ cD _) _);unfold bZ;refine⟨_,off+dZ.toNat*X.P.cellsOf e,(cs.drop (dZ.toNat*X.P.cellsOf e)).drop (X.P.cellsOf e),v2,v1,jF,?_⟩;rw[List.drop_zero,List.take_append_drop]
        ·cases ai
       ·cases ai
      exact⟨pv,by rw[eW];exact g2,g3⟩
     ·cases h
  ·cases h
 ·rename_i len e hu;split at h
  ·rename_i gJ dZ b off U ab;split at h
   ·rename_i hx;have fG:=ad.ay i;rw[U]at fG;rw[ab]at ah;simp only[bZ,aR.den]at fG ah;refine ic h ad aB (by rw[eW,ah.1,fG.1];simp only[pT,hu];rw[if_pos hx]) ?_;unfold bZ;exact⟨rfl,ah.2⟩
   ·cases h
  ·cases h
 ·cases h
theorem Ea{E:Env}{x:aR}{cs:List aa}{j:Nat}{q:aa}(aV:x.den E.ρ=.agg cs)(aq:x.ok E.ρ)(aH:cs[j]?=some q):bZ F E (.e (.proj x j)) q/\q.one=true:=by
 have ae:=aR.jJ aq;rw[aV]at ae;obtain⟨U,ab⟩:=Hq ae aH;have e:aR.den E.ρ (.proj x j)=q:=by grind [aR.den,cM]
 refine⟨?_,ab⟩;exact⟨e.symm,aq,by grind [aR.den]⟩
theorem OK{E:Env}{x:aR}{cs:List aa}{fo k:Nat}(aV:x.den E.ρ=.agg cs)(aq:x.ok E.ρ)(ak:fo+k<=cs.length):cJ F E ((List.range k).map λj=>.e (.proj x (fo+j))) ((cs.drop fo).take k):=by
 refine jL.2 ⟨by simp;omega,λj v q ai aH=>?_⟩;grind [Ea]
theorem ym{E:Env}{x:aR}{cs:List aa}{k:Nat}(aV:x.den E.ρ=.agg cs)(aq:x.ok E.ρ)(ak:cs.length=k):cJ F E ((List.range k).map λj=>.e (.proj x j)) cs:=by
 have:=OK (F:=F) (fo:=0) (k:=k) aV aq (by omega);grind
theorem Eb{P:Program}{ty:TypeId}{m:Mem}{id:Option Nat}{off:Nat}{cs:List aa}(aN:ik P ty=some true)(ak:P.cellsOf ty<=cs.length)(hi:(P.info? ty).isSome):h0 P m ty (.bJ id off cs)=some (.agg (cs.take (P.cellsOf ty))):=by grind [h0,nW]
theorem DG{P:Program}{ty:TypeId}{m:Mem}{id:Option Nat}{off:Nat}{cs:List aa}{q:aa}(aN:ik P ty=some false)(ak:cs[0]?=some q):h0 P m ty (.bJ id off cs)=some q:=by
 cases cs with
 |nil=>simp at ak
 |cons c cs=>grind [h0,nW]
theorem Q3{ty:TypeId}{x:Operand}(aE:o.op=.load ty x)(h:Iv X lx o ty x S K=.ok t)(ad:Rel F S ρ ids s)(aI:lf F lx m0 s)(aB:bN X.P C n t ρ R):jr X F C n R K S ρ s m0 o:=by
 unfold Iv at h;have ah:=ad.ay x;have eW:bV X.P m0 s.ay o=h0 X.P m0 ty (s.ay x):=by grind [bV]
 split at h
 ·rename_i i off hb;rw[hb]at ah;simp only[bZ]at ah;split at h
  ·grind [Px,ic]
  ·cases h
 ·rename_i l fo hb;rw[hb]at ah;simp only[bZ]at ah;obtain⟨aG,U,ab,al⟩:=ah;have hlen:=mi U;split at h
  ·rename_i aN;split at h
   ·rename_i hx;refine ic h ad aB (by rw[eW,al,Eb aN (by simp;omega) hx.2]) ?_;grind [bZ,jL]
   ·cases h
  ·rename_i aN;split at h
   ·rename_i v ai;have aU:fo<aG.length:=by grind
    exact ic h ad aB (pv:=aG[fo]) (by grind [DG]) ((jL.1 U).2 fo v _ ai (by simp[aU])).1
   ·cases h
  ·cases h
 ·rename_i e sz fo hb;rw[hb]at ah;simp only[bZ]at ah;obtain⟨cs,off,lI,U,ab,al,aJ⟩:=ah;split at h
  ·rename_i aN;split at h
   ·grind [ic,Eb,bZ,OK]
   ·cases h
  ·rename_i aN;split at h
   ·rename_i aU;have xh:fo<cs.length:=by omega
    exact ic h ad aB (pv:=cs[fo]) (by grind [DG]) (Ea U ab (by simp[xh])).1
   ·cases h
  ·cases h
 ·rename_i k i fo hb;rw[hb]at ah;simp only[bZ]at ah;obtain⟨a,cs,id,dZ,gJ,U,ab,al,aJ,bm,bI,cS,et⟩:=ah;split at h
  ·rename_i a' kR;have:a'=a:=by have:=kR.symm.trans U;grind
   subst this;have s7:∀m v,Prim.run X.P ρ (.get a'.sz fo m a'.c i)=some v->m=((cs.drop (dZ.toNat*a'.sz+fo)).take m).length/\v=.agg ((cs.drop (dZ.toNat*a'.sz+fo)).take m):=λm v ai=>by
    have aK:a'.c.den ρ=.agg cs:=ab.2.1;have aO:i.den ρ=.int gJ dZ:=aJ;grind [Prim.run,zk]
   have cD:=ab.plain;split at h
   ·rename_i aN;split at h
    ·rename_i hx;obtain⟨v,pv,g1,g2,g3⟩:=uq (f:=λv=>aL.agg ((List.range (X.P.cellsOf ty)).map λj=>.e (.proj v j))) (Q:=λv pv=>h0 X.P m0 ty (s.ay x)=some pv) h ad aB (by simp) λv ai=>by
      obtain⟨aK,rfl⟩:=s7 _ v ai;refine⟨_,by rw[et,Eb aN (by simp at aK;simp;omega) hx.2],λhb=>?_⟩;obtain⟨v1,v2⟩:=fO ad (.agg ((cs.drop (dZ.toNat*a'.sz+fo)).take (X.P.cellsOf ty))) (by simp only[aa.plain];exact uh (qJ cD _) _);unfold bZ;exact⟨_,rfl,ym v2 v1 aK.symm⟩
     exact⟨pv,by rw[eW];exact g2,g3⟩
    ·cases h
   ·rename_i aN;split at h
    ·obtain⟨v,pv,g1,g2,g3⟩:=uq (f:=λv=>aL.e (.proj v 0)) (Q:=λv pv=>h0 X.P m0 ty (s.ay x)=some pv) h ad aB (by simp) λv ai=>by
      obtain⟨aK,rfl⟩:=s7 _ v ai;have aU:dZ.toNat*a'.sz+fo<cs.length:=by simp at aK;omega
      refine⟨cs[dZ.toNat*a'.sz+fo],by rw[et,DG (q:=cs[dZ.toNat*a'.sz+fo]) aN (by simp[aU])],λhb=>?_⟩;obtain⟨v1,v2⟩:=fO ad (.agg ((cs.drop (dZ.toNat*a'.sz+fo)).take 1)) (by simp only[aa.plain];exact uh (qJ cD _) _);exact(Ea v2 v1 (by simp[aU])).1
     exact⟨pv,by rw[eW];exact g2,g3⟩
    ·cases h
   ·cases h
  ·cases h
 ·rename_i e hb;rw[hb]at ah;simp only[bZ]at ah;have TL:∀m v,Prim.run X.P ρ (.deref m (.e e))=some v->∃off cs,s.ay x=.bJ none off cs/\v=.agg (cs.take m)/\(cs.take m).length=m/\bG cs=true:=λm v ai=>by
   simp only[Prim.run,aS.den]at ai;obtain⟨off,cs,aK,aO,bS,b8⟩:=M8 (aR.jJ ah.2) ai;exact⟨off,cs,by rw[ah.1,aK],aO,bS,b8⟩
  split at h
  ·rename_i aN;split at h
   ·cases h
   ·rename_i hx;have c1:(X.P.info? ty).isSome:=by cases bq:X.P.info? ty<;>simp[bq]at hx⊢
    obtain⟨v,pv,g1,g2,g3⟩:=uq (f:=λv=>aL.agg ((List.range (X.P.cellsOf ty)).map λj=>.e (.proj v j))) (Q:=λv pv=>h0 X.P m0 ty (s.ay x)=some pv) h ad aB (by simp) λv ai=>by
     obtain⟨off,cs,aK,rfl,bS,b8⟩:=TL _ v ai;refine⟨_,by rw[aK,Eb aN (by simp at bS;omega) c1],λhb=>?_⟩;obtain⟨v1,v2⟩:=fO ad (.agg (cs.take (X.P.cellsOf ty))) (by simp only[aa.plain];exact uh b8 _);unfold bZ;exact⟨_,rfl,ym v2 v1 bS⟩
    exact⟨pv,by rw[eW];exact g2,g3⟩
  ·rename_i aN;obtain⟨v,pv,g1,g2,g3⟩:=uq (f:=λv=>aL.e (.proj v 0)) (Q:=λv pv=>h0 X.P m0 ty (s.ay x)=some pv) h ad aB (by simp) λv ai=>by
    obtain⟨off,cs,aK,rfl,bS,b8⟩:=TL _ v ai;have aU:0<cs.length:=by simp at bS;omega
    refine⟨cs[0],by rw[aK,DG (q:=cs[0]) aN (by simp[aU])],λhb=>?_⟩;obtain⟨v1,v2⟩:=fO ad (.agg (cs.take 1)) (by simp only[aa.plain];exact uh b8 _);exact(Ea v2 v1 (by simp[aU])).1
   exact⟨pv,by rw[eW];exact g2,g3⟩
  ·cases h
 ·cases h
end
end
section
open Go Go.RowKit
variable[cQ]
section
variable{X:Ctx}{F:cP}{C:b2->FuncId->List aa->Option aa}{n:Nat}{R:Out->Prop}{S:Sym}{ρ:List aa}{ids:Nat->Option Nat}{s:aA}{K:Sym->M}{t:Tree}{o:Oper}{m0:Mem}{inl yl:fh}{lx:Option Nat}{key:Nat}
theorem sH{p:Prim}(h:emit p true S (λv S=>K (S.put o.dst (.e v)))=.ok t)(ad:Rel F S ρ ids s)(aB:bN X.P C n t ρ R)
  (ae:∀v,p.run X.P ρ=some v->v.plain=true/\v.one=true) (ai:p.run X.P ρ=bV X.P m0 s.ay o):jr X F C n R K S ρ s m0 o:=by
 obtain⟨v,U,ab⟩:=aa7 h ad aB ae;exact⟨v,by grind,ab⟩
theorem R2{op:BinOp}{ty Gl:TypeId}{x y:Operand}{p q:aS}(aE:o.op=.binOp op ty x y Gl)(ae:(S.ay x).cu=some p)(aH:(S.ay y).cu=some q)(h:emit (.bin op ty p q) true S (λv S=>K (S.put o.dst (.e v)))=.ok t)(ad:Rel F S ρ ids s)(aB:bN X.P C n t ρ R):jr X F C n R K S ρ s m0 o:=
 sH h ad aB (λv ai=>Ya ai) (by simp only[bV,aE,Prim.run,(ad.cu ae).1,(ad.cu aH).1])
theorem E9{op:UnOp}{ty:TypeId}{x:Operand}{p:aS}(aE:o.op=.unOp op ty x)(ae:(S.ay x).cu=some p)(h:emit (.un op p) true S (λv S=>K (S.put o.dst (.e v)))=.ok t)(ad:Rel F S ρ ids s)(aB:bN X.P C n t ρ R):jr X F C n R K S ρ s m0 o:=
 sH h ad aB (λv ai=>ZA ai) (by simp only[bV,aE,Prim.run,(ad.cu ae).1])
theorem Q4{a b:TypeId}{x:Operand}{p:aS}(aE:o.op=.convert a b x)(ae:(S.ay x).cu=some p)(h:emit (.conv a b p) true S (λv S=>K (S.put o.dst (.e v)))=.ok t)(ad:Rel F S ρ ids s)(aB:bN X.P C n t ρ R):jr X F C n R K S ρ s m0 o:=
 sH h ad aB (λv ai=>W6 ai) (by simp only[bV,aE,Prim.run,(ad.cu ae).1])
theorem PO{ty:TypeId}{x y:Operand}{p q:aS}(aE:o.op=.index ty x y)(ae:(S.ay x).cu=some p)(aH:(S.ay y).cu=some q)(h:emit (.idx ty p q) true S (λv S=>K (S.put o.dst (.e v)))=.ok t)(ad:Rel F S ρ ids s)(aB:bN X.P C n t ρ R):jr X F C n R K S ρ s m0 o:=
 sH h ad aB (λv ai=>Ws (by rw[←(ad.cu ae).1];exact(ad.cu ae).2) ai) (by simp only[bV,aE,Prim.run,(ad.cu ae).1,(ad.cu aH).1])
theorem R3(ad:Rel F S ρ ids s){x:Option Operand}{p:Option aS}(h:zY S x=some p):x.map s.ay=p.map (aS.den ρ):=by
 cases x with
 |none=>grind [zY]
 |some x=>
  obtain⟨q,aH,rfl⟩:=Option.map_eq_some_iff.1 h;simp[(ad.cu aH).1]
theorem ok_slice{ty:TypeId}{x:Operand}{lo hi:Option Operand}{p:aS}{a b:Option aS}(aE:o.op=.slice ty x lo hi none)(ae:(S.ay x).cu=some p)(au:zY S lo=some a)(hb:zY S hi=some b)
  (h:emit (.slice ty p a b) true S (λv S=>K (S.put o.dst (.e v)))=.ok t) (ad:Rel F S ρ ids s) (aB:bN X.P C n t ρ R):jr X F C n R K S ρ s m0 o:=
 sH h ad aB (λv ai=>Wr (by rw[←(ad.cu ae).1];exact(ad.cu ae).2) ai) (by simp only[bV,aE,Prim.run,(ad.cu ae).1,R3 ad au,R3 ad hb])
theorem R4{c:Call}{l:List aS}(aE:o.op=.call c)(ah:c.callee=.builtin .min)(ak:hT (c.args.toList.map S.ay)=some l)(h:emit (.iz false l) true S (λv S=>K (S.put o.dst (.e v)))=.ok t)(ad:Rel F S ρ ids s)(aB:bN X.P C n t ρ R):jr X F C n R K S ρ s m0 o:=
 sH h ad aB (λv ai=>Yc (by simpa[Prim.run,xK,if_false]using ai)) (by simp[bV,aE,ah,Prim.run,xK,if_false,(ad.evs _ _ ak).1])
theorem R5{c:Call}{l:List aS}(aE:o.op=.call c)(ah:c.callee=.builtin .max)(ak:hT (c.args.toList.map S.ay)=some l)(h:emit (.iz true l) true S (λv S=>K (S.put o.dst (.e v)))=.ok t)(ad:Rel F S ρ ids s)(aB:bN X.P C n t ρ R):jr X F C n R K S ρ s m0 o:=
 sH h ad aB (λv ai=>Yd (by simpa only[Prim.run,xK,if_true]using ai)) (by simp only[bV,aE,ah,Prim.run,xK,if_true,(ad.evs _ _ ak).1])
theorem aa8{P:Program}{ty e:TypeId}{k:Nat}(hu:P.underlying ty=some (.array k e))(x:aa):ht P ty x=some (.int .i64 k):=by simp only[ht,hu]
theorem R6{c:Call}{ty:TypeId}{x:Operand}(aE:o.op=.call c)(ah:c.callee=.builtin .len)(a1:c.argTypes[0]?=some ty)(aj:c.args.toList=[x])(h:I3 X o ty x S K=.ok t)(ad:Rel F S ρ ids s)(aB:bN X.P C n t ρ R):jr X F C n R K S ρ s m0 o:=by
 have eW:bV X.P m0 s.ay o=ht X.P ty (s.ay x):=by grind [bV]
 unfold I3 at h;have UU:=ad.ay x;split at h
 ·rename_i k hb;rw[hb]at UU;obtain⟨a,cs,U,ab,al⟩:=UU;split at h
  ·rename_i e a' hu kR;have:a'=a:=by have:=kR.symm.trans U;grind
   subst this;split at h
   ·cases h
   have oI:a'.born.j2=true:=by grind
   refine sH h ad aB (λv ai=>?_) ?_
   ·simp only[Prim.run,Bg]at ai;split at ai
    ·injection ai with ai;subst ai;trivial
    ·cases ai
   ·have aK:a'.c.den ρ=.agg cs:=ab.2.1;simp only[Prim.run,Bg,aK];rw[eW,al,la oI];have aO:(S.env ρ ids).ids k=ids k:=rfl;rw[aO];cases hi:ids k with
    |some id=>simp only[ht,hu]
    |none=>
     have:cs=[]:=Classical.byContradiction λbU=>by
      obtain⟨id,cr⟩:=ab.some bU;grind
     subst this;simp[ht,hu]
  ·cases h
 ·split at h
  ·rename_i k e hu;exact ic h ad aB (by rw[eW,aa8 hu]) (by trivial)
  ·split at h
   ·rename_i p ae;exact sH h ad aB (λv ai=>Yb ai) (by rw[eW];simp only[Prim.run,(ad.cu ae).1])
   ·cases h
theorem NJ(ad:Rel F S ρ ids s):∀(l:List Operand),(∀x∈l,(S.ay x=.bT\/(s.ay x).one=true))->cJ F (S.env ρ ids) (l.map S.ay) (l.map s.ay)
 |[],_=>by simp[cJ]
 |x::l,h=>by exact⟨_,_,rfl,ad.ay x,h x (by simp),NJ ad l λy aF=>h y (by simp[aF])⟩
theorem aa9(ad:Rel F S ρ ids s){x:aR}(h:S.E6 x=true)(aq:x.ok ρ):(x.den ρ).one=true:=by
 cases x with
 |bu v=>exact h
 |proj e j=>exact Zz (aR.jJ aq.1) aq.2
 |var i=>
  simp[Sym.E6]at h;exact ad.cU i h
theorem NK(ad:Rel F S ρ ids s){v:aL}{q:aa}(h:v.yN S=true)(ai:bZ F (S.env ρ ids) v q):v=.bT\/q.one=true:=by
 cases v with
 |e x=>exact .inr (by rw[ai.1];exact aa9 ad h ai.2)
 |bT=>grind
 |ptr i o=>rw[ai.1];exact .inr rfl
 |c8=>rw[ai.1];exact .inr rfl
 |own k=>grind [bZ,wm]
 |fn f l=>obtain⟨aG,rfl,_⟩:=ai;exact .inr rfl
 |lit a b l=>obtain⟨aG,rfl,_⟩:=ai;exact .inr rfl
 |ft l o=>obtain⟨aG,_,_,rfl⟩:=ai;exact .inr rfl
 |cq y=>obtain⟨l,_,rfl⟩:=ai;exact .inr rfl
 |_=>trivial
structure kq(S br:Sym):Prop where
 g:br.g=S.g
 bx:br.bx=S.bx
 bd:br.bd=S.bd
 bb:br.bb=S.bb
theorem kq.refl(S:Sym):kq S S:=⟨rfl,rfl,rfl,rfl⟩
theorem kq.trans{S ba ji:Sym}(h:kq S ba)(k:kq ba ji):kq S ji:=⟨k.g.trans h.g,k.bx.trans h.bx,k.bd.trans h.bd,k.bb.trans h.bb⟩
theorem kq.bind(S:Sym)(cU:Bool):kq S (S.bind cU):=⟨rfl,rfl,rfl,rfl⟩
theorem kq.ay{S br:Sym}(h:kq S br)(x:Operand):br.ay x=S.ay x:=by cases x<;>simp only[Sym.ay,Sym.get,h.g]
theorem kq.le{S br:Sym}{ρ b1:List aa}{ids:Nat->Option Nat}(h:kq S br)(ae:ρ<+:b1):(S.env ρ ids).le (br.env b1 ids):=
 ⟨ae,λk a au=>by simp only[Sym.env,h.bd]at au⊢;exact au,by simp only[Sym.env,h.bx];grind,λ_ _ _=>rfl⟩
def R7(X:Ctx)(F:cP)(C:b2->FuncId->List aa->Option aa)(n:Nat)(R:Out->Prop)(ids:Nat->Option Nat)(s:aA)(S:Sym)(ρ:List aa)(K:List aL->Sym->M)(q:aa):Prop:=
 ∃c br b1 bw,K c br=.ok bw/\Rel F br b1 ids s/\bN X.P C n bw b1 R/\Ext S ρ br b1/\kq S br/\cJ F (br.env b1 ids) c q.cells/\q.known=true
theorem OL{q:aa}(h:q.one=true):q.cells=[q]/\q.known=true:=by cases q<;>simp[aa.one]at h<;>exact⟨rfl,rfl⟩
theorem Ax{ty:TypeId}{v:aL}{K:List aL->Sym->M}{q:aa}(h:uP X ty v S K=.ok t)(ad:Rel F S ρ ids s)(ai:bZ F (S.env ρ ids) v q)(aB:bN X.P C n t ρ R):R7 X F C n R ids s S ρ K q:=by
 have single:∀u,K [u] S=.ok t->bZ F (S.env ρ ids) u q->q.one=true->R7 X F C n R ids s S ρ K q:=λu aq hu ar=>by
  obtain⟨aK,aO⟩:=OL ar;refine⟨[u],S,ρ,t,aq,ad,aB,Ext.refl S ρ,kq.refl S,?_,aO⟩;grind [cJ]
 have lR:∀u,u.yN S=true->u.E5=true->bZ F (S.env ρ ids) u q->q.one=true:=λu ah ao hu=>(NK ad ah hu).resolve_left λe=>by subst e;cases ao
 unfold uP at h;split at h
 ·rename_i l aN;split at h
  ·have iw:=ai;obtain⟨aG,rfl,er⟩:=iw;exact⟨l,S,ρ,t,h,ad,aB,Ext.refl S ρ,kq.refl S,er,rfl⟩
  ·cases h
 ·rename_i x aN;simp only[bZ]at ai;obtain⟨bw,a1,rfl⟩:=ig h;obtain⟨v,gm,aB⟩:=aB.av;simp only[Prim.run,vc,aS.den]at gm;split at gm
  ·rename_i cs hcs;split at gm
   ·rename_i ak;injection gm with gm;subst gm;have aH:q=.agg cs:=by rw[ai.1];exact hcs
    subst aH;have ae:(aa.agg cs).plain=true:=by grind [aR.jJ]
    have hb:=ad.bind (x.den ρ) false (by simp);obtain⟨g1,g2⟩:=fO ad (x.den ρ) (by grind);refine⟨_,_,_,bw,a1,hb,aB,Ext.bind S ρ _ false,kq.bind S false,ym (g2.trans hcs) g1 ak,rfl⟩
   ·cases gm
  ·cases gm
 ·rename_i x aN;split at h
  ·rename_i ar;exact single _ h ai (lR (.e x) ar rfl ai)
  ·obtain⟨bw,a1,rfl⟩:=ig h;obtain⟨v,gm,aB⟩:=aB.av;change na (x.den ρ)=some v at gm;unfold na at gm;by_cases ar:(aR.den ρ x).one=true
   ·rw[if_pos ar]at gm;injection gm with gm;subst gm;have hb:=ad.bind (x.den ρ) true (λ_=>ar);obtain⟨g1,g2⟩:=fO ad (x.den ρ) (aR.jJ ai.2);have aH:q=x.den ρ:=ai.1;obtain⟨aK,aO⟩:=OL (q:=q) (by grind);refine⟨_,_,_,bw,a1,hb,aB,Ext.bind S ρ _ true,kq.bind S true,?_,aO⟩;rw[aK];refine⟨q,[],rfl,?_,.inr (by grind),rfl⟩;exact⟨aH.trans g2.symm,g1⟩
   grind
 ·exact single _ h ai (lR _ rfl rfl ai)
 ·exact single _ h ai (lR _ rfl rfl ai)
 ·exact single _ h ai (lR _ rfl rfl ai)
 ·exact single _ h ai (lR _ rfl rfl ai)
 ·exact single _ h ai (lR _ rfl rfl ai)
 ·exact single _ h ai (lR _ rfl rfl ai)
 ·exact single _ h ai (lR _ rfl rfl ai)
 ·cases h
theorem ad9{E:Env}{l:List aL}{aG:List aa}{j:Nat}{v:aL}{q:aa}(h:cJ F E l aG)(ai:l[j]?=some v)(aH:aG[j]?=some q):bZ F E v q:=((jL.1 h).2 _ _ _ ai aH).1
theorem OM{ty:TypeId}{x:Operand}{f:Nat}(aE:o.op=.field ty x f)(h:Hp X o ty x f S K=.ok t)(ad:Rel F S ρ ids s)(aB:bN X.P C n t ρ R):jr X F C n R K S ρ s m0 o:=by
 unfold Hp at h;have ah:=ad.ay x;split at h
 ·rename_i fs hu;split at h
  ·rename_i fd aQ;split at h
   ·rename_i TP;split at h
    ·rename_i l hb;rw[hb]at ah;obtain⟨aG,e,ak⟩:=ah;split at h
     ·rename_i v ai;have aU:fd.offset<aG.length:=by grind [mi]
      have aH:aG[fd.offset]?=some aG[fd.offset]:=by simp[aU]
      exact ic h ad aB (by grind [bV,yB]) ((jL.1 ak).2 _ _ _ ai aH).1
     ·cases h
    ·rename_i e hb;rw[hb]at ah;simp only[bZ]at ah;split at h
     ·rename_i aU;obtain⟨bw,a1,rfl⟩:=ig h;obtain⟨v,gm,aB⟩:=aB.av;simp only[Prim.run,vc,aS.den]at gm;split at gm
      ·rename_i cs hcs;split at gm
       ·rename_i ak;injection gm with gm;subst gm;have aH:s.ay x=.agg cs:=by rw[ah.1];exact hcs
        have ae:(aa.agg cs).plain=true:=by grind [aR.jJ]
        have dB:=ad.bind (e.den ρ) false (by simp);obtain⟨g1,g2⟩:=fO ad (e.den ρ) (by grind);have iu:fd.offset<cs.length:=by omega
        have ai4:cs[fd.offset]?=some cs[fd.offset]:=by simp[iu]
        have ai:((List.range (X.P.cellsOf ty)).map λj=>aL.e (.proj (.var S.cd) j))[fd.offset]?=some (.e (.proj (.var S.cd) fd.offset)):=by simp[aU]
        refine⟨_,by grind [bV,yB],_,_,ids,bw,a1,dB.put o.dst (ad9 (ym (g2.trans hcs) g1 ak) ai ai4),aB,(Ext.bind S ρ _ false).put _ _⟩
       ·cases gm
      ·cases gm
     ·cases h
    ·cases h
   ·cases h
  ·cases h
 ·cases h
end
end
section
open Go Go.RowKit
variable[cQ]
section
variable{X:Ctx}{F:cP}{C:b2->FuncId->List aa->Option aa}{n:Nat}{R:Out->Prop}{S:Sym}{ρ:List aa}{ids:Nat->Option Nat}{s:aA}{K:Sym->M}{t:Tree}{o:Oper}{m0:Mem}{inl yl:fh}{lx:Option Nat}{key:Nat}{E:Env}
theorem Dp:∀{a:List aL}{a':List aa}{b:List aL}{a6:List aa},cJ F E a a'->cJ F E b a6->cJ F E (a++b) (a'++a6)
 |[],a',b,a6,h,k=>by simp only[cJ]at h;subst h;simpa using k
 |v::a,a',b,a6,h,k=>by
  simp only[cJ]at h;obtain⟨q,r,rfl,U,ab,al⟩:=h;simp only[List.cons_append,cJ];exact⟨q,r++a6,rfl,U,ab,Dp al k⟩
theorem aba{a:List aL}{a':List aa}(h:cJ F E a a')(k:Nat):cJ F E (a.take k) (a'.take k):=by
 refine jL.2 ⟨by simp[mi h],λj v q ai aH=>?_⟩;rw[List.getElem?_take]at ai aH;split at ai
 ·rename_i aC;rw[if_pos aC]at aH;exact(jL.1 h).2 j v q ai aH
 ·cases ai
theorem abb{a:List aL}{a':List aa}(h:cJ F E a a')(k:Nat):cJ F E (a.drop k) (a'.drop k):=by
 refine jL.2 ⟨by simp[mi h],λj v q ai aH=>?_⟩;rw[List.getElem?_drop]at ai aH;exact(jL.1 h).2 _ v q ai aH
theorem NL{l af:List aL}{aG cB:List aa}(h:cJ F E l aG)(k:cJ F E af cB)(off:Nat):cJ F E (AX l off af) (fa aG off cB):=by
 unfold AX fa;rw[mi k];exact Dp (Dp (aba h _) k) (abb h _)
theorem wB:∀{z:List aa},bG z=true->cJ F E (oJ z) z
 |[],_=>by simp[oJ,cJ]
 |q::z,h=>by
  simp only[bG,Bool.and_eq_true]at h;simp only[oJ,cJ];exact⟨q,z,rfl,by unfold bZ;exact⟨rfl,h.1.1⟩,.inr h.1.2,wB h.2⟩
theorem Iw{z:List aL}{dy:List aa}(h:cJ F E z dy):∀k,cJ F E (E7 z k) (e8 dy k)
 |0=>by simp[E7,e8,cJ]
 |k+1=>Dp h (Iw h k)
def s0(F:cP)(E:Env):List (Nat×List aL)->List (Nat×aa)->Prop
 |[],l=>l=[]
 |(i,c)::cs,l=>∃q aG,l=(i,q)::aG/\cJ F E c q.cells/\q.known=true/\s0 F E cs aG
theorem s0.mono{E':Env}(h:E.le E'):∀{cs:List (Nat×List aL)}{l:List (Nat×aa)},s0 F E cs l->s0 F E' cs l
 |[],l,k=>k
 |(i,c)::cs,l,⟨q,aG,e,U,ab,al⟩=>⟨q,aG,e,cJ.mono h U,ab,s0.mono h al⟩
theorem AN{place:Nat->Option (Nat×Nat)}:∀{ps:List (Nat×List aL)}{bz:List (Nat×aa)}{c:List aL}{c':List aa}{l:List aL},s0 F E ps bz->cJ F E c c'->w7 place c ps=some l ->
  ∃aG,kJ place c' bz=some aG/\cJ F E l aG
 |[],bz,c,c',l,ae,ah,h=>by
  simp only[s0]at ae;subst ae;simp only[w7,Option.some.injEq]at h;subst h;exact⟨c',rfl,ah⟩
 |(i,v)::ps,bz,c,c',l,ae,ah,h=>by
  obtain⟨q,Lm,rfl,U,ab,al⟩:=ae;simp only[w7]at h;split at h
  ·cases h
  ·rename_i off size cD;split at h
   ·rename_i hx;obtain⟨aG,g1,g2⟩:=AN al (NL ah U off) h;refine⟨aG,?_,g2⟩;simp only[kJ,cD];rw[if_pos ⟨ab,by rw[←mi U];exact hx.1,by rw[←mi ah];exact hx.2⟩];exact g1
   ·cases h
theorem NM:∀{l:List (Nat×TypeId×aL)}{K:List (Nat×List aL)->Sym->M}{bz:List (Nat×aa)}{S:Sym}{ρ:List aa}{t:Tree},wA X l S K=.ok t->Rel F S ρ ids s->bN X.P C n t ρ R ->
  (∀E:Env,(S.env ρ ids).le E->True)->l.map (λp=>p.1)=bz.map (λp=>p.1)->(∀(j:Nat) p q,l[j]?=some p->bz[j]?=some q->bZ F (S.env ρ ids) p.2.2 q.2) ->
  ∃cs br b1 bw,K cs br=.ok bw/\Rel F br b1 ids s/\bN X.P C n bw b1 R/\Ext S ρ br b1/\kq S br/\s0 F (br.env b1 ids) cs bz
 |[],K,bz,S,ρ,t,h,ad,aB,_,ak,ai=>by
  cases bz with
  |nil=>exact⟨[],S,ρ,t,h,ad,aB,Ext.refl S ρ,kq.refl S,rfl⟩
  |cons _ _=>simp at ak
 |(i,ty,v)::l,K,bz,S,ρ,t,h,ad,aB,_,ak,ai=>by
  cases bz with
  |nil=>simp at ak
  |cons q bz=>
   simp only[List.map_cons,List.cons.injEq]at ak;obtain⟨cm,q⟩:=q;simp only at ak;obtain⟨rfl,ak⟩:=ak;simp only[wA]at h;obtain⟨c,ba,bY,t1,U,ab,al,aJ,bm,bI,cS⟩:=Ax h ad (ai 0 _ _ rfl rfl) aB;have hle:(S.env ρ ids).le (ba.env bY ids):=bm.le aJ.pre;obtain⟨cs,ji,kD,t2,g1,g2,g3,g4,g5,g6⟩:=NM U ab al (λ_ _=>trivial) ak (λj p q ae aH=>bZ.mono hle (ai (j+1) p q ae aH));exact⟨(i,c)::cs,ji,kD,t2,g1,g2,g3,aJ.trans g4,bm.trans g5,q,bz,rfl,cJ.mono (g5.le g4.pre) bI,cS,g6⟩
theorem Ec(ad:Rel F S ρ ids s)(parts:Array (Nat×Operand))(f:Nat×Operand->TypeId){K:List (Nat×List aL)->Sym->M}
  (h:wA X (parts.toList.map λp=>(p.1,f p,S.ay p.2)) S K=.ok t) (aB:bN X.P C n t ρ R):
  ∃cs br b1 bw,K cs br=.ok bw/\Rel F br b1 ids s/\bN X.P C n bw b1 R/\Ext S ρ br b1/\kq S br/\s0 F (br.env b1 ids) cs (parts.toList.map λp=>(p.1,s.ay p.2)):=by
 refine NM h ad aB (λ_ _=>trivial) (by simp) λj p q ae aH=>?_;rw[List.getElem?_map]at ae aH;cases aC:parts.toList[j]? with
 |none=>rw[aC]at ae;cases ae
 |some x=>
  rw[aC]at ae aH;simp only[Option.map_some,Option.some.injEq]at ae aH;subst ae;subst aH;exact ad.ay x.2
theorem PQ{ty:TypeId}{parts:Array (Nat×Operand)}(aE:o.op=.build ty parts)(h:HR X o ty parts S K=.ok t)(ad:Rel F S ρ ids s)(aB:bN X.P C n t ρ R):jr X F C n R K S ρ s m0 o:=by
 have eW:bV X.P m0 s.ay o=sI X.P ty (parts.toList.map λp=>(p.1,s.ay p.2)):=by simp only[bV,aE]
 unfold HR at h;split at h
 ·rename_i fs z hu bO;split at h
  ·rename_i hx;obtain⟨cs,ba,bY,t1,U,ab,al,aJ,bm,bI⟩:=Ec ad parts _ h aB;split at U
   ·rename_i l ak;obtain⟨aG,g1,g2⟩:=AN bI (wB hx.1) ak;refine⟨.agg aG,?_,_,_,ids,t1,U,ab.put o.dst (by unfold bZ;exact⟨aG,rfl,g2⟩),al,aJ.put _ _⟩;rw[eW];simp only[sI,hu,bO];rw[if_pos hx.2,g1];rfl
   ·cases U
  ·cases h
 ·rename_i k e z hu bO;split at h
  ·rename_i hx;obtain⟨cs,ba,bY,t1,U,ab,al,aJ,bm,bI⟩:=Ec ad parts _ h aB;split at U
   ·rename_i l ak;obtain⟨aG,g1,g2⟩:=AN bI (wB hx.1) ak;refine⟨.agg aG,?_,_,_,ids,t1,U,ab.put o.dst (by unfold bZ;exact⟨aG,rfl,g2⟩),al,aJ.put _ _⟩;rw[eW];simp only[sI,hu,bO];rw[if_pos hx.2,g1];rfl
   ·cases U
  ·cases h
 ·cases h
theorem G1{place:Nat->Option (Nat×Nat)}:∀{bz:List (Nat×aa)}{c l:List aa},kJ place c bz=some l->l.length=c.length
 |[],c,l,h=>by simp only[kJ,Option.some.injEq]at h;rw[h]
 |(i,v)::bz,c,l,h=>by
  simp only[kJ]at h;split at h
  ·cases h
  ·rename_i off size ae;split at h
   ·rename_i ah;rw[G1 h];unfold fa;simp;omega
   ·cases h
theorem M9{f:FuncId}{first caps:Array Operand}(aE:o.op=.makeFunc (.func f) first caps)(aQ:first.size=0)(h:K (S.put o.dst (.fn f (caps.toList.map S.ay)))=.ok t)(ah:(caps.toList.all λx=>(S.ay x).yN S)=true)(ad:Rel F S ρ ids s)(aB:bN X.P C n t ρ R):jr X F C n R K S ρ s m0 o:=by
 have pJ:first=#[]:=Array.eq_empty_of_size_eq_zero aQ
 refine ic h ad aB (pv:=.fn f (caps.toList.map s.ay)) (by simp only[bV,aE];rw[if_pos pJ]) ?_;unfold bZ;exact⟨_,rfl,NJ ad _ λx aj=>NK ad (List.all_eq_true.1 ah x aj) (ad.ay x)⟩
end
end
section
open Go Go.RowKit
variable[cQ]
mutual
theorem ZC{n a:Nat}{e:b9}(he:a<=e.id):∀q:aa,q.cT n a->q.bW e=q
 |.int _ _,_ | .bool _,_ | .str _,_ | .undef,_ | .bad,_ | .ca,_ | .eL,_ | .bC,_ | .dead _,_ | .cq _,_ | .ptr _ _,_=>by rfl
 |.sl none _ _ _ cs,h=>by simp only[aa.bW,sw he cs (by simpa only[aa.cT]using h)]
 |.sl (some i) _ _ _ cs,h=>by
  simp only[aa.cT]at h;have ah:=sw he cs h.2;cases e with
  |kill j=>grind [b9.id,aa.bW]
  |wr j p v=>grind [b9.id,aa.bW]
 |.bJ none _ cs,h=>by simp only[aa.bW,sw he cs (by simpa only[aa.cT]using h)]
 |.bJ (some i) _ cs,h=>by
  simp only[aa.cT]at h;have ah:=sw he cs h.2;cases e with
  |kill j=>grind [b9.id,aa.bW]
  |wr j p v=>grind [b9.id,aa.bW]
 |.fn _ cs,h=>by simp only[aa.bW,sw he cs (by simpa only[aa.cT]using h)]
 |.agg cs,h=>by simp only[aa.bW,sw he cs (by simpa only[aa.cT]using h)]
 |.bD cs,h=>by simp only[aa.bW,sw he cs (by simpa only[aa.cT]using h)]
 |.mp _ none _ _,h=>by rfl
 |.mp _ (some i) _ cs,h=>by
  simp only[aa.cT]at h;cases e with
  |kill j=>grind [b9.id,aa.bW]
  |wr j p v=>simp only[b9.id]at he;simp only[aa.bW];grind
theorem sw{n a:Nat}{e:b9}(he:a<=e.id):∀l:List aa,e5 n a l->eF e l=l
 |[],_=>by rfl
 |p::ps,h=>by simp only[eF,ZC he p h.1,sw he ps h.2]
end
mutual
theorem ZD{n a id:Nat}(he:a<=id):∀q:aa,q.cT n a->q.bK id=q
 |.int _ _,_ | .bool _,_ | .str _,_ | .undef,_ | .bad,_ | .ca,_ | .eL,_ | .bC,_ | .dead _,_ | .cq _,_ | .ptr _ _,_=>by rfl
 |.sl none _ _ _ cs,h=>by simp only[aa.bK,sx he cs (by simpa only[aa.cT]using h)]
 |.sl (some i) _ _ _ cs,h=>by
  simp only[aa.cT]at h;simp only[aa.bK];rw[if_neg (by omega),sx he cs h.2]
 |.bJ none _ cs,h=>by simp only[aa.bK,sx he cs (by simpa only[aa.cT]using h)]
 |.bJ (some i) _ cs,h=>by
  simp only[aa.cT]at h;simp only[aa.bK];rw[if_neg (by omega),sx he cs h.2]
 |.fn _ cs,h=>by simp only[aa.bK,sx he cs (by simpa only[aa.cT]using h)]
 |.agg cs,h=>by simp only[aa.bK,sx he cs (by simpa only[aa.cT]using h)]
 |.bD cs,h=>by simp only[aa.bK,sx he cs (by simpa only[aa.cT]using h)]
 |.mp _ none _ _,h=>by rfl
 |.mp _ (some i) _ _,h=>by grind [aa.cT,aa.bK]
theorem sx{n a id:Nat}(he:a<=id):∀l:List aa,e5 n a l->iW id l=l
 |[],_=>by rfl
 |p::ps,h=>by simp only[iW,ZD he p h.1,sx he ps h.2]
end
section
variable{X:Ctx}{F:cP}{C:b2->FuncId->List aa->Option aa}{n:Nat}{R:Out->Prop}{S:Sym}{ρ:List aa}{ids:Nat->Option Nat}{s:aA}{K:Sym->M}{t:Tree}{o:Oper}{m0:Mem}{inl yl:fh}{lx:Option Nat}{key:Nat}{E:Env}
theorem ac0(h:Rel F S ρ ids s){EE:List b9}(he:∀e∈EE,F.hG<=e.id){i:Nat}(hi:i<F.n0):(s.m.β i).sub EE=F.lH i:=by
 rw[h.old i hi];have:∀(EE:List b9)(c:di),(∀e∈EE,F.hG<=e.id)->(∀l,c=.cells l->e5 F.n0 F.hG l)->c.sub EE=c:=by
  intro EE;induction EE with
  |nil=>simp_all
  |cons e EE az=>
   intro c he ah;have U:c.bW e=c:=by
    cases c with
    |cells l=>
     simp only[di.bW];rw[←pV,sw (he e (by simp)) l (ah l rfl)]
    |inv I=>rfl
    |hole=>rfl
   simp_all[di.sub]
 exact this EE _ he (λl ak=>h.kZ i l hi ak)
def Sym.mq(S:Sym)(l:List aL):Sym:={ S with bx:=S.bx++[ga.cells l] }
theorem HU(d:Option Tmp)(l:List aL):S.gu d l=(S.mq l).put d (.ptr S.bx.length 0):=rfl
theorem ZE(l:List aL):(S.env ρ ids).le ((S.mq l).env ρ ids):=⟨List.prefix_refl _,λ_ _ h=>h,by simp[Sym.env,Sym.mq],λ_ _ _=>rfl⟩
theorem Rel.gu(h:Rel F S ρ ids s)(d:Option Tmp){l:List aL}{aG:List aa}(ak:cJ F (S.env ρ ids) l aG):Rel F (S.gu d l) ρ ids (s.gu d aG):=by
 have hle:=ZE (S:=S) (ρ:=ρ) (ids:=ids) l;have ae:bZ F ((S.mq l).env ρ ids) (.ptr S.bx.length 0) (.ptr s.m.n 0):=by exact⟨by rw[h.dt],by simp[Sym.env,Sym.mq]⟩
 refine Rel.put ?_ d ae;refine⟨h.len,h.cU,λt=>bZ.mono hle (h.slot t),by simp[Sym.mq,h.dt];omega,λi hi=>?_,λi b hb=>?_,h.hO,h.mv,λk a au=>?_,h.a0,h.cV,h.kY,h.bb,h.new,h.keep,h.dO,h.lG,by have:=h.mS;grind [Sym.mq],h.an,h.kZ,h.rc⟩
 ·have:=h.dt;simp only[qK _ _ _ _ (by omega:i≠s.m.n)];exact h.old i hi
 ·simp only[Sym.mq,List.getElem?_append]at hb;have aI:=h.dt;split at hb
  ·simp only[qK _ _ _ _ (by omega:F.n0+i≠s.m.n)];exact Ex hle (h.box i b hb)
  ·have:i=S.bx.length:=by grind
   subst this;simp at hb;subst hb;rw[←aI];simp ;exact⟨aG,rfl,cJ.mono hle ak⟩
 ·obtain⟨cs,ah⟩:=h.arr k a au;exact⟨cs,c6.rel.mono hle au ah⟩
theorem Rel.hq(h:Rel F S ρ ids s){i:Nat}{b:ga}(hi:S.bx[i]?=some b){l:List aL}{aG:List aa}(ak:cJ F (S.env ρ ids) l aG):Rel F (S.hq i l) ρ ids (s.hq (F.n0+i) aG):=by
 have aU:i<S.bx.length:=(List.getElem?_eq_some_iff.1 hi).1;have he:(S.hq i l).env ρ ids=S.env ρ ids:=by simp[Sym.env,Sym.hq]
 refine⟨h.len,h.cU,λt=>by rw[he];exact h.slot t,by simp[Sym.hq,h.dt],λj aC=>?_,λj c ah=>?_,h.hO,h.mv,by exact h.arr,h.a0,h.cV,h.kY,h.bb,h.new,h.keep,h.dO,h.lG,by have:=h.mS;grind [Sym.hq],h.an,h.kZ,h.rc⟩
 ·simp only[aA.hq,qK _ _ _ _ (by omega:j≠F.n0+i)];exact h.old j aC
 ·rw[he];simp only[Sym.hq,List.getElem?_set]at ah;split at ah
  ·rename_i dL;subst dL;simp  at ah;subst ah;simp ;exact⟨aG,rfl,ak⟩
  ·simp only[aA.hq,qK _ _ _ _ (by omega:F.n0+j≠F.n0+i)];exact h.box j c ah
def eA(ids:Nat->Option Nat)(k:Nat)(x:Option Nat):Nat->Option Nat:=λj=>if j=k then x else ids j
theorem abc(a:c6)(x:Option Nat):(S.env ρ ids).le (({ S with bd:=S.bd++[some a] }:Sym).env ρ (eA ids S.bd.length x)):=by
 have aU:∀k b,S.bd.getD k none=some b->k<S.bd.length:=λk b hb=>by grind
 refine⟨List.prefix_refl _,λk b hb=>?_,Nat.le_refl _,λk b hb=>?_⟩
 ·grind [Sym.env]
 ·have:=aU k b hb;simp only[Sym.env,eA];grind
theorem Rel.Fa(h:Rel F S ρ ids s){a:c6}{cs:List aa}{x:Option Nat}(au:a.c.ok ρ)(ah:a.c.den ρ=.agg cs)(bX:0<a.sz)(ak:cs.length=cs.length/a.sz*a.sz)(hb:isNil ρ a.born cs=some x.isNone)(aV:∀y,a.born=.dyn y->y.ok ρ)
  {s':aA} (aN:s'.g=s.g) (fW:s'.m.β=s.m.β) (aI:s'.m.n=s.m.n) (l7:s.m.an<=s'.m.an) (aj:∀id,x=some id->s.m.an<=id/\id<s'.m.an) (aT:s'.a0=s.a0) (he:s'.bb=s.bb) (fb:s'.m.rc=s.m.rc):
  Rel F { S with bd:=S.bd++[some a] } ρ (eA ids S.bd.length x) s'/\a.rel (({ S with bd:=S.bd++[some a] }:Sym).env ρ (eA ids S.bd.length x)) S.bd.length cs:=by
 have hle:=abc (S:=S) (ρ:=ρ) (ids:=ids) a x;have gM:a.rel (({ S with bd:=S.bd++[some a] }:Sym).env ρ (eA ids S.bd.length x)) S.bd.length cs:=⟨au,ah,bX,ak,by simp_all[Sym.env,eA],aV⟩;refine⟨⟨h.len,h.cU,λt=>by rw[aN];exact bZ.mono hle (h.slot t),by rw[aI];exact h.dt,λi hi=>by rw[fW];exact h.old i hi,λi b hb=>by rw[fW];exact Ex hle (h.box i b hb),λk id aq=>?_,λk j id aq aC=>?_,λk b hb=>?_,by rw[aT];exact h.a0,h.cV,by rw[he];exact h.kY,by rw[he];exact h.bb,λlA k id aq h3=>?_,λlA k aU=>?_,h.dO,by have:=h.lG;simp;omega,h.mS,Nat.le_trans h.an l7,h.kZ,by rw[fb];exact h.rc⟩,gM⟩
 ·simp only[eA]at aq;split at aq
  ·rename_i e;subst e;obtain⟨U,ab⟩:=aj id aq;exact⟨by have:=h.an;have:=h.cV.1;omega,ab,by simp⟩
  ·obtain⟨U,ab,al⟩:=h.hO k id aq;grind
 ·simp only[eA]at aq aC;split at aq<;>split at aC
  ·omega
  ·obtain⟨U,ab⟩:=aj id aq;have:=(h.hO j id aC).2.1;omega
  ·obtain⟨U,ab⟩:=aj id aC;have:=(h.hO k id aq).2.1;omega
  ·exact h.mv k j id aq aC
 ·rcases Nat.lt_trichotomy k S.bd.length with aU|rfl|amu
  ·have dB:S.bd.getD k none=some b:=by grind
   obtain⟨cs',gv⟩:=h.arr k b dB;exact⟨cs',c6.rel.mono hle dB gv⟩
  all_goals grind
 ·simp only[eA]at aq;split at aq
  ·obtain⟨U,ab⟩:=aj id aq;have:=h.an;omega
  ·exact h.new lA k id aq h3
 ·have ab:k<S.base:=aU;have U:=h.lG;obtain⟨g1,g2⟩:=h.keep lA k ab;grind [eA]
end
end
section
open Go Go.RowKit
variable[cQ]
theorem Ep(EE:List b9)(i o:Nat):aa.sub EE (.ptr i o)=.ptr i o:=by
 induction EE with
 |nil=>rfl
 |cons e EE az=>assumption
theorem abd(EE:List b9):aa.sub EE .bC=.bC:=OJ EE rfl
theorem Wt{EE:List b9}{id:Nat}(h:∀e∈EE,e.id≠id){sz off len:Nat}{cs:List aa}(ah:bG cs=true):aa.sub EE (.sl (some id) sz off len cs)=.sl (some id) sz off len cs:=by
 induction EE with
 |nil=>rfl
 |cons e EE az=>
  have U:aa.bW e (.sl (some id) sz off len cs)=.sl (some id) sz off len cs:=by
   have bU:=h e (by simp);cases e with
   |kill j=>grind [b9.id,aa.bW,pS]
   |wr j p v=>grind [b9.id,aa.bW,pS]
  grind [aa.sub]
theorem VJ{EE:List b9}{id:Nat}(h:∀e∈EE,e.id≠id){off:Nat}{cs:List aa}(ah:bG cs=true):aa.sub EE (.bJ (some id) off cs)=.bJ (some id) off cs:=by
 induction EE with
 |nil=>rfl
 |cons e EE az=>
  have U:aa.bW e (.bJ (some id) off cs)=.bJ (some id) off cs:=by
   have bU:=h e (by simp);cases e with
   |kill j=>grind [b9.id,aa.bW,pS]
   |wr j p v=>grind [b9.id,aa.bW,pS]
  grind [aa.sub]
theorem Wu(EE:List b9)(l:List aa):di.sub EE (.cells l)=.cells (l.map (aa.sub EE)):=by
 induction EE generalizing l with
 |nil=>simp[aa.sub]
 |cons e EE az=>
  show di.sub EE (.cells (l.map (aa.bW e)))=_;rw[az,List.map_map];rfl
theorem Ye(EE:List b9)(I:List aa->Prop):di.sub EE (.inv I)=.inv I:=by
 induction EE with
 |nil=>rfl
 |cons e EE az=>exact az
theorem Na{a:Nat}{e:b9}:∀{l:List b9},e∈pX a l->e∈l
 |[],h=>h
 |x::l,h=>by
  simp only[pX]at h;split at h
  ·exact List.mem_cons_of_mem _ (Na h)
  ·exact h
theorem Hn{a:Nat}{e:b9}{l EE:List b9}(h:e∈gV a l EE):e∈l\/e∈EE:=by
 cases l with
 |nil=>exact .inr (Na h)
 |cons x l=>exact List.mem_append.1 h
theorem Da{a:Nat}:∀{l:List b9},(∀e∈l,a<=e.id)->pX a l=[]
 |[],_=>rfl
 |x::l,h=>by
  simp only[pX];rw[if_pos (h x (by simp))];exact Da λe he=>h e (by simp[he])
theorem G2{id:Nat}:∀{EE:List b9}(_:∀e∈EE,e.id≠id){it:Bool}{sz:Nat}{cs:List aa},aa.sub EE (.mp it (some id) sz cs)=.mp it (some id) sz cs
 |[],_,_,_,_=>rfl
 |e::EE,h,it,sz,cs=>by
  have he:=h e (by simp);have U:aa.bW e (.mp it (some id) sz cs)=.mp it (some id) sz cs:=by cases e<;>simp only[aa.bW,b9.id]at he⊢<;>rw[if_neg (Ne.symm he)]
  simp only[aa.sub,U];exact G2 λe he=>h e (by simp[he])
theorem V6{EE:List b9}{id:Nat}(h:∀e∈EE,e.id≠id){b:e9}{sz:Nat}{cs:List aa}(ah:bG cs=true):aa.sub EE (mO b (some id) sz cs)=mO b (some id) sz cs:=by
 unfold mO;grind [G2,Wt]
theorem getD_map{l:List aL}{f:aL->aL}(aQ:f .bT=.bT)(t:Nat):(l.map f).getD t .bT=f (l.getD t .bT):=by grind
section
variable{X:Ctx}{F:cP}{C:b2->FuncId->List aa->Option aa}{n:Nat}{R:Out->Prop}{S:Sym}{ρ:List aa}{ids:Nat->Option Nat}{s:aA}{K:Sym->M}{t:Tree}{o:Oper}{m0:Mem}{inl yl:fh}{lx:Option Nat}{key:Nat}{E:Env}
theorem o5{l:List (Option c6)}{k j:Nat}{x:Option c6}:(l.set k x).getD j none=if j=k/\k<l.length then x else l.getD j none:=by grind
theorem Ai{k:Nat}{a:c6}(h:S.bd.getD k none=some a):k<S.bd.length:=by grind
theorem Jy(h:Rel F S ρ ids s){k j id:Nat}(aq:ids k=some id){eG:Nat}(aC:ids j=some eG)(bU:j≠k):id≠eG:=λe=>by
 subst e;exact bU (h.mv j k id aC aq)
theorem Rel.KC(h:Rel F S ρ ids s){k:Nat}{xid:Option Nat}{a:c6}{cs cs':List aa}{c':aR}{all:Bool}{EE:List b9}(au:S.bd.getD k none=some a)(ad:a.rel (S.env ρ ids) k cs)(cr:ids k=xid)
  (ej:∀e∈EE,∃id,xid=some id/\e.id=id/\e.clean) (hA:c'.ok ρ) (oT:c'.den ρ=.agg cs') (ak:cs'.length=cs'.length/a.sz*a.sz) (aI:isNil ρ a.born cs'=some xid.isNone)
  (ek:all=false->aa.sub EE (mO a.born xid a.sz cs)=mO a.born xid a.sz cs'):
  Rel F (S.dm k all { a with c:=c' }) ρ ids (s.gY EE)/\c6.rel ((S.dm k all { a with c:=c' }).env ρ ids) k { a with c:=c' } cs':=by
 have aq:=Ai au;have bU:∀j eG,ids j=some eG->j≠k->∀e∈EE,e.id≠eG:=λj eG aC ev e he=>by
  obtain⟨id,aj,U,_⟩:=ej e he;rw[U];exact Jy h (cr.trans aj) aC ev
 have gM:c6.rel ((S.dm k all { a with c:=c' }).env ρ ids) k { a with c:=c' } cs':=⟨hA,oT,ad.2.2.1,ak,by
  show isNil ρ a.born cs'=some (ids k).isNone;rw[aI,cr],ad.2.2.2.2.2⟩
 have kH:∀j b,j≠k->(S.env ρ ids).bd.getD j none=some b->((S.dm k all { a with c:=c' }).env ρ ids).bd.getD j none=some b:=λj b aC hb=>by
  simp only[Sym.env,Sym.dm,Sym.dD];rw[o5,if_neg (λe=>aC e.1)];exact hb
 have uX:((S.dm k all { a with c:=c' }).env ρ ids).bd.getD k none=some { a with c:=c' }:=by
  simp only[Sym.env,Sym.dm,Sym.dD];rw[o5,if_pos ⟨rfl,aq⟩]
 have tr:j8 F (S.env ρ ids) ((S.dm k all { a with c:=c' }).env ρ ids) (aL.q2 k all) (aa.sub EE):=by
  refine⟨QM EE,List.prefix_refl _,λx=>rfl,rfl,rfl,rfl,λ_ _ _=>rfl,λ_=>by simp only[aL.q2],λg l=>by simp only[aL.q2,qQ],λl=>by simp only[aL.q2,qQ],λl=>by simp only[aL.q2,qQ],λ_ _ l=>by simp only[aL.q2,qQ],λl _=>by simp only[aL.q2,qQ],λi o q aH=>?_,λq aH=>?_,λj q aH=>?_,λj x fo q aH=>?_⟩
  ·have iX:=aH;rw[iX.1,Ep];refine⟨?_,.inr rfl⟩;unfold bZ;exact⟨rfl,by have:=iX.2;simpa[Sym.env,Sym.dm,Sym.dD]using this⟩
  ·rw[aH.1,Ep]
  ·obtain⟨b,lz,g1,g2,g3⟩:=aH;by_cases ev:j=k
   ·subst ev;cases all with
    |true=>simp only[aL.q2,and_self,if_true];exact⟨by simp only[bZ],.inl trivial⟩
    |false=>
     simp only[aL.q2];have hb:b=a:=by have:=g1.symm.trans au;injection this
     subst hb;have hcs:=c6.EK g2 ad;subst hcs;have KB:(S.env ρ ids).ids j=xid:=cr;rw[KB]at g3;rw[g3];simp only[ek rfl,Bool.false_eq_true,and_false,if_false];refine⟨?_,.inr (wm _ _ _ _)⟩;refine⟨_,cs',uX,gM,?_⟩;have:((S.dm j false { b with c:=c' }).env ρ ids).ids j=xid:=cr;rw[this]
   ·simp only[aL.q2,ev,false_and,if_false];have xR:aa.sub EE q=q:=by
     rw[g3];cases hi:(S.env ρ ids).ids j with
     |none=>exact abd EE
     |some eG=>exact V6 (bU j eG hi ev) g2.plain
    rw[xR];refine⟨?_,.inr (by rw[g3];exact wm _ _ _ _)⟩;unfold bZ;exact⟨b,lz,kH j b ev g1,g2,g3⟩
  ·obtain⟨b,lz,eG,dZ,gJ,g1,g2,g3,g4,g5,g6,g7,g8⟩:=aH;by_cases ev:j=k
   ·simp only[aL.q2,ev,if_true];exact⟨by simp only[bZ],.inl trivial⟩
   ·simp only[aL.q2,ev,if_false];have xR:aa.sub EE q=q:=by
     rw[g8];exact VJ (bU j eG g3 ev) (qJ g2.plain _)
    rw[xR];refine⟨?_,.inr (by rw[g8];rfl)⟩;unfold bZ;exact⟨b,lz,eG,dZ,gJ,kH j b ev g1,g2,g3,g4,g5,g6,g7,g8⟩
 have aW:∀e∈EE,F.hG<=e.id:=λe he=>by
  obtain⟨id,aj,U,_⟩:=ej e he;rw[U];exact(h.hO k id (cr.trans aj)).1
 refine⟨⟨h.len,h.cU,λt=>?_,by simpa[Sym.dm,Sym.dD]using h.dt,λi hi=>by rw[aA.Sg];exact ac0 h aW hi,λi b hb=>?_,λj eG aC=>?_,h.mv,λj b hb=>?_,h.a0,h.cV,λe he=>?_,λhe=>?_,λhe=>?_,λhe j aC=>?_,h.dO,by simpa[Sym.dm,Sym.dD]using h.lG,by simpa[Sym.dm,Sym.dD]using h.mS,h.an,h.kZ,h.rc⟩,gM⟩
 ·have:(S.dm k all { a with c:=c' }).get t=aL.q2 k all (S.get t):=by exact getD_map rfl t
  rw[this];exact tr.ow (h.slot t)
 ·simp only[Sym.dm,Sym.dD,List.getElem?_map]at hb;obtain⟨gf,ix,rfl⟩:=Option.map_eq_some_iff.1 hb;have qk:=h.box i gf ix;rw[aA.Sg];cases gf with
  |cells l=>
   obtain⟨aG,aK,aO⟩:=qk;rw[aK,Wu];exact⟨_,rfl,tr.nx aO⟩
  |c8=>rw[show s.m.β (F.n0+i)=.inv F.DI from qk,Ye];exact rfl
  |gone=>trivial
 ·obtain⟨g1,g2,g3⟩:=h.hO j eG aC;exact⟨g1,g2,by simpa[Sym.dm,Sym.dD]using g3⟩
 ·by_cases ev:j=k
  ·subst ev;have:b={ a with c:=c' }:=by have:=hb.symm.trans uX;injection this
   subst this;exact⟨cs',gM⟩
  ·have dB:S.bd.getD j none=some b:=by
    simp only[Sym.dm,Sym.dD]at hb;rw[o5,if_neg (λe=>ev e.1)]at hb;exact hb
   exact h.arr j b dB
 ·rcases Hn he with he|he
  ·exact h.kY e he
  ·obtain⟨id,aj,U,ab⟩:=ej e he;exact⟨aW e (by assumption),ab⟩
 ·rw[aA.Ix,h.bb (A9 he),Ha];refine Da λe vC=>?_;obtain⟨id,aj,U,ab⟩:=ej e vC;rw[U,h.a0];exact h.S1 (cr.trans aj) he
 ·simp[Sym.dm,Sym.dD]at he;exact h.new he.1
 ·simp[Sym.dm,Sym.dD]at he;have ab:j<S.base:=aC;obtain⟨g1,g2⟩:=h.keep he.1 j ab;refine⟨?_,g2⟩;simp only[Sym.dm,Sym.dD];rw[o5,if_neg (λe=>by omega)];exact g1
theorem Rel.gY(h:Rel F S ρ ids s){k id:Nat}{a:c6}{cs cs':List aa}{c':aR}{all:Bool}{EE:List b9}(au:S.bd.getD k none=some a)(ad:a.rel (S.env ρ ids) k cs)(cr:ids k=some id)
  (ej:∀e∈EE,e.id=id/\e.clean) (hA:c'.ok ρ) (oT:c'.den ρ=.agg cs') (ak:cs'.length=cs'.length/a.sz*a.sz) (aI:isNil ρ a.born cs'=some false)
  (ek:all=false->aa.sub EE (mO a.born (some id) a.sz cs)=mO a.born (some id) a.sz cs'):
  Rel F (S.dm k all { a with c:=c' }) ρ ids (s.gY EE)/\c6.rel ((S.dm k all { a with c:=c' }).env ρ ids) k { a with c:=c' } cs':=
 h.KC au ad cr (λe he=>⟨id,rfl,ej e he⟩) hA oT ak aI ek
end
end
end Go.Proofs.YtlminnpaeaganaaGreat
