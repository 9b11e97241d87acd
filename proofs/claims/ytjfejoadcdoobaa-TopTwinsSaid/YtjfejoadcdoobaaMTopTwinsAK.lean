/- Part of the proof of TopTwins. No condition. -/
import Derived.ProofKit
import Derived.Below
import Derived.ChangeSame
import Derived.Carry
import Derived.Test.YtjfejoadcdoobaaMTopTwinsAH
import Derived.Test.YtjfejoadcdoobaaMTopTwinsAJ
namespace Go.Proofs.Ytjfejoadcdoobaa
set_option maxRecDepth 100000
set_option linter.all false
section
open Go Go.RowKit Go.WideShapes Go.ChangeShapes
variable[Sp]
def phi0:Phi:=⟨λ_=>none,λ_=>none⟩
theorem own0(b:Nat):¬phi0.own b:=by rintro(⟨i,h⟩|⟨i,h⟩)<;>cases h
def rowB(P:Program):List Field->Nat->Nat->Bool
 |[],o,e=>decide (o=e)
 |f::fs,o,e=>decide (f.offset=o)&&rowB P fs (o+P.cellsOf f.type) e
def typeOk(P:Program):Nat->TypeId->Bool
 |0,_=>false
 |k+1,t=>match P.underlying t with
  |some .bool=>true
  |some (.int _)=>true
  |some .string=>true
  |some (.slice e)=>typeOk P k e&&decide (0<P.cellsOf e)
  |some (.struct fs)=>fs.toList.all (λf=>typeOk P k f.type)&&rowB P fs.toList 0 (P.cellsOf t)
  |_=>false
def ShC(P:Program):Nat->TypeId->List PV->Prop
 |0,_,_=>False
 |k+1,t,cs=>match P.underlying t with
  |some .bool=>∃b,cs=[.bool b]
  |some (.int i)=>∃n,cs=[.int i n]/\(Lit.int i n).wf=true
  |some .string=>∃s,cs=[.str s]
  |some (.slice e)=>cs=[.snil]\/∃(off:Nat)(ls:List (List PV)),cs=[.sl none (P.cellsOf e) off ls.length ls.flatten]/\ls.length<=maxLen/\∀l∈ls,ShC P k e l/\l.length=P.cellsOf e
  |some (.struct fs)=>∃ls:List (List PV),cs=ls.flatten/\ls.length=fs.size/\∀(i:Nat) f l,fs[i]?=some f->ls[i]?=some l->ShC P k f.type l/\l.length=P.cellsOf f.type
  |_=>False
theorem flatten_len{ls:List (List PV)}{n:Nat}(h:∀l∈ls,l.length=n):ls.flatten.length=ls.length*n:=by
 induction ls with
 |nil=>simp
 |cons l ls ih=>rw[List.flatten_cons,List.length_append,ih (λl' h'=>h l' (by simp[h'])),h l (by simp),List.length_cons,Nat.add_mul];omega
theorem mapM_get{α β:Type}{f:α->Option β}:∀{l:List α}{ys:List β},l.mapM f=some ys->l.length=ys.length/\∀(i:Nat) a,l[i]?=some a->∃y,ys[i]?=some y/\f a=some y
 |[],ys,h=>by simp at h;subst h;simp
 |a::l,ys,h=>by
  rw[List.mapM_cons]at h;obtain⟨y,hy,h⟩:=Option.bind_eq_some_iff.1 h;obtain⟨zs,hz,h⟩:=Option.bind_eq_some_iff.1 h;simp only[Option.pure_def,Option.some.injEq]at h;subst h;obtain⟨h1,h2⟩:=mapM_get hz;refine⟨by simp[h1],λi b hb=>?_⟩;cases i with
  |zero=>simp at hb;subst hb;exact⟨y,rfl,hy⟩
  |succ i=>simpa using h2 i b (by simpa using hb)
section
variable{H:Type}{enc:TypeId×Value->H}{P:Program}{w:World}{spare:Nat->Bool}{held:Bool}
theorem cells_at{a:Addr}{n:Nat}{cs:List Value}(h:w.cells? 0 a n=some cs)(hn:0<n):a.spot=none/\cs.length=n/\∀j c,cs[j]?=some c->w.cell? ⟨a.block,a.off+j,none⟩=some c:=by
 unfold World.cells? at h;rw[if_pos (Nat.zero_le _)]at h;obtain⟨h1,h2⟩:=mapM_get h;have hs:a.spot=none:=by
  obtain⟨y,_,hy⟩:=h2 0 0 (by simp[hn]);simp only[Addr.add,if_true,World.cell?]at hy;split at hy
  ·split at hy
   ·cases hy
   ·rename_i hx;simpa using hx
  ·cases hy
 refine⟨hs,by simpa using h1.symm,λj c hj=>?_⟩;have hj':j<n:=by
  have:=(List.getElem?_eq_some_iff.1 hj).1;simp at h1;omega
 obtain⟨y,hy1,hy2⟩:=h2 j j (by simp[hj']);rw[hj]at hy1;injection hy1 with hy1;subst hy1;unfold Addr.add at hy2;split at hy2
 ·rename_i h0;subst h0;obtain⟨b,o,s⟩:=a;simp only at hs;subst hs;exact hy2
 ·exact hy2
theorem vrelAt_app{b:Nat}:∀{l l':List PV}{off:Nat},VRelAt phi0 w b l off->VRelAt phi0 w b l' (off+l.length)->VRelAt phi0 w b (l++l') off
 |[],l',off,h,h'=>by simpa using h'
 |p::l,l',off,h,h'=>by
  simp only[List.cons_append,VRelAt]at h⊢;exact⟨h.1,vrelAt_app h.2 (by simpa[Nat.add_assoc,Nat.add_comm 1]using h')⟩
theorem vrelAt_flat{b c:Nat}:∀{ls:List (List PV)}{off:Nat},(∀(i:Nat) l,ls[i]?=some l->l.length=c/\VRelAt phi0 w b l (off+i*c))->VRelAt phi0 w b ls.flatten off
 |[],off,h=>by simp[VRelAt]
 |l::ls,off,h=>by
  rw[List.flatten_cons];obtain⟨h1,h2⟩:=h 0 l rfl;refine vrelAt_app (by simpa using h2) (vrelAt_flat (c:=c) λi l' hl'=>?_);obtain⟨h3,h4⟩:=h (i+1) l' (by simpa using hl');refine⟨h3,?_⟩;rw[h1,show off+c+i*c=off+(i+1)*c by rw[Nat.add_mul];omega];exact h4
theorem pick{α:Type}{Q:Nat->α->Prop}:∀n,(∀i,i<n->∃x,Q i x)->∃l:List α,l.length=n/\∀(i:Nat) x,l[i]?=some x->Q i x
 |0,_=>⟨[],rfl,λi x h=>by simp at h⟩
 |n+1,h=>by
  obtain⟨l,h1,h2⟩:=pick n λi hi=>h i (by omega);obtain⟨x,hx⟩:=h n (by omega);refine⟨l++[x],by simp[h1],λi y hy=>?_⟩;rcases Nat.lt_or_ge i l.length with hl|hl
  ·rw[List.getElem?_append_left hl]at hy;exact h2 i y hy
  ·rw[List.getElem?_append_right hl]at hy;have hi:i-l.length=0:=by
    have:=(List.getElem?_eq_some_iff.1 hy).1;simp at this;omega
   rw[hi]at hy;simp at hy;subst hy;rw[show i=n by omega];exact hx
theorem struct_rel{cs:List Value}:∀(fl:List Field)(ls:List (List PV))(o e:Nat),rowB P fl o e=true->ls.length=fl.length->(∀(i:Nat) f l,fl[i]?=some f->ls[i]?=some l->VRelL phi0 w l ((cs.drop f.offset).take (P.cellsOf f.type)))->e<=cs.length ->
  o<=e/\VRelL phi0 w ls.flatten ((cs.drop o).take (e-o))/\∀(i:Nat) f l,fl[i]?=some f->ls[i]?=some l->l.length=P.cellsOf f.type
 |[],[],o,e,h,_,_,_=>by
  simp only[rowB,decide_eq_true_eq]at h;subst h;exact⟨Nat.le_refl _,by simp[VRelL],λi f l h=>by simp at h⟩
 |[],_::_,o,e,h,hl,_,_=>by simp at hl
 |_::_,[],o,e,h,hl,_,_=>by simp at hl
 |f::fl,l::ls,o,e,h,hl,hr,he=>by
  simp only[rowB,Bool.and_eq_true,decide_eq_true_eq]at h;obtain⟨rfl,h⟩:=h;obtain⟨h1,h2,h3⟩:=struct_rel fl ls (f.offset+P.cellsOf f.type) e h (by simpa using hl) (λi f' l' hf hl'=>hr (i+1) f' l' (by simpa using hf) (by simpa using hl')) he;have h0:=hr 0 f l rfl rfl;have hlen:=vrelL_length h0;rw[List.length_take,List.length_drop]at hlen;refine⟨by omega,?_,λi f' l' hf hl'=>?_⟩
  ·rw[List.flatten_cons];have e1:(cs.drop f.offset).take (e-f.offset)=(cs.drop f.offset).take (P.cellsOf f.type)++(cs.drop (f.offset+P.cellsOf f.type)).take (e-(f.offset+P.cellsOf f.type)):=by rw[show e-f.offset=P.cellsOf f.type+(e-(f.offset+P.cellsOf f.type))by omega,List.take_add,List.drop_drop]
   rw[e1];exact vrelL_append h0 h2
  ·cases i with
   |zero=>simp at hf hl';subst hf;subst hl';omega
   |succ i=>exact h3 i f' l' (by simpa using hf) (by simpa using hl')
theorem trod_rel:∀(fuel k:Nat)(t:TypeId)(cs:List Value)(x:DataW H×List MemPlace),DataW.trod enc P w 0 spare held fuel t cs=some x->typeOk P k t=true->∃pcs,VRelL phi0 w pcs cs/\ShC P k t pcs
 |0,k,t,cs,x,h,_=>by simp[DataW.trod]at h
 |fuel+1,0,t,cs,x,h,hk=>by simp[typeOk]at hk
 |fuel+1,k+1,t,cs,x,h,hk=>by
  unfold typeOk at hk;split at hk
  ·rename_i hu;obtain⟨b,rfl,_⟩:=DataW.trod_bool hu h;exact⟨[.bool b],⟨_,_,rfl,rfl,rfl⟩,by unfold ShC;rw[hu];exact⟨b,rfl⟩⟩
  ·rename_i i hu;obtain⟨n,rfl,_,hw⟩:=DataW.trod_int hu h;exact⟨[.int i n],⟨_,_,rfl,rfl,rfl⟩,by unfold ShC;rw[hu];exact⟨n,rfl,hw⟩⟩
  ·rename_i hu;obtain⟨s,rfl,_⟩:=DataW.trod_string hu h;exact⟨[.str s],⟨_,_,rfl,rfl,rfl⟩,by unfold ShC;rw[hu];exact⟨s,rfl⟩⟩
  ·rename_i e hu;simp only[Bool.and_eq_true,decide_eq_true_eq]at hk;obtain⟨hke,hpos⟩:=hk;unfold ShC;rw[hu];rcases DataW.trod_slice hu h with⟨rfl,_⟩|⟨a,len,cap,elems,rest,n,hn,rfl,_,_,hlc,hcm,hel,hget,_⟩
   ·exact⟨[.snil],⟨_,_,rfl,rfl,rfl⟩,.inl rfl⟩
   ·have hn':fuel=n:=by omega
    subst hn';obtain⟨ls,hl1,hl2⟩:=pick (Q:=λi l=>∃csi,w.cells? 0 (a.add (i*P.cellsOf e)) (P.cellsOf e)=some csi/\VRelL phi0 w l csi/\ShC P k e l) len λi hi=>by
     have hg:=hget i hi;have:elems[i]?=some elems[i]:=by simp
     rw[this]at hg;obtain⟨csi,hc1,hc2⟩:=Option.bind_eq_some_iff.1 hg;obtain⟨pcs,hp1,hp2⟩:=trod_rel fuel k e csi _ hc2 hke;exact⟨pcs,csi,hc1,hp1,hp2⟩
    have hlen:∀l∈ls,ShC P k e l/\l.length=P.cellsOf e:=λl hl=>by
     obtain⟨i,hi⟩:=List.mem_iff_getElem?.1 hl;obtain⟨csi,hc,hv,hs⟩:=hl2 i l hi;exact⟨hs,by rw[vrelL_length hv];exact(cells_at hc hpos).2.1⟩
    refine⟨[.sl none (P.cellsOf e) a.off ls.length ls.flatten],⟨_,_,rfl,?_,rfl⟩,.inr ⟨a.off,ls,rfl,by rw[hl1];omega,hlen⟩⟩;simp only[VRel];refine⟨flatten_len λl hl=>(hlen l hl).2,some a,cap,by rw[hl1],by rw[hl1];exact hlc,?_⟩;by_cases h0:len=0
    ·exact .inl (by simpa[hl1]using h0)
    ·have hi0:ls[0]?=some (ls[0]'(by omega)):=by simp
     obtain⟨csi,hc,hv,hs⟩:=hl2 0 _ hi0;simp only[Nat.zero_mul,Addr.add,if_true]at hc;obtain⟨hspot,hcl,hcell⟩:=cells_at hc hpos;have hadd:∀x,(a.add x).off=a.off+x/\(a.add x).block=a.block:=λx=>by
      unfold Addr.add;split
      ·rename_i h;subst h;exact⟨rfl,rfl⟩
      ·exact⟨rfl,rfl⟩
     refine .inr ⟨a.block,by obtain⟨b,o,s⟩:=a;simp only at hspot;subst hspot;rfl,⟨own0 _,?_⟩,vrelAt_flat (c:=P.cellsOf e) λi l hl=>?_⟩
     ·have:=hcell 0 (csi[0]'(by omega)) (by simp);unfold World.cell? at this;split at this
      ·rename_i hb;exact(Array.getElem?_eq_some_iff.1 hb).1
      ·cases this
     ·obtain⟨csj,hc',hv',_⟩:=hl2 i l hl;obtain⟨_,hcl',hcell'⟩:=cells_at hc' hpos;refine⟨by rw[vrelL_length hv',hcl'],vrelAt_iff.2 λj p hj=>?_⟩;obtain⟨v,h1,h2⟩:=vrelL_get hv' hj;have:=hcell' j v h1;rw[(hadd _).1,(hadd _).2]at this;exact⟨v,this,h2⟩
  ·rename_i fs hu;simp only[Bool.and_eq_true,List.all_eq_true]at hk;obtain⟨hkf,hrow⟩:=hk;unfold ShC;rw[hu];obtain⟨xs,n,hn,_,hcl,hxl,hget⟩:=DataW.trod_struct hu h;have hn':fuel=n:=by omega
   subst hn';obtain⟨ls,hl1,hl2⟩:=pick (Q:=λi l=>∀f,fs[i]?=some f->VRelL phi0 w l ((cs.drop f.offset).take (P.cellsOf f.type))/\ShC P k f.type l) fs.size λi hi=>by
    have hf:fs[i]?=some fs[i]:=by simp
    have hg:=hget i fs[i] hf;have:xs[i]?=some (xs[i]'(by omega)):=by simp
    rw[this]at hg;obtain⟨pcs,hp1,hp2⟩:=trod_rel fuel k _ _ _ hg (hkf _ (by simp));exact⟨pcs,λf hf'=>by rw[hf]at hf';injection hf' with hf';subst hf';exact⟨hp1,hp2⟩⟩
   obtain⟨_,h2,h3⟩:=struct_rel fs.toList ls 0 (P.cellsOf t) hrow (by simpa using hl1) (λi f l hf hl=>(hl2 i l hl f (by simpa using hf)).1) (by omega);refine⟨ls.flatten,?_,ls,rfl,hl1,λi f l hf hl=>⟨(hl2 i l hl f hf).2,h3 i f l (by simpa using hf) hl⟩⟩;simpa[←hcl]using h2
  ·cases hk
def ShV(P:Program)(k:Nat)(t:TypeId)(q:PV):Prop:=match aggT P t with
 |some true=>∃cs,q=.agg cs/\ShC P k t cs
 |_=>∃q',q=q'/\ShC P k t [q']
def ShL(P:Program)(k:Nat):List TypeId->List PV->Prop
 |[],[]=>True
 |t::ts,q::qs=>ShV P k t q/\ShL P k ts qs
 |_,_=>False
theorem single{pcs:List PV}{v:Value}(hc:v.cells=#[v])(h:VRelL phi0 w pcs v.cells.toList):∃q,pcs=[q]/\VRel phi0 w q v:=by
 rw[hc]at h;have hl:=vrelL_length h
 match pcs,h with
 |[q],h=>
  obtain⟨v',vs',e,h3,_⟩:=h;injection e with e1 e2;subst e1;exact⟨q,rfl,h3⟩
 |[],_=>simp at hl
 |_::_::_,_=>simp at hl
theorem arg_rel{k:Nat}{t:TypeId}{v:Value}{d:DataW H}{ps:List MemPlace}{r:Reach}{b0:Nat}(h:DataW.Trod enc P w 0 spare held t v d ps)(hv:Value.okWide P w r b0 t v)(hk:typeOk P k t=true):∃q,VRel phi0 w q v/\ShV P k t q:=by
 obtain⟨fuel,hf⟩:=h;obtain⟨pcs,h1,h2⟩:=trod_rel fuel k t _ _ hf hk;cases k with
 |zero=>simp[typeOk]at hk
 |succ k=>
  unfold typeOk at hk;have flat:∀{d},P.underlying t=some d->(∀fs,d≠.struct fs)->(∀n e,d≠.array n e)->v.cells=#[v]->∃q,VRel phi0 w q v/\ShV P (k+1) t q:=λ{d} hu hns hna hc=>by
   obtain⟨q,rfl,hq⟩:=single hc h1;refine⟨q,hq,?_⟩;unfold ShV aggT;rw[hu];cases d<;>first|exact⟨q,rfl,h2⟩|exact absurd rfl (hns _)|exact absurd rfl (hna _ _)
  split at hk
  ·rename_i hu;obtain⟨b,rfl⟩:=okWide_bool hu hv;exact flat hu (λ_=>by simp) (λ_ _=>by simp) rfl
  ·rename_i i hu;obtain⟨n,rfl⟩:=okWide_int hu hv;exact flat hu (λ_=>by simp) (λ_ _=>by simp) rfl
  ·rename_i hu;obtain⟨s,rfl⟩:=okWide_string hu hv;exact flat hu (λ_=>by simp) (λ_ _=>by simp) rfl
  ·rename_i e hu;obtain⟨a,len,cap,rfl⟩:=okWide_slice hu hv;exact flat hu (λ_=>by simp) (λ_ _=>by simp) rfl
  ·rename_i fs hu;obtain⟨cs,rfl,_⟩:=okWide_struct hu hv;refine⟨.agg pcs,?_,?_⟩
   ·simp only[VRel];exact⟨cs.toList,by simp,h1⟩
   ·unfold ShV aggT;rw[hu];exact⟨pcs,rfl,h2⟩
  ·cases hk
theorem args_rel{k:Nat}{r:Reach}{b0:Nat}:∀{ts:List TypeId}{vs:List Value}{ds:List (DataW H)}{ps:List MemPlace},DataW.TrodAll enc P w 0 spare held ts vs ds ps->(∀(j:Nat) t v,ts[j]?=some t->vs[j]?=some v->Value.okWide P w r b0 t v)->ts.all (typeOk P k)=true ->
  ∃qs,VRelL phi0 w qs vs/\ShL P k ts qs
 |[],[],[],_,_,_,_=>⟨[],rfl,trivial⟩
 |t::ts,v::vs,d::ds,ps,h,hv,hk=>by
  obtain⟨p,q,h1,h2,_⟩:=h;simp only[List.all_cons,Bool.and_eq_true]at hk;obtain⟨x,hx1,hx2⟩:=arg_rel h1 (hv 0 t v rfl rfl) hk.1;obtain⟨qs,hq1,hq2⟩:=args_rel h2 (λj t v ht hv'=>hv (j+1) t v (by simpa using ht) (by simpa using hv')) hk.2;exact⟨x::qs,⟨v,vs,rfl,hx1,hq1⟩,hx2,hq2⟩
 |[],[],_::_,_,h,_,_=>h.elim
 |[],_::_,_,_,h,_,_=>h.elim
 |_::_,[],_,_,h,_,_=>h.elim
 |_::_,_::_,[],_,h,_,_=>h.elim
end
theorem shC_plain{P:Program}:∀(k:Nat)(t:TypeId)(cs:List PV),ShC P k t cs->plainC cs=true
 |0,t,cs,h=>by simp[ShC]at h
 |k+1,t,cs,h=>by
  unfold ShC at h;split at h
  ·obtain⟨b,rfl⟩:=h;rfl
  ·obtain⟨n,rfl,_⟩:=h;rfl
  ·obtain⟨s,rfl⟩:=h;rfl
  ·rename_i e hu;rcases h with rfl|⟨off,ls,rfl,_,hl⟩
   ·rfl
   ·have:plainC ls.flatten=true:=by
     refine(plainC_iff _).2 λq hq=>?_;obtain⟨l,hl1,hl2⟩:=List.mem_flatten.1 hq;exact(plainC_iff l).1 (shC_plain k e l (hl l hl1).1) q hl2
    simp[plainC,PV.plain,PV.one,this]
  ·rename_i fs hu;obtain⟨ls,rfl,hlen,hl⟩:=h;refine(plainC_iff _).2 λq hq=>?_;obtain⟨l,hl1,hl2⟩:=List.mem_flatten.1 hq;obtain⟨i,hi⟩:=List.mem_iff_getElem?.1 hl1;have hif:i<fs.size:=by rw[←hlen];exact(List.getElem?_eq_some_iff.1 hi).1
   exact(plainC_iff l).1 (shC_plain k _ l (hl i fs[i] l (by simp) hi).1) q hl2
  ·exact h.elim
theorem shV_plain{P:Program}{k:Nat}{t:TypeId}{q:PV}(h:ShV P k t q):q.plain=true:=by
 unfold ShV at h;split at h
 ·obtain⟨cs,rfl,h⟩:=h;simp only[PV.plain];exact shC_plain k t cs h
 ·obtain⟨q',rfl,h⟩:=h;have:=shC_plain k t _ h;simp only[plainC,Bool.and_eq_true]at this;exact this.1.1
theorem shL_plain{P:Program}{k:Nat}:∀{ts:List TypeId}{qs:List PV},ShL P k ts qs->∀q∈qs,q.plain=true
 |[],[],_,q,h=>by cases h
 |t::ts,x::qs,h,q,hq=>by
  rcases List.mem_cons.1 hq with rfl|hq
  ·exact shV_plain h.1
  ·exact shL_plain h.2 q hq
 |[],_::_,h,_,_=>h.elim
 |_::_,[],h,_,_=>h.elim
def loopsOf(w:World):List (Nat×Loop):=(List.range w.heap.size).filterMap λl=>match w.heap[l]? with
 |some (Obj.loop o)=>some (l,o)
 |_=>none
end
section
open Go Go.RowKit
variable[Sp]
structure Hom(T:PV->PV):Prop where
 plain:∀q,q.plain=true->T q=q
 undef:T .undef=.undef
 agg:∀l,T (.agg l)=.agg (l.map T)
 tup:∀l,T (.tup l)=.tup (l.map T)
 fn:∀f l,T (.fn f l)=.fn f (l.map T)
 sl:∀sz off len l,T (.sl none sz off len l)=.sl none sz off len (l.map T)
 eref:∀off l,T (.eref none off l)=.eref none off (l.map T)
 yld:∀l,T (.yld l)=.yld l
 one:∀q,q.one=true->(∀o,q=.eref o 0 []->True)->(T q).one=true\/T q=.bad
theorem hom_frz(id:Nat):Hom (PV.frz id) where
 plain:=λq h=>plain_frz id q h
 undef:=by simp only[PV.frz]
 agg:=λl=>by simp only[PV.frz,frzL_eq]
 tup:=λl=>by simp only[PV.frz,frzL_eq]
 fn:=λf l=>by simp only[PV.frz,frzL_eq]
 sl:=λsz off len l=>by simp only[PV.frz,frzL_eq]
 eref:=λoff l=>by simp only[PV.frz,frzL_eq]
 yld:=λl=>by simp only[PV.frz]
 one:=λq h _=>by
  cases q with
  |sl id _ _ _ _=>cases id<;>exact .inl (by simp[PV.frz,PV.one])
  |eref id _ _=>cases id<;>exact .inl (by simp[PV.frz,PV.one])
  |mp _ id _ _=>cases id<;>exact .inl (by simp[PV.frz,PV.one])
  |undef=>simp[PV.one]at h
  |bad=>simp[PV.one]at h
  |agg _=>simp[PV.one]at h
  |tup _=>simp[PV.one]at h
  |_=>exact .inl (by simp[PV.frz,PV.one])
theorem one_sub1(e:Eff)(q:PV)(h:q.one=true):(q.sub1 e).one=true\/q.sub1 e=.bad:=by
 cases q with
 |sl id _ _ _ _=>
  cases id with
  |none=>exact .inl (by simp[PV.sub1,PV.one])
  |some i=>cases e<;>simp only[PV.sub1]<;>split<;>exact .inl (by simp[PV.one])
 |eref id _ _=>
  cases id with
  |none=>exact .inl (by simp[PV.sub1,PV.one])
  |some i=>cases e<;>simp only[PV.sub1]<;>split<;>first|exact .inr rfl|exact .inl rfl
 |mp it id sz cs=>
  cases id with
  |none=>exact .inl (by simp[PV.sub1,PV.one])
  |some i=>
   cases e with
   |kill j=>simp only[PV.sub1];split<;>first|exact .inr rfl|exact .inl rfl
   |wr j p v=>
    simp only[PV.sub1];split
    ·split
     ·split<;>first|exact .inr rfl|exact .inl rfl
     ·exact .inr rfl
    ·exact .inl rfl
 |undef=>simp[PV.one]at h
 |bad=>simp[PV.one]at h
 |agg _=>simp[PV.one]at h
 |tup _=>simp[PV.one]at h
 |_=>exact .inl (by simp[PV.sub1,PV.one])
theorem bad_sub(E:List Eff):PV.sub E .bad=.bad:=by
 induction E with
 |nil=>rfl
 |cons e E ih=>simp only[PV.sub,PV.sub1,ih]
theorem hom_sub(E:List Eff):Hom (PV.sub E):=by
 induction E with
 |nil=>exact⟨λ_ _=>rfl,rfl,λl=>by simp[PV.sub],λl=>by simp[PV.sub],λf l=>by simp[PV.sub],λ_ _ _ l=>by simp[PV.sub],λ_ l=>by simp[PV.sub],λl=>rfl,λq h _=>.inl h⟩
 |cons e E ih=>
  refine⟨λq h=>plain_sub _ h,?_,λl=>?_,λl=>?_,λf l=>?_,λ_ _ _ l=>?_,λ_ l=>?_,λl=>?_,λq h _=>?_⟩
  ·simp only[PV.sub,PV.sub1,ih.undef]
  ·simp only[PV.sub,PV.sub1,subL1_eq,ih.agg,List.map_map];rfl
  ·simp only[PV.sub,PV.sub1,subL1_eq,ih.tup,List.map_map];rfl
  ·simp only[PV.sub,PV.sub1,subL1_eq,ih.fn,List.map_map];rfl
  ·simp only[PV.sub,PV.sub1,subL1_eq,ih.sl,List.map_map];rfl
  ·simp only[PV.sub,PV.sub1,subL1_eq,ih.eref,List.map_map];rfl
  ·simp only[PV.sub,PV.sub1,ih.yld]
  ·rcases one_sub1 e q h with h1|h1
   ·exact ih.one _ h1 (λ_ _=>trivial)
   ·exact .inr (by simp only[PV.sub,h1,bad_sub])
structure Tr(F:Frm)(E E':Env)(f:SV->SV)(T:PV->PV):Prop where
 hom:Hom T
 ρ:E.ρ<+:E'.ρ
 e:∀x,f (.e x)=.e x
 undef:f .undef=.undef
 junk:f .junk=.junk
 dice:f .dice=.dice
 erow:∀x sz fo,f (.erow x sz fo)=.erow x sz fo
 yld:∀y,f (.yld y)=.yld y
 fn:∀g l,f (.fn g l)=.fn g (l.map f)
 agg:∀l,f (.agg l)=.agg (l.map f)
 tup:∀l,f (.tup l)=.tup (l.map f)
 lit:∀a b l,f (.lit a b l)=.lit a b (l.map f)
 sref:∀l o,f (.sref l o)=.sref (l.map f) o
 pel:∀b x fo,f (.pel b x fo)=.junk\/(f (.pel b x fo)=.pel b x fo/\∀o,f (.ptr b o)=.ptr b o)
 ptr:∀i o q,RV F E (.ptr i o) q->RV F E' (f (.ptr i o)) (T q)/\(f (.ptr i o)=.junk\/(T q).one=true)
 hd:∀i o z q,RV F E (.hd i o z) q->RV F E' (f (.hd i o z)) (T q)/\(f (.hd i o z)=.junk\/(T q).one=true)
 dicep:∀q,RV F E .dice q->T q=q
 own:∀k q,RV F E (.own k) q->RV F E' (f (.own k)) (T q)/\(f (.own k)=.junk\/(T q).one=true)
 eown:∀k x fo q,RV F E (.eown k x fo) q->RV F E' (f (.eown k x fo)) (T q)/\(f (.eown k x fo)=.junk\/(T q).one=true)
theorem plainC_map{T:PV->PV}(h:Hom T){l:List PV}(hl:plainC l=true):l.map T=l:=by
 rw[plainC_iff]at hl
 conv=>rhs;rw[←List.map_id l]
 exact List.map_congr_left λq hq=>h.plain q (hl q hq).1
section
variable{F:Frm}{E E':Env}{f:SV->SV}{T:PV->PV}
theorem Tr.rvp(t:Tr F E E' f T){b:Nat}{x:SE}{fo:Nat}{q:PV}(h:RV F E (.pel b x fo) q):RV F E' (f (.pel b x fo)) (T q)/\(f (.pel b x fo)=.junk\/(T q).one=true):=by
 rcases t.pel b x fo with e|⟨e,ep⟩
 ·rw[e];exact⟨by simp only[RV],.inl rfl⟩
 ·rw[e];simp only[RV]at h;obtain⟨kk,n,h1,h2,rfl,h4⟩:=h;obtain⟨e1,e2⟩:=SE.den_prefix t.ρ h2;have hp:=t.ptr b (n.toNat+fo) (.ptr (F.n0+b) (n.toNat+fo)) (by simp only[RV];exact⟨trivial,h4⟩);rw[ep]at hp;have hp1:=hp.1;simp only[RV]at hp1;simp only[RV];refine⟨⟨kk,n,by rw[e1];exact h1,e2,hp1.1,hp1.2⟩,.inr (by rw[hp1.1];rfl)⟩
mutual
theorem Tr.rv(t:Tr F E E' f T):∀{v:SV}{q:PV},RV F E v q->RV F E' (f v) (T q)
 |.e x,q,h=>by
  rw[t.e];simp only[RV]at h⊢;obtain⟨e1,e2⟩:=SE.den_prefix t.ρ h.2;rw[t.hom.plain q (by rw[h.1];exact SE.ok_plain h.2),e1];exact⟨h.1,e2⟩
 |.undef,q,h=>by
  rw[t.undef];simp only[RV]at h⊢;rw[h,t.hom.undef]
 |.junk,q,h=>by rw[t.junk];simp only[RV]
 |.ptr i o,q,h=>(t.ptr i o q h).1
 |.hd i o z,q,h=>(t.hd i o z q h).1
 |.pel b x fo,q,h=>(t.rvp h).1
 |.dice,q,h=>by
  rw[t.dice,t.dicep q h];simpa only[RV]using h
 |.yld _,q,h=>by
  rw[t.yld];simp only[RV]at h⊢;obtain⟨l,h1,rfl⟩:=h;exact⟨l,h1,t.hom.yld l⟩
 |.own k,q,h=>(t.own k q h).1
 |.eown k x fo,q,h=>(t.eown k x fo q h).1
 |.erow x sz fo,q,h=>by
  rw[t.erow];simp only[RV]at h⊢;obtain⟨cs,off,tl,h1,h2,h3,rfl⟩:=h;obtain⟨e1,e2⟩:=SE.den_prefix t.ρ h2;have hp:plainC cs=true:=by have:=SE.ok_plain h2;rw[h1]at this;simpa only[PV.plain]using this
  refine⟨cs,off,tl.map T,by rw[e1];exact h1,e2,h3,?_⟩;rw[t.hom.eref,List.map_append];congr 2;have:=plainC_map t.hom hp;rw[List.map_drop,this]
 |.sref l fo,q,h=>by
  rw[t.sref];simp only[RV]at h⊢;obtain⟨l',h1,h2,rfl⟩:=h;refine⟨l',?_,h2,?_⟩
  ·have:=Tr.rvl t h1;rwa[plainC_map t.hom h2]at this
  ·rw[t.hom.eref,List.map_drop,plainC_map t.hom h2]
 |.fn g l,q,h=>by
  rw[t.fn];simp only[RV]at h⊢;obtain⟨l',rfl,h2⟩:=h;exact⟨_,t.hom.fn _ _,Tr.rvl t h2⟩
 |.agg l,q,h=>by
  rw[t.agg];simp only[RV]at h⊢;obtain⟨l',rfl,h2⟩:=h;exact⟨_,t.hom.agg _,Tr.rvl t h2⟩
 |.tup l,q,h=>by
  rw[t.tup];simp only[RV]at h⊢;obtain⟨l',rfl,h2⟩:=h;exact⟨_,t.hom.tup _,Tr.rvt t h2⟩
 |.lit sz len l,q,h=>by
  rw[t.lit];simp only[RV]at h⊢;obtain⟨l',rfl,h2,h3,h4⟩:=h;have:=Tr.rvl t h2;rw[plainC_map t.hom h3]at this;exact⟨l',by rw[t.hom.sl,plainC_map t.hom h3],this,h3,h4⟩
theorem Tr.rvl(t:Tr F E E' f T):∀{l:List SV}{l':List PV},RVL F E l l'->RVL F E' (l.map f) (l'.map T)
 |[],l',h=>by simp only[RVL]at h;subst h;simp[RVL]
 |v::vs,l',h=>by
  simp only[RVL]at h;obtain⟨q,r,rfl,h2,h3,h4⟩:=h;simp only[List.map_cons,RVL];refine⟨T q,r.map T,rfl,Tr.rv t h2,?_,Tr.rvl t h4⟩;rcases h3 with rfl|h3
  ·exact .inl t.junk
  ·cases v with
   |ptr i o=>exact(t.ptr i o q h2).2
   |hd i o z=>exact(t.hd i o z q h2).2
   |pel b x fo=>exact(t.rvp h2).2
   |own k=>exact(t.own k q h2).2
   |eown k x fo=>exact(t.eown k x fo q h2).2
   |junk=>exact .inl t.junk
   |yld _=>
    simp only[RV]at h2;obtain⟨l,_,rfl⟩:=h2;rw[t.hom.yld];exact .inr rfl
   |undef=>simp only[RV]at h2;subst h2;simp[PV.one]at h3
   |e x=>
    simp only[RV]at h2;rw[t.hom.plain q (by rw[h2.1];exact SE.ok_plain h2.2)];exact .inr h3
   |dice=>rw[t.dicep q h2];exact .inr h3
   |erow x sz fo=>
    simp only[RV]at h2;obtain⟨cs,off,tl,_,_,_,rfl⟩:=h2;rw[t.hom.eref];exact .inr rfl
   |sref l fo=>
    simp only[RV]at h2;obtain⟨l',_,_,rfl⟩:=h2;rw[t.hom.eref];exact .inr rfl
   |fn g l=>
    simp only[RV]at h2;obtain⟨l',rfl,_⟩:=h2;rw[t.hom.fn];exact .inr rfl
   |agg l=>
    simp only[RV]at h2;obtain⟨l',rfl,_⟩:=h2;simp[PV.one]at h3
   |tup l=>
    simp only[RV]at h2;obtain⟨l',rfl,_⟩:=h2;simp[PV.one]at h3
   |lit a b l=>
    simp only[RV]at h2;obtain⟨l',rfl,_⟩:=h2;rw[t.hom.sl];exact .inr rfl
theorem Tr.rvt(t:Tr F E E' f T):∀{l:List SV}{l':List PV},RVT F E l l'->RVT F E' (l.map f) (l'.map T)
 |[],l',h=>by simp only[RVT]at h;subst h;simp[RVT]
 |v::vs,l',h=>by
  simp only[RVT]at h;obtain⟨q,r,rfl,h2,h4⟩:=h;simp only[List.map_cons,RVT];exact⟨T q,r.map T,rfl,Tr.rv t h2,Tr.rvt t h4⟩
end
end
theorem frzSL_eq(k:Nat)(x:SE)(l:List SV):frzSL k x l=l.map (SV.frz k x):=by
 induction l with
 |nil=>rfl
 |cons v l ih=>simp[frzSL,ih]
theorem hitSL_eq(k:Nat)(a:Bool)(l:List SV):hitSL k a l=l.map (SV.hitS k a):=by
 induction l with
 |nil=>rfl
 |cons v l ih=>simp[hitSL,ih]
theorem standL_eq(i:Nat)(c l:List SV):standL i c l=l.map (SV.stand i c):=by
 induction l with
 |nil=>rfl
 |cons v l ih=>simp[standL,ih]
end
section
open Go Go.RowKit
variable[Sp]
section
variable{F:Frm}{S:Sym}{ρ:List PV}{ids:Nat->Option Nat}{s:St}
@[simp]theorem env_put(d:Option Tmp)(v:SV):(S.put d v).env ρ ids=S.env ρ ids:=by cases d<;>rfl
@[simp]theorem put_nv(d:Option Tmp)(v:SV):(S.put d v).nv=S.nv:=by cases d<;>rfl
@[simp]theorem put_kn(d:Option Tmp)(v:SV):(S.put d v).kn=S.kn:=by cases d<;>rfl
@[simp]theorem put_bx(d:Option Tmp)(v:SV):(S.put d v).bx=S.bx:=by cases d<;>rfl
@[simp]theorem put_ar(d:Option Tmp)(v:SV):(S.put d v).ar=S.ar:=by cases d<;>rfl
@[simp]theorem put_effS(d:Option Tmp)(v:SV):(S.put d v).eff=S.eff:=by cases d<;>rfl
@[simp]theorem put_base(d:Option Tmp)(v:SV):(S.put d v).base=S.base:=by cases d<;>rfl
@[simp]theorem put_bbase(d:Option Tmp)(v:SV):(S.put d v).bbase=S.bbase:=by cases d<;>rfl
theorem get_put(d:Nat)(v:SV)(t:Nat):(S.put (some d) v).get t=if t=d then v else S.get t:=by
 simp only[Sym.put,Sym.get,getA];by_cases h:t=d
 ·subst h;simp
 ·rw[if_neg h,if_neg (λe=>h (Nat.eq_of_beq_eq_true e).symm)]
theorem Rel.put(h:Rel F S ρ ids s)(d:Option Tmp){v:SV}{q:PV}(hv:RV F (S.env ρ ids) v q):Rel F (S.put d v) ρ ids (s.put d q):=by
 refine⟨by simpa using h.len,by simpa using h.kn,λt=>?_,by simpa using h.boxn,by simpa using h.old,by simpa using h.box,by simpa using h.idlt,h.idinj,by simpa using h.arr,by simpa using h.a0,h.ent,by simpa using h.efc,by simpa using h.eff,by simpa using h.new,by simpa using h.keep,by simpa using h.bbase,by simpa using h.ba,by simpa using h.bb,by simpa using h.an,h.obd,by cases d<;>exact h.rc⟩;rw[env_put];cases d with
 |none=>exact h.slot t
 |some d=>
  rw[get_put,St.put_g];by_cases ht:t=d
  ·subst ht;rw[if_pos rfl,if_pos rfl];exact hv
  ·rw[if_neg ht,if_neg ht];exact h.slot t
def Sym.bind(S:Sym)(kn:Bool):Sym:={ S with nv:=S.nv+1,kn:=if kn then S.nv::S.kn else S.kn }
theorem Env.le_bind(S:Sym)(ρ:List PV)(ids:Nat->Option Nat)(v:PV)(kn:Bool):(S.env ρ ids).le ((S.bind kn).env (ρ++[v]) ids):=
 ⟨List.prefix_append _ _,λ_ _ h=>h,Nat.le_refl _,λ_ _ _=>rfl⟩
theorem rb_mono{E E':Env}(h:E.le E'){b:BX}{c:BoxC}(hb:RB F E b c):RB F E' b c:=by
 cases b with
 |cells l=>
  obtain⟨l',h1,h2⟩:=hb;exact⟨l',h1,RVL.mono h h2⟩
 |dice=>exact hb
 |gone=>exact hb
theorem Rel.bind(h:Rel F S ρ ids s)(v:PV)(kn:Bool)(hk:kn=true->v.one=true):Rel F (S.bind kn) (ρ++[v]) ids s:=by
 have hle:=Env.le_bind S ρ ids v kn;refine⟨by simp[Sym.bind,h.len],λi hi=>?_,λt=>RV.mono hle (h.slot t),h.boxn,h.old,λi b hb=>rb_mono hle (h.box i b hb),h.idlt,h.idinj,λk a ha=>?_,h.a0,h.ent,h.efc,h.eff,h.new,h.keep,h.bbase,h.ba,h.bb,h.an,h.obd,h.rc.push⟩
 ·have old:∀i,i∈S.kn->((ρ++[v]).getD i .bad).one=true:=λi hi=>by
   have h1:=h.kn i hi;have:i<ρ.length:=by
    rcases Nat.lt_or_ge i ρ.length with h2|h2
    ·exact h2
    ·simp[List.getD_eq_getElem?_getD,List.getElem?_eq_none h2,PV.one]at h1
   simpa[List.getD_eq_getElem?_getD,List.getElem?_append_left this]using h1
  cases kn with
  |false=>exact old i (by simpa[Sym.bind]using hi)
  |true=>
   simp only[Sym.bind,if_true,List.mem_cons]at hi;rcases hi with rfl|hi
   ·rw[←h.len];simpa[List.getD_eq_getElem?_getD]using hk rfl
   ·exact old i hi
 ·obtain⟨cs,hc⟩:=h.arr k a ha;exact⟨cs,AR.rel.mono hle ha hc⟩
theorem var_ok(h:Rel F S ρ ids s)(v:PV)(hv:v.plain=true):SE.ok (ρ++[v]) (.var S.nv)/\SE.den (ρ++[v]) (.var S.nv)=v:=by
 have e:SE.den (ρ++[v]) (.var S.nv)=v:=by simp[SE.den,←h.len,List.getD_eq_getElem?_getD]
 exact⟨by unfold SE.ok;unfold SE.den at e;rw[e];exact hv,e⟩
theorem rv_svOf(E:Env)(v:PV):RV F E (svOf v) v:=by
 unfold svOf;split
 ·simp only[RV]
 ·simp only[RV]
 ·split
  ·rename_i h;simp only[RV];exact⟨rfl,h⟩
  ·simp only[RV]
theorem Rel.ev(h:Rel F S ρ ids s)(x:Operand):RV F (S.env ρ ids) (S.ev x) (s.ev x):=by
 cases x with
 |tmp t=>exact h.slot t
 |const v=>exact rv_svOf _ _
 |func f=>
  simp only[Sym.ev,St.ev];split
  ·simp only[RV];exact⟨[],rfl,rfl⟩
  ·simp only[RV]
 |global g=>simp only[Sym.ev,RV]
theorem Rel.pe(h:Rel F S ρ ids s){x:Operand}{p:PE}(hp:(S.ev x).pe=some p):s.ev x=p.den ρ/\(s.ev x).plain=true:=pe_den hp (h.ev x)
theorem Rel.evs(h:Rel F S ρ ids s):∀l:List Operand,∀ps,peL (l.map S.ev)=some ps->l.map s.ev=denL ρ ps/\(∀q∈l.map s.ev,q.plain=true)
 |[],ps,hp=>by
  simp only[List.map_nil,peL,Option.some.injEq]at hp;subst hp;simp[denL]
 |x::l,ps,hp=>by
  simp only[List.map_cons,peL]at hp;split at hp
  ·rename_i p ps' h1 h2;injection hp with hp;subst hp;obtain⟨e1,e2⟩:=h.pe h1;obtain⟨e3,e4⟩:=Rel.evs h l ps' h2;refine⟨by simp only[List.map_cons,denL,e1,e3],λq hq=>?_⟩;simp only[List.map_cons,List.mem_cons]at hq;rcases hq with rfl|hq
   ·exact e2
   ·exact e4 q hq
  ·cases hp
def Run(P:Program)(C:Orc->FuncId->List PV->Option PV)(n:Nat)(t:Tree)(ρ:List PV)(R:Out->Prop):Prop:=∀ω,∃o,eval P C n t ω ρ=some o/\R o
def orc0:Orc:=λ_=>0
variable{P:Program}{C:Orc->FuncId->List PV->Option PV}{n:Nat}{R:Out->Prop}
theorem Run.prim{p:Prim}{t:Tree}(h:Run P C n (.prim p t) ρ R):∃v,p.run P ρ=some v/\Run P C n t (ρ++[v]) R:=by
 obtain⟨o,ho,_⟩:=h orc0;simp only[eval]at ho;split at ho
 ·rename_i v hv;refine⟨v,hv,λω=>?_⟩;obtain⟨o,ho,hR⟩:=h ω;simp only[eval,hv]at ho;exact⟨o,ho,hR⟩
 ·cases ho
theorem run_die(h:Run P C n .die ρ R):False:=by
 obtain⟨o,ho,_⟩:=h orc0;simp[eval]at ho
theorem Run.ite{c:SE}{a b:Tree}(h:Run P C n (.ite c a b) ρ R):(c.den ρ=.bool true/\Run P C n a ρ R)\/(c.den ρ=.bool false/\Run P C n b ρ R):=by
 obtain⟨o,ho,_⟩:=h orc0;simp only[eval]at ho;split at ho
 ·rename_i hc;refine .inl ⟨hc,λω=>?_⟩;obtain⟨o,ho,hR⟩:=h ω;simp only[eval,hc]at ho;exact⟨o,ho,hR⟩
 ·rename_i hc;refine .inr ⟨hc,λω=>?_⟩;obtain⟨o,ho,hR⟩:=h ω;simp only[eval,hc]at ho;exact⟨o,ho,hR⟩
 ·cases ho
theorem Run.call{g:FuncId}{args:List PE}{t:Tree}(h:Run P C n (.call g args t) ρ R):(∀ω,(C ω g (denL ρ args)).isSome)/\∀ω v,C ω g (denL ρ args)=some v->Run P C n t (ρ++[v]) R:=by
 refine⟨λω=>?_,λω v hv ω'=>?_⟩
 ·obtain⟨o,ho,_⟩:=h (Orc.mk ω ω);simp only[eval,Orc.mk_l]at ho;split at ho
  ·rename_i hv;rw[hv];rfl
  ·cases ho
 ·obtain⟨o,ho,hR⟩:=h (Orc.mk ω ω');simp only[eval,Orc.mk_l,Orc.mk_r,hv]at ho;exact⟨o,ho,hR⟩
theorem Run.pick{sz:Nat}{c:SE}{t:Tree}(h:Run P C n (.pick sz c t) ρ R):∃cs,c.den ρ=.agg cs/\∀i,Run P C n t (ρ++[pickV sz cs i]) R:=by
 obtain⟨o,ho,_⟩:=h orc0;simp only[eval]at ho;split at ho
 ·rename_i cs hc;refine⟨cs,hc,λi ω=>?_⟩;obtain⟨o,ho,hR⟩:=h (Orc.mk (λ_=>i) ω);simp only[eval,hc,Orc.mk_l,Orc.mk_r]at ho;exact⟨o,ho,hR⟩
 ·cases ho
theorem Run.callv{f:SE}{args:List PE}{t:Tree}(h:Run P C n (.callv f args t) ρ R):∃g caps,f.den ρ=.fn g caps/\(∀ω,(C ω (fnG g) (fnA g (denL ρ args) caps)).isSome)/\∀ω v,C ω (fnG g) (fnA g (denL ρ args) caps)=some v->Run P C n t (ρ++[v]) R:=by
 obtain⟨o,ho,_⟩:=h orc0;simp only[eval]at ho;split at ho
 ·rename_i g caps hf;refine⟨g,caps,hf,λω=>?_,λω v hv ω'=>?_⟩
  ·obtain⟨o,ho,_⟩:=h (Orc.mk ω ω);simp only[eval,hf,Orc.mk_l]at ho;split at ho
   ·rename_i hv;rw[hv];rfl
   ·cases ho
  ·obtain⟨o,ho,hR⟩:=h (Orc.mk ω ω');simp only[eval,hf,Orc.mk_l,Orc.mk_r,hv]at ho;exact⟨o,ho,hR⟩
 ·cases ho
theorem emit_ok{p:Prim}{kn:Bool}{k:SE->Sym->M}{t:Tree}(h:emit p kn S k=.ok t):∃t',k (.var S.nv) (S.bind kn)=.ok t'/\t=.prim p t':=by
 simp only[emit,bind,Except.bind]at h;split at h
 ·cases h
 ·rename_i t' ht;injection h with h;exact⟨t',ht,h.symm⟩
end
end
section
open Go Go.RowKit
variable[Sp]
section
variable{P:Program}
theorem aStr_plain{op:BinOp}{a b:ByteArray}{v:PV}(h:aStr op a b=some v):v.plain=true/\v.one=true:=by
 unfold aStr at h;split at h
 ·split at h
  ·injection h with h;subst h;exact⟨rfl,rfl⟩
  ·cases h
 all_goals first|(cases h;done)|(injection h with h;subst h;exact⟨rfl,rfl⟩)
theorem aBin_plain{op:BinOp}{t:TypeId}{x y v:PV}(h:aBin P op t x y=some v):v.plain=true/\v.one=true:=by
 unfold aBin at h;split at h
 ·split at h
  ·split at h<;>first|(cases h;done)|(injection h with h;subst h;exact⟨rfl,rfl⟩)
  ·split at h<;>first|(cases h;done)|(injection h with h;subst h;exact⟨rfl,rfl⟩)
  ·split at h
   ·split at h<;>first|(cases h;done)|(injection h with h;subst h;exact⟨rfl,rfl⟩)|(split at h<;>first|(cases h;done)|(injection h with h;subst h;exact⟨rfl,rfl⟩))
   ·cases h
 all_goals first|(cases h;done)|exact aStr_plain h|(split at h<;>first|(cases h;done)|(injection h with h;subst h;exact⟨rfl,rfl⟩))
theorem aUn_plain{op:UnOp}{x v:PV}(h:aUn op x=some v):v.plain=true/\v.one=true:=by
 unfold aUn at h;split at h<;>first|(cases h;done)|(injection h with h;subst h;exact⟨rfl,rfl⟩)
theorem aConv_plain{s d:TypeId}{x v:PV}(h:aConv P s d x=some v):v.plain=true/\v.one=true:=by
 unfold aConv at h;split at h<;>first|(cases h;done)|(injection h with h;subst h;exact⟨rfl,rfl⟩)
theorem aLen_plain{t:TypeId}{x v:PV}(h:aLen P t x=some v):v.plain=true/\v.one=true:=by
 unfold aLen at h;split at h<;>first|(cases h;done)|(injection h with h;subst h;exact⟨rfl,rfl⟩)
theorem aMin_plain{l:List PV}{v:PV}(h:aMin l=some v):v.plain=true/\v.one=true:=by
 unfold aMin at h;split at h
 ·obtain⟨_,_,rfl⟩:=Option.map_eq_some_iff.1 h;exact⟨rfl,rfl⟩
 ·cases h
theorem aMax_plain{l:List PV}{v:PV}(h:aMax l=some v):v.plain=true/\v.one=true:=by
 unfold aMax at h;split at h
 ·obtain⟨_,_,rfl⟩:=Option.map_eq_some_iff.1 h;exact⟨rfl,rfl⟩
 ·cases h
theorem plainC_take{l:List PV}(h:plainC l=true)(k:Nat):plainC (l.take k)=true:=(plainC_iff _).2 λp hp=>(plainC_iff _).1 h p (List.mem_of_mem_take hp)
theorem plainC_drop{l:List PV}(h:plainC l=true)(k:Nat):plainC (l.drop k)=true:=(plainC_iff _).2 λp hp=>(plainC_iff _).1 h p (List.mem_of_mem_drop hp)
theorem plainC_append{l l':List PV}(h:plainC l=true)(h':plainC l'=true):plainC (l++l')=true:=(plainC_iff _).2 λp hp=>by
 rcases List.mem_append.1 hp with hp|hp
 ·exact(plainC_iff _).1 h p hp
 ·exact(plainC_iff _).1 h' p hp
theorem plainC_get{l:List PV}(h:plainC l=true){k:Nat}{v:PV}(hv:l[k]?=some v):v.plain=true/\v.one=true:=(plainC_iff _).1 h v (List.mem_of_getElem? hv)
theorem aSlice_plain{t:TypeId}{x v:PV}{lo hi:Option PV}(hx:x.plain=true)(h:aSlice P t x lo hi=some v):v.plain=true/\v.one=true:=by
 unfold aSlice at h;split at h
 ·rename_i e id sz off len cs hu;split at h
  ·split at h
   ·split at h
    ·injection h with h;subst h;exact⟨rfl,rfl⟩
    ·injection h with h;subst h;cases id with
     |none=>exact⟨by simp only[PV.plain]at hx⊢;exact plainC_take (plainC_drop hx _) _,rfl⟩
     |some i=>simp[PV.plain]at hx
   ·cases h
  ·cases h
 ·split at h
  ·split at h
   ·injection h with h;subst h;exact⟨rfl,rfl⟩
   ·cases h
  ·cases h
 ·split at h
  ·split at h
   ·injection h with h;subst h;exact⟨rfl,rfl⟩
   ·cases h
  ·cases h
 ·cases h
theorem aIndex_plain{t:TypeId}{x i v:PV}(hx:x.plain=true)(h:aIndex P t x i=some v):v.plain=true/\v.one=true:=by
 unfold aIndex at h;split at h
 ·split at h
  ·exact plainC_get (by simpa only[PV.plain]using hx) h
  ·cases h
 ·split at h
  ·obtain⟨b,_,rfl⟩:=Option.map_eq_some_iff.1 h;exact⟨rfl,rfl⟩
  ·cases h
 ·cases h
end
def YS.core(y:YS):YS:={ y with pend:=none,busy:=false }
structure Ext(S:Sym)(ρ:List PV)(S':Sym)(ρ':List PV):Prop where
 pre:ρ<+:ρ'
 base:S'.base=S.base
 bbase:S'.bbase=S.bbase
 site:S'.site=S.site
 lv:S'.site=S.site
 ys:S'.ys.map YS.core=S.ys.map YS.core
 bx:S.bx.length<=S'.bx.length
 g:0=0
theorem Ext.refl(S:Sym)(ρ:List PV):Ext S ρ S ρ:=⟨List.prefix_refl _,rfl,rfl,rfl,rfl,rfl,Nat.le_refl _,rfl⟩
theorem Ext.trans{S S1 S2:Sym}{ρ ρ1 ρ2:List PV}(h:Ext S ρ S1 ρ1)(k:Ext S1 ρ1 S2 ρ2):Ext S ρ S2 ρ2:=
 ⟨h.pre.trans k.pre,k.base.trans h.base,k.bbase.trans h.bbase,k.site.trans h.site,k.lv.trans h.lv,k.ys.trans h.ys,Nat.le_trans h.bx k.bx,k.g.trans h.g⟩
theorem Ext.put{S S':Sym}{ρ ρ':List PV}(h:Ext S ρ S' ρ')(d:Option Tmp)(v:SV):Ext S ρ (S'.put d v) ρ':=by
 cases d with
 |none=>exact h
 |some d=>exact⟨h.pre,h.base,h.bbase,h.site,h.lv,h.ys,h.bx,rfl⟩
theorem Ext.bind(S:Sym)(ρ:List PV)(v:PV)(kn:Bool):Ext S ρ (S.bind kn) (ρ++[v]):=⟨List.prefix_append _ _,rfl,rfl,rfl,rfl,rfl,Nat.le_refl _,rfl⟩
section
variable{X:Ctx}{F:Frm}{C:Orc->FuncId->List PV->Option PV}{n:Nat}{R:Out->Prop}{S:Sym}{ρ:List PV}{ids:Nat->Option Nat}{s:St}{K:Sym->M}{t:Tree}{o:Oper}{m0:Mem}{inl yl:Inl}{lx:Option Nat}{key:Nat}
def Stp(X:Ctx)(F:Frm)(C:Orc->FuncId->List PV->Option PV)(n:Nat)(R:Out->Prop)(K:Sym->M)(S:Sym)(ρ:List PV)(s':St):Prop:=
 ∃S' ρ' ids' t',K S'=.ok t'/\Rel F S' ρ' ids' s'/\Run X.P C n t' ρ' R/\Ext S ρ S' ρ'
theorem stp_emit{p:Prim}{kn:Bool}(h:emit p kn S (λv S=>K (S.put o.dst (.e v)))=.ok t)(hr:Rel F S ρ ids s)(hrun:Run X.P C n t ρ R)
  (hp:∀v,p.run X.P ρ=some v->v.plain=true/\v.one=true):∃v,p.run X.P ρ=some v/\Stp X F C n R K S ρ (s.put o.dst v):=by
 obtain⟨t',ht,rfl⟩:=emit_ok h;obtain⟨v,hv,hrun⟩:=hrun.prim;obtain⟨h1,h2⟩:=hp v hv;have hb:=hr.bind v kn λ_=>h2;obtain⟨g1,g2⟩:=var_ok hr v h1;exact⟨v,hv,_,_,ids,t',ht,hb.put o.dst (by simp only[RV];exact⟨g2.symm,g1⟩),hrun,(Ext.bind S ρ v kn).put _ _⟩
def NearX(F:Frm)(lx:Option Nat)(m0:Mem)(s:St):Prop:=match lx with
 |none=>m0=s.m
 |some b=>m0.n=F.n0+b/\Near m0 s.m
theorem near_of(hn:NearX F lx m0 s):Near m0 s.m:=by
 cases lx with
 |none=>simp only[NearX]at hn;subst hn;exact⟨Nat.le_refl _,λ_ _=>rfl⟩
 |some b=>exact hn.2
theorem loadS_ok(hr:Rel F S ρ ids s)(hn:NearX F lx m0 s){ty:TypeId}{i off:Nat}{v:SV}(h:loadS X S lx ty i off=some v):
  ∃q,aLoad X.P m0 ty (.ptr (F.n0+i) off)=some q/\RV F (S.env ρ ids) v q:=by
 unfold loadS at h;have key:∀l,S.bx[i]?=some (.cells l)->(lx.all λb=>decide (i<b))=true->∃l',aSrc m0 (.ptr (F.n0+i) off)=some (l'.drop off)/\RVL F (S.env ρ ids) l l':=λl hl hx=>by
  obtain⟨l',h1,h2⟩:=hr.box i _ hl;have hi:i<S.bx.length:=(List.getElem?_eq_some_iff.1 hl).1;refine⟨l',?_,h2⟩;have hlt:F.n0+i<m0.n/\m0.β (F.n0+i)=s.m.β (F.n0+i):=by
   cases lx with
   |none=>simp only[NearX]at hn;subst hn;exact⟨by rw[hr.boxn];omega,rfl⟩
   |some b=>
    simp only[Option.all_some,decide_eq_true_eq]at hx;have h3:F.n0+i<m0.n:=by rw[hn.1];omega
    exact⟨h3,(hn.2.2 _ h3).symm⟩
  simp only[aSrc,hlt.1,if_true,hlt.2,h1]
 split at h
 ·rename_i l hb hg;split at h
  ·rename_i hc;obtain⟨h1,h2,h3⟩:=hc;injection h with h;subst h;obtain⟨l',g1,g2⟩:=key l hb h3;have hlen:=rvl_length g2;refine⟨_,by simp only[aLoad,g1,hg];rw[if_pos ⟨by simp;omega,h2⟩],?_⟩;simp only[RV];refine⟨_,rfl,rvl_iff.2 ⟨by simp;omega,λj v q hv hq=>?_⟩⟩;rw[List.getElem?_take]at hv hq;split at hv
   ·rename_i hj;rw[if_pos hj]at hq;rw[List.getElem?_drop]at hv hq;exact(rvl_iff.1 g2).2 _ v q hv hq
   ·cases hv
  ·cases h
 ·rename_i l hb hg;split at h
  ·rename_i h3;obtain⟨l',g1,g2⟩:=key l hb h3;have hlt:off<l'.length:=by rw[←rvl_length g2];exact(List.getElem?_eq_some_iff.1 h).1
   have hd:l'.drop off=l'[off]::l'.drop (off+1):=List.drop_eq_getElem_cons hlt;refine⟨l'[off],by simp only[aLoad,g1,hg,hd],((rvl_iff.1 g2).2 off v l'[off] h (by simp[hlt])).1⟩
  ·cases h
 ·cases h
end
end
section
open Go Go.RowKit
variable[Sp]
section
variable{X:Ctx}{F:Frm}{C:Orc->FuncId->List PV->Option PV}{n:Nat}{R:Out->Prop}{S:Sym}{ρ:List PV}{ids:Nat->Option Nat}{s:St}{K:Sym->M}{t:Tree}{o:Oper}{m0:Mem}{inl yl:Inl}{lx:Option Nat}{key:Nat}
def PureOk(X:Ctx)(F:Frm)(C:Orc->FuncId->List PV->Option PV)(n:Nat)(R:Out->Prop)(K:Sym->M)(S:Sym)(ρ:List PV)(s:St)(m0:Mem)(o:Oper):Prop:=
 ∃pv,pureV X.P m0 s.ev o=some pv/\Stp X F C n R K S ρ (s.put o.dst pv)
theorem pure_put{v:SV}{pv:PV}(h:K (S.put o.dst v)=.ok t)(hr:Rel F S ρ ids s)(hrun:Run X.P C n t ρ R)(hp:pureV X.P m0 s.ev o=some pv)(hv:RV F (S.env ρ ids) v pv):PureOk X F C n R K S ρ s m0 o:=
 ⟨pv,hp,_,_,ids,t,h,hr.put o.dst hv,hrun,(Ext.refl S ρ).put _ _⟩
theorem stp_emit'{p:Prim}{kn:Bool}{f:SE->SV}(h:emit p kn S (λv S=>K (S.put o.dst (f v)))=.ok t)(hr:Rel F S ρ ids s)(hrun:Run X.P C n t ρ R)
  (hk:kn=true->∀v,p.run X.P ρ=some v->v.one=true) {Q:PV->PV->Prop}
  (hp:∀v,p.run X.P ρ=some v->∃pv,Q v pv/\(Rel F (S.bind kn) (ρ++[v]) ids s->RV F ((S.bind kn).env (ρ++[v]) ids) (f (.var S.nv)) pv)):∃v pv,p.run X.P ρ=some v/\Q v pv/\Stp X F C n R K S ρ (s.put o.dst pv):=by
 obtain⟨t',ht,rfl⟩:=emit_ok h;obtain⟨v,hv,hrun⟩:=hrun.prim;have hb:=hr.bind v kn λe=>hk e v hv;obtain⟨pv,hq,hrv⟩:=hp v hv;exact⟨v,pv,hv,hq,_,_,ids,t',ht,hb.put o.dst (hrv hb),hrun,(Ext.bind S ρ v kn).put _ _⟩
theorem ok_pick{c x y:Operand}(hop:o.op=.pick c x y)(h:compPick o c x y S K=.ok t)(hr:Rel F S ρ ids s)(hrun:Run X.P C n t ρ R):PureOk X F C n R K S ρ s m0 o:=by
 unfold compPick at h;have hc:=hr.ev c;split at h
 ·rename_i b hb;rw[hb]at hc;simp only[RV,SE.den]at hc;refine pure_put h hr hrun (pv:=if b=true then s.ev x else s.ev y) (by simp only[pureV,hop,hc.1]) ?_;cases b
  ·exact hr.ev y
  ·exact hr.ev x
 ·rename_i e _ hb;rw[hb]at hc;simp only[RV]at hc;simp only[bind,Except.bind,pure,Except.pure]at h;split at h
  ·cases h
  ·rename_i a ha;split at h
   ·cases h
   ·rename_i b hb';injection h with h;subst h;rcases hrun.ite with⟨h1,h2⟩|⟨h1,h2⟩
    ·exact pure_put ha hr h2 (by simp only[pureV,hop,hc.1,Sym.env,h1];rfl) (hr.ev x)
    ·exact pure_put hb' hr h2 (by simp only[pureV,hop,hc.1,Sym.env,h1];rfl) (hr.ev y)
 ·cases h
theorem ok_nil{x:Operand}(hop:o.op=.nilCheck x)(h:compNil o x S K=.ok t)(hr:Rel F S ρ ids s)(hrun:Run X.P C n t ρ R):PureOk X F C n R K S ρ s m0 o:=by
 unfold compNil at h;have hc:=hr.ev x;split at h
 ·rename_i i off hb;rw[hb]at hc;have hc':=hc;simp only[RV]at hc;exact pure_put (pv:=s.ev x) h hr hrun (by simp only[pureV,hop,hc.1]) hc'
 ·rename_i f l hb;rw[hb]at hc;have hc':=hc;simp only[RV]at hc;obtain⟨l',e,hl⟩:=hc;exact pure_put (pv:=s.ev x) h hr hrun (by simp only[pureV,hop,e]) hc'
 ·cases h
theorem rvt_get{E:Env}:∀{l:List SV}{l':List PV}{i:Nat}{v:SV},RVT F E l l'->l[i]?=some v->∃q,l'[i]?=some q/\RV F E v q
 |[],l',i,v,h,hv=>by simp at hv
 |u::us,l',i,v,h,hv=>by
  simp only[RVT]at h;obtain⟨q,r,rfl,h1,h2⟩:=h;cases i with
  |zero=>simp at hv;subst hv;exact⟨q,rfl,h1⟩
  |succ i=>
   obtain⟨p,h3,h4⟩:=rvt_get h2 (i:=i) (v:=v) (by simpa using hv);exact⟨p,by simpa using h3,h4⟩
theorem ok_ext{x:Operand}{i:Nat}(hop:o.op=.extract x i)(h:compExt o x i S K=.ok t)(hr:Rel F S ρ ids s)(hrun:Run X.P C n t ρ R):PureOk X F C n R K S ρ s m0 o:=by
 unfold compExt at h;have hc:=hr.ev x;split at h
 ·rename_i l hb;rw[hb]at hc;simp only[RV]at hc;obtain⟨l',e,hl⟩:=hc;split at h
  ·rename_i v hv;obtain⟨q,h1,h2⟩:=rvt_get hl hv;exact pure_put h hr hrun (by simp only[pureV,hop,e,h1]) h2
  ·cases h
 ·rename_i e hb;rw[hb]at hc;simp only[RV]at hc;have hpl:=SE.ok_plain hc.2;obtain⟨v,pv,h1,rfl,h3⟩:=stp_emit' (Q:=λv pv=>pv=v) h hr hrun (by simp) λv hv=>⟨v,rfl,λhb=>by
   simp only[Prim.run,extV,PE.den]at hv;split at hv
   ·rename_i vs hvs;rw[show SE.den (S.env ρ ids).ρ e=SE.den ρ e from rfl,hvs]at hpl;have:plainT vs=true:=by simpa only[PV.plain]using hpl
    have hp:=(plainT_iff _).1 this v (List.mem_of_getElem? hv);obtain⟨g1,g2⟩:=var_ok hr v hp;simp only[RV];exact⟨g2.symm,g1⟩
   ·cases hv⟩
  refine⟨pv,?_,h3⟩;simp only[Prim.run,extV,PE.den]at h1;simp only[pureV,hop,hc.1];exact h1
 ·cases h
theorem field_ptr{P:Program}{ty:TypeId}{fs:Array Field}{f:Nat}{fd:Field}(hu:P.underlying ty=some (.struct fs))(hf:fs[f]?=some fd)(hc:¬(P.cellsOf fd.type=0\/(P.info? fd.type).isNone))(id off:Nat):
  aField P ty (.ptr id off) f=some (.ptr id (off+fd.offset)):=by simp only[aField,hu,hf,if_neg hc]
theorem field_ref{P:Program}{ty:TypeId}{fs:Array Field}{f:Nat}{fd:Field}(hu:P.underlying ty=some (.struct fs))(hf:fs[f]?=some fd)(hc:¬(P.cellsOf fd.type=0\/(P.info? fd.type).isNone))(id:Option Nat)(off:Nat)(cs:List PV):
  aField P ty (.eref id off cs) f=some (.eref id (off+fd.offset) (cs.drop fd.offset)):=by simp only[aField,hu,hf,if_neg hc]
theorem derefV_some{nn:Nat}{x v:PV}(hx:x.plain=true)(h:derefV nn x=some v):∃off cs,x=.eref none off cs/\v=.agg (cs.take nn)/\(cs.take nn).length=nn/\plainC cs=true:=by
 unfold derefV at h;split at h
 ·rename_i off cs;split at h
  ·rename_i hl;injection h with h;exact⟨off,cs,rfl,h.symm,hl.symm,by simpa only[PV.plain]using hx⟩
  ·cases h
 ·cases h
theorem ok_field{ty:TypeId}{x:Operand}{f:Nat}(hop:o.op=.fieldAddr ty x f)(h:compField X o ty x f S K=.ok t)(hr:Rel F S ρ ids s)(hrun:Run X.P C n t ρ R):PureOk X F C n R K S ρ s m0 o:=by
 unfold compField at h;have hc:=hr.ev x;split at h
 ·rename_i fs hu;split at h
  ·rename_i fd hf;split at h
   ·cases h
   ·rename_i hcd;have hpv:pureV X.P m0 s.ev o=aField X.P ty (s.ev x) f:=by simp only[pureV,hop]
    split at h
    ·rename_i i off hb;rw[hb]at hc;simp only[RV]at hc;exact pure_put h hr hrun (by rw[hpv,hc.1,field_ptr hu hf hcd]) (by unfold RV;exact⟨rfl,hc.2⟩)
    ·rename_i b y fo hb;rw[hb]at hc;simp only[RV]at hc;obtain⟨kk,nn,q1,q2,q3,q4⟩:=hc;exact pure_put h hr hrun (by rw[hpv,q3,field_ptr hu hf hcd]) (by unfold RV;exact⟨kk,nn,q1,q2,by rw[Nat.add_assoc],q4⟩)
    ·rename_i e sz fo hb;rw[hb]at hc;simp only[RV]at hc;obtain⟨cs,off,tl,h1,h2,h3,h4⟩:=hc;refine pure_put h hr hrun (by rw[hpv,h4,field_ref hu hf hcd]) ?_;simp only[RV];by_cases hle:fo+fd.offset<=cs.length
     ·refine⟨cs,off+fd.offset,tl,h1,h2,h3,?_⟩;rw[List.drop_append_of_le_length (by simp;omega),List.drop_drop]
     ·refine⟨cs,off+fd.offset,(cs.drop fo++tl).drop fd.offset,h1,h2,h3,?_⟩;rw[List.drop_of_length_le (by omega:cs.length<=fo+fd.offset)];rfl
    ·rename_i l fo hb;rw[hb]at hc;simp only[RV]at hc;obtain⟨l',h1,h2,h3⟩:=hc;refine pure_put h hr hrun (by rw[hpv,h3,field_ref hu hf hcd]) ?_;simp only[RV];exact⟨l',h1,h2,by rw[List.drop_drop]⟩
    ·rename_i k e fo hb;rw[hb]at hc;simp only[RV]at hc;obtain⟨a,cs,id,nn,kk,h1,h2,h3,h4,h5,h6,h7,h8⟩:=hc;refine pure_put h hr hrun (by rw[hpv,h8,field_ref hu hf hcd]) ?_;simp only[RV];exact⟨a,cs,id,nn,kk,h1,h2,h3,h4,h5,h6,h7,by rw[List.drop_drop,Nat.add_assoc]⟩
    ·rename_i e hb;rw[hb]at hc;simp only[RV]at hc;obtain⟨v,pv,h1,h2,h3⟩:=stp_emit' (f:=λv=>SV.erow v (X.P.cellsOf ty) fd.offset) (Q:=λv pv=>aField X.P ty (s.ev x) f=some pv) h hr hrun (by simp) λv hv=>by
      simp only[Prim.run,PE.den]at hv;obtain⟨off,cs,e1,rfl,e3,e4⟩:=derefV_some (SE.ok_plain hc.2) hv;refine⟨_,by rw[hc.1,e1,field_ref hu hf hcd],λhb=>?_⟩;obtain⟨g1,g2⟩:=var_ok hr (.agg (cs.take (X.P.cellsOf ty))) (by simp only[PV.plain];exact plainC_take e4 _);simp only[RV];refine⟨_,off+fd.offset,cs.drop (max fd.offset (X.P.cellsOf ty)),g2,g1,e3,?_⟩;congr 1
      conv=>lhs;rw[←List.take_append_drop (X.P.cellsOf ty) cs]
      by_cases hle:fd.offset<=X.P.cellsOf ty
      ·rw[List.drop_append_of_le_length (by omega),Nat.max_eq_right hle]
      ·rw[List.drop_append,List.drop_of_length_le (by omega:(cs.take (X.P.cellsOf ty)).length<=fd.offset),e3,List.drop_drop,Nat.max_eq_left (by omega)];congr 2;omega
     exact⟨pv,by rw[hpv];exact h2,h3⟩
    ·cases h
  ·cases h
 ·cases h
end
end
end Go.Proofs.Ytjfejoadcdoobaa
