/- Part of the proof of TopTwins. No condition. -/
import Derived.Test.YtjfejoadcdoobaaMTopTwinsAK
namespace Go.Proofs.Ytjfejoadcdoobaa
set_option maxRecDepth 100000
set_option linter.all false
section
open Go Go.RowKit
variable[Sp]
section
variable{X:Ctx}{F:Frm}{C:Orc->FuncId->List PV->Option PV}{n:Nat}{R:Out->Prop}{S:Sym}{ρ:List PV}{ids:Nat->Option Nat}{s:St}{K:Sym->M}{t:Tree}{o:Oper}{m0:Mem}{inl yl:Inl}{lx:Option Nat}{key:Nat}
theorem AR.rel.some{E:Env}{k:Nat}{a:AR}{cs:List PV}(h:a.rel E k cs)(hc:cs≠[]):∃id,E.ids k=some id:=by
 obtain⟨_,_,_,_,h5,_⟩:=h;cases hi:E.ids k with
 |some id=>exact⟨id,rfl⟩
 |none=>
  rw[hi]at h5;unfold isNil at h5;split at h5
  ·simp at h5
  ·split at h5
   ·exact absurd rfl hc
   ·simp at h5
  ·split at h5
   ·split at h5
    ·exact absurd rfl hc
    ·cases h5
   ·simp at h5
   ·cases h5
  all_goals simp at h5
theorem AR.rel.plain{E:Env}{k:Nat}{a:AR}{cs:List PV}(h:a.rel E k cs):plainC cs=true:=by
 have:=SE.ok_plain h.1;rw[h.2.1]at this;simpa only[PV.plain]using this
theorem aoff_some{P:Program}{ρ:List PV}{fo len sz:Nat}{x i:PE}{v:PV}(h:Prim.run P ρ (.aoff fo len sz x i)=some v):∃ka a ki nn,x.den ρ=.int ka a/\i.den ρ=.int ki nn/\0<=nn/\nn<(len:Int)/\v=.int .i64 ((a.toNat+fo+nn.toNat*sz:Nat):Int):=by
 simp only[Prim.run,aoffV]at h;split at h
 ·rename_i ka a ki nn e1 e2;split at h
  ·rename_i hc;injection h with h;exact⟨ka,a,ki,nn,e1,e2,hc.1,hc.2,h.symm⟩
  ·cases h
 ·cases h
theorem aoff_one{P:Program}{ρ:List PV}{fo len sz:Nat}{x i:PE}{v:PV}(h:Prim.run P ρ (.aoff fo len sz x i)=some v):v.one=true:=by
 obtain⟨_,_,_,_,_,_,_,_,rfl⟩:=aoff_some h;rfl
theorem box_lst{S:Sym}{l:List SV}{ps:List PE}{b:Nat}{K:SE->Sym->M}{t:Tree}(h:emit (.lst ps) false S K=.ok t)(hr:Rel F S ρ ids s)(hrun:Run X.P C n t ρ R)(hl:S.bx[b]?=some (.cells l))(hps:peL l=some ps):
  ∃l' t',s.m.β (F.n0+b)=.cells l'/\l.length=l'.length/\plainC l'=true/\K (.var S.nv) (S.bind false)=.ok t'/\Rel F (S.bind false) (ρ++[.agg l']) ids s/\Run X.P C n t' (ρ++[.agg l']) R/\SE.den (ρ++[.agg l']) (.var S.nv)=.agg l'/\SE.ok (ρ++[.agg l']) (.var S.nv):=by
 obtain⟨l',g1,g2⟩:=hr.box b _ hl;obtain⟨hden,hpl⟩:=peL_den hps g2;obtain⟨t',ht,rfl⟩:=emit_ok h;obtain⟨v,hv,hrun⟩:=hrun.prim;simp only[Prim.run,Option.some.injEq]at hv;have hv':v=.agg l':=by rw[←hv,hden];rfl
 subst hv';obtain⟨v1,v2⟩:=var_ok hr (.agg l') (by simpa only[PV.plain]using hpl);exact⟨l',t',g1,rvl_length g2,hpl,ht,hr.bind _ false (by simp),hrun,v2,v1⟩
theorem get_some{P:Program}{ρ:List PV}{sz fo m:Nat}{c i:SE}{cs:List PV}{kk:IntKind}{nn:Int}(hc:c.den ρ=.agg cs)(hi:i.den ρ=.int kk nn){v:PV}(hv:Prim.run P ρ (.get sz fo m c i)=some v):m=((cs.drop (nn.toNat*sz+fo)).take m).length/\v=.agg ((cs.drop (nn.toNat*sz+fo)).take m):=by
 simp only[Prim.run,getV,hc,hi]at hv;split at hv
 ·rename_i hl;injection hv with hv;exact⟨hl,hv.symm⟩
 ·cases hv
theorem ok_indexAddr{ty:TypeId}{x i:Operand}(hop:o.op=.indexAddr ty x i)(h:compIndexAddr X o ty x i S K=.ok t)(hr:Rel F S ρ ids s)(hrun:Run X.P C n t ρ R):PureOk X F C n R K S ρ s m0 o:=by
 unfold compIndexAddr at h;have hc:=hr.ev x;have hpv:pureV X.P m0 s.ev o=aIndexAddr X.P ty (s.ev x) (s.ev i):=by simp only[pureV,hop]
 split at h
 ·rename_i e hu;split at h
  ·rename_i pi hpi;obtain⟨hi,_⟩:=hr.pe hpi;split at h
   ·cases h
   ·rename_i hcd;have hcd':(X.P.info? e).isSome/\X.P.cellsOf e≠0:=by cases hh:X.P.info? e<;>simp[hh]at hcd⊢<;>exact hcd
    split at h
    ·rename_i k hb;rw[hb]at hc;simp only[RV]at hc;obtain⟨a,cs,h1,h2,h3⟩:=hc;split at h
     ·rename_i a' ha';have:a'=a:=by have:=ha'.symm.trans h1;injection this
      subst this;split at h
      ·rename_i hszl;obtain⟨hsz,hlst⟩:=hszl;obtain⟨v,pv,g1,g2,g3⟩:=stp_emit' (f:=λv=>SV.eown k v 0) (Q:=λv pv=>aIndexAddr X.P ty (s.ev x) (s.ev i)=some pv) h hr hrun
        (λ_ v hv=>by
         simp only[Prim.run,chkV]at hv;split at hv
         ·split at hv
          ·injection hv with hv;subst hv;rfl
          ·cases hv
         ·cases hv) λv hv=>by
        simp only[Prim.run,chkV]at hv;split at hv
        ·rename_i cs' kk nn e1 e2;have:cs'=cs:=by have:=e1.symm.trans h2.2.1;injection this
         subst this;split at hv
         ·rename_i hlt;injection hv with hv;subst hv;have hne:cs'≠[]:=by rintro rfl;simp at hlt
          obtain⟨id,hid⟩:=h2.some hne;rw[hid,ownV_lst hlst]at h3;have hid':ids k=some id:=hid;refine⟨.eref (some id) (0+nn.toNat*X.P.cellsOf e) (cs'.drop (nn.toNat*X.P.cellsOf e)),?_,λhb=>?_⟩
          ·rw[h3,hi,e2];simp only[aIndexAddr,hu];rw[if_pos ⟨hlt.1,by rw[hsz]at hlt⊢;omega,hsz.symm,hcd'.1⟩,hsz]
          ·obtain⟨v1,v2⟩:=var_ok hr (.int kk nn) rfl;unfold RV;exact⟨a',cs',id,nn,kk,h1,AR.rel.mono (Env.le_bind S ρ ids _ true) h1 h2,hid',v2,v1,hlt.1,hlt.2,by rw[hsz];simp⟩
         ·cases hv
        ·cases hv
       exact⟨pv,by rw[hpv];exact g2,g3⟩
      ·cases h
     ·cases h
    ·rename_i b sz len hb;rw[hb]at hc;simp only[RV]at hc;split at h
     ·rename_i kk nn h1;split at h
      ·rename_i hcnd;have h1':=hr.ev i;rw[h1]at h1';simp only[RV,SE.den]at h1';refine pure_put h hr hrun (by rw[hpv,hc.1,h1'.1];simp only[aIndexAddr,hu];rw[if_pos ⟨hcnd.1,hcnd.2.1,hcnd.2.2,hcd'.1⟩]) ?_;unfold RV;exact⟨rfl,hc.2⟩
      ·cases h
     ·cases h
    ·split at h
     ·rename_i px hpx;obtain⟨hx,hxp⟩:=hr.pe hpx;obtain⟨v,pv,g1,g2,g3⟩:=stp_emit' (f:=λv=>SV.erow v (X.P.cellsOf e) 0) (Q:=λv pv=>aIndexAddr X.P ty (s.ev x) (s.ev i)=some pv) h hr hrun (by simp) λv hv=>by
       simp only[Prim.run,rowV]at hv;split at hv
       ·rename_i sz off len cs kk nn e1 e2;split at hv
        ·rename_i hcnd;obtain⟨q1,q2,q3,q4⟩:=hcnd;injection hv with hv;subst hv;refine⟨.eref none (off+nn.toNat*X.P.cellsOf e) (cs.drop (nn.toNat*X.P.cellsOf e)),?_,λhb=>?_⟩
         ·rw[hx,hi,e1,e2];simp only[aIndexAddr,hu];rw[if_pos ⟨q1,q2,q3.symm,hcd'.1⟩,q3]
         ·rw[hx,e1]at hxp;have hpl:plainC cs=true:=by simpa only[PV.plain]using hxp
          obtain⟨v1,v2⟩:=var_ok hr (.agg ((cs.drop (nn.toNat*X.P.cellsOf e)).take (X.P.cellsOf e))) (by simp only[PV.plain];exact plainC_take (plainC_drop hpl _) _);unfold RV;refine⟨_,off+nn.toNat*X.P.cellsOf e,(cs.drop (nn.toNat*X.P.cellsOf e)).drop (X.P.cellsOf e),v2,v1,q4,?_⟩;rw[List.drop_zero,List.take_append_drop]
        ·cases hv
       ·cases hv
      exact⟨pv,by rw[hpv];exact g2,g3⟩
     ·cases h
  ·cases h
 ·rename_i len e hu;split at h
  ·cases h
  ·rename_i hin;have hin':(X.P.info? e).isSome:=by cases hh:X.P.info? e<;>simp[hh]at hin⊢
   split at h
   ·rename_i b off hb;rw[hb]at hc;simp only[RV]at hc;split at h
    ·rename_i kk nn h1;split at h
     ·rename_i hcnd;have h1':=hr.ev i;rw[h1]at h1';simp only[RV,SE.den]at h1';refine pure_put h hr hrun (by rw[hpv,hc.1,h1'.1];simp only[aIndexAddr,hu];rw[if_pos ⟨hcnd.1,hcnd.2,hin'⟩]) ?_;unfold RV;exact⟨rfl,hc.2⟩
     ·cases h
    ·rename_i y _ hy;have hi:=hr.ev i;rw[hy]at hi;simp only[RV]at hi;obtain⟨v,pv,g1,g2,g3⟩:=stp_emit' (f:=λv=>SV.pel b v 0) (Q:=λv pv=>aIndexAddr X.P ty (s.ev x) (s.ev i)=some pv) h hr hrun (λ_ v hv=>aoff_one hv) λv hv=>by
      obtain⟨ka,a,ki,nn,e1,e2,e3,e4,rfl⟩:=aoff_some hv;simp only[PE.den,SE.den,PV.int.injEq]at e1;refine⟨.ptr (F.n0+b) (off+nn.toNat*X.P.cellsOf e),?_,λhb=>?_⟩
      ·rw[hc.1,hi.1,show y.den (S.env ρ ids).ρ=.int ki nn from e2];simp only[aIndexAddr,hu];rw[if_pos ⟨e3,e4,hin'⟩]
      ·obtain⟨v1,v2⟩:=var_ok hr (.int .i64 ((a.toNat+off+nn.toNat*X.P.cellsOf e:Nat):Int)) rfl;unfold RV;exact⟨_,_,v2,v1,by rw[←e1.2];congr 1;omega,hc.2⟩
     exact⟨pv,by rw[hpv];exact g2,g3⟩
    ·cases h
   ·rename_i b z fo hb;rw[hb]at hc;simp only[RV]at hc;obtain⟨kk,n0,q1,q2,q3,q4⟩:=hc;split at h
    ·rename_i pi hpi;obtain⟨hi,_⟩:=hr.pe hpi;obtain⟨v,pv,g1,g2,g3⟩:=stp_emit' (f:=λv=>SV.pel b v 0) (Q:=λv pv=>aIndexAddr X.P ty (s.ev x) (s.ev i)=some pv) h hr hrun (λ_ v hv=>aoff_one hv) λv hv=>by
      obtain⟨ka,a,ki,nn,e1,e2,e3,e4,rfl⟩:=aoff_some hv;have e1':PV.int kk n0=.int ka a:=(show z.den ρ=.int kk n0 from q1).symm.trans e1;injection e1' with _ e1';refine⟨.ptr (F.n0+b) (n0.toNat+fo+nn.toNat*X.P.cellsOf e),?_,λhb=>?_⟩
      ·rw[q3,hi,e2];simp only[aIndexAddr,hu];rw[if_pos ⟨e3,e4,hin'⟩]
      ·obtain⟨v1,v2⟩:=var_ok hr (.int .i64 ((a.toNat+fo+nn.toNat*X.P.cellsOf e:Nat):Int)) rfl;unfold RV;exact⟨_,_,v2,v1,by rw[←e1'];congr 1,q4⟩
     exact⟨pv,by rw[hpv];exact g2,g3⟩
    ·cases h
   ·cases h
 ·cases h
theorem den_proj{E:Env}{x:SE}{cs:List PV}{j:Nat}{q:PV}(hd:x.den E.ρ=.agg cs)(hk:x.ok E.ρ)(hq:cs[j]?=some q):RV F E (.e (.proj x j)) q/\q.one=true:=by
 have hp:=SE.ok_plain hk;rw[hd]at hp;have hp:plainC cs=true:=by simpa only[PV.plain]using hp
 obtain⟨h1,h2⟩:=plainC_get hp hq;have e:SE.den E.ρ (.proj x j)=q:=by simp only[SE.den,hd,projV,List.getD_eq_getElem?_getD,hq,Option.getD_some]
 refine⟨?_,h2⟩;unfold RV;exact⟨e.symm,hk,by simp only[SE.den]at e;rw[e];exact h1⟩
theorem rvl_projs{E:Env}{x:SE}{cs:List PV}{fo k:Nat}(hd:x.den E.ρ=.agg cs)(hk:x.ok E.ρ)(hl:fo+k<=cs.length):RVL F E ((List.range k).map λj=>.e (.proj x (fo+j))) ((cs.drop fo).take k):=by
 refine rvl_iff.2 ⟨by simp;omega,λj v q hv hq=>?_⟩;rw[List.getElem?_map]at hv;rw[List.getElem?_take]at hq;split at hq
 ·rename_i hj;rw[List.getElem?_drop]at hq;have:(List.range k)[j]?=some j:=by simp[hj]
  rw[this]at hv;simp only[Option.map_some,Option.some.injEq]at hv;subst hv;obtain⟨h1,h2⟩:=den_proj (F:=F) hd hk hq;exact⟨h1,.inr h2⟩
 ·cases hq
theorem rvl_projs0{E:Env}{x:SE}{cs:List PV}{k:Nat}(hd:x.den E.ρ=.agg cs)(hk:x.ok E.ρ)(hl:cs.length=k):RVL F E ((List.range k).map λj=>.e (.proj x j)) cs:=by
 have:=rvl_projs (F:=F) (fo:=0) (k:=k) hd hk (by omega);simp only[Nat.zero_add,List.drop_zero]at this;rwa[List.take_of_length_le (by omega)]at this
theorem load_ref{P:Program}{ty:TypeId}{m:Mem}{id:Option Nat}{off:Nat}{cs:List PV}(hg:aggT P ty=some true)(hl:P.cellsOf ty<=cs.length)(hi:(P.info? ty).isSome):aLoad P m ty (.eref id off cs)=some (.agg (cs.take (P.cellsOf ty))):=by
 simp only[aLoad,aSrc,hg];rw[if_pos ⟨hl,hi⟩]
theorem load_ref1{P:Program}{ty:TypeId}{m:Mem}{id:Option Nat}{off:Nat}{cs:List PV}{q:PV}(hg:aggT P ty=some false)(hl:cs[0]?=some q):aLoad P m ty (.eref id off cs)=some q:=by
 cases cs with
 |nil=>simp at hl
 |cons c cs=>simp at hl;subst hl;simp only[aLoad,aSrc,hg]
theorem ok_load{ty:TypeId}{x:Operand}(hop:o.op=.load ty x)(h:compLoad X lx o ty x S K=.ok t)(hr:Rel F S ρ ids s)(hn:NearX F lx m0 s)(hrun:Run X.P C n t ρ R):PureOk X F C n R K S ρ s m0 o:=by
 unfold compLoad at h;have hc:=hr.ev x;have hpv:pureV X.P m0 s.ev o=aLoad X.P m0 ty (s.ev x):=by simp only[pureV,hop]
 split at h
 ·rename_i i off hb;rw[hb]at hc;simp only[RV]at hc;split at h
  ·rename_i v hv;obtain⟨q,h1,h2⟩:=loadS_ok hr hn hv;exact pure_put h hr hrun (by rw[hpv,hc.1,h1]) h2
  ·cases h
 ·rename_i b z fo hb;rw[hb]at hc;simp only[RV]at hc;obtain⟨kk,nn,q1,q2,q3,q4⟩:=hc;split at h
  ·cases h
  ·rename_i hlx;split at h
   ·rename_i l hl;have hsrc:∀l' off,s.m.β (F.n0+b)=.cells l'->aSrc m0 (.ptr (F.n0+b) off)=some (l'.drop off):=λl' off g1=>by
     have hi:b<S.bx.length:=(List.getElem?_eq_some_iff.1 hl).1;have hlt:F.n0+b<m0.n/\m0.β (F.n0+b)=s.m.β (F.n0+b):=by
      cases lx with
      |none=>simp only[NearX]at hn;subst hn;exact⟨by rw[hr.boxn];omega,rfl⟩
      |some k=>
       simp only[Option.all_some,Bool.not_eq_false,decide_eq_true_eq]at hlx;have h3:F.n0+b<m0.n:=by rw[hn.1];omega
       exact⟨h3,(hn.2.2 _ h3).symm⟩
     simp only[aSrc,hlt.1,if_true,hlt.2,g1]
    split at h
    ·rename_i ps hps;split at h
     ·rename_i hg;split at h
      ·cases h
      ·rename_i hin;have hin':(X.P.info? ty).isSome:=by cases hh:X.P.info? ty<;>simp[hh]at hin⊢
       obtain⟨l',t',g1,g2,g3,g4,g5,g6,g7,g8⟩:=box_lst h hr hrun hl hps;obtain⟨z1,z2⟩:=SE.den_prefix (List.prefix_append ρ [PV.agg l']) q2;obtain⟨v,pv,k1,k2,k3⟩:=stp_emit' (f:=λv=>SV.agg ((List.range (X.P.cellsOf ty)).map λj=>.e (.proj v j))) (Q:=λv pv=>aLoad X.P m0 ty (s.ev x)=some pv) g4 g5 g6 (by simp) λv hv=>by
        obtain⟨e1,rfl⟩:=get_some g7 (z1.trans q1) hv;refine⟨.agg ((l'.drop (nn.toNat*1+fo)).take (X.P.cellsOf ty)),?_,λhb=>?_⟩
        ·rw[q3];simp only[aLoad,hsrc l' _ g1,hg];rw[if_pos ⟨by simp at e1;simp;omega,hin'⟩,Nat.mul_one]
        ·obtain⟨v1,v2⟩:=var_ok g5 (.agg ((l'.drop (nn.toNat*1+fo)).take (X.P.cellsOf ty))) (by simp only[PV.plain];exact plainC_take (plainC_drop g3 _) _);unfold RV;exact⟨_,rfl,rvl_projs0 v2 v1 e1.symm⟩
       obtain⟨S',ρ',ids',t2,m1,m2,m3,m4⟩:=k3;exact⟨pv,by rw[hpv];exact k2,S',ρ',ids',t2,m1,m2,m3,(Ext.bind S ρ _ false).trans m4⟩
     ·rename_i hg;obtain⟨l',t',g1,g2,g3,g4,g5,g6,g7,g8⟩:=box_lst h hr hrun hl hps;obtain⟨z1,z2⟩:=SE.den_prefix (List.prefix_append ρ [PV.agg l']) q2;obtain⟨v,pv,k1,k2,k3⟩:=stp_emit' (f:=λv=>SV.e (.proj v 0)) (Q:=λv pv=>aLoad X.P m0 ty (s.ev x)=some pv) g4 g5 g6 (by simp) λv hv=>by
       obtain⟨e1,rfl⟩:=get_some g7 (z1.trans q1) hv;have hlt:nn.toNat*1+fo<l'.length:=by simp at e1;omega
       refine⟨l'[nn.toNat*1+fo],?_,λhb=>?_⟩
       ·rw[q3];have hd:l'.drop (nn.toNat+fo)=l'[nn.toNat*1+fo]::l'.drop (nn.toNat*1+fo+1):=by rw[←List.drop_eq_getElem_cons hlt,Nat.mul_one]
        simp only[aLoad,hsrc l' _ g1,hg,hd]
       ·obtain⟨v1,v2⟩:=var_ok g5 (.agg ((l'.drop (nn.toNat*1+fo)).take 1)) (by simp only[PV.plain];exact plainC_take (plainC_drop g3 _) _);exact(den_proj v2 v1 (by simp[hlt])).1
      obtain⟨S',ρ',ids',t2,m1,m2,m3,m4⟩:=k3;exact⟨pv,by rw[hpv];exact k2,S',ρ',ids',t2,m1,m2,m3,(Ext.bind S ρ _ false).trans m4⟩
     ·cases h
    ·cases h
   ·cases h
 ·rename_i l fo hb;rw[hb]at hc;simp only[RV]at hc;obtain⟨l',h1,h2,h3⟩:=hc;have hlen:=rvl_length h1;split at h
  ·rename_i hg;split at h
   ·rename_i hcnd;refine pure_put h hr hrun (by rw[hpv,h3,load_ref hg (by simp;omega) hcnd.2]) ?_;unfold RV;refine⟨_,rfl,rvl_iff.2 ⟨by simp;omega,λj v q hv hq=>?_⟩⟩;rw[List.getElem?_take]at hv hq;split at hv
    ·rename_i hj;rw[if_pos hj]at hq;rw[List.getElem?_drop]at hv hq;exact(rvl_iff.1 h1).2 _ v q hv hq
    ·cases hv
   ·cases h
  ·rename_i hg;split at h
   ·rename_i v hv;have hlt:fo<l'.length:=by rw[←hlen];exact(List.getElem?_eq_some_iff.1 hv).1
    exact pure_put h hr hrun (pv:=l'[fo]) (by rw[hpv,h3,load_ref1 (q:=l'[fo]) hg (by simp[hlt])]) ((rvl_iff.1 h1).2 fo v _ hv (by simp[hlt])).1
   ·cases h
  ·cases h
 ·rename_i e sz fo hb;rw[hb]at hc;simp only[RV]at hc;obtain⟨cs,off,tl,h1,h2,h3,h4⟩:=hc;split at h
  ·rename_i hg;split at h
   ·rename_i hcnd;refine pure_put h hr hrun (by rw[hpv,h4,load_ref hg (by simp;omega) hcnd.2]) ?_;unfold RV;refine⟨_,rfl,?_⟩;rw[List.take_append_of_le_length (by simp;omega)];exact rvl_projs h1 h2 (by omega)
   ·cases h
  ·rename_i hg;split at h
   ·rename_i hlt;have hlt':fo<cs.length:=by omega
    exact pure_put h hr hrun (pv:=cs[fo]) (by rw[hpv,h4,load_ref1 (q:=cs[fo]) hg (by rw[List.getElem?_append_left (by simp;omega)];simp[hlt'])]) (den_proj h1 h2 (by simp[hlt'])).1
   ·cases h
  ·cases h
 ·rename_i k i fo hb;rw[hb]at hc;simp only[RV]at hc;obtain⟨a,cs,id,nn,kk,h1,h2,h3,h4,h5,h6,h7,h8⟩:=hc;split at h
  ·rename_i a' ha';have:a'=a:=by have:=ha'.symm.trans h1;injection this
   subst this;have hget:∀m v,Prim.run X.P ρ (.get a'.sz fo m a'.c i)=some v->m=((cs.drop (nn.toNat*a'.sz+fo)).take m).length/\v=.agg ((cs.drop (nn.toNat*a'.sz+fo)).take m):=λm v hv=>by
    have e1:a'.c.den ρ=.agg cs:=h2.2.1;have e2:i.den ρ=.int kk nn:=h4;simp only[Prim.run,getV,e1,e2]at hv;split at hv
    ·rename_i hl;injection hv with hv;exact⟨hl,hv.symm⟩
    ·cases hv
   have hpl:=h2.plain;split at h
   ·rename_i hg;split at h
    ·rename_i hcnd;obtain⟨v,pv,g1,g2,g3⟩:=stp_emit' (f:=λv=>SV.agg ((List.range (X.P.cellsOf ty)).map λj=>.e (.proj v j))) (Q:=λv pv=>aLoad X.P m0 ty (s.ev x)=some pv) h hr hrun (by simp) λv hv=>by
      obtain⟨e1,rfl⟩:=hget _ v hv;refine⟨_,by rw[h8,load_ref hg (by simp at e1;simp;omega) hcnd.2],λhb=>?_⟩;obtain⟨v1,v2⟩:=var_ok hr (.agg ((cs.drop (nn.toNat*a'.sz+fo)).take (X.P.cellsOf ty))) (by simp only[PV.plain];exact plainC_take (plainC_drop hpl _) _);unfold RV;exact⟨_,rfl,rvl_projs0 v2 v1 e1.symm⟩
     exact⟨pv,by rw[hpv];exact g2,g3⟩
    ·cases h
   ·rename_i hg;split at h
    ·obtain⟨v,pv,g1,g2,g3⟩:=stp_emit' (f:=λv=>SV.e (.proj v 0)) (Q:=λv pv=>aLoad X.P m0 ty (s.ev x)=some pv) h hr hrun (by simp) λv hv=>by
      obtain⟨e1,rfl⟩:=hget _ v hv;have hlt:nn.toNat*a'.sz+fo<cs.length:=by simp at e1;omega
      refine⟨cs[nn.toNat*a'.sz+fo],by rw[h8,load_ref1 (q:=cs[nn.toNat*a'.sz+fo]) hg (by simp[hlt])],λhb=>?_⟩;obtain⟨v1,v2⟩:=var_ok hr (.agg ((cs.drop (nn.toNat*a'.sz+fo)).take 1)) (by simp only[PV.plain];exact plainC_take (plainC_drop hpl _) _);exact(den_proj v2 v1 (by simp[hlt])).1
     exact⟨pv,by rw[hpv];exact g2,g3⟩
    ·cases h
   ·cases h
  ·cases h
 ·rename_i e hb;rw[hb]at hc;simp only[RV]at hc;have hder:∀m v,Prim.run X.P ρ (.deref m (.e e))=some v->∃off cs,s.ev x=.eref none off cs/\v=.agg (cs.take m)/\(cs.take m).length=m/\plainC cs=true:=λm v hv=>by
   simp only[Prim.run,PE.den]at hv;obtain⟨off,cs,e1,e2,e3,e4⟩:=derefV_some (SE.ok_plain hc.2) hv;exact⟨off,cs,by rw[hc.1,e1],e2,e3,e4⟩
  split at h
  ·rename_i hg;split at h
   ·cases h
   ·rename_i hcnd;have hin:(X.P.info? ty).isSome:=by cases hh:X.P.info? ty<;>simp[hh]at hcnd⊢
    obtain⟨v,pv,g1,g2,g3⟩:=stp_emit' (f:=λv=>SV.agg ((List.range (X.P.cellsOf ty)).map λj=>.e (.proj v j))) (Q:=λv pv=>aLoad X.P m0 ty (s.ev x)=some pv) h hr hrun (by simp) λv hv=>by
     obtain⟨off,cs,e1,rfl,e3,e4⟩:=hder _ v hv;refine⟨_,by rw[e1,load_ref hg (by simp at e3;omega) hin],λhb=>?_⟩;obtain⟨v1,v2⟩:=var_ok hr (.agg (cs.take (X.P.cellsOf ty))) (by simp only[PV.plain];exact plainC_take e4 _);unfold RV;exact⟨_,rfl,rvl_projs0 v2 v1 e3⟩
    exact⟨pv,by rw[hpv];exact g2,g3⟩
  ·rename_i hg;obtain⟨v,pv,g1,g2,g3⟩:=stp_emit' (f:=λv=>SV.e (.proj v 0)) (Q:=λv pv=>aLoad X.P m0 ty (s.ev x)=some pv) h hr hrun (by simp) λv hv=>by
    obtain⟨off,cs,e1,rfl,e3,e4⟩:=hder _ v hv;have hlt:0<cs.length:=by simp at e3;omega
    refine⟨cs[0],by rw[e1,load_ref1 (q:=cs[0]) hg (by simp[hlt])],λhb=>?_⟩;obtain⟨v1,v2⟩:=var_ok hr (.agg (cs.take 1)) (by simp only[PV.plain];exact plainC_take e4 _);exact(den_proj v2 v1 (by simp[hlt])).1
   exact⟨pv,by rw[hpv];exact g2,g3⟩
  ·cases h
 ·cases h
end
end
section
open Go Go.RowKit
variable[Sp]
section
variable{X:Ctx}{F:Frm}{C:Orc->FuncId->List PV->Option PV}{n:Nat}{R:Out->Prop}{S:Sym}{ρ:List PV}{ids:Nat->Option Nat}{s:St}{K:Sym->M}{t:Tree}{o:Oper}{m0:Mem}{inl yl:Inl}{lx:Option Nat}{key:Nat}
theorem stp_val{p:Prim}(h:emit p true S (λv S=>K (S.put o.dst (.e v)))=.ok t)(hr:Rel F S ρ ids s)(hrun:Run X.P C n t ρ R)
  (hp:∀v,p.run X.P ρ=some v->v.plain=true/\v.one=true) (hv:p.run X.P ρ=pureV X.P m0 s.ev o):PureOk X F C n R K S ρ s m0 o:=by
 obtain⟨v,h1,h2⟩:=stp_emit h hr hrun hp;exact⟨v,by rw[←hv,h1],h2⟩
theorem ok_bin{op:BinOp}{ty ty':TypeId}{x y:Operand}{p q:PE}(hop:o.op=.binOp op ty x y ty')(hp:(S.ev x).pe=some p)(hq:(S.ev y).pe=some q)(h:emit (.bin op ty p q) true S (λv S=>K (S.put o.dst (.e v)))=.ok t)(hr:Rel F S ρ ids s)(hrun:Run X.P C n t ρ R):PureOk X F C n R K S ρ s m0 o:=
 stp_val h hr hrun (λv hv=>aBin_plain hv) (by simp only[pureV,hop,Prim.run,(hr.pe hp).1,(hr.pe hq).1])
theorem ok_un{op:UnOp}{ty:TypeId}{x:Operand}{p:PE}(hop:o.op=.unOp op ty x)(hp:(S.ev x).pe=some p)(h:emit (.un op p) true S (λv S=>K (S.put o.dst (.e v)))=.ok t)(hr:Rel F S ρ ids s)(hrun:Run X.P C n t ρ R):PureOk X F C n R K S ρ s m0 o:=
 stp_val h hr hrun (λv hv=>aUn_plain hv) (by simp only[pureV,hop,Prim.run,(hr.pe hp).1])
theorem ok_conv{a b:TypeId}{x:Operand}{p:PE}(hop:o.op=.convert a b x)(hp:(S.ev x).pe=some p)(h:emit (.conv a b p) true S (λv S=>K (S.put o.dst (.e v)))=.ok t)(hr:Rel F S ρ ids s)(hrun:Run X.P C n t ρ R):PureOk X F C n R K S ρ s m0 o:=
 stp_val h hr hrun (λv hv=>aConv_plain hv) (by simp only[pureV,hop,Prim.run,(hr.pe hp).1])
theorem ok_index{ty:TypeId}{x y:Operand}{p q:PE}(hop:o.op=.index ty x y)(hp:(S.ev x).pe=some p)(hq:(S.ev y).pe=some q)(h:emit (.idx ty p q) true S (λv S=>K (S.put o.dst (.e v)))=.ok t)(hr:Rel F S ρ ids s)(hrun:Run X.P C n t ρ R):PureOk X F C n R K S ρ s m0 o:=
 stp_val h hr hrun (λv hv=>aIndex_plain (by rw[←(hr.pe hp).1];exact(hr.pe hp).2) hv) (by simp only[pureV,hop,Prim.run,(hr.pe hp).1,(hr.pe hq).1])
theorem peO_ok(hr:Rel F S ρ ids s){x:Option Operand}{p:Option PE}(h:peO S x=some p):x.map s.ev=p.map (PE.den ρ):=by
 cases x with
 |none=>simp only[peO,Option.some.injEq]at h;subst h;rfl
 |some x=>
  simp only[peO]at h;obtain⟨q,hq,rfl⟩:=Option.map_eq_some_iff.1 h;simp only[Option.map_some,(hr.pe hq).1]
theorem ok_slice{ty:TypeId}{x:Operand}{lo hi:Option Operand}{p:PE}{a b:Option PE}(hop:o.op=.slice ty x lo hi none)(hp:(S.ev x).pe=some p)(ha:peO S lo=some a)(hb:peO S hi=some b)
  (h:emit (.slice ty p a b) true S (λv S=>K (S.put o.dst (.e v)))=.ok t) (hr:Rel F S ρ ids s) (hrun:Run X.P C n t ρ R):PureOk X F C n R K S ρ s m0 o:=
 stp_val h hr hrun (λv hv=>aSlice_plain (by rw[←(hr.pe hp).1];exact(hr.pe hp).2) hv) (by simp only[pureV,hop,Prim.run,(hr.pe hp).1,peO_ok hr ha,peO_ok hr hb])
theorem ok_min{c:Call}{l:List PE}(hop:o.op=.call c)(hc:c.callee=.builtin .min)(hl:peL (c.args.toList.map S.ev)=some l)(h:emit (.mm false l) true S (λv S=>K (S.put o.dst (.e v)))=.ok t)(hr:Rel F S ρ ids s)(hrun:Run X.P C n t ρ R):PureOk X F C n R K S ρ s m0 o:=
 stp_val h hr hrun (λv hv=>aMin_plain (by simpa only[Prim.run,mmV,Bool.false_eq_true,if_false]using hv)) (by simp only[pureV,hop,hc,Prim.run,mmV,Bool.false_eq_true,if_false,(hr.evs _ _ hl).1])
theorem ok_max{c:Call}{l:List PE}(hop:o.op=.call c)(hc:c.callee=.builtin .max)(hl:peL (c.args.toList.map S.ev)=some l)(h:emit (.mm true l) true S (λv S=>K (S.put o.dst (.e v)))=.ok t)(hr:Rel F S ρ ids s)(hrun:Run X.P C n t ρ R):PureOk X F C n R K S ρ s m0 o:=
 stp_val h hr hrun (λv hv=>aMax_plain (by simpa only[Prim.run,mmV,if_true]using hv)) (by simp only[pureV,hop,hc,Prim.run,mmV,if_true,(hr.evs _ _ hl).1])
theorem aLen_arr{P:Program}{ty e:TypeId}{k:Nat}(hu:P.underlying ty=some (.array k e))(x:PV):aLen P ty x=some (.int .i64 k):=by simp only[aLen,hu]
theorem ok_len{c:Call}{ty:TypeId}{x:Operand}(hop:o.op=.call c)(hc:c.callee=.builtin .len)(ht:c.argTypes[0]?=some ty)(hx:c.args.toList=[x])(h:compLen X o ty x S K=.ok t)(hr:Rel F S ρ ids s)(hrun:Run X.P C n t ρ R):PureOk X F C n R K S ρ s m0 o:=by
 have hpv:pureV X.P m0 s.ev o=aLen X.P ty (s.ev x):=by simp only[pureV,hop,hc,ht,hx]
 unfold compLen at h;have hcx:=hr.ev x;split at h
 ·rename_i b sz len hb;rw[hb]at hcx;simp only[RV]at hcx;split at h
  ·rename_i e hu;exact pure_put h hr hrun (pv:=.int .i64 len) (by rw[hpv,hcx.1];simp only[aLen,hu]) (by unfold RV;exact⟨rfl,rfl⟩)
  ·cases h
 ·rename_i k hb;rw[hb]at hcx;simp only[RV]at hcx;obtain⟨a,cs,h1,h2,h3⟩:=hcx;split at h
  ·rename_i e a' hu ha';have:a'=a:=by have:=ha'.symm.trans h1;injection this
   subst this;split at h
   ·cases h
   rename_i hl;have hlst:a'.born.lst=true:=by simpa using hl
   refine stp_val h hr hrun (λv hv=>?_) ?_
   ·simp only[Prim.run,lencV]at hv;split at hv
    ·injection hv with hv;subst hv;exact⟨rfl,rfl⟩
    ·cases hv
   ·have e1:a'.c.den ρ=.agg cs:=h2.2.1;simp only[Prim.run,lencV,e1];rw[hpv,h3,ownV_lst hlst];have e2:(S.env ρ ids).ids k=ids k:=rfl;rw[e2];cases hi:ids k with
    |some id=>simp only[aLen,hu]
    |none=>
     have:cs=[]:=Classical.byContradiction λhne=>by
      obtain⟨id,hid⟩:=h2.some hne;have hid':ids k=some id:=hid;rw[hi]at hid';cases hid'
     subst this;simp[aLen,hu]
  ·cases h
 ·rename_i hno;split at h
  ·rename_i k e hu;exact pure_put h hr hrun (by rw[hpv,aLen_arr hu]) (by unfold RV;exact⟨rfl,rfl⟩)
  ·split at h
   ·rename_i p hp;exact stp_val h hr hrun (λv hv=>aLen_plain hv) (by rw[hpv];simp only[Prim.run,(hr.pe hp).1])
   ·cases h
theorem rvl_map_ev(hr:Rel F S ρ ids s):∀(l:List Operand),(∀x∈l,(S.ev x=.junk\/(s.ev x).one=true))->RVL F (S.env ρ ids) (l.map S.ev) (l.map s.ev)
 |[],_=>by simp[RVL]
 |x::l,h=>by
  simp only[List.map_cons,RVL];exact⟨_,_,rfl,hr.ev x,h x (by simp),rvl_map_ev hr l λy hy=>h y (by simp[hy])⟩
theorem isOne_ok(hr:Rel F S ρ ids s){x:SE}(h:S.isOne x=true)(hk:x.ok ρ):(x.den ρ).one=true:=by
 cases x with
 |cst v=>exact h
 |proj e j=>exact projV_one (SE.ok_plain hk.1) hk.2
 |var i=>
  simp only[Sym.isOne,List.contains_iff_mem]at h;exact hr.kn i h
theorem cellish_ok(hr:Rel F S ρ ids s){v:SV}{q:PV}(h:v.cellish S=true)(hv:RV F (S.env ρ ids) v q):v=.junk\/q.one=true:=by
 cases v with
 |e x=>
  simp only[RV]at hv;simp only[SV.cellish]at h;exact .inr (by rw[hv.1];exact isOne_ok hr h hv.2)
 |junk=>exact .inl rfl
 |ptr i o=>simp only[RV]at hv;rw[hv.1];exact .inr rfl
 |hd i o z=>simp only[RV]at hv;rw[hv.1];exact .inr rfl
 |pel b x fo=>simp only[RV]at hv;obtain⟨_,_,_,_,e,_⟩:=hv;rw[e];exact .inr rfl
 |dice=>simp only[RV]at hv;rw[hv.1];exact .inr rfl
 |own k=>
  simp only[RV]at hv;obtain⟨a,cs,_,_,rfl⟩:=hv;exact .inr (ownV_one _ _ _ _)
 |fn f l=>simp only[RV]at hv;obtain⟨l',rfl,_⟩:=hv;exact .inr rfl
 |lit a b l=>simp only[RV]at hv;obtain⟨l',rfl,_⟩:=hv;exact .inr rfl
 |sref l o=>simp only[RV]at hv;obtain⟨l',_,_,rfl⟩:=hv;exact .inr rfl
 |yld y=>simp only[RV]at hv;obtain⟨l,_,rfl⟩:=hv;exact .inr rfl
 |_=>simp[SV.cellish]at h
structure Same(S S':Sym):Prop where
 g:S'.g=S.g
 bx:S'.bx=S.bx
 ar:S'.ar=S.ar
 eff:S'.eff=S.eff
theorem Same.refl(S:Sym):Same S S:=⟨rfl,rfl,rfl,rfl⟩
theorem Same.trans{S S1 S2:Sym}(h:Same S S1)(k:Same S1 S2):Same S S2:=⟨k.g.trans h.g,k.bx.trans h.bx,k.ar.trans h.ar,k.eff.trans h.eff⟩
theorem Same.bind(S:Sym)(kn:Bool):Same S (S.bind kn):=⟨rfl,rfl,rfl,rfl⟩
theorem Same.ev{S S':Sym}(h:Same S S')(x:Operand):S'.ev x=S.ev x:=by cases x<;>simp only[Sym.ev,Sym.get,h.g]
theorem Same.le{S S':Sym}{ρ ρ':List PV}{ids:Nat->Option Nat}(h:Same S S')(hp:ρ<+:ρ'):(S.env ρ ids).le (S'.env ρ' ids):=
 ⟨hp,λk a ha=>by simp only[Sym.env,h.ar]at ha⊢;exact ha,by simp only[Sym.env,h.bx];exact Nat.le_refl _,λ_ _ _=>rfl⟩
def CellOk(X:Ctx)(F:Frm)(C:Orc->FuncId->List PV->Option PV)(n:Nat)(R:Out->Prop)(ids:Nat->Option Nat)(s:St)(S:Sym)(ρ:List PV)(K:List SV->Sym->M)(q:PV):Prop:=
 ∃c S' ρ' t',K c S'=.ok t'/\Rel F S' ρ' ids s/\Run X.P C n t' ρ' R/\Ext S ρ S' ρ'/\Same S S'/\RVL F (S'.env ρ' ids) c q.cells/\q.known=true
theorem cells_one{q:PV}(h:q.one=true):q.cells=[q]/\q.known=true:=by cases q<;>simp[PV.one]at h<;>exact⟨rfl,rfl⟩
theorem cellsK_ok{ty:TypeId}{v:SV}{K:List SV->Sym->M}{q:PV}(h:cellsK X ty v S K=.ok t)(hr:Rel F S ρ ids s)(hv:RV F (S.env ρ ids) v q)(hrun:Run X.P C n t ρ R):CellOk X F C n R ids s S ρ K q:=by
 have single:∀u,K [u] S=.ok t->RV F (S.env ρ ids) u q->q.one=true->CellOk X F C n R ids s S ρ K q:=λu hk hu ho=>by
  obtain⟨e1,e2⟩:=cells_one ho;refine⟨[u],S,ρ,t,hk,hr,hrun,Ext.refl S ρ,Same.refl S,?_,e2⟩;rw[e1];simp only[RVL];exact⟨q,[],rfl,hu,.inr ho,rfl⟩
 have hone:∀u,u.cellish S=true->u.solid=true->RV F (S.env ρ ids) u q->q.one=true:=λu hc hs hu=>(cellish_ok hr hc hu).resolve_left λe=>by subst e;cases hs
 unfold cellsK at h;split at h
 ·rename_i l hg;split at h
  ·rename_i hl;have hv':=hv;simp only[RV]at hv';obtain⟨l',rfl,hl'⟩:=hv';exact⟨l,S,ρ,t,h,hr,hrun,Ext.refl S ρ,Same.refl S,hl',rfl⟩
  ·cases h
 ·rename_i x hg;simp only[RV]at hv;obtain⟨t',ht,rfl⟩:=emit_ok h;obtain⟨v,hv2,hrun⟩:=hrun.prim;simp only[Prim.run,aggV,PE.den]at hv2;split at hv2
  ·rename_i cs hcs;split at hv2
   ·rename_i hl;injection hv2 with hv2;subst hv2;have hq:q=.agg cs:=by rw[hv.1];exact hcs
    subst hq;have hp:(PV.agg cs).plain=true:=by rw[hv.1];exact SE.ok_plain hv.2
    have hb:=hr.bind (x.den ρ) false (by simp);obtain⟨g1,g2⟩:=var_ok hr (x.den ρ) (by rw[hcs];exact hp);refine⟨_,_,_,t',ht,hb,hrun,Ext.bind S ρ _ false,Same.bind S false,rvl_projs0 (g2.trans hcs) g1 hl,rfl⟩
   ·cases hv2
  ·cases hv2
 ·rename_i x hg;split at h
  ·rename_i ho;exact single _ h hv (hone (.e x) ho rfl hv)
  ·simp only[RV]at hv;obtain⟨t',ht,rfl⟩:=emit_ok h;obtain⟨v,hv2,hrun⟩:=hrun.prim;change oneV (x.den ρ)=some v at hv2;unfold oneV at hv2;by_cases ho:(SE.den ρ x).one=true
   ·rw[if_pos ho]at hv2;injection hv2 with hv2;subst hv2;have hb:=hr.bind (x.den ρ) true (λ_=>ho);obtain⟨g1,g2⟩:=var_ok hr (x.den ρ) (SE.ok_plain hv.2);have hq:q=x.den ρ:=hv.1;obtain⟨e1,e2⟩:=cells_one (q:=q) (by rw[hq];exact ho);refine⟨_,_,_,t',ht,hb,hrun,Ext.bind S ρ _ true,Same.bind S true,?_,e2⟩;rw[e1];simp only[RVL];refine⟨q,[],rfl,?_,.inr (by rw[hq];exact ho),rfl⟩;unfold RV;exact⟨hq.trans g2.symm,g1⟩
   ·rw[if_neg ho]at hv2;cases hv2
 ·exact single _ h hv (hone _ rfl rfl hv)
 ·exact single _ h hv (hone _ rfl rfl hv)
 ·exact single _ h hv (hone _ rfl rfl hv)
 ·exact single _ h hv (hone _ rfl rfl hv)
 ·exact single _ h hv (hone _ rfl rfl hv)
 ·exact single _ h hv (hone _ rfl rfl hv)
 ·exact single _ h hv (hone _ rfl rfl hv)
 ·exact single _ h hv (hone _ rfl rfl hv)
 ·exact single _ h hv (hone _ rfl rfl hv)
 ·cases h
theorem rvl_at{E:Env}{l:List SV}{l':List PV}{j:Nat}{v:SV}{q:PV}(h:RVL F E l l')(hv:l[j]?=some v)(hq:l'[j]?=some q):RV F E v q:=((rvl_iff.1 h).2 _ _ _ hv hq).1
theorem ok_fieldV{ty:TypeId}{x:Operand}{f:Nat}(hop:o.op=.field ty x f)(h:compFieldV X o ty x f S K=.ok t)(hr:Rel F S ρ ids s)(hrun:Run X.P C n t ρ R):PureOk X F C n R K S ρ s m0 o:=by
 unfold compFieldV at h;have hc:=hr.ev x;split at h
 ·rename_i fs hu;split at h
  ·rename_i fd hf;split at h
   ·rename_i hag;split at h
    ·rename_i l hb;rw[hb]at hc;simp only[RV]at hc;obtain⟨l',e,hl⟩:=hc;split at h
     ·rename_i v hv;have hlt:fd.offset<l'.length:=by rw[←rvl_length hl];exact(List.getElem?_eq_some_iff.1 hv).1
      have hq:l'[fd.offset]?=some l'[fd.offset]:=by simp[hlt]
      exact pure_put h hr hrun (by simp only[pureV,hop,aFieldV,hu,hf,hag,e,hq]) ((rvl_iff.1 hl).2 _ _ _ hv hq).1
     ·cases h
    ·rename_i e hb;rw[hb]at hc;simp only[RV]at hc;split at h
     ·rename_i hlt;obtain⟨t',ht,rfl⟩:=emit_ok h;obtain⟨v,hv2,hrun⟩:=hrun.prim;simp only[Prim.run,aggV,PE.den]at hv2;split at hv2
      ·rename_i cs hcs;split at hv2
       ·rename_i hl;injection hv2 with hv2;subst hv2;have hq:s.ev x=.agg cs:=by rw[hc.1];exact hcs
        have hp:(PV.agg cs).plain=true:=by rw[←hcs];exact SE.ok_plain hc.2
        have hb':=hr.bind (e.den ρ) false (by simp);obtain⟨g1,g2⟩:=var_ok hr (e.den ρ) (by rw[hcs];exact hp);have hcl:fd.offset<cs.length:=by omega
        have hqq:cs[fd.offset]?=some cs[fd.offset]:=by simp[hcl]
        have hv:((List.range (X.P.cellsOf ty)).map λj=>SV.e (.proj (.var S.nv) j))[fd.offset]?=some (.e (.proj (.var S.nv) fd.offset)):=by simp[hlt]
        refine⟨_,by simp only[pureV,hop,aFieldV,hu,hf,hag,hq,hqq],_,_,ids,t',ht,hb'.put o.dst (rvl_at (rvl_projs0 (g2.trans hcs) g1 hl) hv hqq),hrun,(Ext.bind S ρ _ false).put _ _⟩
       ·cases hv2
      ·cases hv2
     ·cases h
    ·cases h
   ·cases h
  ·cases h
 ·cases h
end
end
section
open Go Go.RowKit
variable[Sp]
section
variable{X:Ctx}{F:Frm}{C:Orc->FuncId->List PV->Option PV}{n:Nat}{R:Out->Prop}{S:Sym}{ρ:List PV}{ids:Nat->Option Nat}{s:St}{K:Sym->M}{t:Tree}{o:Oper}{m0:Mem}{inl yl:Inl}{lx:Option Nat}{key:Nat}{E:Env}
theorem rvl_append:∀{a:List SV}{a':List PV}{b:List SV}{b':List PV},RVL F E a a'->RVL F E b b'->RVL F E (a++b) (a'++b')
 |[],a',b,b',h,k=>by simp only[RVL]at h;subst h;simpa using k
 |v::a,a',b,b',h,k=>by
  simp only[RVL]at h;obtain⟨q,r,rfl,h1,h2,h3⟩:=h;simp only[List.cons_append,RVL];exact⟨q,r++b',rfl,h1,h2,rvl_append h3 k⟩
theorem rvl_take{a:List SV}{a':List PV}(h:RVL F E a a')(k:Nat):RVL F E (a.take k) (a'.take k):=by
 refine rvl_iff.2 ⟨by simp[rvl_length h],λj v q hv hq=>?_⟩;rw[List.getElem?_take]at hv hq;split at hv
 ·rename_i hj;rw[if_pos hj]at hq;exact(rvl_iff.1 h).2 j v q hv hq
 ·cases hv
theorem rvl_drop{a:List SV}{a':List PV}(h:RVL F E a a')(k:Nat):RVL F E (a.drop k) (a'.drop k):=by
 refine rvl_iff.2 ⟨by simp[rvl_length h],λj v q hv hq=>?_⟩;rw[List.getElem?_drop]at hv hq;exact(rvl_iff.1 h).2 _ v q hv hq
theorem rvl_splice{l vs:List SV}{l' vs':List PV}(h:RVL F E l l')(k:RVL F E vs vs')(off:Nat):RVL F E (spliceS l off vs) (splice l' off vs'):=by
 unfold spliceS splice;rw[rvl_length k];exact rvl_append (rvl_append (rvl_take h _) k) (rvl_drop h _)
theorem rvl_cstJ:∀{z:List PV},RVL F E (cstJ z) z
 |[]=>by simp[cstJ,RVL]
 |v::l=>by
  simp only[cstJ,RVL];refine⟨v,l,rfl,?_,?_,rvl_cstJ⟩
  ·split
   ·rename_i h;unfold RV;exact⟨rfl,h.1⟩
   ·unfold RV;trivial
  ·split
   ·rename_i h;exact .inr h.2
   ·exact .inl rfl
theorem rvl_cst:∀{z:List PV},plainC z=true->RVL F E (cstL z) z
 |[],_=>by simp[cstL,RVL]
 |q::z,h=>by
  simp only[plainC,Bool.and_eq_true]at h;simp only[cstL,RVL];exact⟨q,z,rfl,by unfold RV;exact⟨rfl,h.1.1⟩,.inr h.1.2,rvl_cst h.2⟩
theorem rvl_repl{z:List SV}{z':List PV}(h:RVL F E z z'):∀k,RVL F E (replS z k) (repl z' k)
 |0=>by simp[replS,repl,RVL]
 |k+1=>rvl_append h (rvl_repl h k)
def PartR(F:Frm)(E:Env):List (Nat×List SV)->List (Nat×PV)->Prop
 |[],l=>l=[]
 |(i,c)::cs,l=>∃q l',l=(i,q)::l'/\RVL F E c q.cells/\q.known=true/\PartR F E cs l'
theorem PartR.mono{E':Env}(h:E.le E'):∀{cs:List (Nat×List SV)}{l:List (Nat×PV)},PartR F E cs l->PartR F E' cs l
 |[],l,k=>k
 |(i,c)::cs,l,⟨q,l',e,h1,h2,h3⟩=>⟨q,l',e,RVL.mono h h1,h2,PartR.mono h h3⟩
theorem fillS_ok{place:Nat->Option (Nat×Nat)}:∀{ps:List (Nat×List SV)}{qs:List (Nat×PV)}{c:List SV}{c':List PV}{l:List SV},PartR F E ps qs->RVL F E c c'->fillS place c ps=some l ->
  ∃l',aFill place c' qs=some l'/\RVL F E l l'
 |[],qs,c,c',l,hp,hc,h=>by
  simp only[PartR]at hp;subst hp;simp only[fillS,Option.some.injEq]at h;subst h;exact⟨c',rfl,hc⟩
 |(i,v)::ps,qs,c,c',l,hp,hc,h=>by
  obtain⟨q,qs',rfl,h1,h2,h3⟩:=hp;simp only[fillS]at h;split at h
  ·cases h
  ·rename_i off size hpl;split at h
   ·rename_i hcnd;obtain⟨l',g1,g2⟩:=fillS_ok h3 (rvl_splice hc h1 off) h;refine⟨l',?_,g2⟩;simp only[aFill,hpl];rw[if_pos ⟨h2,by rw[←rvl_length h1];exact hcnd.1,by rw[←rvl_length hc];exact hcnd.2⟩];exact g1
   ·cases h
theorem cellsKL_ok:∀{l:List (Nat×TypeId×SV)}{K:List (Nat×List SV)->Sym->M}{qs:List (Nat×PV)}{S:Sym}{ρ:List PV}{t:Tree},cellsKL X l S K=.ok t->Rel F S ρ ids s->Run X.P C n t ρ R ->
  (∀E:Env,(S.env ρ ids).le E->True)->l.map (λp=>p.1)=qs.map (λp=>p.1)->(∀(j:Nat) p q,l[j]?=some p->qs[j]?=some q->RV F (S.env ρ ids) p.2.2 q.2) ->
  ∃cs S' ρ' t',K cs S'=.ok t'/\Rel F S' ρ' ids s/\Run X.P C n t' ρ' R/\Ext S ρ S' ρ'/\Same S S'/\PartR F (S'.env ρ' ids) cs qs
 |[],K,qs,S,ρ,t,h,hr,hrun,_,hl,hv=>by
  cases qs with
  |nil=>exact⟨[],S,ρ,t,h,hr,hrun,Ext.refl S ρ,Same.refl S,rfl⟩
  |cons _ _=>simp at hl
 |(i,ty,v)::l,K,qs,S,ρ,t,h,hr,hrun,_,hl,hv=>by
  cases qs with
  |nil=>simp at hl
  |cons q qs=>
   simp only[List.map_cons,List.cons.injEq]at hl;obtain⟨i',q⟩:=q;simp only at hl;obtain⟨rfl,hl⟩:=hl;simp only[cellsKL]at h;obtain⟨c,S1,ρ1,t1,h1,h2,h3,h4,h5,h6,h7⟩:=cellsK_ok h hr (hv 0 _ _ rfl rfl) hrun;have hle:(S.env ρ ids).le (S1.env ρ1 ids):=h5.le h4.pre;obtain⟨cs,S2,ρ2,t2,g1,g2,g3,g4,g5,g6⟩:=cellsKL_ok h1 h2 h3 (λ_ _=>trivial) hl (λj p q hp hq=>RV.mono hle (hv (j+1) p q hp hq));exact⟨(i,c)::cs,S2,ρ2,t2,g1,g2,g3,h4.trans g4,h5.trans g5,q,qs,rfl,RVL.mono (g5.le g4.pre) h6,h7,g6⟩
theorem parts_ok(hr:Rel F S ρ ids s)(parts:Array (Nat×Operand))(f:Nat×Operand->TypeId){K:List (Nat×List SV)->Sym->M}
  (h:cellsKL X (parts.toList.map λp=>(p.1,f p,S.ev p.2)) S K=.ok t) (hrun:Run X.P C n t ρ R):
  ∃cs S' ρ' t',K cs S'=.ok t'/\Rel F S' ρ' ids s/\Run X.P C n t' ρ' R/\Ext S ρ S' ρ'/\Same S S'/\PartR F (S'.env ρ' ids) cs (parts.toList.map λp=>(p.1,s.ev p.2)):=by
 refine cellsKL_ok h hr hrun (λ_ _=>trivial) (by simp) λj p q hp hq=>?_;rw[List.getElem?_map]at hp hq;cases hj:parts.toList[j]? with
 |none=>rw[hj]at hp;cases hp
 |some x=>
  rw[hj]at hp hq;simp only[Option.map_some,Option.some.injEq]at hp hq;subst hp;subst hq;exact hr.ev x.2
theorem ok_build{ty:TypeId}{parts:Array (Nat×Operand)}(hop:o.op=.build ty parts)(h:compBuild X o ty parts S K=.ok t)(hr:Rel F S ρ ids s)(hrun:Run X.P C n t ρ R):PureOk X F C n R K S ρ s m0 o:=by
 have hpv:pureV X.P m0 s.ev o=aBuild X.P ty (parts.toList.map λp=>(p.1,s.ev p.2)):=by simp only[pureV,hop]
 unfold compBuild at h;split at h
 ·rename_i fs z hu hz;split at h
  ·rename_i hcnd;obtain⟨cs,S1,ρ1,t1,h1,h2,h3,h4,h5,h6⟩:=parts_ok hr parts _ h hrun;split at h1
   ·rename_i l hl;obtain⟨l',g1,g2⟩:=fillS_ok h6 rvl_cstJ hl;refine⟨.agg l',?_,_,_,ids,t1,h1,h2.put o.dst (by unfold RV;exact⟨l',rfl,g2⟩),h3,h4.put _ _⟩;rw[hpv];simp only[aBuild,hu,hz];rw[if_pos hcnd,g1];rfl
   ·cases h1
  ·cases h
 ·rename_i k e z hu hz;split at h
  ·rename_i hcnd;obtain⟨cs,S1,ρ1,t1,h1,h2,h3,h4,h5,h6⟩:=parts_ok hr parts _ h hrun;split at h1
   ·rename_i l hl;obtain⟨l',g1,g2⟩:=fillS_ok h6 rvl_cstJ hl;refine⟨.agg l',?_,_,_,ids,t1,h1,h2.put o.dst (by unfold RV;exact⟨l',rfl,g2⟩),h3,h4.put _ _⟩;rw[hpv];simp only[aBuild,hu,hz];rw[if_pos hcnd,g1];rfl
   ·cases h1
  ·cases h
 ·cases h
theorem aFill_length{place:Nat->Option (Nat×Nat)}:∀{qs:List (Nat×PV)}{c l:List PV},aFill place c qs=some l->l.length=c.length
 |[],c,l,h=>by simp only[aFill,Option.some.injEq]at h;rw[h]
 |(i,v)::qs,c,l,h=>by
  simp only[aFill]at h;split at h
  ·cases h
  ·rename_i off size hp;split at h
   ·rename_i hc;rw[aFill_length h];unfold splice;simp;omega
   ·cases h
theorem ok_makeFunc{f:FuncId}{first caps:Array Operand}(hop:o.op=.makeFunc (.func f) first caps)(hB:f<fnB)(hf:first.size=0)(h:K (S.put o.dst (.fn f (caps.toList.map S.ev)))=.ok t)(hc:(caps.toList.all λx=>(S.ev x).cellish S)=true)(hr:Rel F S ρ ids s)(hrun:Run X.P C n t ρ R):PureOk X F C n R K S ρ s m0 o:=by
 have hf':first=#[]:=Array.eq_empty_of_size_eq_zero hf
 refine pure_put h hr hrun (pv:=.fn f (caps.toList.map s.ev)) (by simp only[pureV,hop];rw[if_pos ⟨hB,hf'⟩]) ?_;unfold RV;exact⟨_,rfl,rvl_map_ev hr _ λx hx=>cellish_ok hr (List.all_eq_true.1 hc x hx) (hr.ev x)⟩
theorem ok_makeFuncB{f:FuncId}{first caps:Array Operand}(hop:o.op=.makeFunc (.func f) first caps)(hB:¬(f<fnB/\first=#[]))(hf:caps.size=0)(h:K (S.put o.dst (.fn (f+fnB) (first.toList.map S.ev)))=.ok t)(hc:(first.toList.all λx=>(S.ev x).cellish S)=true)(hr:Rel F S ρ ids s)(hrun:Run X.P C n t ρ R):PureOk X F C n R K S ρ s m0 o:=by
 have hf':caps=#[]:=Array.eq_empty_of_size_eq_zero hf;refine pure_put h hr hrun (pv:=.fn (f+fnB) (first.toList.map s.ev)) (by simp only[pureV,hop];rw[if_neg hB,if_pos hf']) ?_;unfold RV;exact⟨_,rfl,rvl_map_ev hr _ λx hx=>cellish_ok hr (List.all_eq_true.1 hc x hx) (hr.ev x)⟩
end
end
section
open Go Go.RowKit
variable[Sp]
mutual
theorem bd_sub_id{n a:Nat}{e:Eff}(he:a<=e.id):∀q:PV,q.bd n a->q.sub1 e=q
 |.int _ _,_ | .bool _,_ | .str _,_ | .undef,_ | .bad,_ | .nilp,_ | .nilfn,_ | .snil,_ | .dead _,_ | .yld _,_ | .ptr _ _,_ | .hd _ _ _,_=>by simp only[PV.sub1]
 |.sl none _ _ _ cs,h=>by simp only[PV.sub1,bdL_sub_id he cs (by simpa only[PV.bd]using h)]
 |.sl (some i) _ _ _ cs,h=>by
  simp only[PV.bd]at h;have hc:=bdL_sub_id he cs h.2;cases e with
  |kill j=>simp only[Eff.id]at he;simp only[PV.sub1];rw[if_neg (by omega),hc]
  |wr j p v=>simp only[Eff.id]at he;simp only[PV.sub1];rw[if_neg (by omega),hc]
 |.eref none _ cs,h=>by simp only[PV.sub1,bdL_sub_id he cs (by simpa only[PV.bd]using h)]
 |.eref (some i) _ cs,h=>by
  simp only[PV.bd]at h;have hc:=bdL_sub_id he cs h.2;cases e with
  |kill j=>simp only[Eff.id]at he;simp only[PV.sub1];rw[if_neg (by omega),hc]
  |wr j p v=>simp only[Eff.id]at he;simp only[PV.sub1];rw[if_neg (by omega),hc]
 |.fn _ cs,h=>by simp only[PV.sub1,bdL_sub_id he cs (by simpa only[PV.bd]using h)]
 |.agg cs,h=>by simp only[PV.sub1,bdL_sub_id he cs (by simpa only[PV.bd]using h)]
 |.tup cs,h=>by simp only[PV.sub1,bdL_sub_id he cs (by simpa only[PV.bd]using h)]
 |.mp _ none _ _,h=>by simp only[PV.sub1]
 |.mp _ (some i) _ cs,h=>by
  simp only[PV.bd]at h;cases e with
  |kill j=>simp only[Eff.id]at he;simp only[PV.sub1];rw[if_neg (by omega)]
  |wr j p v=>simp only[Eff.id]at he;simp only[PV.sub1];rw[if_neg (by omega)]
theorem bdL_sub_id{n a:Nat}{e:Eff}(he:a<=e.id):∀l:List PV,bdL n a l->subL1 e l=l
 |[],_=>by simp only[subL1]
 |p::ps,h=>by
  simp only[bdL]at h;simp only[subL1,bd_sub_id he p h.1,bdL_sub_id he ps h.2]
end
mutual
theorem bd_frz_id{n a id:Nat}(he:a<=id):∀q:PV,q.bd n a->q.frz id=q
 |.int _ _,_ | .bool _,_ | .str _,_ | .undef,_ | .bad,_ | .nilp,_ | .nilfn,_ | .snil,_ | .dead _,_ | .yld _,_ | .ptr _ _,_ | .hd _ _ _,_=>by simp only[PV.frz]
 |.sl none _ _ _ cs,h=>by simp only[PV.frz,bdL_frz_id he cs (by simpa only[PV.bd]using h)]
 |.sl (some i) _ _ _ cs,h=>by
  simp only[PV.bd]at h;simp only[PV.frz];rw[if_neg (by omega),bdL_frz_id he cs h.2]
 |.eref none _ cs,h=>by simp only[PV.frz,bdL_frz_id he cs (by simpa only[PV.bd]using h)]
 |.eref (some i) _ cs,h=>by
  simp only[PV.bd]at h;simp only[PV.frz];rw[if_neg (by omega),bdL_frz_id he cs h.2]
 |.fn _ cs,h=>by simp only[PV.frz,bdL_frz_id he cs (by simpa only[PV.bd]using h)]
 |.agg cs,h=>by simp only[PV.frz,bdL_frz_id he cs (by simpa only[PV.bd]using h)]
 |.tup cs,h=>by simp only[PV.frz,bdL_frz_id he cs (by simpa only[PV.bd]using h)]
 |.mp _ none _ _,h=>by simp only[PV.frz]
 |.mp _ (some i) _ _,h=>by
  simp only[PV.bd]at h;simp only[PV.frz];rw[if_neg (by omega)]
theorem bdL_frz_id{n a id:Nat}(he:a<=id):∀l:List PV,bdL n a l->frzL id l=l
 |[],_=>by simp only[frzL]
 |p::ps,h=>by
  simp only[bdL]at h;simp only[frzL,bd_frz_id he p h.1,bdL_frz_id he ps h.2]
end
section
variable{X:Ctx}{F:Frm}{C:Orc->FuncId->List PV->Option PV}{n:Nat}{R:Out->Prop}{S:Sym}{ρ:List PV}{ids:Nat->Option Nat}{s:St}{K:Sym->M}{t:Tree}{o:Oper}{m0:Mem}{inl yl:Inl}{lx:Option Nat}{key:Nat}{E:Env}
theorem old_sub(h:Rel F S ρ ids s){EE:List Eff}(he:∀e∈EE,F.A0<=e.id){i:Nat}(hi:i<F.n0):(s.m.β i).sub EE=F.β0 i:=by
 rw[h.old i hi];have:∀(EE:List Eff)(c:BoxC),(∀e∈EE,F.A0<=e.id)->(∀l,c=.cells l->bdL F.n0 F.A0 l)->c.sub EE=c:=by
  intro EE;induction EE with
  |nil=>intro c _ _;rfl
  |cons e EE ih=>
   intro c he hc;have h1:c.sub1 e=c:=by
    cases c with
    |cells l=>
     simp only[BoxC.sub1];rw[←subL1_eq,bdL_sub_id (he e (by simp)) l (hc l rfl)]
    |inv I=>rfl
    |hole=>rfl
   show BoxC.sub EE (c.sub1 e)=c;rw[h1];exact ih c (λe' h'=>he e' (by simp[h'])) hc
 exact this EE _ he (λl hl=>h.obd i l hi hl)
def Sym.addBox(S:Sym)(l:List SV):Sym:={ S with bx:=S.bx++[BX.cells l] }
theorem newBox_eq(d:Option Tmp)(l:List SV):S.newBox d l=(S.addBox l).put d (.ptr S.bx.length 0):=rfl
theorem le_addBox(l:List SV):(S.env ρ ids).le ((S.addBox l).env ρ ids):=⟨List.prefix_refl _,λ_ _ h=>h,by simp[Sym.env,Sym.addBox],λ_ _ _=>rfl⟩
theorem Rel.addBox(h:Rel F S ρ ids s){l:List SV}{l':List PV}(hl:RVL F (S.env ρ ids) l l'):Rel F (S.addBox l) ρ ids { s with m:={ s.m with β:=updB s.m.β s.m.n (.cells l'),n:=s.m.n+1 } }:=by
 have hle:=le_addBox (S:=S) (ρ:=ρ) (ids:=ids) l;refine⟨h.len,h.kn,λt=>RV.mono hle (h.slot t),by simp[Sym.addBox,h.boxn];omega,λi hi=>?_,λi b hb=>?_,h.idlt,h.idinj,λk a ha=>?_,h.a0,h.ent,h.efc,h.eff,h.new,h.keep,h.bbase,h.ba,by have:=h.bb;simp[Sym.addBox];omega,h.an,h.obd,h.rc⟩
 ·have:=h.boxn;simp only[updB_other _ _ _ _ (by omega:i≠s.m.n)];exact h.old i hi
 ·simp only[Sym.addBox,List.getElem?_append]at hb;have hn:=h.boxn;split at hb
  ·rename_i hlt;simp only[updB_other _ _ _ _ (by omega:F.n0+i≠s.m.n)];exact rb_mono hle (h.box i b hb)
  ·rename_i hge;have:i=S.bx.length:=by
    have:=(List.getElem?_eq_some_iff.1 hb).1;simp at this;omega
   subst this;simp at hb;subst hb;rw[←hn];simp only[updB_same];exact⟨l',rfl,RVL.mono hle hl⟩
 ·obtain⟨cs,hc⟩:=h.arr k a ha;exact⟨cs,AR.rel.mono hle ha hc⟩
theorem Rel.newBox(h:Rel F S ρ ids s)(d:Option Tmp){l:List SV}{l':List PV}(hl:RVL F (S.env ρ ids) l l'):Rel F (S.newBox d l) ρ ids (s.newBox d l'):=by
 rw[newBox_eq,St.newBox];refine Rel.put (h.addBox hl) d ?_;unfold RV;exact⟨by rw[h.boxn],by simp[Sym.env,Sym.addBox]⟩
theorem newHd_eq(d:Option Tmp)(sz len:Nat)(l:List SV):S.newHd d sz len l=(S.addBox l).put d (.hd S.bx.length sz len):=rfl
theorem Ext.newHd(S:Sym)(ρ:List PV)(d:Option Tmp)(sz len:Nat)(l:List SV):Ext S ρ (S.newHd d sz len l) ρ:=by
 rw[newHd_eq];have hx:Ext S ρ (S.addBox l) ρ:=⟨List.prefix_refl _,rfl,rfl,rfl,rfl,rfl,by simp[Sym.addBox],rfl⟩;exact hx.put _ _
theorem Rel.newHd(h:Rel F S ρ ids s)(d:Option Tmp)(sz len:Nat){l:List SV}{l':List PV}(hl:RVL F (S.env ρ ids) l l'):Rel F (S.newHd d sz len l) ρ ids (s.newHd d sz len l'):=by
 rw[newHd_eq,St.newHd];refine Rel.put (h.addBox hl) d ?_;unfold RV;exact⟨by rw[h.boxn],by simp[Sym.env,Sym.addBox]⟩
theorem Rel.setBox(h:Rel F S ρ ids s){i:Nat}{b:BX}(hi:S.bx[i]?=some b){l:List SV}{l':List PV}(hl:RVL F (S.env ρ ids) l l'):Rel F (S.setBox i l) ρ ids (s.setBox (F.n0+i) l'):=by
 have hlt:i<S.bx.length:=(List.getElem?_eq_some_iff.1 hi).1;have he:(S.setBox i l).env ρ ids=S.env ρ ids:=by simp[Sym.env,Sym.setBox]
 refine⟨h.len,h.kn,λt=>by rw[he];exact h.slot t,by simp[Sym.setBox,h.boxn],λj hj=>?_,λj c hc=>?_,h.idlt,h.idinj,by rw[he];exact h.arr,h.a0,h.ent,h.efc,h.eff,h.new,h.keep,h.bbase,h.ba,by have:=h.bb;simp[Sym.setBox];omega,h.an,h.obd,h.rc⟩
 ·simp only[St.setBox,updB_other _ _ _ _ (by omega:j≠F.n0+i)];exact h.old j hj
 ·rw[he];simp only[Sym.setBox,List.getElem?_set]at hc;split at hc
  ·rename_i hij;subst hij;simp only[hlt,if_true,Option.some.injEq]at hc;subst hc;simp only[St.setBox,updB_same];exact⟨l',rfl,hl⟩
  ·rename_i hij;simp only[St.setBox,updB_other _ _ _ _ (by omega:F.n0+j≠F.n0+i)];exact h.box j c hc
def withId(ids:Nat->Option Nat)(k:Nat)(x:Option Nat):Nat->Option Nat:=λj=>if j=k then x else ids j
theorem le_addAr(a:AR)(x:Option Nat):(S.env ρ ids).le (({ S with ar:=S.ar++[some a] }:Sym).env ρ (withId ids S.ar.length x)):=by
 have hlt:∀k b,S.ar.getD k none=some b->k<S.ar.length:=λk b hb=>by
  rcases Nat.lt_or_ge k S.ar.length with h|h
  ·exact h
  ·simp[List.getD_eq_getElem?_getD,List.getElem?_eq_none h]at hb
 refine⟨List.prefix_refl _,λk b hb=>?_,Nat.le_refl _,λk b hb=>?_⟩
 ·have:=hlt k b hb;simp only[Sym.env,List.getD_eq_getElem?_getD,List.getElem?_append_left this]at hb⊢;exact hb
 ·have:=hlt k b hb;simp only[Sym.env,withId];rw[if_neg (by omega)]
theorem Rel.addAr(h:Rel F S ρ ids s){a:AR}{cs:List PV}{x:Option Nat}(ha:a.c.ok ρ)(hc:a.c.den ρ=.agg cs)(hsz:0<a.sz)(hl:cs.length=cs.length/a.sz*a.sz)(hb:isNil ρ a.born cs=some x.isNone)(hd:∀y,a.born=.dyn y->y.ok ρ)
  {s':St} (hg:s'.g=s.g) (hβ:s'.m.β=s.m.β) (hn:s'.m.n=s.m.n) (han:s.m.an<=s'.m.an) (hx:∀id,x=some id->s.m.an<=id/\id<s'.m.an) (h0:s'.a0=s.a0) (he:s'.eff=s.eff) (hrc:s'.m.rc=s.m.rc):
  Rel F { S with ar:=S.ar++[some a] } ρ (withId ids S.ar.length x) s'/\a.rel (({ S with ar:=S.ar++[some a] }:Sym).env ρ (withId ids S.ar.length x)) S.ar.length cs:=by
 have hle:=le_addAr (S:=S) (ρ:=ρ) (ids:=ids) a x;have hnew:a.rel (({ S with ar:=S.ar++[some a] }:Sym).env ρ (withId ids S.ar.length x)) S.ar.length cs:=⟨ha,hc,hsz,hl,by simpa[Sym.env,withId]using hb,hd⟩;refine⟨⟨h.len,h.kn,λt=>by rw[hg];exact RV.mono hle (h.slot t),by rw[hn];exact h.boxn,λi hi=>by rw[hβ];exact h.old i hi,λi b hb=>by rw[hβ];exact rb_mono hle (h.box i b hb),λk id hk=>?_,λk j id hk hj=>?_,λk b hb=>?_,by rw[h0];exact h.a0,h.ent,by rw[he];exact h.efc,by rw[he];exact h.eff,λhef k id hk hge=>?_,λhef k hlt=>?_,h.bbase,by have:=h.ba;simp;omega,h.bb,Nat.le_trans h.an han,h.obd,by rw[hrc];exact h.rc⟩,hnew⟩
 ·simp only[withId]at hk;split at hk
  ·rename_i e;subst e;obtain⟨h1,h2⟩:=hx id hk;exact⟨by have:=h.an;have:=h.ent.1;omega,h2,by simp⟩
  ·obtain⟨h1,h2,h3⟩:=h.idlt k id hk;exact⟨h1,by omega,by simp;omega⟩
 ·simp only[withId]at hk hj;split at hk<;>split at hj
  ·omega
  ·obtain⟨h1,h2⟩:=hx id hk;have:=(h.idlt j id hj).2.1;omega
  ·obtain⟨h1,h2⟩:=hx id hj;have:=(h.idlt k id hk).2.1;omega
  ·exact h.idinj k j id hk hj
 ·rcases Nat.lt_trichotomy k S.ar.length with hlt|rfl|hgt
  ·have hb':S.ar.getD k none=some b:=by simpa[List.getD_eq_getElem?_getD,List.getElem?_append_left hlt]using hb
   obtain⟨cs',hc'⟩:=h.arr k b hb';exact⟨cs',AR.rel.mono hle hb' hc'⟩
  ·have:a=b:=by simpa[List.getD_eq_getElem?_getD]using hb
   subst this;exact⟨cs,hnew⟩
  ·simp[List.getD_eq_getElem?_getD,List.getElem?_eq_none (by simp;omega:(S.ar++[some a]).length<=k)]at hb
 ·simp only[withId]at hk;split at hk
  ·obtain⟨h1,h2⟩:=hx id hk;have:=h.an;omega
  ·exact h.new hef k id hk hge
 ·have h2:k<S.base:=hlt;have h1:=h.ba;obtain⟨g1,g2⟩:=h.keep hef k h2;refine⟨?_,by simp only[withId];rw[if_neg (by omega)];exact g2⟩;rw[←g1];simp only[List.getD_eq_getElem?_getD,List.getElem?_append_left (by omega:k<S.ar.length)]
end
end
end Go.Proofs.Ytjfejoadcdoobaa
