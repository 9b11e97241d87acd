/- Part of the proof of TopTwins. No condition. -/
import Derived.Test.YtjfejoadcdoobaaMTopTwinsAM
namespace Go.Proofs.Ytjfejoadcdoobaa
set_option maxRecDepth 100000
set_option linter.all false
section
open Go Go.RowKit
variable[Sp]
section
variable{X:Ctx}{F:Frm}{C:Orc->FuncId->List PV->Option PV}{n:Nat}{R:Out->Prop}{S:Sym}{ρ:List PV}{ids:Nat->Option Nat}{s:St}{K:Sym->M}{t:Tree}{o:Oper}{m0:Mem}{inl yl:Inl}{lx:Option Nat}{key:Nat}{E:Env}
theorem ext_set{S1:Sym}{ρ1:List PV}(k:Nat)(all:Bool)(a:AR):Ext S1 ρ1 (S1.setArr k all a) ρ1:=
 ⟨List.prefix_refl _,rfl,rfl,rfl,rfl,rfl,by simp[Sym.setArr,Sym.mapV],by simp[Sym.setArr,Sym.mapV]⟩
theorem isNil_still{b:BN}{cs cs':List PV}(hs:b.still=true)(h:isNil ρ b cs=some false)(hne:cs'≠[]):isNil ρ b cs'=some false:=by
 cases b with
 |real=>rfl
 |nil0=>
  cases cs' with
  |nil=>exact absurd rfl hne
  |cons _ _=>rfl
 |dyn x=>cases hs
 |map=>cases hs
 |it|tab _|sit=>cases hs
theorem isNil_nil0{b:BN}{cs:List PV}(hs:b.still=true)(h:isNil ρ b cs=some true):b=.nil0/\cs=[]:=by
 cases b with
 |real=>simp[isNil]at h
 |nil0=>
  cases cs with
  |nil=>exact⟨rfl,rfl⟩
  |cons _ _=>simp[isNil]at h
 |dyn x=>cases hs
 |map=>cases hs
 |it|tab _|sit=>cases hs
theorem still_lst{b:BN}(h:b.still=true):b.lst=true:=by cases b<;>first|rfl|cases h
theorem app_core{ty e:TypeId}{x y:Operand}(hu:X.P.underlying ty=some (.slice e))(c1:(X.P.info? e).isSome=true)(c2:0<X.P.cellsOf e)(c3:(zeroOf X.P e).any (λz=>z.cells.size=X.P.cellsOf e)=true)(h:appBody X o e x y S K=.ok t)(hr:Rel F S ρ ids s)(hrun:Run X.P C n t ρ R):aAppend X.P s o.dst ty (s.ev x) (s.ev y) λs'=>Stp X F C n R K S ρ s':=by
 unfold appBody at h;split at h
 ·rename_i py hpy;obtain⟨hy,hyp⟩:=hr.pe hpy;simp only[aAppend,hu];refine⟨c1,c2,c3,?_⟩;have hxv:=hr.ev x;split at h
  ·rename_i k hxk;rw[hxk]at hxv;unfold RV at hxv;obtain⟨a,cs,h1,h2,h3⟩:=hxv;split at h
   ·rename_i a' ha';have:a'=a:=by have:=ha'.symm.trans h1;injection this
    subst this;split at h
    ·rename_i hcn;obtain⟨hsz,hstill⟩:=hcn;obtain⟨t',ht,rfl⟩:=emit_ok h;obtain⟨v,hv,hrun⟩:=hrun.prim;have hden:a'.c.den ρ=.agg cs:=h2.2.1;simp only[Prim.run,hden,←hy]at hv;unfold pushV at hv;split at hv
     ·rename_i cs0 m news hcs0 htl;injection hcs0 with hcs0;subst hcs0;split at hv
      ·rename_i hbd;obtain⟨b1,b2,b3⟩:=hbd;injection hv with hv;subst hv;have hnews:=aTail_plain hyp htl;have hpl:=plainC_append h2.plain hnews;have hb:=hr.bind (.agg (cs++news)) false (by simp);obtain⟨g1,g2⟩:=var_ok hr (.agg (cs++news)) (by simpa only[PV.plain]using hpl);have h2':=AR.rel.mono (Env.le_bind S ρ ids (.agg (cs++news)) false) h1 h2;have hpos:=h2.2.2.1;have hlen:=h2.2.2.2.1;have hl':(cs++news).length=(cs++news).length/a'.sz*a'.sz/\(cs++news).length/a'.sz=cs.length/a'.sz+m:=by
        have e:(cs++news).length=(cs.length/a'.sz+m)*a'.sz:=by rw[List.length_append,b1,Nat.add_mul,←hlen]
        have e2:(cs++news).length/a'.sz=cs.length/a'.sz+m:=by rw[e];exact Nat.mul_div_cancel _ hpos
        exact⟨by rw[e2];exact e,e2⟩
       have hsz':X.P.cellsOf e=a'.sz:=hsz.symm;rw[hsz',htl];refine⟨plainC_one hnews,?_⟩;cases hid:ids k with
       |some id=>
        rw[show(S.env ρ ids).ids k=some id from hid,ownV_lst (still_lst hstill)]at h3;simp only[h3];refine⟨trivial,trivial,b2,b3,plainC_noId hpl id,?_⟩;have hnil:=h2.2.2.2.2.1;rw[show(S.env ρ ids).ids k=some id from hid]at hnil;have hne:cs++news≠[]\/a'.born=.real:=by
         cases hbn:a'.born with
         |real=>exact .inr rfl
         |nil0=>
          refine .inl λe=>?_;have:cs=[]:=(List.append_eq_nil_iff.1 e).1;rw[hbn,this]at hnil;simp[isNil]at hnil
         |dyn y=>rw[hbn]at hstill;cases hstill
         |map=>rw[hbn]at hstill;cases hstill
         |it|tab _|sit=>rw[hbn]at hstill;cases hstill
        have hn':isNil (ρ++[.agg (cs++news)]) a'.born (cs++news)=some false:=by
         rcases hne with hne|hne
         ·exact isNil_still (cs:=cs) hstill ((isNil_bind (ρ:=ρ) h2.2.2.2.2.2 _).trans hnil) hne
         ·rw[hne];rfl
        obtain⟨r1,r2⟩:=hb.hit (k:=k) (id:=id) (c':=.var S.nv) (all:=true) (EE:=[.kill id]) h1 h2' hid (λe he=>by simp only[List.mem_singleton]at he;subst he;exact⟨rfl,trivial⟩) g1 g2 hl'.1 hn' (λe=>by cases e);refine⟨_,_,ids,t',ht,r1.put o.dst (v:=.own k) ?_,hrun,(Ext.bind S ρ (.agg (cs++news)) false).trans ((ext_set k true _).put _ _)⟩;unfold RV;refine⟨_,cs++news,?_,r2,?_⟩
        ·simp only[Sym.env,Sym.setArr,Sym.mapV];rw[getD_set,if_pos ⟨rfl,arr_lt_len h1⟩]
        ·rw[show((S.bind false).setArr k true { a' with c:=.var S.nv }).env (ρ++[.agg (cs++news)]) ids=⟨ρ++[.agg (cs++news)],((S.bind false).setArr k true { a' with c:=.var S.nv }).ar,((S.bind false).setArr k true { a' with c:=.var S.nv }).bx.length,ids⟩from rfl];rw[ownV_lst (still_lst hstill)];simp only[hid,hl'.2]
       |none=>
        rw[show(S.env ρ ids).ids k=none from hid,ownV_lst (still_lst hstill)]at h3;have hnil:=h2.2.2.2.2.1;rw[show(S.env ρ ids).ids k=none from hid]at hnil;obtain⟨hb0,hcs⟩:=isNil_nil0 hstill hnil;subst hcs;simp only[List.length_nil,Nat.zero_div,Nat.zero_add,List.nil_append]at b2 b3 hl' hb g1 g2 h2'⊢;simp only[h3];refine⟨b2,b3,?_⟩;by_cases hm:m=0
        ·rw[if_pos hm];have hn0:news=[]:=List.eq_nil_of_length_eq_zero (by rw[b1,hm];simp);subst hn0;obtain⟨r1,r2⟩:=hb.revive (k:=k) (c':=.var S.nv) (cs':=[]) (x:=none) (s':=s) h1 hid g1 g2 hpos (by simp) (by rw[hb0];rfl) (λy e=>by rw[hb0]at e;cases e) rfl rfl rfl (Nat.le_refl _) (λid e=>by cases e) rfl rfl rfl;refine⟨_,_,_,t',ht,r1.put o.dst (v:=.own k) ?_,hrun,(Ext.bind S ρ (.agg []) false).trans ((ext_set k true _).put _ _)⟩;unfold RV;refine⟨_,[],?_,r2,?_⟩
         ·simp only[Sym.env,Sym.setArr,Sym.mapV];rw[getD_set,if_pos ⟨rfl,arr_lt_len h1⟩]
         ·simp[Sym.env,withId,ownV]
        ·rw[if_neg hm];have hn0:news≠[]:=λe=>by
          rw[e]at b1;simp only[List.length_nil]at b1;rcases Nat.mul_eq_zero.1 b1.symm with e1|e1
          ·exact hm e1
          ·omega
         obtain⟨r1,r2⟩:=hb.revive (k:=k) (c':=.var S.nv) (cs':=news) (x:=some s.m.an) (s':={ s with m:={ s.m with an:=s.m.an+1 } }) h1 hid g1 g2 hpos hl'.1 (by
          rw[hb0];cases news with
          |nil=>exact absurd rfl hn0
          |cons _ _=>rfl) (λy e=>by rw[hb0]at e;cases e) rfl rfl rfl (Nat.le_succ _) (λid e=>by injection e with e;subst e;exact⟨Nat.le_refl _,Nat.lt_succ_self _⟩) rfl rfl rfl
         refine⟨_,_,_,t',ht,r1.put o.dst (v:=.own k) ?_,hrun,(Ext.bind S ρ (.agg news) false).trans ((ext_set k true _).put _ _)⟩;unfold RV;refine⟨_,news,?_,r2,?_⟩
         ·simp only[Sym.env,Sym.setArr,Sym.mapV];rw[getD_set,if_pos ⟨rfl,arr_lt_len h1⟩]
         ·rw[ownV_lst (still_lst hstill)];simp[Sym.env,withId,hl'.2]
      ·cases hv
     ·cases hv
    ·cases h
   ·cases h
  ·rename_i hxk;rw[hxk]at hxv;unfold RV at hxv;have hx0:s.ev x=.snil:=hxv.1;obtain⟨t',ht,rfl⟩:=emit_ok h;obtain⟨v,hv,hrun⟩:=hrun.prim;simp only[Prim.run,SE.den,←hy]at hv;unfold pushV at hv;split at hv
   ·rename_i cs0 m news hcs0 htl;injection hcs0 with hcs0;subst hcs0;split at hv
    ·rename_i hbd;obtain⟨b1,b2,b3⟩:=hbd;injection hv with hv;subst hv;have hnews:=aTail_plain hyp htl;simp only[List.length_nil,Nat.zero_div,Nat.zero_add,List.nil_append]at b2 b3 hrun;have hb:=hr.bind (.agg news) false (by simp);obtain⟨g1,g2⟩:=var_ok hr (.agg news) (by simpa only[PV.plain]using hnews);rw[htl,hx0];refine⟨plainC_one hnews,b2,b3,?_⟩;refine stp_mono (Ext.bind S ρ (.agg news) false) ?_;by_cases hm:m=0
     ·rw[if_pos hm];have hn0:news=[]:=List.eq_nil_of_length_eq_zero (by rw[b1,hm];simp);subst hn0;exact stp_nilArr (a:=⟨X.P.cellsOf e,.nil0,.var S.nv⟩) hb g1 g2 c2 rfl (λy e=>by cases e) ht hrun
     ·rw[if_neg hm];have hn0:news≠[]:=λe'=>by
       rw[e']at b1;simp only[List.length_nil]at b1;rcases Nat.mul_eq_zero.1 b1.symm with e1|e1
       ·exact hm e1
       ·omega
      exact stp_newArr (a:=⟨X.P.cellsOf e,.nil0,.var S.nv⟩) hb g1 g2 c2 b1 (by
       cases news with
       |nil=>exact absurd rfl hn0
       |cons _ _=>rfl) (λy e=>by cases e) ht hrun
    ·cases hv
   ·cases hv
  ·cases h
 ·cases h
theorem seq_append{c:Call}{ty:TypeId}{x y:Operand}(hop:o.op=.call c)(hcal:c.callee=.builtin .append)(hat:c.argTypes=⟨[ty,ty]⟩)(har:c.args.toList=[x,y])(h:compAppend X none o ty x y S K=.ok t)(hr:Rel F S ρ ids s)(hrun:Run X.P C n t ρ R):SeqOk X F C n R K S ρ s o:=by
 unfold compAppend at h;simp only[Option.isSome_none,Bool.false_eq_true,if_false]at h;split at h
 ·rename_i e hu;split at h
  ·rename_i hcnd;obtain⟨c1,c2,c3⟩:=hcnd;refine seq_frz h hr hrun λS ρ ids s t h hr hrun=>?_;have hW:∀K':St->Prop,opW X.P s o K'=(ty=ty/\aAppend X.P s o.dst ty (s.ev x) (s.ev y) K'):=λK'=>by simp only[opW,hop,hcal,hat,har]
   refine⟨s,Silent.refl s,?_⟩;rw[hW];exact⟨rfl,app_core hu c1 c2 c3 h hr hrun⟩
  ·cases h
 ·cases h
end
end
section
open Go Go.RowKit
variable[Sp]
theorem splice_cons(l:List PV)(off:Nat)(v:PV)(vs:List PV)(h:off+(v::vs).length<=l.length):splice (l.set off v) (off+1) vs=splice l off (v::vs):=by
 simp only[List.length_cons]at h;unfold splice;have h1:(l.set off v).take (off+1)=l.take off++[v]:=by
  rw[List.take_succ_eq_append_getElem (by simp;omega)];simp;rw[List.take_set_of_le (Nat.le_refl _)]
 rw[h1,List.drop_set_of_lt (by omega)];simp only[List.append_assoc,List.cons_append,List.nil_append,List.length_cons];rw[show off+1+vs.length=off+(vs.length+1)by omega]
theorem sub_wrs(id sz len:Nat):∀(vs:List PV)(off:Nat)(cs:List PV),plainC cs=true->plainC vs=true->off+vs.length<=cs.length->PV.sub (wrs id off vs) (.sl (some id) sz 0 len cs)=.sl (some id) sz 0 len (splice cs off vs)
 |[],off,cs,_,_,h=>by simp only[wrs,PV.sub,splice,List.append_nil,List.length_nil,Nat.add_zero,List.take_append_drop]
 |v::vs,off,cs,hc,hv,h=>by
  simp only[plainC,Bool.and_eq_true]at hv;simp only[List.length_cons]at h;simp only[wrs,PV.sub,PV.sub1,if_true,plainC_sub1 _ cs hc,setAt,Nat.zero_le,Nat.sub_zero];have hc':plainC (cs.set off v)=true:=(plainC_iff _).2 λp hp=>by
   rcases List.mem_or_eq_of_mem_set hp with h'|rfl
   ·exact(plainC_iff _).1 hc p h'
   ·exact⟨hv.1.1,hv.1.2⟩
  rw[sub_wrs id sz len vs (off+1) _ hc' hv.2 (by simp;omega),splice_cons cs off v vs (by simpa using h)]
theorem splice_length{l vs:List PV}{off:Nat}(h:off+vs.length<=l.length):(splice l off vs).length=l.length:=by unfold splice;simp;omega
theorem plainC_splice{l vs:List PV}{off:Nat}(h:plainC l=true)(hv:plainC vs=true):plainC (splice l off vs)=true:=plainC_append (plainC_append (plainC_take h _) hv) (plainC_drop h _)
theorem mem_wrs{id:Nat}{e:Eff}:∀{vs:List PV}{off:Nat},e∈wrs id off vs->e.id=id/\∃v∈vs,∃p,e=.wr id p v
 |[],_,h=>by cases h
 |v::vs,off,h=>by
  simp only[wrs,List.mem_cons]at h;rcases h with rfl|h
  ·exact⟨rfl,v,by simp,off,rfl⟩
  ·obtain⟨h1,u,h2,p,h3⟩:=mem_wrs h;exact⟨h1,u,by simp[h2],p,h3⟩
section
variable{X:Ctx}{F:Frm}{C:Orc->FuncId->List PV->Option PV}{n:Nat}{R:Out->Prop}{S:Sym}{ρ:List PV}{ids:Nat->Option Nat}{s:St}{K:Sym->M}{t:Tree}{o:Oper}{m0:Mem}{inl yl:Inl}{lx:Option Nat}{key:Nat}{E:Env}
theorem store_box'{ty:TypeId}{x y:Operand}{i off:Nat}(hx:S.ev x=.ptr i off)(h:cellsK X ty (S.ev y) S (λc S=>match S.bx[i]? with
  |some (BX.cells l)=>if c.length=X.P.cellsOf ty/\c.all SV.solid=true/\off+c.length<=l.length/\(lx.all λb=>decide (off=0)&&decide (b<=i)&&decide (l.length=c.length))then K (S.setBox i (spliceS l off c))else die "x"
  |_=>die "x")=.ok t)(hr:Rel F S ρ ids s)(hrun:Run X.P C n t ρ R):
  s.ev x=.ptr (F.n0+i) off/\i<S.bx.length/\(s.ev y).cells.length=X.P.cellsOf ty/\(s.ev y).cells.all PV.one=true/\∃l,s.m.β (F.n0+i)=.cells l/\off+(s.ev y).cells.length<=l.length/\(∀b,lx=some b->off=0/\b<=i/\l.length=(s.ev y).cells.length)/\Stp X F C n R K S ρ (s.setBox (F.n0+i) (splice l off (s.ev y).cells)):=by
 have hxv:=hr.ev x;rw[hx]at hxv;unfold RV at hxv;obtain⟨c,S1,ρ1,t1,h1,h2,h3,h4,h5,h6,h7⟩:=cellsK_ok h hr (hr.ev y) hrun;dsimp only at h1;split at h1
 ·rename_i l hb;split at h1
  ·rename_i hcnd;obtain⟨c1,c2,c3,c4⟩:=hcnd;obtain⟨l',g1,g2⟩:=h2.box i _ hb;have hlc:=rvl_length h6;have hll:=rvl_length g2;refine⟨hxv.1,hxv.2,by rw[←hlc,c1],solid_one h6 c2,l',g1,by rw[←hlc,←hll];exact c3,λb hbl=>?_,?_⟩
   ·subst hbl;simp only[Option.all_some,Bool.and_eq_true,decide_eq_true_eq]at c4;exact⟨c4.1.1,c4.1.2,by rw[←hll,←hlc];exact c4.2⟩
   ·exact⟨_,_,ids,t1,h1,h2.setBox hb (rvl_splice g2 h6 off),h3,h4.trans ⟨List.prefix_refl _,rfl,rfl,rfl,rfl,rfl,by simp[Sym.setBox],rfl⟩⟩
  ·cases h1
 ·cases h1
theorem seq_store{ty:TypeId}{x y:Operand}(hop:o.op=.store ty x y)(h:compStore X none o ty x y S K=.ok t)(hr:Rel F S ρ ids s)(hrun:Run X.P C n t ρ R):SeqOk X F C n R K S ρ s o:=by
 unfold compStore at h;split at h
 ·cases h
 ·rename_i hd;have hdst:o.dst=none:=by cases hh:o.dst<;>simp[hh]at hd⊢
  have hin:(X.P.info? ty).isSome:=by cases hh:X.P.info? ty<;>simp[hh]at hd⊢
  split at h
  ·rename_i i off hx;obtain⟨e1,e2,e3,e4,l,e5,e6,_,e7⟩:=store_box' (lx:=none) hx h hr hrun;refine⟨s,Silent.refl s,?_⟩;simp only[opW,hop];refine⟨hdst,?_⟩;rw[e1];simp only[aStore];exact⟨by rw[hr.boxn];omega,hin,e3,e4,l,e5,e6,e7⟩
  ·rename_i k0 e0 fo0 hx0;split at h
   ·cases h
   ·rename_i hcn;have hpos:X.P.cellsOf ty≠0:=by simpa using hcn
    refine seq_frz h hr hrun λS ρ ids s t h hr hrun=>?_;obtain⟨c,S1,ρ1,t1,h1,h2,h3,h4,h5,h6,h7⟩:=cellsK_ok h hr (hr.ev y) hrun;dsimp only at h1;split at h1
    ·rename_i k e fo hx;have hxv:=h2.ev x;rw[hx]at hxv;unfold RV at hxv;obtain⟨a,cs,id,nn,kk,q1,q2,q3,q4,q5,q6,q7,q8⟩:=hxv;split at h1
     ·rename_i a' ps ha' hps;have:a'=a:=by have:=ha'.symm.trans q1;injection this
      subst this;split at h1
      ·cases h1
      ·rename_i hcc;have hc1:c.length=X.P.cellsOf ty/\fo+c.length<=a'.sz:=by
        simp only[ne_eq,not_or,Classical.not_not]at hcc;exact⟨hcc.1,by omega⟩
       have hlst:a'.born.lst=true:=by
        simp only[ne_eq,not_or,Classical.not_not]at hcc;simpa using hcc.2.2
       obtain⟨t2,ht,rfl⟩:=emit_ok h1;obtain⟨v,hv,hrun2⟩:=h3.prim;obtain⟨hpd,hpp⟩:=peL_den hps h6;have hlc:=rvl_length h6;have hden:a'.c.den ρ1=.agg cs:=q2.2.1;have hde:e.den ρ1=.int kk nn:=q4;simp only[Prim.run,putV,hden,hde]at hv;rw[show denL ρ1 ps=(s.ev y).cells from hpd.symm]at hv;split at hv
       ·rename_i hbd;injection hv with hv;subst hv;have hpl:=plainC_splice (off:=nn.toNat*a'.sz+fo) q2.plain hpp;have hlen:(splice cs (nn.toNat*a'.sz+fo) (s.ev y).cells).length=cs.length:=splice_length hbd;have hb:=h2.bind (.agg (splice cs (nn.toNat*a'.sz+fo) (s.ev y).cells)) false (by simp);obtain⟨g1,g2⟩:=var_ok h2 (.agg (splice cs (nn.toNat*a'.sz+fo) (s.ev y).cells)) (by simpa only[PV.plain]using hpl);have q2':=AR.rel.mono (Env.le_bind S1 ρ1 ids (.agg (splice cs (nn.toNat*a'.sz+fo) (s.ev y).cells)) false) q1 q2;have hnil:=q2.2.2.2.2.1;rw[q3]at hnil;have hne:splice cs (nn.toNat*a'.sz+fo) (s.ev y).cells≠[]:=λe'=>by
         have:=congrArg List.length e';rw[hlen]at this;simp only[List.length_nil]at this;rw[this]at q7;simp at q7
        have hn':isNil (ρ1++[.agg (splice cs (nn.toNat*a'.sz+fo) (s.ev y).cells)]) a'.born (splice cs (nn.toNat*a'.sz+fo) (s.ev y).cells)=some false:=by
         rw[isNil_bind (ρ:=ρ1) q2.2.2.2.2.2];have hcs:cs≠[]:=λe'=>by rw[e']at q7;simp at q7
         cases hbn:a'.born with
         |real=>rfl
         |nil0=>
          cases hsp:splice cs (nn.toNat*a'.sz+fo) (s.ev y).cells with
          |nil=>exact absurd hsp hne
          |cons _ _=>rfl
         |dyn z=>
          rw[hbn]at hnil;simp only[isNil,Sym.env]at hnil⊢;cases hz:z.den ρ1 with
          |bool b=>
           rw[hz]at hnil;cases b
           ·rfl
           ·cases cs with
            |nil=>exact absurd rfl hcs
            |cons _ _=>simp at hnil
          |_=>rw[hz]at hnil;simp at hnil
         |map=>rfl
         |it|tab _|sit=>rfl
        obtain⟨r1,r2⟩:=hb.hit (k:=k) (id:=id) (c':=.var S1.nv) (all:=false) (EE:=wrs id (nn.toNat*a'.sz+fo) (s.ev y).cells) q1 q2' q3 (λe he=>by
          obtain⟨m1,u,m2,p,rfl⟩:=mem_wrs he;exact⟨rfl,λn an=>plain_bd n an u ((plainC_iff _).1 hpp u m2).1⟩) g1 g2 (by rw[hlen];exact q2.2.2.2.1) hn' (λ_=>by rw[ownV_lst hlst,ownV_lst hlst];simp only;rw[hlen];exact sub_wrs id a'.sz _ _ _ cs q2.plain hpp hbd)
        refine⟨s,Silent.refl s,?_⟩;simp only[opW,hop];refine⟨hdst,?_⟩;rw[q8];simp only[aStore];refine⟨hin,Nat.pos_of_ne_zero hpos,by rw[←hlc];exact hc1.1,plainC_one hpp,by rw[List.length_drop];omega,plainC_noId hpp id,?_⟩;exact⟨_,_,ids,t2,ht,r1,hrun2,h4.trans ((Ext.bind S1 ρ1 _ false).trans (ext_set k false _))⟩
       ·cases hv
     ·cases h1
    ·cases h1
  ·rename_i b z fo hx;split at h
   ·cases h
   ·obtain⟨c,S1,ρ1,t1,h1,h2,h3,h4,h5,h6,h7⟩:=cellsK_ok h hr (hr.ev y) hrun;dsimp only at h1;have hxv:=hr.ev x;rw[hx]at hxv;simp only[RV]at hxv;obtain⟨kk,nn,q1,q2,q3,q4⟩:=hxv;obtain⟨z1,z2⟩:=SE.den_prefix h4.pre q2;split at h1
    ·rename_i l hl;split at h1
     ·rename_i ps qs hps hqs;split at h1
      ·rename_i hcl;obtain⟨l',t',g1,g2,g3,g4,g5,g6,g7,g8⟩:=box_lst h1 h2 h3 hl hps;obtain⟨hpd,hpp⟩:=peL_den hqs (RVL.mono (Env.le_bind S1 ρ1 ids (.agg l') false) h6);obtain⟨t2,ht,rfl⟩:=emit_ok g4;obtain⟨v,hv,hrun2⟩:=g6.prim;obtain⟨y1,y2⟩:=SE.den_prefix (List.prefix_append ρ1 [PV.agg l']) z2;have hde:z.den (ρ1++[PV.agg l'])=.int kk nn:=y1.trans (z1.trans q1);simp only[Prim.run,putV,g7,hde]at hv;rw[show denL (ρ1++[PV.agg l']) qs=(s.ev y).cells from hpd.symm,Nat.mul_one]at hv;split at hv
       ·rename_i hbd;injection hv with hv;subst hv;have hlc:=rvl_length h6;have hpl:=plainC_splice (off:=nn.toNat+fo) g3 hpp;have hb:=g5.bind (.agg (splice l' (nn.toNat+fo) (s.ev y).cells)) false (by simp);obtain⟨v1,v2⟩:=var_ok g5 (.agg (splice l' (nn.toNat+fo) (s.ev y).cells)) (by simpa only[PV.plain]using hpl);have hset:=hb.setBox (i:=b) hl (rvl_projs0 (F:=F) (E:=((S1.bind false).bind false).env _ ids) v2 v1 (k:=l.length) (by rw[splice_length hbd,g2]));refine⟨s,Silent.refl s,?_⟩;simp only[opW,hop];refine⟨hdst,?_⟩;rw[q3];simp only[aStore];exact⟨by rw[hr.boxn];have:b<S.bx.length:=q4;omega,hin,by rw[←hlc];exact hcl,plainC_one hpp,l',g1,hbd,
         _,_,ids,t2,ht,hset,hrun2,h4.trans ((Ext.bind S1 ρ1 _ false).trans ((Ext.bind _ _ _ false).trans ⟨List.prefix_refl _,rfl,rfl,rfl,rfl,rfl,by simp[Sym.setBox],rfl⟩))⟩
       ·cases hv
      ·cases h1
     ·cases h1
    ·cases h1
  ·injection h with h;subst h;exact(run_die hrun).elim
  ·cases h
theorem rvl_pe{c:List SV}{c':List PV}{ps:List PE}(h:RVL F E c c')(hp:peL c=some ps):c'=denL E.ρ ps/\plainC c'=true:=peL_den hp h
theorem seq_buildSlice{ty:TypeId}{len:Nat}{parts:Array (Nat×Operand)}(hop:o.op=.buildSlice ty len parts)(h:compBuildSlice X none key o ty len parts S K=.ok t)(hr:Rel F S ρ ids s)(hrun:Run X.P C n t ρ R):SeqOk X F C n R K S ρ s o:=by
 unfold compBuildSlice at h;split at h
 ·rename_i e hu;split at h
  ·rename_i z hz;split at h
   ·rename_i hcnd;obtain⟨c1,c2,c3,c4,c5⟩:=hcnd;split at h
    ·obtain⟨cs,S1,ρ1,t1,h1,h2,h3,h4,h5,h6⟩:=parts_ok hr parts (λ_=>e) h hrun;split at h1
     ·rename_i l hl;obtain⟨l',g1,g2⟩:=fillS_ok h6 (rvl_repl (rvl_cst c1) len) hl;refine⟨s,Silent.refl s,?_⟩;simp only[opW,hop,hu,Option.elim_some,hz];exact⟨c2,c3,c4,c5,l',g1,.inr (.inr ⟨_,ρ1,ids,t1,h1,h2.newHd o.dst _ _ g2,h3,h4.trans (Ext.newHd _ _ _ _ _ _)⟩)⟩
     ·cases h1
    refine seq_thaw h hr hrun λS ρ ids s t h hr hrun=>?_;obtain⟨cs,S1,ρ1,t1,h1,h2,h3,h4,h5,h6⟩:=parts_ok hr parts (λ_=>e) h hrun;split at h1
    ·rename_i l hl;obtain⟨l',g1,g2⟩:=fillS_ok h6 (rvl_repl (rvl_cst c1) len) hl;have hlen:l'.length=len*X.P.cellsOf e:=by rw[aFill_length g1,repl_length,c3]
     split at h1
     ·rename_i ps hps;obtain⟨hpd,hpp⟩:=rvl_pe g2 hps;refine⟨s,Silent.refl s,?_⟩;simp only[opW,hop,hu,Option.elim_some,hz];refine⟨c2,c3,c4,c5,l',g1,?_⟩;split at h1
      ·simp only[Option.isSome_none,Bool.false_eq_true,if_false]at h1;obtain⟨t2,ht,rfl⟩:=emit_ok h1;obtain⟨v,hv,hrun2⟩:=h3.prim;simp only[Prim.run,Option.some.injEq]at hv;have hv':v=.agg l':=by rw[←hv];congr 1;exact hpd.symm
       subst hv';have hb:=h2.bind (.agg l') false (by simp);obtain⟨v1,v2⟩:=var_ok h2 (.agg l') (by simpa only[PV.plain]using hpp);exact .inl (stp_mono (h4.trans (Ext.bind S1 ρ1 _ false)) (stp_newArr (a:=⟨X.P.cellsOf e,.real,.var S1.nv⟩) hb v1 v2 (by rw[←c3];exact c4) hlen rfl (λy e=>by cases e) ht hrun2))
      ·refine .inr (.inl ⟨_,ρ1,ids,t1,h1,h2.put o.dst ?_,h3,h4.put _ _⟩);unfold RV;exact⟨l',rfl,g2,hpp,hlen⟩
     ·cases h1
    ·cases h1
   ·cases h
  ·cases h
 ·cases h
theorem lex_buildSlice{b:Nat}{ty:TypeId}{len:Nat}{parts:Array (Nat×Operand)}(hop:o.op=.buildSlice ty len parts)(h:compBuildSlice X (some b) key o ty len parts S K=.ok t)(hr:Rel F S ρ ids s)(hrun:Run X.P C n t ρ R):PureOk X F C n R K S ρ s m0 o:=by
 unfold compBuildSlice at h;split at h
 ·rename_i e hu;split at h
  ·rename_i z hz;split at h
   ·rename_i hcnd;obtain⟨c1,c2,c3,c4,c5⟩:=hcnd;simp only[Option.isNone_some,Bool.false_and,Bool.false_eq_true,if_false]at h;unfold thaw at h;split at h
    ·obtain⟨cs,S1,ρ1,t1,h1,h2,h3,h4,h5,h6⟩:=parts_ok hr parts (λ_=>e) h hrun;split at h1
     ·rename_i l hl;obtain⟨l',g1,g2⟩:=fillS_ok h6 (rvl_repl (rvl_cst c1) len) hl;have hlen:l'.length=len*X.P.cellsOf e:=by rw[aFill_length g1,repl_length,c3]
      split at h1
      ·rename_i ps hps;obtain⟨hpd,hpp⟩:=rvl_pe g2 hps;split at h1
       ·simp only[Option.isSome_some,if_true]at h1;cases h1
       ·refine⟨.sl none (X.P.cellsOf e) 0 len l',?_,_,ρ1,ids,t1,h1,h2.put o.dst ?_,h3,h4.put _ _⟩
        ·simp only[pureV,hop,hu,hz];rw[if_pos ⟨c2,c3,c4,c5⟩,g1];rfl
        ·unfold RV;exact⟨l',rfl,g2,hpp,hlen⟩
      ·cases h1
     ·cases h1
    ·simp only[Option.isSome_some,if_true]at h;cases h
   ·cases h
  ·cases h
 ·cases h
end
end
section
open Go Go.RowKit
variable[Sp]
def AnsR(P:Program)(f:FuncId)(args:List PV)(m:Mem)(R:PV->Prop):Prop:=ECalls P f args m λv E m'=>R v/\v.plain=true/\E=[]/\m'=m
def ArgR(DI:List PV->Prop)(m:Mem)(p q:PV):Prop:=(q=p/\p.plain=true)\/(p=.ptr 0 0/\∃i,q=.ptr i 0/\i<m.n/\m.β i=.inv DI)
def ArgL(DI:List PV->Prop)(m:Mem):List PV->List PV->Prop
 |[],l=>l=[]
 |p::ps,l=>∃q l',l=q::l'/\ArgR DI m p q/\ArgL DI m ps l'
structure CSound(P:Program)(DI:List PV->Prop)(C:Orc->FuncId->List PV->Option PV):Prop where
 ans:∀g args,(∀ω,(C ω g args).isSome)->∀args' m,ArgL DI m args args'->AnsR P g args' m λv=>∃ω,C ω g args=some v
 plain:∀ω g args v,C ω g args=some v->v.plain=true
 fn:∀ω g args v,C ω g args=some v->∃fn,P.funcs[g]?=some fn/\fn.name ≠ "runtime.NumGoroutine" /\ fn.body.isSome
def DiceNew(P:Program)(DI:List PV->Prop)(g:FuncId):Prop:=∀x m,intsB x=true->ECalls P g [x] m λv E m'=>v=.ptr m.n 0/\E=[]/\m'=⟨updB m.β m.n (.inv DI),m.n+1,m.an,m.rc⟩
def SortOk(P:Program)(f:FuncId):Prop:=∀cs m,cs.all intB=true->cs.length<1099511627776 ->
 (∀id,ECalls P f [.sl (some id) 1 0 cs.length cs] m λv E m'=>v=.undef/\E=wrs id 0 (sortP cs)/\m'={ m with β:=λi=>(m.β i).sub (wrs id 0 (sortP cs)) }) /\
 ECalls P f [.snil] m λv E m'=>v=.undef/\E=[]/\m'=m
def CompOk(P:Program)(f:FuncId):Prop:=∀cs m,cs.all intB=true->cs.length<1099511627776 ->
 (∀id,ECalls P f [.sl (some id) 1 0 cs.length cs] m λv E m'=>v=.sl none 1 0 (compP cs).length (compP cs)/\E=[.kill id]/\m'={ m with β:=λi=>(m.β i).sub [.kill id] }) /\
 ECalls P f [.snil] m λv E m'=>v=.snil/\E=[]/\m'=m
structure NewOk(P:Program)(DI:List PV->Prop)(g:LibF):Prop where
 new:(P.funcs[g.new]?).isSome->DiceNew P DI g.new
 srt:∀f,g.srt=some f->SortOk P f
 cpt:∀f,g.cpt=some f->CompOk P f
def detok:PV->PV
 |.ptr _ _=>.ptr 0 0
 |p=>p
theorem detok_plain{p:PV}(h:p.plain=true):detok p=p:=by cases p<;>first|rfl|simp[PV.plain]at h
theorem argL_detok{DI:List PV->Prop}{m:Mem}:∀{ps qs:List PV},ArgL DI m ps qs->qs.map detok=ps
 |[],qs,h=>by simp only[ArgL]at h;subst h;rfl
 |p::ps,qs,h=>by
  obtain⟨q,l',rfl,h1,h2⟩:=h;simp only[List.map_cons,argL_detok h2];congr 1;rcases h1 with⟨rfl,hp⟩|⟨rfl,i,rfl,_⟩
  ·exact detok_plain hp
  ·rfl
section
variable{X:Ctx}{F:Frm}{C:Orc->FuncId->List PV->Option PV}{n:Nat}{R:Out->Prop}{S:Sym}{ρ:List PV}{ids:Nat->Option Nat}{s:St}{K:Sym->M}{t:Tree}{o:Oper}{m0:Mem}{inl yl:Inl}{lx:Option Nat}{key:Nat}{E:Env}
def RVA(F:Frm)(E:Env):List SV->List PV->Prop
 |[],l=>l=[]
 |v::vs,l=>∃q l',l=q::l'/\RV F E v q/\RVA F E vs l'
theorem rva_append:∀{a:List SV}{a':List PV}{b:List SV}{b':List PV},RVA F E a a'->RVA F E b b'->RVA F E (a++b) (a'++b')
 |[],a',b,b',h,k=>by simp only[RVA]at h;subst h;simpa using k
 |v::a,a',b,b',h,k=>by
  obtain⟨q,r,rfl,h1,h3⟩:=h;exact⟨q,r++b',rfl,h1,rva_append h3 k⟩
theorem rva_evs(hr:Rel F S ρ ids s):∀(l:List Operand),RVA F (S.env ρ ids) (l.map S.ev) (l.map s.ev)
 |[]=>rfl
 |x::l=>⟨_,_,rfl,hr.ev x,rva_evs hr l⟩
theorem rva_of_rvl:∀{a:List SV}{a':List PV},RVL F E a a'->RVA F E a a'
 |[],a',h=>by simp only[RVL]at h;exact h
 |v::a,a',h=>by
  simp only[RVL]at h;obtain⟨q,r,rfl,h1,_,h3⟩:=h;exact⟨q,r,rfl,h1,rva_of_rvl h3⟩
theorem litArgs_ok(hr:Rel F S ρ ids s)(hn:NearX F lx m0 s){m:Mem}(hm:Near m0 m):∀{l:List SV}{l':List PV}{ps:List PE},litArgs lx S l=some ps->RVA F (S.env ρ ids) l l'->ArgL F.DI m (denL ρ ps) l'
 |[],l',ps,h,hv=>by
  simp only[litArgs,Option.some.injEq]at h;subst h;exact hv
 |v::l,l',ps,h,hv=>by
  obtain⟨q,r,rfl,h1,h2⟩:=hv;have hold:∀i,i<F.n0->F.β0 i=.inv F.DI->i<m.n/\m.β i=.inv F.DI:=λi hi hb=>by
   have hi0:i<m0.n:=by
    cases lx with
    |none=>simp only[NearX]at hn;subst hn;rw[hr.boxn];omega
    |some b=>rw[hn.1];omega
   refine⟨Nat.lt_of_lt_of_le hi0 hm.1,?_⟩;have hs:s.m.β i=.inv F.DI:=by rw[hr.old i hi];exact hb
   have e:=near_of hn;rw[hm.2 i hi0,←e.2 i hi0,hs]
  simp only[litArgs]at h;split at h
  ·rename_i ps' hl;injection h with h;subst h;simp only[RV]at h1;exact⟨q,r,rfl,.inr ⟨rfl,F.d0,h1.1,hold F.d0 h1.2.1 h1.2.2⟩,litArgs_ok hr hn hm hl h2⟩
  ·rename_i i ps' hl;split at h
   ·rename_i hb;split at h
    ·rename_i hlx;injection h with h;subst h;simp only[RV]at h1;refine⟨q,r,rfl,.inr ⟨rfl,F.n0+i,h1.1,?_⟩,litArgs_ok hr hn hm hl h2⟩;have hbx:=hr.box i _ hb;have hi0:F.n0+i<m0.n:=by
      have hlt:i<S.bx.length:=h1.2;cases lx with
      |none=>simp only[NearX]at hn;subst hn;rw[hr.boxn];omega
      |some b=>
       simp only[Option.all_some,decide_eq_true_eq]at hlx;rw[hn.1];omega
     refine⟨Nat.lt_of_lt_of_le hi0 hm.1,?_⟩;have e:=near_of hn;rw[hm.2 _ hi0,←e.2 _ hi0];exact hbx
    ·cases h
   ·cases h
  ·rename_i ps' _ _ hl;split at h
   ·rename_i p hp;injection h with h;subst h;obtain⟨e1,e2⟩:=pe_den hp h1;have e1':q=p.den ρ:=e1;exact⟨q,r,rfl,.inl ⟨e1',by rw[←e1'];exact e2⟩,litArgs_ok hr hn hm hl h2⟩
   ·cases h
  ·cases h
def own1(p v:PV)(a a':Nat):Prop:=(∃sz len cs id,p=.sl none sz 0 len cs/\v=.sl (some id) sz 0 len cs/\a<=id/\id<a')\/(p=.snil/\v=.snil)
def OwnV(path:Option (Nat×Nat))(p v:PV)(a a':Nat):Prop:=match path with
 |none=>own1 p v a a'
 |some (_,j)=>∃ps x y,p=.agg ps/\ps[j]?=some x/\v=.agg (ps.set j y)/\own1 x y a a'
def OwnSound(P:Program)(DI:List PV->Prop)(C:Orc->FuncId->List PV->Option PV)(g:FuncId)(path:Option (Nat×Nat)):Prop:=
 ∀args,(∀ω,(C ω g args).isSome)->∀args' m,ArgL DI m args args'->ECalls P g args' m λv E m'=>∃p ω,C ω g args=some p/\p.plain=true/\E=[]/\m'={ m with an:=m'.an }/\m.an<=m'.an/\OwnV path p v m.an m'.an
def OwnAll(X:Ctx)(DI:List PV->Prop)(C:Orc->FuncId->List PV->Option PV):Prop:=∀g r,findOr X.ownr g=some r->OwnSound X.P DI C g r.1
theorem rvl_set{l:List SV}{l':List PV}(h:RVL F E l l'){v:SV}{q:PV}(hv:RV F E v q)(hq:q.one=true)(j:Nat):RVL F E (l.set j v) (l'.set j q):=by
 rw[rvl_iff]at h⊢;refine⟨by simp[h.1],λi u r hi hr=>?_⟩;simp only[List.getElem?_set]at hi hr;by_cases e:j=i
 ·subst e;rw[if_pos rfl]at hi hr;split at hi
  ·rename_i hl;rw[if_pos (by rw[←h.1];exact hl)]at hr;injection hi with hi;injection hr with hr;subst hi;subst hr;exact⟨hv,.inr hq⟩
  ·cases hi
 ·rw[if_neg e]at hi hr;exact h.2 i u r hi hr
theorem take1_ok{r:Bool}{sz:Nat}{y:SE}{KK:AR->Sym->M}{v:PV}{a a':Nat}(h:takeC r sz (.e y) S KK=.ok t)(hr:Rel F S ρ ids s)(hrun:Run X.P C n t ρ R)(ho:own1 (y.den ρ) v a a')(hy:y.ok ρ):
  ∃(ar:AR)(S1:Sym)(ρ1:List PV)(t1:Tree)(cs:List PV)(xid:Option Nat),KK ar S1=.ok t1/\Rel F S1 ρ1 ids s/\Run X.P C n t1 ρ1 R/\Ext S ρ S1 ρ1/\S1.ar=S.ar/\ar.c.ok ρ1/\ar.c.den ρ1=.agg cs/\0<ar.sz/\cs.length=cs.length/ar.sz*ar.sz/\isNil ρ1 ar.born cs=some xid.isNone/\(∀y,ar.born=.dyn y->y.ok ρ1) /\
   v=(match xid with|some id=>.sl (some id) ar.sz 0 (cs.length/ar.sz) cs|none=>.snil)/\(∀id,xid=some id->a<=id/\id<a')/\ar.born.lst=true:=by
 have hp:(y.den ρ).plain=true:=SE.ok_plain hy;unfold takeC at h;split at h
 ·cases h
 ·rename_i hsz;obtain⟨t1,h1,rfl⟩:=emit_ok h;obtain⟨c,hc,hrun⟩:=hrun.prim;simp only[Prim.run,PE.den]at hc;have key:∃cs,c=.agg cs/\plainC cs=true/\cs.length=cs.length/sz*sz/\∃xid:Option Nat,(r=true->xid.isNone=false)/\isnilV (y.den ρ)=some (.bool xid.isNone)/\(xid=none->cs=[])/\v=(match xid with|some id=>.sl (some id) sz 0 (cs.length/sz) cs|none=>.snil)/\∀id,xid=some id->a<=id/\id<a':=by
   rcases ho with⟨sz',len,cs,id,e1,e2,e3,e4⟩|⟨e1,e2⟩
   ·rw[e1]at hc hp⊢;simp only[contV]at hc;split at hc
    ·rename_i hh;injection hc with hc;obtain⟨rfl,hl⟩:=hh;have hd:cs.length/sz'=len:=by rw[hl];exact Nat.mul_div_cancel _ (by omega)
     exact⟨cs,hc.symm,by simpa only[PV.plain]using hp,by rw[hd];exact hl,some id,λ_=>rfl,rfl,λh=>(by cases h),(by rw[e2,hd]),λid' h=>(by cases h;exact⟨e3,e4⟩)⟩
    ·cases hc
   ·rw[e1]at hc⊢;simp only[contV]at hc;split at hc
    ·cases hc
    ·rename_i hh;injection hc with hc;exact⟨[],hc.symm,rfl,by simp,none,λh=>absurd h hh,rfl,λ_=>rfl,e2,λid h=>(by cases h)⟩
  obtain⟨cs,rfl,hpl,hlen,xid,k1,k2,k3,k4,k5⟩:=key;have hb:=hr.bind (.agg cs) false (by simp);obtain⟨g1,g2⟩:=var_ok hr (.agg cs) (by simpa only[PV.plain]using hpl);split at h1
  ·rename_i hr1;refine⟨_,_,_,t1,cs,xid,h1,hb,hrun,Ext.bind S ρ _ false,rfl,g1,g2,by show 0<sz;omega,hlen,?_,λy hy=>(by cases hy),k4,k5,rfl⟩;simp only[isNil,k1 hr1]
  ·obtain⟨t2,h2,rfl⟩:=emit_ok h1;obtain⟨b,hb2,hrun⟩:=hrun.prim;have hden:y.den (ρ++[.agg cs])=y.den ρ:=(SE.den_prefix (List.prefix_append _ _) hy).1;simp only[Prim.run,PE.den]at hb2;rw[hden,k2]at hb2;injection hb2 with hb2;subst hb2;have hb':=hb.bind (.bool xid.isNone) true (λ_=>rfl);obtain⟨g3,g4⟩:=var_ok hb (.bool xid.isNone) rfl;obtain⟨e1,e2⟩:=SE.den_prefix (List.prefix_append (ρ++[PV.agg cs]) [.bool xid.isNone]) g1;refine⟨_,_,_,t2,cs,xid,h2,hb',hrun,(Ext.bind S ρ _ false).trans (Ext.bind _ _ _ true),rfl,e2,e1.trans g2,by show 0<sz;omega,hlen,?_,λy hy=>(by cases hy;exact g3),k4,k5,rfl⟩;simp only[isNil,g4];cases hx:xid with
   |none=>rw[k3 hx];rfl
   |some id=>rfl
theorem takeOwn_ok{r:Option (Nat×Nat)×Nat×Bool}{d:Option Tmp}{p v:PV}{m':Mem}(h:takeOwn r (.var S.nv) d S.var K=.ok t)(hr:Rel F S ρ ids s)(hrun:Run X.P C n t (ρ++[p]) R)(hp:p.plain=true)(ho:OwnV r.1 p v s.m.an m'.an)(hm:m'={ s.m with an:=m'.an })(han:s.m.an<=m'.an):
  ∃S'' ρ'' ids'' t'',K S''=.ok t''/\Rel F S'' ρ'' ids'' ({ s with m:=m' }.put d v)/\Run X.P C n t'' ρ'' R/\Ext S ρ S'' ρ'':=by
 have hb:=hr.bind p false (by simp);obtain⟨g1,g2⟩:=var_ok hr p hp;have fin:∀{S1:Sym}{ρ1:List PV}{ar:AR}{cs:List PV}{xid:Option Nat},Rel F S1 ρ1 ids s->ar.c.ok ρ1->ar.c.den ρ1=.agg cs->0<ar.sz->cs.length=cs.length/ar.sz*ar.sz->isNil ρ1 ar.born cs=some (Option.isNone xid)->(∀y,ar.born=.dyn y->y.ok ρ1)->(∀id,xid=some id->s.m.an<=id/\id<m'.an)->ar.born.lst=true ->
   Rel F ({ S1 with ar:=S1.ar++[some ar] }:Sym) ρ1 (withId ids S1.ar.length xid) { s with m:=m' }/\RV F (({ S1 with ar:=S1.ar++[some ar] }:Sym).env ρ1 (withId ids S1.ar.length xid)) (.own S1.ar.length) (match xid with|some id=>.sl (some id) ar.sz 0 (cs.length/ar.sz) cs|none=>.snil):=by
  intro S1 ρ1 ar cs xid q1 q2 q3 q4 q5 q6 q7 q8 ql;obtain⟨u1,u2⟩:=q1.addAr (x:=xid) q2 q3 q4 q5 q6 q7 (s':={ s with m:=m' }) rfl (by rw[hm]) (by rw[hm]) han q8 rfl rfl (by rw[hm]);refine⟨u1,?_⟩;simp only[RV];refine⟨ar,cs,by simp[Sym.env,List.getD_eq_getElem?_getD],u2,?_⟩;simp only[Sym.env,withId,if_true];rw[ownV_lst ql];cases xid<;>rfl
 obtain⟨path,sz,b⟩:=r;cases path with
 |none=>
  simp only[takeOwn]at h;have ho:own1 p v s.m.an m'.an:=ho;obtain⟨ar,S1,ρ1,t1,cs,xid,h1,q1,q2,q3,q4,q5,q6,q7,q8,q9,q10,q11,q12,ql⟩:=take1_ok (X:=X) h (show Rel F S.var (ρ++[p]) ids s from hb) hrun (by rw[g2];exact ho) g1;obtain⟨u1,u2⟩:=fin q1 q5 q6 q7 q8 q9 q10 q12 ql;rw[←q11]at u2;refine⟨_,ρ1,_,t1,h1,u1.put d u2,q2,?_⟩;have hx:Ext S ρ S.var (ρ++[p]):=Ext.bind S ρ p false;have hy:Ext S1 ρ1 ({ S1 with ar:=S1.ar++[some ar] }:Sym) ρ1:=⟨List.prefix_refl _,rfl,rfl,rfl,rfl,rfl,Nat.le_refl _,rfl⟩;exact((hx.trans q3).trans hy).put _ _
 |some nj=>
  obtain⟨nn,j⟩:=nj;simp only[takeOwn]at h;obtain⟨ps,x,y,rfl,e2,rfl,ho⟩:=ho;obtain⟨t1,h1,rfl⟩:=emit_ok h;obtain⟨c,hc,hrun⟩:=hrun.prim;simp only[Prim.run,PE.den,g2,aggV]at hc;split at hc
  ·rename_i hl;injection hc with hc;subst hc;have hbv:Rel F S.var (ρ++[.agg ps]) ids s:=hb;have hb2:=hbv.bind (.agg ps) false (by simp);obtain⟨g3,g4⟩:=var_ok hbv (.agg ps) hp;have hpc:plainC ps=true:=by simpa only[PV.plain]using hp
   have hxp:=((plainC_iff ps).1 hpc x (List.mem_of_getElem? e2));have hproj:SE.den ((ρ++[.agg ps])++[.agg ps]) (.proj (.var S.var.nv) j)=x:=by
    show projV (SE.den ((ρ++[.agg ps])++[.agg ps]) (.var S.var.nv)) j=x;rw[g4];simp[projV,List.getD_eq_getElem?_getD,e2]
   have hpok:SE.ok ((ρ++[.agg ps])++[.agg ps]) (.proj (.var S.var.nv) j):=⟨g3,by
    have:projV (SE.den ((ρ++[.agg ps])++[.agg ps]) (.var S.var.nv)) j=x:=hproj;rw[this];exact hxp.1⟩
   obtain⟨ar,S1,ρ1,t1,cs,xid,h2,q1,q2,q3,q4,q5,q6,q7,q8,q9,q10,q11,q12,ql⟩:=take1_ok (X:=X) h1 hb2 hrun (by rw[hproj];exact ho) hpok;obtain⟨u1,u2⟩:=fin q1 q5 q6 q7 q8 q9 q10 q12 ql;rw[←q11]at u2;have hx:Ext S ρ S.var (ρ++[.agg ps]):=Ext.bind S ρ _ false;have hx2:Ext S.var (ρ++[.agg ps]) (S.var.bind false) ((ρ++[.agg ps])++[.agg ps]):=Ext.bind _ _ _ false;have hy:Ext S1 ρ1 ({ S1 with ar:=S1.ar++[some ar] }:Sym) ρ1:=⟨List.prefix_refl _,rfl,rfl,rfl,rfl,rfl,Nat.le_refl _,rfl⟩;obtain⟨d1,d2⟩:=SE.den_prefix q3.pre g3;refine⟨_,ρ1,_,t1,h2,u1.put d (v:=.agg (((List.range nn).map λi=>SV.e (.proj (.var S.var.nv) i)).set j (.own S1.ar.length))) ?_,q2,(((hx.trans hx2).trans q3).trans hy).put _ _⟩;simp only[RV];refine⟨_,rfl,rvl_set ?_ u2 ?_ j⟩
   ·exact rvl_projs0 (by show SE.den ρ1 _=_;rw[d1,g4]) d2 hl
   ·rw[q11];cases xid<;>rfl
  ·cases hc
theorem contV_own{r:Bool}{sz:Nat}{x c:PV}(h:contV r sz x=some c)(an:Nat):∃v,own1 x v an (an+1):=by
 unfold contV at h;split at h
 ·exact⟨.snil,.inr ⟨rfl,rfl⟩⟩
 ·rename_i sz' len cs;split at h
  ·exact⟨.sl (some an) sz' 0 len cs,.inl ⟨sz',len,cs,an,rfl,rfl,Nat.le_refl _,by omega⟩⟩
  ·cases h
 ·cases h
theorem takeC_cont{r:Bool}{sz:Nat}{x:PE}{KK:AR->Sym->M}(h:takeC r sz x S KK=.ok t)(hrun:Run X.P C n t ρ R):∃c,contV r sz (x.den ρ)=some c:=by
 unfold takeC at h;split at h
 ·cases h
 ·obtain⟨t1,h1,rfl⟩:=emit_ok h;obtain⟨c,hc,_⟩:=hrun.prim;exact⟨c,hc⟩
theorem takeOwn_shape{r:Option (Nat×Nat)×Nat×Bool}{d:Option Tmp}{p:PV}(h:takeOwn r (.var S.nv) d S.var K=.ok t)(hr:Rel F S ρ ids s)(hrun:Run X.P C n t (ρ++[p]) R)(hp:p.plain=true)(an:Nat):∃v,OwnV r.1 p v an (an+1):=by
 obtain⟨g1,g2⟩:=var_ok hr p hp;obtain⟨path,sz,b⟩:=r;cases path with
 |none=>
  simp only[takeOwn]at h;obtain⟨c,hc⟩:=takeC_cont (X:=X) h hrun;simp only[PE.den,g2]at hc;exact contV_own hc an
 |some nj=>
  obtain⟨nn,j⟩:=nj;simp only[takeOwn]at h;obtain⟨t1,h1,rfl⟩:=emit_ok h;obtain⟨c,hc,hrun⟩:=hrun.prim;simp only[Prim.run,PE.den,g2,aggV]at hc;cases p with
  |agg ps=>
   simp only[]at hc;split at hc
   ·injection hc with hc;subst hc;have hbv:Rel F S.var (ρ++[.agg ps]) ids s:=hr.bind (.agg ps) false (by simp);obtain⟨g3,g4⟩:=var_ok hbv (.agg ps) hp;obtain⟨c,hc⟩:=takeC_cont (X:=X) h1 hrun;have hproj:PE.den ((ρ++[.agg ps])++[.agg ps]) (.e (.proj (.var S.var.nv) j))=ps.getD j .bad:=by
     show projV (SE.den ((ρ++[.agg ps])++[.agg ps]) (.var S.var.nv)) j=_;rw[g4];rfl
    rw[hproj,List.getD_eq_getElem?_getD]at hc;cases hj:ps[j]? with
    |none=>rw[hj]at hc;simp[contV]at hc
    |some x=>
     rw[hj]at hc;obtain⟨y,hy⟩:=contV_own (by simpa using hc) an;exact⟨_,ps,x,y,rfl,hj,rfl,hy⟩
   ·cases hc
  |_=>cases hc
theorem after_nil(s:St):s.after [] s.m=s:=by
 have:addEff s.a0.a s.eff []=s.eff:=by cases s.eff<;>simp[addEff]
 simp[St.after,PV.sub,this]
theorem seq_pure_call{c:Call}{f:Operand}{g:FuncId}{caps:List PV}{args:List PV}(hC:CSound X.P F.DI C)(hop:o.op=.call c)(hcal:c.callee=.value f)(hf:s.ev f=.fn g caps)(ha:ArgL F.DI s.m args (fnA g (c.args.toList.map s.ev) caps))
  {t':Tree} (hsome:∀ω,(C ω (fnG g) args).isSome) (hrun:∀ω v,C ω (fnG g) args=some v->Run X.P C n t' (ρ++[v]) R) (hr:Rel F S ρ ids s)
  (h:K (S.var.put o.dst (.e (.var S.nv)))=.ok t'):SeqOk X F C n R K S ρ s o:=by
 refine⟨s,Silent.refl s,?_⟩;simp only[opW,hop,hcal,hf];obtain⟨v0,hv0⟩:=Option.isSome_iff_exists.1 (hsome orc0);refine⟨hC.fn _ _ _ _ hv0,((hC.ans _ _ hsome _ _ ha).mono ?_).y⟩;rintro v E m' ⟨⟨ω,hv⟩,hp,rfl,rfl⟩;rw[after_nil];have hb:=hr.bind v false (by simp);obtain⟨g1,g2⟩:=var_ok hr v hp;exact⟨_,_,ids,t',h,hb.put o.dst (by unfold RV;exact⟨g2.symm,g1⟩),hrun ω v hv,(Ext.bind S ρ v false).put _ _⟩
theorem argL_fnA{DI:List PV->Prop}{m:Mem}{g:FuncId}{a a' b b':List PV}(happ:∀{a a' b b':List PV},ArgL DI m a a'->ArgL DI m b b'->ArgL DI m (a++b) (a'++b'))(ha:ArgL DI m a a')(hb:ArgL DI m b b'):ArgL DI m (fnA g a b) (fnA g a' b'):=by
 unfold fnA;split
 ·exact happ ha hb
 ·exact happ hb ha
theorem rva_fnA{E:Env}{g:FuncId}{a b:List SV}{a' b':List PV}(ha:RVA F E a a')(hb:RVA F E b b'):RVA F E (fnA g a b) (fnA g a' b'):=by
 unfold fnA;split
 ·exact rva_append ha hb
 ·exact rva_append hb ha
def InlOk(X:Ctx)(C:Orc->FuncId->List PV->Option PV)(n:Nat)(inl:Inl):Prop:=
 ∀(F:Frm)(R:Out->Prop)(key:Nat)(g:FuncId)(args:List SV)(K:SV->Sym->M)(S:Sym)(ρ:List PV)(ids:Nat->Option Nat)(s:St)(t:Tree)(qs:List PV),
  F.P=X.P->CSound X.P F.DI C->NewOk X.P F.DI X.diceNew->OwnAll X F.DI C->inl key g args S K=.ok t->Rel F S ρ ids s->RVA F (S.env ρ ids) args qs->Run X.P C n t ρ R ->
  ECallsY X.P s.nowY g qs s.m λq E m'=>∃v S' ρ' ids' t',K v S'=.ok t'/\Rel F S' ρ' ids' (s.after E m')/\RV F (S'.env ρ' ids') v q/\Run X.P C n t' ρ' R/\Ext S ρ S' ρ'
theorem seq_inl{c:Call}{f:Operand}{g:FuncId}{caps:List SV}{fn:Func}(hF:F.P=X.P)(hC:CSound X.P F.DI C)(hN:NewOk X.P F.DI X.diceNew)(hO:OwnAll X F.DI C)(hI:InlOk X C n inl)(hop:o.op=.call c)(hcal:c.callee=.value f)(hB:g<fnB)(hf:S.ev f=.fn g caps)(hfn:X.P.funcs[g]?=some fn)(hname:¬(fn.name = "runtime.NumGoroutine" \/ fn.body.isNone))
  (h:inl key g (c.args.toList.map S.ev++caps) S (λv S=>K (S.put o.dst v))=.ok t) (hr:Rel F S ρ ids s) (hrun:Run X.P C n t ρ R):SeqOk X F C n R K S ρ s o:=by
 have hfv:=hr.ev f;rw[hf]at hfv;unfold RV at hfv;obtain⟨l',e,hl⟩:=hfv;refine⟨s,Silent.refl s,?_⟩;simp only[opW,hop,hcal,e,fnG_lt hB,fnA_lt hB];refine⟨⟨fn,hfn,λe=>hname (.inl e),by cases hb:fn.body<;>simp[hb]at hname⊢⟩,?_⟩;refine(hI F R key g _ _ S ρ ids s t _ hF hC hN hO h hr (rva_append (rva_evs hr _) (rva_of_rvl hl)) hrun).mono ?_;rintro q E m' ⟨v,S',ρ',ids',t',h1,h2,h3,h4,h5⟩;exact⟨_,ρ',ids',t',h1,h2.put o.dst h3,h4,h5.put _ _⟩
def YldOk(X:Ctx)(C:Orc->FuncId->List PV->Option PV)(n:Nat)(yl:Inl):Prop:=
 ∀(F:Frm)(R:Out->Prop)(key:Nat)(y:Nat)(args:List SV)(K:SV->Sym->M)(S:Sym)(ρ:List PV)(ids:Nat->Option Nat)(s:St)(t:Tree)(qs:List PV),
  F.P=X.P->CSound X.P F.DI C->NewOk X.P F.DI X.diceNew->OwnAll X F.DI C->yl key y args S K=.ok t->Rel F S ρ ids s->RVA F (S.env ρ ids) args qs->Run X.P C n t ρ R ->
  ∃yr st pd,yr∈s.nowY/\F.ent.ys[y]?.map YRec.l=some yr.l/\(yr.l,{ yr.o with state:=st,pending:=pd })∈s.m.rc/\qs.length=yr.o.params.size /\
   EYield X.P s.nowY yr.o yr.l qs s.m λq E m'=>∃v S' ρ' ids' t',K v S'=.ok t'/\Rel F S' ρ' ids' (s.after E m')/\RV F (S'.env ρ' ids') v q/\Run X.P C n t' ρ' R/\Ext S ρ S' ρ'
theorem seq_yld{c:Call}{f:Operand}{y:Nat}(hF:F.P=X.P)(hC:CSound X.P F.DI C)(hN:NewOk X.P F.DI X.diceNew)(hO:OwnAll X F.DI C)(hY:YldOk X C n yl)(hop:o.op=.call c)(hcal:c.callee=.value f)(hf:S.ev f=.yld y)
  (h:yl key y (c.args.toList.map S.ev) S (λv S=>K (S.put o.dst v))=.ok t) (hr:Rel F S ρ ids s) (hrun:Run X.P C n t ρ R):SeqOk X F C n R K S ρ s o:=by
 have hfv:=hr.ev f;rw[hf]at hfv;unfold RV at hfv;obtain⟨l',e1,e⟩:=hfv;refine⟨s,Silent.refl s,?_⟩;simp only[opW,hop,hcal,e];obtain⟨yr,st,pd,h1,h2,h3,h4,h5⟩:=hY F R key y _ _ S ρ ids s t _ hF hC hN hO h hr (rva_evs hr _) hrun;rw[e1]at h2;injection h2 with h2;subst h2;refine⟨yr,st,pd,h1,rfl,h3,by simpa using h4,h5.mono ?_⟩;rintro q E m' ⟨v,S',ρ',ids',t',h1,h2,h3,h4,h5⟩;exact⟨_,ρ',ids',t',h1,h2.put o.dst h3,h4,h5.put _ _⟩
theorem rel_dice(h:Rel F S ρ ids s):Rel F ({ S with bx:=S.bx++[BX.dice] }:Sym) ρ ids { s with m:=⟨updB s.m.β s.m.n (.inv F.DI),s.m.n+1,s.m.an,s.m.rc⟩ }:=by
 have hle:(S.env ρ ids).le (({ S with bx:=S.bx++[BX.dice] }:Sym).env ρ ids):=⟨List.prefix_refl _,λ_ _ h=>h,by simp[Sym.env],λ_ _ _=>rfl⟩;refine⟨h.len,h.kn,λt=>RV.mono hle (h.slot t),by simp[h.boxn];omega,λi hi=>?_,λi b hb=>?_,h.idlt,h.idinj,λk a ha=>?_,h.a0,h.ent,h.efc,h.eff,h.new,h.keep,h.bbase,h.ba,by have:=h.bb;simp;omega,h.an,h.obd,h.rc⟩
 ·have:=h.boxn;simp only[updB_other _ _ _ _ (by omega:i≠s.m.n)];exact h.old i hi
 ·simp only[List.getElem?_append]at hb;have hn:=h.boxn;split at hb
  ·rename_i hlt;simp only[updB_other _ _ _ _ (by omega:F.n0+i≠s.m.n)];exact rb_mono hle (h.box i b hb)
  ·rename_i hge;have:i=S.bx.length:=by
    have:=(List.getElem?_eq_some_iff.1 hb).1;simp at this;omega
   subst this;simp at hb;subst hb;rw[←hn];simp only[updB_same];exact rfl
 ·obtain⟨cs,hc⟩:=h.arr k a ha;exact⟨cs,AR.rel.mono hle ha hc⟩
theorem seq_dice{c:Call}{f:Operand}{p:PE}(hC:NewOk X.P F.DI X.diceNew)(hop:o.op=.call c)(hcal:c.callee=.value f)(hB:X.diceNew.new<fnB)(hf:S.ev f=.fn X.diceNew.new [])(hp:peL (c.args.toList.map S.ev)=some [p]){fn:Func}(hfn:X.P.funcs[X.diceNew.new]?=some fn)(hname:¬(fn.name = "runtime.NumGoroutine" \/ fn.body.isNone))
  (h:emit (.ints p) false S (λ_ S=>K (Sym.put { S with bx:=S.bx++[BX.dice] } o.dst (.ptr S.bx.length 0)))=.ok t) (hr:Rel F S ρ ids s) (hrun:Run X.P C n t ρ R):SeqOk X F C n R K S ρ s o:=by
 obtain⟨t',hK,rfl⟩:=emit_ok h;obtain⟨pv,hpv,hrun⟩:=hrun.prim;simp only[Prim.run,intsV]at hpv;split at hpv
 case isFalse=>cases hpv
 rename_i hints;injection hpv with hpv;subst hpv;obtain⟨e1,e2⟩:=hr.evs _ _ hp;have hbd:=hr.bind (p.den ρ) false (by simp);have hfv:=hr.ev f;rw[hf]at hfv;unfold RV at hfv;obtain⟨l',e,hl⟩:=hfv;simp only[RVL]at hl;subst hl;refine⟨s,Silent.refl s,?_⟩;simp only[opW,hop,hcal,e,fnG_lt hB,fnA_lt hB];refine⟨⟨fn,hfn,λe=>hname (.inl e),by cases hb:fn.body<;>simp[hb]at hname⊢⟩,?_⟩;rw[List.append_nil,e1];refine ECalls.y ((hC.new (by rw[hfn];rfl) (p.den ρ) s.m hints).mono ?_);rintro v E m' ⟨rfl,rfl,rfl⟩;have hk:=rel_dice hbd;have haft:s.after [] ⟨updB s.m.β s.m.n (.inv F.DI),s.m.n+1,s.m.an,s.m.rc⟩={ s with m:=⟨updB s.m.β s.m.n (.inv F.DI),s.m.n+1,s.m.an,s.m.rc⟩ }:=by
  have:addEff s.a0.a s.eff []=s.eff:=by cases s.eff<;>simp[addEff]
  simp[St.after,PV.sub,this]
 rw[haft];have e0:(S.bind false).bx.length=S.bx.length:=rfl;refine⟨_,_,ids,t',hK,hk.put o.dst (by unfold RV;exact⟨by rw[hr.boxn,e0],by simp[Sym.env]⟩),hrun,?_⟩;have hx:Ext (S.bind false) (ρ++[p.den ρ]) ({ S.bind false with bx:=(S.bind false).bx++[BX.dice] }:Sym) (ρ++[p.den ρ]):=⟨List.prefix_refl _,rfl,rfl,rfl,rfl,rfl,by simp,rfl⟩;exact((Ext.bind S ρ _ false).trans hx).put _ _
end
end
end Go.Proofs.Ytjfejoadcdoobaa
