/- Part of the proof of TopTwins. No condition. -/
import Derived.Test.YtjfejoadcdoobaaMTopTwinsAN
namespace Go.Proofs.Ytjfejoadcdoobaa
set_option maxRecDepth 100000
set_option linter.all false
section
open Go Go.RowKit
variable[Sp]
section
variable{X:Ctx}{F:Frm}{C:Orc->FuncId->List PV->Option PV}{n:Nat}{R:Out->Prop}{S:Sym}{ρ:List PV}{ids:Nat->Option Nat}{s:St}{K:Sym->M}{t:Tree}{o:Oper}{m0:Mem}{inl yl:Inl}{lx:Option Nat}{key:Nat}{E:Env}
theorem own_mp{k:Nat}{a:AR}{q:PV}{it:MK}(hb:a.born.mk=some it)(ha:S.ar.getD k none=some a)(hq:RV F (S.env ρ ids) (.own k) q):∃cs id,a.rel (S.env ρ ids) k cs/\ids k=some id/\q=.mp it (some id) a.sz cs:=by
 unfold RV at hq;obtain⟨a',cs,h1,h2,h3⟩:=hq;have:a'=a:=by have:=h1.symm.trans ha;injection this
 subst this;have hn:=h2.2.2.2.2.1;have hid:((S.env ρ ids).ids k).isNone=false:=by
  rw[BN.mk_nil hb]at hn;exact(Option.some.inj hn).symm
 cases hi:(S.env ρ ids).ids k with
 |none=>rw[hi]at hid;cases hid
 |some id=>
  rw[hi,BN.mk_own hb]at h3;exact⟨cs,id,h2,hi,h3⟩
theorem plainC_app{a b:List PV}(ha:plainC a=true)(hb:plainC b=true):plainC (a++b)=true:=by
 rw[plainC_iff]at *;intro p hp;rcases List.mem_append.1 hp with h|h
 ·exact ha p h
 ·exact hb p h
theorem plainC_tk{a:List PV}(ha:plainC a=true)(i:Nat):plainC (a.take i)=true:=by
 rw[plainC_iff]at *;exact λp hp=>ha p (List.mem_of_mem_take hp)
theorem plainC_dp{a:List PV}(ha:plainC a=true)(i:Nat):plainC (a.drop i)=true:=by
 rw[plainC_iff]at *;exact λp hp=>ha p (List.mem_of_mem_drop hp)
theorem clean_agg{l:List PV}(it:MK)(h:plainC l=true)(id sz:Nat):Eff.clean (.wr id sz (it.wrV l)):=λn an=>by
 have:=plainC_bd n an l h;cases it<;>simp only[MK.wrV,PV.bd,bdL,true_and,and_true]<;>exact this
theorem seq_makeMap{ty:TypeId}{r:Option Operand}(hop:o.op=.makeMap ty r)(h:compMakeMap X none o ty r S K=.ok t)(hr:Rel F S ρ ids s)(hrun:Run X.P C n t ρ R):SeqOk X F C n R K S ρ s o:=by
 unfold compMakeMap at h;split at h
 ·cases h
 ·rename_i hr0;split at h
  ·rename_i kt e hu;split at h
   ·rename_i hpos;have hr1:r=none:=by
     cases r with
     |none=>rfl
     |some r=>exact absurd (.inr rfl) hr0
    split at h
    ·rename_i sc hsc;obtain⟨t',ht,rfl⟩:=emit_ok h;obtain⟨v,hv,hrun⟩:=hrun.prim;simp only[Prim.run,denL,Option.some.injEq]at hv;subst hv;have hb:=hr.bind (.agg []) false (by simp);obtain⟨g1,g2⟩:=var_ok hr (.agg []) rfl;refine⟨s,Silent.refl s,?_⟩;simp only[opW,hop,hu];exact⟨hr1,.inr ⟨sc,stp_mono (Ext.bind S ρ _ false) (stp_newMp (a:=⟨X.P.cellsOf kt+1,.tab sc,.var S.nv⟩) (it:=.tab sc) hb rfl g1 g2 (by simp) (by simp) ht hrun)⟩⟩
    obtain⟨t',ht,rfl⟩:=emit_ok h;obtain⟨v,hv,hrun⟩:=hrun.prim;simp only[Prim.run,denL,Option.some.injEq]at hv;subst hv;have hb:=hr.bind (.agg []) false (by simp);obtain⟨g1,g2⟩:=var_ok hr (.agg []) rfl;refine⟨s,Silent.refl s,?_⟩;simp only[opW,hop,hu];exact⟨hr1,.inl (stp_mono (Ext.bind S ρ _ false) (stp_newMp (a:=⟨X.P.cellsOf kt,.map,.var S.nv⟩) (it:=.set) hb rfl g1 g2 hpos (by simp) ht hrun))⟩
   ·cases h
  ·cases h
theorem hit_mp{k id:Nat}{a:AR}{it:MK}{cs cs':List PV}(hab:a.born.mk=some it)(ha:S.ar.getD k none=some a)(hr:Rel F S ρ ids s)(hrel:a.rel (S.env ρ ids) k cs)(hid:ids k=some id)(hpl:plainC cs'=true)(hl:cs'.length=cs'.length/a.sz*a.sz)
  {x:SE} (g1:x.ok ρ) (g2:x.den ρ=.agg cs'):Rel F (S.setArr k false { a with c:=x }) ρ ids (s.setMp it id a.sz cs'):=by
 refine(hr.hit (k:=k) (id:=id) (c':=x) (all:=false) (EE:=[.wr id a.sz (it.wrV cs')]) ha hrel hid (λe he=>?_) g1 g2 hl (BN.mk_nil hab cs') (λ_=>?_)).1
 ·simp only[List.mem_singleton]at he;subst he;exact⟨rfl,clean_agg it hpl id a.sz⟩
 ·rw[BN.mk_own hab,BN.mk_own hab];simp[PV.sub,PV.sub1,MK.wrOf_v]
theorem insC_facts{sz:Nat}{cs k:List PV}(hsz:0<sz)(hk:k.length=sz)(hl:cs.length=cs.length/sz*sz):(insC sz cs k).length=(insC sz cs k).length/sz*sz:=by
 unfold insC;split
 ·exact hl
 ·rw[List.length_append,hk,Nat.add_div_right _ hsz,Nat.succ_mul,←hl]
theorem seq_mapUpdate{ty:TypeId}{m k x:Operand}(hop:o.op=.mapUpdate ty m k x)(h:compMapUpdate X none o ty m k S K=.ok t)(hr:Rel F S ρ ids s)(hrun:Run X.P C n t ρ R):SeqOk X F C n R K S ρ s o:=by
 unfold compMapUpdate at h;split at h
 ·cases h
 ·rename_i hd0;have hdst:o.dst=none:=by cases hd:o.dst with|none=>rfl|some d=>exact absurd (.inr (by rw[hd];rfl)) hd0
  split at h
  ·rename_i kt e hu;split at h
   ·rename_i hky;split at h
    ·rename_i l kk hk hm;split at h
     ·rename_i a ps ha hps;split at h
      ·rename_i hmap;obtain⟨t',ht,rfl⟩:=emit_ok h;obtain⟨v,hv,hrun⟩:=hrun.prim;have hmv:=hr.ev m;rw[hm]at hmv;obtain⟨cs,id,h2,hid,hq⟩:=own_mp (it:=.set) (BN.mk_set hmap) ha hmv;have hkv:=hr.ev k;rw[hk]at hkv;unfold RV at hkv;obtain⟨l',hl',hrvl⟩:=hkv;obtain⟨p1,p2⟩:=peL_den hps hrvl;have hden:a.c.den ρ=.agg cs:=h2.2.1;simp only[Prim.run,hden,insV]at hv;rw[show denL ρ ps=l' from p1.symm]at hv;split at hv
       ·rename_i hc;obtain⟨c1,c2,c3,c4⟩:=hc;injection hv with hv;subst hv;have hpl:plainC (insC a.sz cs l')=true:=by
         unfold insC;split
         ·exact h2.plain
         ·exact plainC_app h2.plain p2
        have hb:=hr.bind (.agg (insC a.sz cs l')) false (by simp);obtain⟨g1,g2⟩:=var_ok hr (.agg (insC a.sz cs l')) (by simpa only[PV.plain]using hpl);have h2':=AR.rel.mono (Env.le_bind S ρ ids (.agg (insC a.sz cs l')) false) ha h2;refine⟨s,Silent.refl s,?_⟩;simp only[opW,hop,hu,hq,hl'];exact⟨hdst,keyedB_ok hky,c1,c2,c3,c4,_,_,ids,t',ht,hit_mp (it:=.set) (S:=S.bind false) (BN.mk_set hmap) ha hb h2' hid hpl (insC_facts c1 c2 h2.2.2.2.1) g1 g2,hrun,(Ext.bind S ρ _ false).trans (ext_set kk false _)⟩
       ·cases hv
      ·cases h
     ·cases h
    ·cases h
   ·cases h
  ·cases h
theorem repl_len(z:PV):∀n,(repl [z] n).length=n
 |0=>rfl
 |n+1=>by simp[repl,repl_len z n]
theorem repl_plain:∀n,plainC (repl [.nilp] n)=true
 |0=>rfl
 |n+1=>by simp only[repl,List.singleton_append,plainC,repl_plain n];rfl
theorem seq_rangeM{ty:TypeId}{x:Operand}(hop:o.op=.range ty x)(h:compRangeM X none o ty x S K=.ok t)(hr:Rel F S ρ ids s)(hrun:Run X.P C n t ρ R):SeqOk X F C n R K S ρ s o:=by
 unfold compRangeM at h;split at h
 ·cases h
 ·split at h
  ·rename_i kt e hu;refine seq_frz h hr hrun λS ρ ids s t h hr hrun=>?_;split at h
   ·rename_i y hx;obtain⟨t',ht,rfl⟩:=emit_ok h;obtain⟨v,hv,hrun⟩:=hrun.prim;have hxv:=hr.ev x;rw[hx]at hxv;unfold RV at hxv;simp only[Prim.run,PE.den]at hv;have e0:s.ev x=y.den ρ:=hxv.1;rw[←e0]at hv;unfold keysV at hv;split at hv
    ·rename_i sz' cs hq;split at hv
     ·rename_i hc;obtain⟨rfl,c1,c2,c3⟩:=hc;injection hv with hv;subst hv;have hpl:plainC (repl [.nilp] (X.P.cellsOf kt)++cs)=true:=plainC_app (repl_plain _) c2;have hb:=hr.bind (.agg (repl [.nilp] (X.P.cellsOf kt)++cs)) false (by simp);obtain⟨g1,g2⟩:=var_ok hr (.agg (repl [.nilp] (X.P.cellsOf kt)++cs)) (by simpa only[PV.plain]using hpl);refine⟨s,Silent.refl s,?_⟩;simp only[opW,hop,hu,hq];refine⟨c1,stp_mono (Ext.bind S ρ _ false) (stp_newMp (a:=⟨X.P.cellsOf kt,.it,.var S.nv⟩) (it:=.wlk) hb rfl g1 g2 c1 ?_ ht hrun)⟩;show(repl [.nilp] (X.P.cellsOf kt)++cs).length=(repl [.nilp] (X.P.cellsOf kt)++cs).length/X.P.cellsOf kt*X.P.cellsOf kt;rw[List.length_append,repl_len,Nat.add_div_left _ c1,Nat.succ_mul,←c3];omega
     ·cases hv
    ·cases hv
   ·cases h
  ·rename_i hu;split at h
   ·rename_i y hx;obtain⟨t',ht,rfl⟩:=emit_ok h;obtain⟨v,hv,hrun⟩:=hrun.prim;have hxv:=hr.ev x;rw[hx]at hxv;unfold RV at hxv;simp only[Prim.run,PE.den]at hv;have e0:s.ev x=y.den ρ:=hxv.1;rw[←e0]at hv;unfold siterV at hv;split at hv
    ·rename_i c hq;injection hv with hv;subst hv;have hb:=hr.bind (.agg [.str c,.int .i64 0]) false (by simp);obtain⟨g1,g2⟩:=var_ok hr (.agg [.str c,.int .i64 0]) rfl;refine⟨s,Silent.refl s,?_⟩;simp only[opW,hop,hu,hq];exact stp_mono (Ext.bind S ρ _ false) (stp_newMp (a:=⟨2,.sit,.var S.nv⟩) (it:=.sit) hb rfl g1 g2 (by simp) (by simp) ht hrun)
    ·cases hv
   ·cases h
  ·cases h
theorem tabOf_some{m:Operand}{kk:Nat}{a:AR}{sc:Bool}(h:tabOf S m=some (kk,a,sc)):S.ev m=.own kk/\S.ar.getD kk none=some a/\a.born=.tab sc:=by
 unfold tabOf at h;split at h
 ·rename_i k hk;split at h
  ·rename_i b hb;split at h
   ·rename_i sc' hsc;simp only[Option.some.injEq,Prod.mk.injEq]at h;obtain⟨rfl,rfl,rfl⟩:=h;exact⟨hk,hb,hsc⟩
   ·cases h
  ·cases h
 ·cases h
theorem seq_tabSet{ty:TypeId}{m k x:Operand}{kk:Nat}{a:AR}{sc:Bool}(hop:o.op=.mapUpdate ty m k x\/o.op=.insert ty m k x)(htab:tabOf S m=some (kk,a,sc))(h:compTabSet X none o ty kk a sc k x S K=.ok t)(hr:Rel F S ρ ids s)(hrun:Run X.P C n t ρ R):SeqOk X F C n R K S ρ s o:=by
 unfold compTabSet at h;split at h
 ·cases h
 ·rename_i hd0;have hdst:o.dst=none:=by cases hd:o.dst with|none=>rfl|some d=>exact absurd (.inr (by rw[hd];rfl)) hd0
  obtain⟨hm,ha,hab⟩:=tabOf_some htab;have hmk:a.born.mk=some (.tab sc):=by rw[hab];rfl
  split at h
  ·rename_i kt e hu;split at h
   ·rename_i hky;split at h
    ·rename_i pk px hpk hpx;obtain⟨t',ht,rfl⟩:=emit_ok h;obtain⟨v,hv,hrun⟩:=hrun.prim;have hmv:=hr.ev m;rw[hm]at hmv;obtain⟨cs,id,h2,hid,hq⟩:=own_mp hmk ha hmv;have hden:a.c.den ρ=.agg cs:=h2.2.1;obtain⟨ek,_⟩:=hr.pe hpk;obtain⟨ex,_⟩:=hr.pe hpx;simp only[Prim.run,hden,tsetV,←ek,←ex]at hv;split at hv
     ·rename_i hc;split at hv
      ·rename_i cs' hset;split at hv
       ·rename_i hc2;injection hv with hv;subst hv;have hb:=hr.bind (.agg cs') false (by simp);obtain⟨g1,g2⟩:=var_ok hr (.agg cs') (by simpa only[PV.plain]using hc2.1);have h2':=AR.rel.mono (Env.le_bind S ρ ids (.agg cs') false) ha h2;refine⟨s,Silent.refl s,?_⟩;have fin:Stp X F C n R K S ρ (s.setMp (.tab sc) id a.sz cs'):=⟨_,_,ids,t',ht,hit_mp (it:=.tab sc) (S:=S.bind false) hmk ha hb h2' hid hc2.1 hc2.2 g1 g2,hrun,(Ext.bind S ρ _ false).trans (ext_set kk false _)⟩;rcases hop with hop|hop
        ·simp only[opW,hop,hu,hq];exact⟨hdst,keyedT_ok hky,cs',hset,fin⟩
        ·simp only[opW,hop,hu,hq];exact⟨hdst,keyedT_ok hky,cs',hset,fin⟩
       ·cases hv
      ·cases hv
     ·cases hv
    ·cases h
   ·cases h
  ·cases h
theorem ok_lookup{ty:TypeId}{m k:Operand}{ok:Bool}(hop:o.op=.lookup ty m k ok)(h:compLookup X lx o ty m k ok S K=.ok t)(hr:Rel F S ρ ids s)(hrun:Run X.P C n t ρ R):PureOk X F C n R K S ρ s m0 o:=by
 unfold compLookup at h;have mk:∀{kt e:TypeId}{sc:Bool}{id:Option Nat}{sz:Nat}{cs:List PV}{u:PV},X.P.underlying ty=some (.map kt e)->keyedT X.P kt sc=true->s.ev m=.mp (.tab sc) id sz cs->aTabGet X.P ty sc sz cs (s.ev k) ok=some u->pureV X.P m0 s.ev o=some u:=λ{kt e sc id sz cs u} hu hky hq hg=>by
  simp only[pureV,hop,hu,hq];rw[if_pos (keyedT_ok hky)];exact hg
 split at h
 ·rename_i kt e hu;split at h
  ·rename_i pk hpk;obtain⟨ek,_⟩:=hr.pe hpk;split at h
   ·rename_i kk a sc htab;obtain⟨hm,ha,hab⟩:=tabOf_some htab;have hmk:a.born.mk=some (.tab sc):=by rw[hab];rfl
    split at h
    ·rename_i hky;have hmv:=hr.ev m;rw[hm]at hmv;obtain⟨cs,id,h2,hid,hq⟩:=own_mp hmk ha hmv;have hden:a.c.den ρ=.agg cs:=h2.2.1;obtain⟨t',ht,rfl⟩:=emit_ok h;obtain⟨v,hv,hrun⟩:=hrun.prim;simp only[Prim.run,hden,tgetV,←ek]at hv;split at hv
     ·rename_i u hu2;split at hv
      ·rename_i hpl;injection hv with hv;subst hv;have hb:=hr.bind u false (by simp);obtain⟨g1,g2⟩:=var_ok hr u hpl;exact⟨u,mk hu hky hq hu2,_,_,ids,t',ht,hb.put o.dst (by simp only[RV];exact⟨g2.symm,g1⟩),hrun,(Ext.bind S ρ _ false).put _ _⟩
      ·cases hv
     ·cases hv
    ·cases h
   ·split at h
    ·rename_i y sc hy hsc;split at h
     ·rename_i hky;have hxv:=hr.ev m;rw[hy]at hxv;unfold RV at hxv;have e0:s.ev m=y.den ρ:=hxv.1;obtain⟨t',ht,rfl⟩:=emit_ok h;obtain⟨v,hv,hrun⟩:=hrun.prim;simp only[Prim.run,PE.den,←e0,tgetfV,←ek]at hv;split at hv
      ·rename_i sc' sz cs hq;split at hv
       ·rename_i hsc';subst hsc';split at hv
        ·rename_i u hu2;split at hv
         ·rename_i hpl;injection hv with hv;subst hv;have hb:=hr.bind u false (by simp);obtain⟨g1,g2⟩:=var_ok hr u hpl;exact⟨u,mk hu hky hq hu2,_,_,ids,t',ht,hb.put o.dst (by simp only[RV];exact⟨g2.symm,g1⟩),hrun,(Ext.bind S ρ _ false).put _ _⟩
         ·cases hv
        ·cases hv
       ·cases hv
      ·cases hv
     ·cases h
    ·cases h
  ·cases h
 ·cases h
theorem seq_nextS{x:Operand}(hop:o.op=.next x true)(h:compNextS none o x S K=.ok t)(hr:Rel F S ρ ids s)(hrun:Run X.P C n t ρ R):SeqOk X F C n R K S ρ s o:=by
 unfold compNextS at h;simp only[Option.isSome_none,Bool.false_eq_true,if_false]at h;split at h
 ·rename_i k hx;split at h
  ·rename_i a ha;split at h
   ·rename_i hsit;split at h
    ·rename_i hsz;have hmk:a.born.mk=some .sit:=by rw[hsit];rfl
     have hxv:=hr.ev x;rw[hx]at hxv;obtain⟨cs,id,h2,hid,hq⟩:=own_mp hmk ha hxv;have hden:a.c.den ρ=.agg cs:=h2.2.1;obtain⟨t',ht,rfl⟩:=emit_ok h;obtain⟨v,hv,hrun⟩:=hrun.prim;simp only[Prim.run,hden,snxV]at hv;split at hv
     ·rename_i c pos hcs;simp only[PV.agg.injEq]at hcs;subst hcs;split at hv
      ·rename_i hpos;simp only[bind,Except.bind,pure,Except.pure]at ht;split at ht
       ·cases ht
       ·rename_i tA hA;split at ht
        ·cases ht
        ·rename_i tB hB;injection ht with ht;subst ht;have hopW:∀K',opW X.P s o K'=(0<=pos/\(if pos.toNat<c.size then K' ((s.setMp .sit id 2 [.str c,.int .i64 ((pos.toNat+(Utf8.decode c pos.toNat).2:Nat):Int)]).put o.dst (.tup [.bool true,.int .i64 pos,.int .i32 (Utf8.decode c pos.toNat).1]))else K' (s.put o.dst (.tup [.bool false])))):=λK'=>by simp only[opW,hop,hq,hsz,true_and]
         refine⟨s,Silent.refl s,?_⟩;rw[hopW];refine⟨hpos,?_⟩;split at hv
         ·rename_i hlt;rw[if_pos hlt];injection hv with hv;obtain⟨u1,u2⟩:=var_ok hr v (by rw[←hv];rfl);have hb1:=hr.bind v false (by simp);have hcd:(SE.proj (.var S.nv) 0).den (ρ++[v])=.bool true:=by simp only[SE.den]at u2⊢;rw[u2,←hv];rfl
          have hrunA:Run X.P C n tA (ρ++[v]) R:=λω=>by
           obtain⟨o,ho,hR⟩:=hrun ω;simp only[eval,hcd]at ho;exact⟨o,ho,hR⟩
          obtain⟨t2,ht2,rfl⟩:=emit_ok hA;obtain⟨v2,hv2,hrunA⟩:=hrunA.prim;have e3:(SE.proj (.var S.nv) 3).den (ρ++[v])=.str c:=by simp only[SE.den]at u2⊢;rw[u2,←hv];rfl
          have e4:(SE.proj (.var S.nv) 4).den (ρ++[v])=.int .i64 ((pos.toNat+(Utf8.decode c pos.toNat).2:Nat):Int):=by simp only[SE.den]at u2⊢;rw[u2,←hv];rfl
          simp only[Prim.run,denL,PE.den,e3,e4,Option.some.injEq]at hv2;subst hv2;have hb2:=hb1.bind (.agg [.str c,.int .i64 ((pos.toNat+(Utf8.decode c pos.toNat).2:Nat):Int)]) false (by simp);obtain⟨g1,g2⟩:=var_ok hb1 (.agg [.str c,.int .i64 ((pos.toNat+(Utf8.decode c pos.toNat).2:Nat):Int)]) rfl;have h2':=AR.rel.mono (Env.le_bind S ρ ids v false) ha h2;have h2'':=AR.rel.mono (Env.le_bind (S.bind false) _ ids (.agg [.str c,.int .i64 ((pos.toNat+(Utf8.decode c pos.toNat).2:Nat):Int)]) false) ha h2';have hm:=hit_mp (it:=.sit) (S:=(S.bind false).bind false) hmk ha hb2 h2'' hid (cs':=[.str c,.int .i64 ((pos.toNat+(Utf8.decode c pos.toNat).2:Nat):Int)]) rfl (by rw[hsz];simp) g1 g2;rw[show s.setMp .sit id a.sz [.str c,.int .i64 ((pos.toNat+(Utf8.decode c pos.toNat).2:Nat):Int)]=s.setMp .sit id 2 [.str c,.int .i64 ((pos.toNat+(Utf8.decode c pos.toNat).2:Nat):Int)]by rw[hsz]]at hm;refine⟨_,_,ids,t2,ht2,hm.put o.dst ?_,hrunA,((Ext.bind S ρ _ false).trans ((Ext.bind _ _ _ false).trans (ext_set k false _))).put _ _⟩;have ep:∀j q,projV v j=q->q.plain=true->RV F (((S.bind false).bind false).setArr k false { a with c:=.var (S.bind false).nv } |>.env ((ρ++[v])++[.agg [.str c,.int .i64 ((pos.toNat+(Utf8.decode c pos.toNat).2:Nat):Int)]]) ids) (.e (.proj (.var S.nv) j)) q:=λj q hj hp=>by
           have hden:(SE.proj (.var S.nv) j).den (ρ++[v])=q:=by simp only[SE.den]at u2⊢;rw[u2];exact hj
           have hok:(SE.proj (.var S.nv) j).ok (ρ++[v]):=by
            refine⟨u1,?_⟩;rw[u2,hj];exact hp
           obtain⟨d1,d2⟩:=SE.den_prefix (List.prefix_append (ρ++[v]) [.agg [.str c,.int .i64 ((pos.toNat+(Utf8.decode c pos.toNat).2:Nat):Int)]]) hok;simp only[RV];exact⟨(d1.trans hden).symm,d2⟩
          have r1:=ep 1 (.int .i64 pos) (by rw[←hv]<;>rfl) rfl;have r2:=ep 2 (.int .i32 (Utf8.decode c pos.toNat).1) (by rw[←hv]<;>rfl) rfl;simp only[RV]at r1 r2⊢;exact⟨_,rfl,_,_,rfl,⟨rfl,rfl⟩,_,_,rfl,r1,_,_,rfl,r2,rfl⟩
         ·rename_i hlt;rw[if_neg hlt];injection hv with hv;subst hv;obtain⟨u1,u2⟩:=var_ok hr (.agg [.bool false]) rfl;have hb1:=hr.bind (.agg [.bool false]) false (by simp);have hcd:(SE.proj (.var S.nv) 0).den (ρ++[.agg [.bool false]])=.bool false:=by simp only[SE.den]at u2⊢;rw[u2];rfl
          have hrunB:Run X.P C n tB (ρ++[.agg [.bool false]]) R:=λω=>by
           obtain⟨o,ho,hR⟩:=hrun ω;simp only[eval,hcd]at ho;exact⟨o,ho,hR⟩
          refine⟨_,_,ids,tB,hB,hb1.put o.dst ?_,hrunB,(Ext.bind S ρ _ false).put _ _⟩;simp only[RV];exact⟨_,rfl,_,_,rfl,⟨rfl,rfl⟩,rfl⟩
      ·cases hv
     ·cases hv
    ·cases h
   ·cases h
  ·cases h
 ·cases h
theorem seq_entry{x:Operand}(hop:o.op=.entry x)(h:compEntry none o x S K=.ok t)(hr:Rel F S ρ ids s)(hrun:Run X.P C n t ρ R):SeqOk X F C n R K S ρ s o:=by
 unfold compEntry at h;simp only[Option.isSome_none,Bool.false_eq_true,if_false]at h;split at h
 ·rename_i k hx;split at h
  ·rename_i a ha;split at h
   ·rename_i hit;obtain⟨t',ht,rfl⟩:=emit_ok h;obtain⟨v,hv,hrun⟩:=hrun.prim;have hxv:=hr.ev x;rw[hx]at hxv;obtain⟨cs,id,h2,hid,hq⟩:=own_mp (it:=.wlk) (BN.mk_it hit) ha hxv;have hden:a.c.den ρ=.agg cs:=h2.2.1;simp only[Prim.run,hden,lkV]at hv;split at hv
    ·rename_i hc;obtain⟨c1,c2,c3⟩:=hc;injection hv with hv;subst hv;have hpl:plainC (cs.take a.sz)=true:=plainC_tk h2.plain _;have hb:=hr.bind (.agg (cs.take a.sz)) false (by simp);obtain⟨g1,g2⟩:=var_ok hr (.agg (cs.take a.sz)) (by simpa only[PV.plain]using hpl);refine⟨s,Silent.refl s,?_⟩;simp only[opW,hop,hq];refine⟨c1,c2,_,_,ids,t',ht,hb.put o.dst ?_,hrun,(Ext.bind S ρ _ false).put _ _⟩;simp only[RV];refine⟨_,rfl,_,_,rfl,⟨_,rfl,rvl_projs0 g2 g1 c3⟩,_,_,rfl,trivial,rfl⟩
    ·cases hv
   ·cases h
  ·cases h
 ·cases h
theorem chunk_len{sz:Nat}{rem:List PV}{j:Nat}(hj:j<rem.length/sz):(chunk sz rem j).length=sz:=by
 have hpos:0<sz:=by
  rcases Nat.eq_zero_or_pos sz with h|h
  ·rw[h,Nat.div_zero]at hj;omega
  ·exact h
 have:(j+1)*sz<=rem.length:=(Nat.le_div_iff_mul_le hpos).1 hj;rw[Nat.succ_mul]at this;simp only[chunk,List.length_take,List.length_drop];omega
theorem dropK_len{sz:Nat}{rem:List PV}{j:Nat}(hl:rem.length=rem.length/sz*sz)(hj:j<rem.length/sz):(dropK sz rem j).length=(rem.length/sz-1)*sz:=by
 obtain⟨m,hm⟩:∃m,rem.length/sz=m+1:=⟨rem.length/sz-1,by omega⟩;rw[hm]at hl hj⊢;have h1:j*sz<=m*sz:=Nat.mul_le_mul_right _ (by omega);simp only[dropK,List.length_append,List.length_take,List.length_drop,Nat.succ_mul,Nat.add_sub_cancel]at hl⊢;omega
theorem seq_next{x:Operand}{str:Bool}(hop:o.op=.next x str)(h:compNext none o x str S K=.ok t)(hr:Rel F S ρ ids s)(hrun:Run X.P C n t ρ R):SeqOk X F C n R K S ρ s o:=by
 unfold compNext at h;split at h
 ·cases h
 ·rename_i hstr;have hs:str=false:=by cases str with|false=>rfl|true=>exact absurd (.inr rfl) hstr
  subst hs;split at h
  ·rename_i k hx;split at h
   ·rename_i a ha;split at h
    ·rename_i hit;cases hA:(emit (.tl (.var S.nv)) false S.var λv S=>K ((S.setArr k false { a with c:=v }).put o.dst (.tup [.e (.cst (.bool true)),.junk,.junk])))with
     |error e=>rw[hA]at h;cases h
     |ok tA=>
      cases hB:K (S.var.put o.dst (.tup [.e (.cst (.bool false))]))with
      |error e=>rw[hA,hB]at h;cases h
      |ok tB=>
       rw[hA,hB]at h;simp only[bind,Except.bind,pure,Except.pure,Except.ok.injEq]at h;subst h;obtain⟨cs',hc',hrun⟩:=hrun.pick;have hxv:=hr.ev x;rw[hx]at hxv;obtain⟨cs,id,h2,hid,hq⟩:=own_mp (it:=.wlk) (BN.mk_it hit) ha hxv;have hden:a.c.den ρ=.agg cs:=h2.2.1;have:cs'=cs:=by have:=hc'.symm.trans hden;injection this
       subst this;have hpos:=h2.2.2.1;have hlen:=h2.2.2.2.1;refine⟨s,Silent.refl s,?_⟩;simp only[opW,hop,hq];refine⟨trivial,hpos,λh0=>?_,λi hi=>?_⟩
       ·have hv:pickV a.sz cs' 0=.agg [.bool false]:=by simp only[pickV,pickN,h0,if_true]
        have hrun:=hrun 0;rw[hv]at hrun;have hb:=hr.bind (.agg [.bool false]) false (by simp);obtain⟨g1,g2⟩:=var_ok hr (.agg [.bool false]) rfl;have hcd:(SE.proj (.var S.nv) 0).den (ρ++[.agg [.bool false]])=.bool false:=by simp only[SE.den]at g2⊢;rw[g2];rfl
        have hrun2:Run X.P C n tB (ρ++[.agg [.bool false]]) R:=λω=>by
         obtain⟨o,ho,hR⟩:=hrun ω;simp only[eval,hcd]at ho;exact⟨o,ho,hR⟩
        refine⟨_,_,ids,tB,hB,Rel.put (S:=S.var) hb o.dst ?_,hrun2,(Ext.bind S ρ _ false).put _ _⟩;simp only[RV];exact⟨_,rfl,_,_,rfl,⟨rfl,rfl⟩,rfl⟩
       ·have hN:pickN a.sz cs'≠0:=by unfold pickN;omega
        have hv:pickV a.sz cs' i=.agg (.bool true::(chunk a.sz (cs'.drop a.sz) i++dropK a.sz (cs'.drop a.sz) i)):=by
         simp only[pickV];rw[if_neg hN,Nat.mod_eq_of_lt (by unfold pickN;exact hi)]
        have hrun:=hrun i;rw[hv]at hrun;have hpd:plainC (cs'.drop a.sz)=true:=plainC_dp h2.plain _;have hpl:plainC (chunk a.sz (cs'.drop a.sz) i++dropK a.sz (cs'.drop a.sz) i)=true:=plainC_app (plainC_tk (plainC_dp hpd _) _) (plainC_app (plainC_tk hpd _) (plainC_dp hpd _));have hpl1:plainC (.bool true::(chunk a.sz (cs'.drop a.sz) i++dropK a.sz (cs'.drop a.sz) i))=true:=by simp only[plainC,hpl];rfl
        obtain⟨u1,u2⟩:=var_ok hr (.agg (.bool true::(chunk a.sz (cs'.drop a.sz) i++dropK a.sz (cs'.drop a.sz) i))) (by simpa only[PV.plain]using hpl1);have hb1:=hr.bind (.agg (.bool true::(chunk a.sz (cs'.drop a.sz) i++dropK a.sz (cs'.drop a.sz) i))) false (by simp);have hcd:(SE.proj (.var S.nv) 0).den (ρ++[.agg (.bool true::(chunk a.sz (cs'.drop a.sz) i++dropK a.sz (cs'.drop a.sz) i))])=.bool true:=by simp only[SE.den]at u2⊢;rw[u2];rfl
        have hrunA:Run X.P C n tA (ρ++[.agg (.bool true::(chunk a.sz (cs'.drop a.sz) i++dropK a.sz (cs'.drop a.sz) i))]) R:=λω=>by
         obtain⟨o,ho,hR⟩:=hrun ω;simp only[eval,hcd]at ho;exact⟨o,ho,hR⟩
        obtain⟨t',ht,rfl⟩:=emit_ok hA;obtain⟨v,hv2,hrunA⟩:=hrunA.prim;simp only[Prim.run]at hv2;rw[u2]at hv2;simp only[tlV,Option.some.injEq]at hv2;subst hv2;have hb1':Rel F S.var (ρ++[.agg (.bool true::(chunk a.sz (cs'.drop a.sz) i++dropK a.sz (cs'.drop a.sz) i))]) ids s:=hb1;have hb2:=hb1'.bind (.agg (chunk a.sz (cs'.drop a.sz) i++dropK a.sz (cs'.drop a.sz) i)) false (by simp);obtain⟨g1,g2⟩:=var_ok hb1' (.agg (chunk a.sz (cs'.drop a.sz) i++dropK a.sz (cs'.drop a.sz) i)) (by simpa only[PV.plain]using hpl);have h2':=AR.rel.mono (Env.le_bind S ρ ids (.agg (.bool true::(chunk a.sz (cs'.drop a.sz) i++dropK a.sz (cs'.drop a.sz) i))) false) ha h2;have h2'':=AR.rel.mono (Env.le_bind S.var _ ids (.agg (chunk a.sz (cs'.drop a.sz) i++dropK a.sz (cs'.drop a.sz) i)) false) ha h2';have hdl:(cs'.drop a.sz).length=(cs'.drop a.sz).length/a.sz*a.sz:=by
         rw[List.length_drop,hlen];obtain⟨m,hm⟩:∃m,cs'.length/a.sz=m:=⟨_,rfl⟩;rw[hm];cases m with
         |zero=>simp
         |succ m=>rw[Nat.succ_mul,Nat.add_sub_cancel,Nat.mul_div_cancel _ hpos]
        have hl2:(chunk a.sz (cs'.drop a.sz) i++dropK a.sz (cs'.drop a.sz) i).length=(chunk a.sz (cs'.drop a.sz) i++dropK a.sz (cs'.drop a.sz) i).length/a.sz*a.sz:=by
         rw[List.length_append,chunk_len hi,dropK_len hdl hi,Nat.add_mul_div_right _ _ hpos,Nat.div_self hpos,Nat.add_mul];omega
        have hset:=hit_mp (it:=.wlk) (S:=S.var.bind false) (BN.mk_it hit) ha hb2 h2'' hid hpl hl2 g1 g2;refine⟨_,_,ids,t',ht,hset.put o.dst ?_,hrunA,((Ext.bind S ρ _ false).trans ((Ext.bind S.var _ _ false).trans (ext_set k false _))).put _ _⟩;simp only[RV];exact⟨_,rfl,_,_,rfl,⟨rfl,rfl⟩,_,_,rfl,trivial,_,_,rfl,trivial,rfl⟩
    ·cases h
   ·cases h
  ·cases h
theorem srt_plain(l:List Int):plainC (l.map (PV.int .i64))=true:=by
 induction l with
 |nil=>rfl
 |cons x l ih=>simp only[List.map_cons,plainC,ih];rfl
theorem sortP_len(cs:List PV):(sortP cs).length=cs.length:=by simp[sortP]
theorem after_nil'(s:St):s.after [] s.m=s:=by
 have:addEff s.a0.a s.eff []=s.eff:=by cases s.eff<;>simp[addEff]
 simp[St.after,PV.sub,this]
theorem seq_sort{c:Call}{f:Operand}{g:FuncId}{k:Nat}{a:AR}{fn:Func}(hS:SortOk X.P g)(hop:o.op=.call c)(hcal:c.callee=.value f)(hB:g<fnB)(hf:S.ev f=.fn g [])(hm:c.args.toList.map S.ev=[.own k])(ha:S.ar.getD k none=some a)(hsz:a.sz=1)(hst:a.born.still=true)
  (hfn:X.P.funcs[g]?=some fn) (hname:¬(fn.name = "runtime.NumGoroutine" \/ fn.body.isNone=true)) (h:emit (.srt a.c) false S (λv S=>K ((S.setArr k false { a with c:=v }).put o.dst .undef))=.ok t) (hr:Rel F S ρ ids s) (hrun:Run X.P C n t ρ R):SeqOk X F C n R K S ρ s o:=by
 obtain⟨t',ht,rfl⟩:=emit_ok h;obtain⟨v,hv,hrun⟩:=hrun.prim;have hfv:=hr.ev f;rw[hf]at hfv;unfold RV at hfv;obtain⟨l',e,hl⟩:=hfv;simp only[RVL]at hl;subst hl;have hev:=rva_evs hr c.args.toList;rw[hm]at hev;obtain⟨q,l2,e2,hq,hl2⟩:=hev;simp only[RVA]at hl2;subst hl2;unfold RV at hq;obtain⟨a',cs,h1,h2,h3⟩:=hq;have:a'=a:=by have:=h1.symm.trans ha;injection this
 subst this;have hden:a'.c.den ρ=.agg cs:=h2.2.1;simp only[Prim.run,hden,srtV]at hv;split at hv
 case isFalse=>cases hv
 rename_i hc;injection hv with hv;subst hv;have hpl:plainC (sortP cs)=true:=srt_plain _;have hb:=hr.bind (.agg (sortP cs)) false (by simp);obtain⟨g1,g2⟩:=var_ok hr (.agg (sortP cs)) (by simpa only[PV.plain]using hpl);have h2':=AR.rel.mono (Env.le_bind S ρ ids (.agg (sortP cs)) false) h1 h2;have hlen:(sortP cs).length=(sortP cs).length/a'.sz*a'.sz:=by rw[hsz];simp
 refine⟨s,Silent.refl s,?_⟩;simp only[opW,hop,hcal,e,fnG_lt hB,fnA_lt hB];refine⟨⟨fn,hfn,λe=>hname (.inl e),by cases hb:fn.body<;>simp[hb]at hname⊢⟩,?_⟩;rw[List.append_nil,e2];have hnil:=h2.2.2.2.2.1;cases hid:ids k with
 |some id=>
  rw[show(S.env ρ ids).ids k=some id from hid,ownV_lst (still_lst hst),hsz]at h3;rw[show(S.env ρ ids).ids k=some id from hid]at hnil;simp only[Nat.div_one]at h3;rw[h3];refine ECalls.y (((hS cs s.m hc.1 hc.2).1 id).mono ?_);rintro v E m' ⟨rfl,rfl,rfl⟩;have hn':isNil (ρ++[.agg (sortP cs)]) a'.born (sortP cs)=some false:=by
   rw[isNil_bind (ρ:=ρ) h2.2.2.2.2.2];have hnil':isNil ρ a'.born cs=some false:=hnil;cases hb:a'.born with
   |real=>rfl
   |nil0=>
    rw[hb]at hnil';cases hcs:cs with
    |nil=>rw[hcs]at hnil';simp[isNil]at hnil'
    |cons x xs=>
     cases hs:sortP (x::xs)with
     |nil=>have:=sortP_len (x::xs);rw[hs]at this;simp at this
     |cons _ _=>rfl
   |dyn y=>rw[hb]at hst;cases hst
   |map=>rw[hb]at hst;cases hst
   |it|tab _|sit=>rw[hb]at hst;cases hst
  obtain⟨r1,r2⟩:=hb.hit (k:=k) (id:=id) (c':=.var S.nv) (all:=false) (EE:=wrs id 0 (sortP cs)) h1 h2' hid (λe he=>by
    obtain⟨m1,u,m2,p,rfl⟩:=mem_wrs he;exact⟨rfl,λn an=>plain_bd n an u ((plainC_iff _).1 hpl u m2).1⟩) g1 g2 hlen hn' (λ_=>by
     rw[ownV_lst (still_lst hst),ownV_lst (still_lst hst)];simp only;rw[sub_wrs id a'.sz _ _ _ cs h2.plain hpl (by rw[sortP_len];omega),sortP_len];congr 1;simp[splice,sortP_len])
  refine⟨_,_,ids,t',ht,r1.put o.dst (v:=.undef) (by simp only[RV]),hrun,((Ext.bind S ρ _ false).trans (ext_set k false _)).put _ _⟩
 |none=>
  rw[show(S.env ρ ids).ids k=none from hid,ownV_lst (still_lst hst)]at h3;rw[show(S.env ρ ids).ids k=none from hid]at hnil;obtain⟨hb0,hcs⟩:=isNil_nil0 hst hnil;subst hcs;simp only at h3;rw[h3];refine ECalls.y ((hS [] s.m hc.1 hc.2).2.mono ?_);rintro v E m' ⟨rfl,rfl,rfl⟩;rw[after_nil'];have hs0:sortP []=[]:=by simp[sortP]
  rw[hs0]at hb g1 g2 h2' hrun;obtain⟨r1,r2⟩:=hb.hitG (k:=k) (xid:=none) (c':=.var S.nv) (cs':=[]) (all:=false) (EE:=[]) h1 h2' hid (λe he=>by cases he) g1 g2 (by simp) (by rw[hb0];rfl) (λ_=>rfl);have hh:s.hit []=s:=by
   have:addEff s.a0.a s.eff []=s.eff:=by cases s.eff<;>simp[addEff]
   have hβ:(λi=>(s.m.β i).sub [])=s.m.β:=by funext i;simp
   simp only[St.hit,PV.sub_nil,this,hβ]
  rw[hh]at r1;refine⟨_,_,ids,t',ht,r1.put o.dst (v:=.undef) (by simp only[RV]),hrun,((Ext.bind S ρ _ false).trans (ext_set k false _)).put _ _⟩
theorem seq_comp{c:Call}{f:Operand}{g:FuncId}{k:Nat}{a:AR}{fn:Func}(hS:CompOk X.P g)(hop:o.op=.call c)(hcal:c.callee=.value f)(hB:g<fnB)(hf:S.ev f=.fn g [])(hm:c.args.toList.map S.ev=[.own k])(ha:S.ar.getD k none=some a)(hsz:a.sz=1)(hst:a.born.still=true)
  (hfn:X.P.funcs[g]?=some fn) (hname:¬(fn.name = "runtime.NumGoroutine" \/ fn.body.isNone=true)) (h:emit (.cpt a.born a.c) true S (λv S=>K ((S.setArr k true a).put o.dst (.e v)))=.ok t) (hr:Rel F S ρ ids s) (hrun:Run X.P C n t ρ R):SeqOk X F C n R K S ρ s o:=by
 obtain⟨t',ht,rfl⟩:=emit_ok h;obtain⟨v,hv,hrunN⟩:=hrun.prim;have hfv:=hr.ev f;rw[hf]at hfv;unfold RV at hfv;obtain⟨l',e,hl⟩:=hfv;simp only[RVL]at hl;subst hl;have hev:=rva_evs hr c.args.toList;rw[hm]at hev;obtain⟨q,l2,e2,hq,hl2⟩:=hev;simp only[RVA]at hl2;subst hl2;unfold RV at hq;obtain⟨a',cs,h1,h2,h3⟩:=hq;have:a'=a:=by have:=h1.symm.trans ha;injection this
 subst this;have hden:a'.c.den ρ=.agg cs:=h2.2.1;have hnil:isNil ρ a'.born cs=some (ids k).isNone:=h2.2.2.2.2.1;simp only[Prim.run,hden,cptV,hnil]at hv;split at hv
 case isFalse=>cases hv
 rename_i hc;have hvp:v.plain=true/\v.one=true:=by
  split at hv
  ·injection hv with hv;subst hv;exact⟨rfl,rfl⟩
  ·injection hv with hv;subst hv;exact⟨by simp only[PV.plain];exact srt_plain _,rfl⟩
  ·cases hv
 have hb:=hr.bind v true (λ_=>hvp.2);obtain⟨g1,g2⟩:=var_ok hr v hvp.1;have h2':=AR.rel.mono (Env.le_bind S ρ ids v true) h1 h2;refine⟨s,Silent.refl s,?_⟩;simp only[opW,hop,hcal,e,fnG_lt hB,fnA_lt hB];refine⟨⟨fn,hfn,λe=>hname (.inl e),by cases hb:fn.body<;>simp[hb]at hname⊢⟩,?_⟩;rw[List.append_nil,e2];have hc1:SE.ok (ρ++[v]) a'.c:=h2'.1;have hc2:SE.den (ρ++[v]) a'.c=.agg cs:=h2'.2.1;cases hid:ids k with
 |some id=>
  rw[show(S.env ρ ids).ids k=some id from hid,ownV_lst (still_lst hst),hsz]at h3;rw[hid]at hv hnil;simp only[Nat.div_one]at h3;simp only[Option.isNone_some,Option.some.injEq]at hv;rw[h3];refine ECalls.y (((hS cs s.m hc.1 hc.2).1 id).mono ?_);rintro w E m' ⟨rfl,rfl,rfl⟩;obtain⟨r1,r2⟩:=hb.hit (k:=k) (id:=id) (c':=a'.c) (all:=true) (EE:=[.kill id]) h1 h2' hid (λe he=>by simp only[List.mem_singleton]at he;subst he;exact⟨rfl,trivial⟩) hc1 hc2 h2.2.2.2.1 (by rw[isNil_bind (ρ:=ρ) h2.2.2.2.2.2];exact hnil) (λe=>by cases e);refine⟨_,_,ids,t',ht,r1.put o.dst (v:=.e (.var S.nv)) ?_,hrunN,((Ext.bind S ρ _ true).trans (ext_set k true _)).put _ _⟩;simp only[RV];exact⟨hv.trans g2.symm,g1⟩
 |none=>
  rw[show(S.env ρ ids).ids k=none from hid,ownV_lst (still_lst hst)]at h3;rw[hid]at hv hnil;obtain⟨hb0,hcs⟩:=isNil_nil0 hst hnil;subst hcs;simp only[Option.isNone_none,Option.some.injEq]at hv;simp only at h3;rw[h3];refine ECalls.y ((hS [] s.m hc.1 hc.2).2.mono ?_);rintro w E m' ⟨rfl,rfl,rfl⟩;rw[after_nil'];obtain⟨r1,r2⟩:=hb.hitG (k:=k) (xid:=none) (c':=a'.c) (cs':=[]) (all:=true) (EE:=[]) h1 h2' hid (λe he=>by cases he) hc1 hc2 (by simp) (by rw[hb0];rfl) (λ_=>rfl);have hh:s.hit []=s:=by
   have:addEff s.a0.a s.eff []=s.eff:=by cases s.eff<;>simp[addEff]
   have hβ:(λi=>(s.m.β i).sub [])=s.m.β:=by funext i;simp
   simp only[St.hit,PV.sub_nil,this,hβ]
  rw[hh]at r1;refine⟨_,_,ids,t',ht,r1.put o.dst (v:=.e (.var S.nv)) ?_,hrunN,((Ext.bind S ρ _ true).trans (ext_set k true _)).put _ _⟩;simp only[RV];exact⟨hv.trans g2.symm,g1⟩
end
end
section
open Go Go.RowKit
variable[Sp]
def RngOk(X:Ctx)(C:Orc->FuncId->List PV->Option PV)(n:Nat)(inl:Inl):Prop:=
 ∀(F:Frm)(R:Out->Prop)(f:FuncId)(h:Operand)(ps:Array Tmp)(a b:Code)(p:Nat)(K:Ex->Sym->M)(S:Sym)(ρ:List PV)(ids:Nat->Option Nat)(s:St)(t:Tree),
  F.P=X.P->CSound X.P F.DI C->NewOk X.P F.DI X.diceNew->OwnAll X F.DI C->compRange X inl f h ps a b p S K=.ok t->Rel F S ρ ids s->Run X.P C n t ρ R ->
  CodeSem X.P (.rangeFunc h ps a b) s λe s'=>Stp X F C n R (K e) S ρ s'
structure Known(X:Ctx)(DI:List PV->Prop)(C:Orc->FuncId->List PV->Option PV)(n:Nat)(il yi:Inl):Prop where
 c:CSound X.P DI C
 new:NewOk X.P DI X.diceNew
 inl:InlOk X C n il
 yl:YldOk X C n yi
 rng:RngOk X C n il
 own:∀g r,findOr X.ownr g=some r->OwnSound X.P DI C g r.1
section
variable{X:Ctx}{F:Frm}{C:Orc->FuncId->List PV->Option PV}{n:Nat}{R:Out->Prop}{S:Sym}{ρ:List PV}{ids:Nat->Option Nat}{s:St}{K:Sym->M}{t:Tree}{o:Oper}{m0:Mem}{inl yl:Inl}{lx:Option Nat}{key:Nat}{E:Env}
theorem map_ok{α β:Type}{x:Except String α}{f:α->β}{b:β}(h:Except.map f x=.ok b):∃a,x=.ok a/\f a=b:=by
 cases x with
 |error e=>cases h
 |ok a=>exact⟨a,rfl,by simpa[Except.map]using h⟩
theorem bind_ok{α β:Type}{x:Except String α}{f:α->Except String β}{b:β}(h:(x >>= f)=.ok b):∃a,x=.ok a/\f a=.ok b:=by
 cases x with
 |error e=>cases h
 |ok a=>exact⟨a,rfl,h⟩
theorem soft_ok{x:String}(h:softDie X x=.ok t)(hrun:Run X.P C n t ρ R):False:=by
 unfold softDie at h;split at h
 ·injection h with h;subst h;exact run_die hrun
 ·cases h
theorem argL_pl{DI:List PV->Prop}{m:Mem}:∀{b:List PV},plainC b=true->ArgL DI m b b
 |[],_=>rfl
 |q::b,h=>by
  simp only[plainC,Bool.and_eq_true]at h;exact⟨q,b,rfl,.inl ⟨rfl,h.1.1⟩,argL_pl h.2⟩
theorem argL_app{DI:List PV->Prop}{m:Mem}:∀{a a' b b':List PV},ArgL DI m a a'->ArgL DI m b b'->ArgL DI m (a++b) (a'++b')
 |[],a',b,b',h,k=>by simp only[ArgL]at h;subst h;simpa using k
 |p::a,a',b,b',⟨q,l',e,h1,h2⟩,k=>by subst e;exact⟨q,l'++b',rfl,h1,argL_app h2 k⟩
theorem seq_callB{c:Call}{f:Operand}(hk:Known X F.DI C n inl yl)(hop:o.op=.call c)(hcal:c.callee=.value f)(h:compCallB X none key o f c.args.toList S K=.ok t)(hr:Rel F S ρ ids s)(hrun:Run X.P C n t ρ R):SeqOk X F C n R K S ρ s o:=by
 unfold compCallB at h;refine seq_thaw h hr hrun λS ρ ids s t h hr hrun=>?_;split at h
 ·rename_i g caps hf;split at h
  ·rename_i fn hfn;split at h
   ·cases h
   ·split at h
    ·cases h
    ·split at h
     ·rename_i ps hps;obtain⟨t',ht,h⟩:=map_ok h;subst h;have hfv:=hr.ev f;rw[hf]at hfv;unfold RV at hfv;obtain⟨l',e,hl⟩:=hfv;obtain⟨h1,h2⟩:=hrun.call;have ha:=litArgs_ok (m0:=s.m) (lx:=none) hr rfl ⟨Nat.le_refl _,λ_ _=>rfl⟩ hps (rva_fnA (g:=g) (rva_evs hr _) (rva_of_rvl hl));exact seq_pure_call hk.c hop hcal e ha h1 h2 hr ht
     ·cases h
  ·cases h
 ·cases h
theorem seq_call{c:Call}{f:Operand}(hF:F.P=X.P)(hk:Known X F.DI C n inl yl)(hop:o.op=.call c)(hcal:c.callee=.value f)(h:compCall X inl yl none key o f c.args.toList S K=.ok t)(hr:Rel F S ρ ids s)(hrun:Run X.P C n t ρ R):SeqOk X F C n R K S ρ s o:=by
 unfold compCall at h;split at h
 ·rename_i g caps hf;split at h
  ·exact seq_callB hk hop hcal h hr hrun
  rename_i hB;have hB:g<fnB:=Classical.not_not.1 hB;split at h
  ·rename_i fn hfn;split at h
   ·cases h
   ·rename_i hname;split at h
    ·rename_i hg;simp only[Option.isSome_none,Bool.false_eq_true,if_false]at h;refine seq_thaw h hr hrun λS ρ ids s t h hr hrun=>?_;split at h
     ·rename_i g' _ p hf' hp;split at h
      ·rename_i hgg;exact seq_dice hk.new hop hcal (by rw[←hg];exact hB) (by rw[hf',hgg,hg]) hp (by rw[←hg];exact hfn) hname h hr hrun
      ·cases h
     ·cases h
    ·split at h
     ·rename_i hsrt;simp only[Option.isSome_none,Bool.false_eq_true,if_false]at h;split at h
      ·rename_i k hargs;split at h
       ·rename_i a ha;split at h
        ·rename_i hc;exact seq_sort (hk.new.srt _ hsrt) hop hcal hB hf hargs ha hc.1 hc.2 hfn hname h hr hrun
        ·cases h
       ·cases h
      ·cases h
     split at h
     ·rename_i hcpt;simp only[Option.isSome_none,Bool.false_eq_true,if_false]at h;split at h
      ·rename_i k hargs;split at h
       ·rename_i a ha;split at h
        ·rename_i hc;exact seq_comp (hk.new.cpt _ hcpt) hop hcal hB hf hargs ha hc.1 hc.2 hfn hname h hr hrun
        ·cases h
       ·cases h
      ·cases h
     split at h
     ·exact seq_inl hF hk.c hk.new hk.own hk.inl hop hcal hB hf hfn hname h hr hrun
     ·refine seq_thaw h hr hrun λS ρ ids s t h hr hrun=>?_;split at h
      ·rename_i g' caps' hf';split at h
       ·rename_i hgg;subst hgg;split at h
        ·rename_i ps hps;obtain⟨t',ht,h⟩:=map_ok h;have hfv:=hr.ev f;rw[hf']at hfv;unfold RV at hfv;obtain⟨l',e,hl⟩:=hfv;subst h;obtain⟨h1,h2⟩:=hrun.call;have ha:=litArgs_ok (m0:=s.m) (lx:=none) hr rfl ⟨Nat.le_refl _,λ_ _=>rfl⟩ hps (rva_append (rva_evs hr _) (rva_of_rvl hl));have plain:K (S.var.put o.dst (.e (.var S.nv)))=.ok t'->SeqOk X F C n R K S ρ s o:=λht=>
          seq_pure_call (args:=denL ρ ps) hk.c hop hcal e (by rw[fnA_lt hB];exact ha) (by rw[fnG_lt hB];exact h1) (by rw[fnG_lt hB];exact h2) hr ht
         split at ht
         ·rename_i r hfind;split at ht
          ·refine⟨s,Silent.refl s,?_⟩;simp only[opW,hop,hcal,e,fnG_lt hB,fnA_lt hB];obtain⟨v0,hv0⟩:=Option.isSome_iff_exists.1 (h1 orc0);refine⟨hk.c.fn _ _ _ _ hv0,((hk.own g' r hfind _ h1 _ s.m ha).mono ?_).y⟩;rintro v E m' ⟨p,ω,hv,hp,rfl,hm',han,ho⟩;have haft:s.after [] m'={ s with m:=m' }:=by
            have:addEff s.a0.a s.eff []=s.eff:=by cases s.eff<;>simp[addEff]
            simp[St.after,PV.sub,this]
           rw[haft];obtain⟨S'',ρ'',ids'',t'',k1,k2,k3,k4⟩:=takeOwn_ok (X:=X) ht hr (h2 ω p hv) hp ho hm' han;exact⟨S'',ρ'',ids'',t'',k1,k2,k3,k4⟩
          ·split at ht
           ·rename_i hx;simp at hx
           ·exact plain ht
         ·exact plain ht
        ·cases h
       ·cases h
      ·cases h
  ·cases h
 ·simp only[Option.isSome_none,Bool.false_and,Bool.false_eq_true,if_false]at h;refine seq_thaw h hr hrun λS ρ ids s t h hr hrun=>?_;split at h
  ·rename_i x hx;split at h
   ·rename_i ps hps;obtain⟨t',ht,h⟩:=map_ok h;subst h;obtain⟨g,caps,e,h1,h2⟩:=hrun.callv;have hfv:=hr.ev f;rw[hx]at hfv;unfold RV at hfv;have e':s.ev f=.fn g caps:=by rw[hfv.1];exact e
    have hpl:(s.ev f).plain=true:=by rw[hfv.1];exact SE.ok_plain hfv.2
    rw[e']at hpl;have hcp:plainC caps=true:=by simpa only[PV.plain]using hpl
    have ha:=litArgs_ok (m0:=s.m) (lx:=none) hr rfl ⟨Nat.le_refl _,λ_ _=>rfl⟩ hps (rva_evs hr _);exact seq_pure_call hk.c hop hcal e' (argL_fnA argL_app ha (argL_pl hcp)) h1 h2 hr ht
   ·cases h
  ·cases h
 ·rename_i y hf;simp only[Option.isSome_none,Bool.false_eq_true,if_false]at h;exact seq_yld hF hk.c hk.new hk.own hk.yl hop hcal hf h hr hrun
 ·cases h
theorem seq_op(hF:F.P=X.P)(hk:Known X F.DI C n inl yl)(h:compOp X inl yl none key o S K=.ok t)(hr:Rel F S ρ ids s)(hrun:Run X.P C n t ρ R):SeqOk X F C n R K S ρ s o:=by
 unfold compOp at h;split at h
 ·rename_i x hop;exact seq_of_pure (by simp[hop]) (pure_put h hr hrun (by simp only[pureV,hop]) (hr.ev x))
 ·rename_i x hop;exact seq_of_pure (by simp[hop]) (pure_put h hr hrun (by simp only[pureV,hop]) (hr.ev x))
 ·rename_i c x y hop;exact seq_of_pure (by simp[hop]) (ok_pick hop h hr hrun)
 ·rename_i op ty x y ty' hop;split at h
  ·rename_i p q hp hq;exact seq_of_pure (by simp[hop]) (ok_bin hop hp hq h hr hrun)
  ·cases h
 ·rename_i ty x hop;split at h
  ·rename_i b hp;obtain⟨e,_⟩:=hr.pe hp;exact seq_of_pure (by simp[hop]) (pure_put h hr hrun (pv:=.bool !b) (by simp only[pureV,hop,e];rfl) (by unfold RV;exact⟨rfl,rfl⟩))
  ·rename_i p _ hp;exact seq_of_pure (by simp[hop]) (ok_un hop hp h hr hrun)
  ·cases h
 ·rename_i op ty x _ hop;split at h
  ·rename_i p hp;exact seq_of_pure (by simp[hop]) (ok_un hop hp h hr hrun)
  ·cases h
 ·rename_i a b x hop;split at h
  ·rename_i p hp;exact seq_of_pure (by simp[hop]) (ok_conv hop hp h hr hrun)
  ·cases h
 ·rename_i x hop;exact seq_of_pure (by simp[hop]) (ok_nil hop h hr hrun)
 ·rename_i x i hop;exact seq_of_pure (by simp[hop]) (ok_ext hop h hr hrun)
 ·rename_i ty x f hop;exact seq_of_pure (by simp[hop]) (ok_field hop h hr hrun)
 ·rename_i ty x f hop;exact seq_of_pure (by simp[hop]) (ok_fieldV hop h hr hrun)
 ·rename_i ty x i hop;exact seq_of_pure (by simp[hop]) (ok_indexAddr hop h hr hrun)
 ·rename_i ty x i hop;split at h
  ·rename_i p q hp hq;exact seq_of_pure (by simp[hop]) (ok_index hop hp hq h hr hrun)
  ·cases h
 ·rename_i ty x hop;exact seq_of_pure (by simp[hop]) (ok_load (lx:=none) hop h hr rfl hrun)
 ·rename_i ty x y hop;exact seq_store hop h hr hrun
 ·rename_i ty x hop;exact seq_box hop h hr hrun
 ·rename_i ty hop;split at h
  ·rename_i z hz;exact seq_alloc hop hz h hr hrun
  ·cases h
 ·rename_i ty parts hop;exact seq_of_pure (by simp[hop]) (ok_build hop h hr hrun)
 ·rename_i ty len parts hop;exact seq_buildSlice hop h hr hrun
 ·rename_i ty l c hop;exact seq_make hop h hr hrun
 ·rename_i ty x lo hi hop;unfold compSlice at h;refine seq_thaw h hr hrun λS ρ ids s t h hr hrun=>?_;split at h
  ·rename_i p a b hp ha hb;exact seq_of_pure (by simp[hop]) (ok_slice hop hp ha hb h hr hrun)
  ·cases h
 ·rename_i f first caps hop
  split at h
  ·rename_i hc;exact seq_of_pure (by simp[hop]) (ok_makeFunc hop hc.1 hc.2.1 h hc.2.2 hr hrun)
  ·rename_i hn;split at h
   ·rename_i hc;exact seq_of_pure (by simp[hop]) (ok_makeFuncB hop (λe=>hn ⟨e.1,by rw[e.2];rfl,by rw[Array.eq_empty_of_size_eq_zero hc.1];rfl⟩) hc.1 h hc.2 hr hrun)
   ·cases h
 ·rename_i c hop;split at h
  ·rename_i f hcal;exact seq_call hF hk hop hcal h hr hrun
  ·rename_i hcal;split at h
   ·rename_i ty x ht hx;exact seq_of_pure (by simp[hop]) (ok_len hop hcal ht hx h hr hrun)
   ·cases h
  ·rename_i hcal;split at h
   ·rename_i l hl;exact seq_of_pure (by simp[hop]) (ok_min hop hcal hl h hr hrun)
   ·cases h
  ·rename_i hcal;split at h
   ·rename_i l hl;exact seq_of_pure (by simp[hop]) (ok_max hop hcal hl h hr hrun)
   ·cases h
  ·rename_i hcal;split at h
   ·rename_i ty ty' x y hat har;split at h
    ·rename_i e;subst e;exact seq_append hop hcal hat har h hr hrun
    ·cases h
   ·cases h
  ·exact(soft_ok h hrun).elim
 ·rename_i ty r hop;exact seq_makeMap hop h hr hrun
 ·rename_i ty m k x hop;split at h
  ·rename_i kk a sc htab;exact seq_tabSet (.inl hop) htab h hr hrun
  ·exact seq_mapUpdate hop h hr hrun
 ·rename_i ty m k x hop;split at h
  ·rename_i kk a sc htab;exact seq_tabSet (.inr hop) htab h hr hrun
  ·cases h
 ·rename_i ty m k ok hop;exact seq_of_pure (by simp[hop]) (ok_lookup hop h hr hrun)
 ·rename_i ty x hop;exact seq_rangeM hop h hr hrun
 ·rename_i x str hop;split at h
  ·rename_i hs;subst hs;exact seq_nextS hop h hr hrun
  ·exact seq_next hop h hr hrun
 ·rename_i x hop;exact seq_entry hop h hr hrun
 ·simp only[pure,Except.pure,Except.ok.injEq]at h;subst h;obtain⟨o,ho,_⟩:=hrun orc0;simp[eval]at ho
 ·simp only[pure,Except.pure,Except.ok.injEq]at h;subst h;obtain⟨o,ho,_⟩:=hrun orc0;simp[eval]at ho
 ·exact(soft_ok h hrun).elim
end
end
section
open Go Go.RowKit
variable[Sp]
section
variable{X:Ctx}{F:Frm}{C:Orc->FuncId->List PV->Option PV}{n:Nat}{R:Out->Prop}{S:Sym}{ρ:List PV}{ids:Nat->Option Nat}{s:St}{K:Sym->M}{t:Tree}{o:Oper}{m0:Mem}{inl yl:Inl}{lx:Option Nat}{key:Nat}{E:Env}{ops:Array Oper}{rid:Nat}
theorem put_same{s:St}{d:Nat}{v:PV}(h:s.g d=v):s.put (some d) v=s:=by
 cases s with
 |mk g m a0 eff=>
  simp only[St.put]at h⊢;congr 1;funext u;split
  ·rename_i e;rw[e];exact h.symm
  ·rfl
theorem rel_know(hr:Rel F S ρ ids s){d:Nat}{b:Bool}(h:s.g d=.bool b):Rel F (S.put (some d) (.e (.cst (.bool b)))) ρ ids s:=by
 have:=hr.put (some d) (v:=.e (.cst (.bool b))) (q:=.bool b) (by unfold RV;exact⟨rfl,rfl⟩);rwa[put_same h]at this
theorem rel_skip(hr:Rel F S ρ ids s)(d:Option Tmp):Rel F (S.put d .undef) ρ ids (s.put d .undef):=hr.put d (by simp only[RV])
theorem opsW_mono{P:Program}{K K':St->Prop}(hk:∀s,K s->K' s):∀(l:List Oper)(s:St),opsW P ops l s K->opsW P ops l s K'
 |[],s,h=>hk s h
 |o::l,s,h=>guard_imp h (λ⟨s1,h1,h2⟩=>⟨s1,h1,opW_imp (λs' _ h=>opsW_mono hk l s' h) h2⟩) (λh=>opsW_mono hk l _ h)
theorem iteM_ok{x:SE}{a b:M}(h:iteM x a b=.ok t):∃a' b',a=.ok a'/\b=.ok b'/\t=.ite x a' b':=by
 unfold iteM at h;split at h
 ·rename_i a' b';injection h with h;exact⟨a',b',rfl,rfl,h.symm⟩
 ·cases h
 ·cases h
theorem seq_ops(hF:F.P=X.P)(hk:Known X F.DI C n inl yl):∀(l:List Oper)(i:Nat){S:Sym}{ρ:List PV}{ids:Nat->Option Nat}{s:St}{t:Tree},compOps X inl yl none ops rid l i S K=.ok t->Rel F S ρ ids s->Run X.P C n t ρ R ->
  opsW X.P ops l s λs'=>Stp X F C n R K S ρ s'
 |[],i,S,ρ,ids,s,t,h,hr,hrun=>by
  simp only[compOps]at h;exact⟨S,ρ,ids,t,h,hr,hrun,Ext.refl S ρ⟩
 |o::l,i,S,ρ,ids,s,t,h,hr,hrun=>by
  have run:∀{S:Sym}{t:Tree},compOp X inl yl none (rid*1000+i) o S (λS=>compOps X inl yl none ops rid l (i+1) S K)=.ok t->Rel F S ρ ids s->Run X.P C n t ρ R ->
    ∃s1,Silent s s1/\opW X.P s1 o λs'=>opsW X.P ops l s' λs'=>Stp X F C n R K S ρ s':=λ{S t} h hr hrun=>by
   obtain⟨s1,q1,q2⟩:=seq_op hF hk h hr hrun;refine⟨s1,q1,opW_imp (λs' _ hs=>?_) q2⟩;obtain⟨S',ρ',ids',t',h1,h2,h3,h4⟩:=hs;exact opsW_mono (λs'' h=>stp_mono h4 h) l s' (seq_ops hF hk l (i+1) h1 h2 h3)
  have skip:∀{S:Sym}{t:Tree},compOps X inl yl none ops rid l (i+1) (S.put o.dst .undef) K=.ok t->Rel F S ρ ids s->Run X.P C n t ρ R->opsW X.P ops l (s.put o.dst .undef) λs'=>Stp X F C n R K S ρ s':=λ{S t} h hr hrun=>
   opsW_mono (λs'' h=>stp_mono ((Ext.refl S ρ).put _ _) h) l _ (seq_ops hF hk l (i+1) h (rel_skip hr o.dst) hrun)
  have back:∀{d:Nat}{v:SV}{s':St},Stp X F C n R K (S.put (some d) v) ρ s'->Stp X F C n R K S ρ s':=λh=>stp_mono ((Ext.refl S ρ).put _ _) h;simp only[compOps]at h;simp only[opsW,guardW];split at h
  ·rename_i hg;simp only[hg];exact run h hr hrun
  ·rename_i j want hg;simp only[hg];split at h
   ·rename_i hd;simp only[hd];exact skip h hr hrun
   ·rename_i d hd;simp only[hd];have hsl:=hr.slot d;split at h
    ·rename_i hv;rw[hv]at hsl;simp only[RV]at hsl;simp only[hsl];exact skip h hr hrun
    ·rename_i b hv;rw[hv]at hsl;simp only[RV,SE.den]at hsl;simp only[hsl.1];split at h
     ·rename_i hb;rw[if_pos hb];exact run h hr hrun
     ·rename_i hb;rw[if_neg hb];exact skip h hr hrun
    ·rename_i x _ hv;rw[hv]at hsl;simp only[RV]at hsl;cases want with
     |true=>
      simp only[if_true]at h;obtain⟨a,b,ha,hb,rfl⟩:=iteM_ok h;rcases hrun.ite with⟨h1,h2⟩|⟨h1,h2⟩
      ·have e:s.g d=.bool true:=by rw[hsl.1];exact h1
       simp only[e,if_true];obtain⟨s1,q1,q2⟩:=run ha (rel_know hr e) h2;exact⟨s1,q1,opW_imp (λs' _ h=>opsW_mono (λs'' h=>back h) l s' h) q2⟩
      ·have e:s.g d=.bool false:=by rw[hsl.1];exact h1
       simp only[e,Bool.false_eq_true,if_false];exact opsW_mono (λs'' h=>back h) l _ (skip hb (rel_know hr e) h2)
     |false=>
      simp only[Bool.false_eq_true,if_false]at h;obtain⟨a,b,ha,hb,rfl⟩:=iteM_ok h;rcases hrun.ite with⟨h1,h2⟩|⟨h1,h2⟩
      ·have e:s.g d=.bool true:=by rw[hsl.1];exact h1
       simp only[e,Bool.true_eq_false,if_false];exact opsW_mono (λs'' h=>back h) l _ (skip ha (rel_know hr e) h2)
      ·have e:s.g d=.bool false:=by rw[hsl.1];exact h1
       simp only[e,if_true];obtain⟨s1,q1,q2⟩:=run hb (rel_know hr e) h2;exact⟨s1,q1,opW_imp (λs' _ h=>opsW_mono (λs'' h=>back h) l s' h) q2⟩
    ·cases h
def StpN(X:Ctx)(F:Frm)(C:Orc->FuncId->List PV->Option PV)(n:Nat)(R:Out->Prop)(K:Sym->M)(S:Sym)(ρ:List PV)(b:Nat)(m0:Mem)(s':St):Prop:=Stp X F C n R K S ρ s'/\NearX F (some b) m0 s'
def tabX(X:Ctx)(C:Orc->FuncId->List PV->Option PV):Tab:=λg args an v an'=>match findOr X.ownr g with
 |none=>an'=an/\v.plain=true/\∃ω,C ω g (args.map detok)=some v
 |some r=>∃p ω,C ω g (args.map detok)=some p/\p.plain=true/\an<=an'/\OwnV r.1 p v an an'
theorem callOk_C{DI:List PV->Prop}(hC:CSound X.P DI C)(ho:∀g r,findOr X.ownr g=some r->OwnSound X.P DI C g r.1){g:FuncId}{args args':List PV}(ha:∀m,Near m0 m->ArgL DI m args args')(hsome:∀ω,(C ω g args).isSome)(an:Nat)(hsh:∀r,findOr X.ownr g=some r->∀ω p,C ω g args=some p->∃v,OwnV r.1 p v an (an+1)):callOk X.P m0 (tabX X C) g args' an:=by
 have hd:args'.map detok=args:=argL_detok (ha m0 ⟨Nat.le_refl _,λ_ _=>rfl⟩);unfold callOk tabX;cases hf:findOr X.ownr g with
 |none=>
  simp only[];have hans:=λm hm=>hC.ans g args hsome args' m (ha m hm);refine⟨?_,λm hm han=>(hans m hm).mono ?_⟩
  ·obtain⟨v,hv⟩:=Option.isSome_iff_exists.1 (hsome orc0);exact⟨v,an,rfl,hC.plain _ _ _ _ hv,orc0,by rw[hd];exact hv⟩
  ·rintro v E m' ⟨⟨ω,hv⟩,hp,rfl,rfl⟩;exact⟨rfl,rfl,Nat.le_refl _,by rw[←han],hp,ω,by rw[hd];exact hv⟩
 |some r=>
  simp only[];refine⟨?_,λm hm han=>(ho g r hf args hsome args' m (ha m hm)).mono ?_⟩
  ·obtain⟨v,hv⟩:=Option.isSome_iff_exists.1 (hsome orc0);obtain⟨y,hy⟩:=hsh r hf orc0 v hv;exact⟨y,an+1,v,orc0,by rw[hd];exact hv,hC.plain _ _ _ _ hv,by omega,hy⟩
  ·rintro v E m' ⟨p,ω,hv,hp,rfl,hm',han',hov⟩;exact⟨rfl,hm',han',p,ω,by rw[hd];exact hv,hp,by omega,by rw[←han];exact hov⟩
end
end
end Go.Proofs.Ytjfejoadcdoobaa
