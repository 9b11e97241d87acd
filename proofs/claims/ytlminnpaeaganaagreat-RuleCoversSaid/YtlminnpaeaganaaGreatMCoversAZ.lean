/- Part of the proof of RuleCovers. No condition. -/
import Derived.Test.YtlminnpaeaganaaGreatMCoversAV
import Derived.Test.YtlminnpaeaganaaGreatMCoversAX
import Derived.Test.YtlminnpaeaganaaGreatMCoversAY
namespace Go.Proofs.YtlminnpaeaganaaGreat
set_option maxRecDepth 100000
set_option linter.all false
section
open Go Go.RowKit
theorem Pm{k:Nat}{cs:List aa}(h:g3 Tryz.prog (k+1) 3 cs):∃n,cs=[ax n]:=by
 unfold g3 at h;rw[JM]at h;obtain⟨n,aI,_⟩:=h;exact⟨n,aI⟩
theorem apu:Tryz.prog.underlying 4=some .bool:=by kernel_rfl
theorem aoD{k:Nat}{cs:List aa}(h:g3 Tryz.prog (k+1) 4 cs):∃b,cs=[.bool b]:=by
 unfold g3 at h;rw[apu]at h;exact h
theorem c3:Tryz.prog.cellsOf 3=1:=by kernel_rfl
theorem aog:Tryz.prog.cellsOf 58=3:=by kernel_rfl
theorem anO{k:Nat}{cs:List aa}(h:g3 Tryz.prog (k+2) 22 cs):∃x l,cs=[x]/\dI x l:=by
 unfold g3 at h;rw[Kl]at h;simp only at h;rcases h with h|⟨off,ls,h,_,ak⟩
 ·exact⟨.bC,[],h,.inl ⟨rfl,rfl⟩⟩
 ·rw[c3]at h ak;have key:∀ls:List (List aa),(∀l∈ls,∃n,l=[ax n])->∃ns:List Int,ls.flatten=ns.map ax/\ns.length=ls.length:=by
   intro ls;induction ls with
   |nil=>intro _;exact⟨[],rfl,rfl⟩
   |cons a ls az=>
    intro au;obtain⟨n,rfl⟩:=au a (by simp);obtain⟨ns,U,ab⟩:=az λl hm=>au l (by simp[hm]);exact⟨n::ns,by simp[U],by simp[ab]⟩
  obtain⟨ns,U,ab⟩:=key ls λl hm=>Pm (ak l hm).1;rw[U,←ab]at h;exact⟨_,ns,h,.inr ⟨off,rfl⟩⟩
theorem adP{k:Nat}{t:TypeId}{ts:List TypeId}{cs:List aa}(a1:(match Tryz.prog.underlying t with|some (.struct fs)=>decide (fs.toList.map (·.type)=ts)|_=>false)=true)(h:g3 Tryz.prog (k+1) t cs):∃ls:List (List aa),cs=ls.flatten/\ls.length=ts.length/\∀(i:Nat) u l,ts[i]?=some u->ls[i]?=some l->g3 Tryz.prog k u l:=by
 unfold g3 at h;split at a1
 ·rename_i fs Kj;rw[Kj]at h;simp only[decide_eq_true_eq]at a1;obtain⟨ls,U,ab,al⟩:=h;refine⟨ls,U,by rw[ab,←a1];simp,λi u l hu ak=>?_⟩;rw[←a1]at hu;simp only[List.getElem?_map,Option.map_eq_some_iff]at hu;obtain⟨f,aQ,rfl⟩:=hu;exact(al i f l (by simpa using aQ) ak).1
 ·cases a1
theorem ao9{α:Type}{l:List α}(h:l.length=3):∃a b c,l=[a,b,c]:=by
 match l,h with
 |[a,b,c],_=>exact⟨a,b,c,rfl⟩
theorem apa{α:Type}{l:List α}(h:l.length=2):∃a b,l=[a,b]:=by
 match l,h with
 |[a,b],_=>exact⟨a,b,rfl⟩
theorem ao6{α:Type}{l:List α}(h:l.length=5):∃a b c d e,l=[a,b,c,d,e]:=by
 match l,h with
 |[a,b,c,d,e],_=>exact⟨a,b,c,d,e,rfl⟩
theorem aoq{k:Nat}{cs:List aa}(h:g3 Tryz.prog (k+3) 58 cs):∃r:aX,cs=r.cells/\dI r.sp r.st:=by
 obtain⟨ls,rfl,ak,ao⟩:=adP (ts:=[22,3,3]) (by kernel_rfl) h;obtain⟨a,b,c,rfl⟩:=ao9 ak;obtain⟨x,st,rfl,hi⟩:=anO (ao 0 22 a rfl rfl);obtain⟨n,rfl⟩:=Pm (ao 1 3 b rfl rfl);obtain⟨m,rfl⟩:=Pm (ao 2 3 c rfl rfl);exact⟨⟨x,st,n,m⟩,rfl,hi⟩
theorem aom{q:aa}(h:l4 Tryz.prog 6 27 q):∃slip b3 l,q=.agg [ax slip,b3]/\mQ b3 l/\∀r∈l,dI r.sp r.st:=by
 have au:ik Tryz.prog 27=some true:=by kernel_rfl
 unfold l4 at h;rw[au]at h;obtain⟨cs,rfl,ah⟩:=h;obtain⟨ls,rfl,ak,ao⟩:=adP (ts:=[3,25]) (by kernel_rfl) ah;obtain⟨a,b,rfl⟩:=apa ak;obtain⟨slip,rfl⟩:=Pm (ao 0 3 a rfl rfl);have hb:=ao 1 25 b rfl rfl;unfold g3 at hb;rw[Uv]at hb;simp only at hb;rcases hb with rfl|⟨off,ls,rfl,_,ak⟩
 ·exact⟨slip,.bC,[],rfl,.inl ⟨rfl,rfl⟩,by simp⟩
 ·rw[aog]at ak;have key:∀ls:List (List aa),(∀l∈ls,∃r:aX,l=r.cells/\dI r.sp r.st)->∃rs:List aX,ls.flatten=dJ rs/\rs.length=ls.length/\∀r∈rs,dI r.sp r.st:=by
   intro ls;induction ls with
   |nil=>intro _;exact⟨[],rfl,rfl,by simp⟩
   |cons a ls az=>
    intro au;obtain⟨r,rfl,ad⟩:=au a (by simp);obtain⟨rs,U,ab,al⟩:=az λl hm=>au l (by simp[hm]);exact⟨r::rs,by simp[U],by simp[ab],by simp;exact⟨ad,al⟩⟩
  obtain⟨rs,U,ab,al⟩:=key ls λl hm=>aoq (ak l hm).1;refine⟨slip,_,rs,rfl,.inr ⟨off,?_⟩,al⟩;rw[aog,U,ab]
theorem aoP{t:TypeId}{q:aa}(au:(match ik Tryz.prog t with|some true=>false|_=>true)=true)(h:l4 Tryz.prog 6 t q):g3 Tryz.prog 6 t [q]:=by
 unfold l4 at h;split at h
 ·rename_i e;rw[e]at au;cases au
 ·obtain⟨dF,rfl,h⟩:=h;exact h
theorem D2{P:Program}{k:Nat}{t:TypeId}{ts:List TypeId}{bz:List aa}(h:qu P k (t::ts) bz):∃q Lm,bz=q::Lm/\l4 P k t q/\qu P k ts Lm:=by
 cases bz with
 |nil=>exact h.elim
 |cons q bz=>exact⟨q,bz,rfl,h.1,h.2⟩
theorem ace{P:Program}{k:Nat}{bz:List aa}(h:qu P k [] bz):bz=[]:=by
 cases bz with
 |nil=>rfl
 |cons q bz=>exact h.elim
theorem apk(k:Nat){slip:Int}{b3 y:aa}{l:List aX}{ps:List a7}(ad:mQ b3 l)(mE:∀r∈l,dI r.sp r.st)(aF:ov y ps)(qw:∀p∈ps,dI p.k6 p.g):dT (k+1) 21 [.agg [ax slip,b3],y] λv=>∃b,v=.bool b/\(b=false->(l.length<=20/\∀r∈l,r.st.length<=20)/\ps.length<=20/\∀p∈ps,p.g.length<=20):=by
 refine gj (t:=t21) (by kernel_rfl) (fn:=Tryz.f21) (by kernel_rfl) (by simp[dd,flagsOf,ad.Jg mE,aF.plain qw]) ?_;refine eU (by simp only[ag,aD,aM,aS.aP,aR.aP,cF,nth,cM,List.getD_cons_succ,List.getD_cons_zero,aX.cells,a7.cells];rfl) rfl ?_;refine ez (λaf=>af=[.bool (decide (20<l.length\/20<ps.length))]) ?_ ?_
 ·refine k9 rfl ad ?_;refine pf rfl rfl ?_;refine cK rfl (λU=>?_) (λU=>?_)
  ·exact cw (xi (by omega))
  ·refine wj rfl aF ?_;refine pf rfl rfl ?_;exact cw (sX (by omega))
 rintro af rfl;try refine eK (by(try simp only[List.length_cons,List.length_nil,Nat.reduceAdd,Nat.zero_add]);rfl) (by(try simp only[dz]);rfl) ?_
 refine cK rfl (λU=>?_) (λU=>?_)
 ·exact wp_ret rfl rfl ⟨true,rfl,λh=>by cases h⟩
 refine ez (λaf=>af=[]/\∀r∈l,r.st.length<=20) ?_ ?_
 ·refine wp_loop (λj af=>∃i:Nat,af=[ax i]/\i+j=l.length/\∀m,m<i->(l.getD m default).st.length<=20) l.length (by omega) ⟨0,rfl,by omega,λm hm=>by omega⟩ ?_;rintro j af ⟨i,rfl,hi,hb⟩;try refine eK (by(try simp only[List.length_cons,List.length_nil,Nat.reduceAdd,Nat.zero_add]);rfl) (by(try simp only[dz]);rfl) ?_
  refine k9 rfl ad ?_;refine hZ rfl rfl ?_;refine cK rfl (λab=>?_) (λab=>?_)
  ·have aU:i<l.length:=by omega
   have du:=m6 ad aU;have h9:=mE _ (pH aU);have bh:(l.getD i default).st.length<=20->∀m,m<i+1->(l.getD m default).st.length<=20:=λaT m hm=>by
    by_cases e:m=i
    ·subst e;exact aT
    ·exact hb m (by omega)
   generalize l.getD i default=r at du h9 bh;refine wp _ du ?_;refine ib rfl h9 ?_;refine pf rfl rfl ?_;refine cK rfl (λal=>?_) (λal=>?_)
   ·refine gK ?_;refine gK ?_;exact wp_ret rfl rfl ⟨true,rfl,λh=>by cases h⟩
   ·refine ie rfl rfl (by omega) ?_;exact cw ⟨j-1,by omega,i+1,rfl,by omega,bh (by omega)⟩
  ·refine ia (by decide) ?_;exact cw ⟨rfl,uF (d:=default) (P:=λr:aX=>r.st.length<=20) λm hm=>hb m (by omega)⟩
 rintro af ⟨rfl,tA⟩;try refine eK (by(try simp only[List.length_cons,List.length_nil,Nat.reduceAdd,Nat.zero_add]);rfl) (by(try simp only[dz]);rfl) ?_
 refine ez (λaf=>af=[]/\∀p∈ps,p.g.length<=20) ?_ ?_
 ·refine wp_loop (λj af=>∃i:Nat,af=[ax i]/\i+j=ps.length/\∀m,m<i->(ps.getD m default).g.length<=20) ps.length (by omega) ⟨0,rfl,by omega,λm hm=>by omega⟩ ?_;rintro j af ⟨i,rfl,hi,hb⟩;try refine eK (by(try simp only[List.length_cons,List.length_nil,Nat.reduceAdd,Nat.zero_add]);rfl) (by(try simp only[dz]);rfl) ?_
  refine wj rfl aF ?_;refine hZ rfl rfl ?_;refine cK rfl (λab=>?_) (λab=>?_)
  ·have aU:i<ps.length:=by omega
   have du:=BA aF aU;have h9:=qw _ (Ll aU);have bh:(ps.getD i default).g.length<=20->∀m,m<i+1->(ps.getD m default).g.length<=20:=λaT m hm=>by
    by_cases e:m=i
    ·subst e;exact aT
    ·exact hb m (by omega)
   generalize ps.getD i default=p at du h9 bh;refine wp _ du ?_;refine ib rfl h9 ?_;refine pf rfl rfl ?_;refine cK rfl (λal=>?_) (λal=>?_)
   ·refine gK ?_;refine gK ?_;exact wp_ret rfl rfl ⟨true,rfl,λh=>by cases h⟩
   ·refine ie rfl rfl (by omega) ?_;exact cw ⟨j-1,by omega,i+1,rfl,by omega,bh (by omega)⟩
  ·refine ia (by decide) ?_;exact cw ⟨rfl,uF (d:=default) (P:=λp:a7=>p.g.length<=20) λm hm=>hb m (by omega)⟩
 rintro af ⟨rfl,np⟩;exact wp_ret rfl rfl ⟨false,rfl,λ_=>⟨⟨by omega,tA⟩,by omega,np⟩⟩
theorem aoX{l:List aX}{i:Nat}{r:aX}(h:∀r∈l,dI r.sp r.st)(ad:dI r.sp r.st):∀s∈l.set i r,dI s.sp s.st:=λs ao=>by
 rcases List.mem_or_eq_of_mem_set ao with bc|bc
 ·exact h s bc
 ·rw[bc];exact ad
theorem apo(k:Nat){slip:Int}{b3:aa}{l:List aX}(h:iq b3 l):dT (k+6) 22 [.agg [ax slip,b3],pQ] λv=>∃s2 tb ei aaz ss,v=.sl none 2 0 4 [ax slip,b3,ax s2,tb,ax s2,aaz,ax s2,tb]/\Hand s2 tb ei/\ei.length<=3/\iq aaz ss/\ss.length=ei.length:=by
 refine gj (t:=t22) (by kernel_rfl) (fn:=Tryz.f22) (by kernel_rfl) (by simp[dd,flagsOf,h.plain]) ?_;refine eU (by simp only[ag,aD,aM,aS.aP,aR.aP,cF,nth,cM,List.getD_cons_succ,List.getD_cons_zero,aX.cells,a7.cells];rfl) rfl ?_;refine nN (agi k 3 (by omega) (by omega)) rfl ?_;rintro v ⟨s2,tb,ei,rfl,cc,vM,F4,gk,bQ,fU⟩;have e4:Hand s2 tb ei:=⟨cc,vM,F4,gk,by omega,fU⟩;refine eU (by simp only[ag,aD,aM,aS.aP,aR.aP,cF,nth,cM,List.getD_cons_succ,List.getD_cons_zero,aX.cells,a7.cells];rfl) rfl ?_;refine k9 rfl (by assumption) ?_;refine an1 rfl (by omega) ?_;refine ez (λaf=>af=[.agg (dJ (ei.map eV))]) ?_ ?_
 ·refine wp_loop (λj af=>∃(i:Nat)(L:List aX),af=[ax i,.agg (dJ L)]/\i+j=ei.length/\L.length=ei.length/\∀k,k<i->L.getD k default=eV (ei.getD k default)) ei.length (by omega) ⟨0,List.replicate ei.length default,rfl,by omega,by simp,by simp⟩ ?_;rintro j af ⟨i,L,rfl,hi,dg,aq⟩;try refine eK (by(try simp only[List.length_cons,List.length_nil,Nat.reduceAdd,Nat.zero_add]);rfl) (by(try simp only[dz]);rfl) ?_
  refine ae9 rfl ?_;refine hZ rfl rfl ?_;refine cK rfl (λbc=>?_) (λbc=>?_)
  ·have aU:i<ei.length:=by omega
   have du:=m6 F4 aU;have ad:=e4.get aU;have h9:=ad.c5;have h6:=ad.ei;generalize cn:ei.getD i default=r at h9 h6 du;refine wp _ du ?_;refine dr (am3 (k+3) h9 (by omega)) rfl ?_;refine aix rfl rfl (by omega) ?_;refine eU (cs:=(eV r).cells) rfl rfl ?_;refine aiy (r:=eV r) rfl rfl rfl (by omega) ?_;refine ie rfl rfl (by omega) ?_;refine cw ⟨j-1,by omega,i+1,L.set i (eV r),rfl,by omega,by simpa using dg,λk gx=>?_⟩;by_cases e:k=i
   ·subst e;have:k<L.length:=by omega
    rw[cn];simp[List.getD_eq_getElem?_getD,this]
   ·have:=aq k (by omega);simp only[List.getD_eq_getElem?_getD]at this⊢;rw[List.getElem?_set_ne (by omega)];exact this
  ·refine ia (by decide) ?_;have e:L=ei.map eV:=List.ext_getElem (by simpa using dg) λk U ab=>by
    have al:k<ei.length:=by simpa using ab
    have:=aq k (by omega);simpa[List.getD_eq_getElem?_getD,U,al]using this
   rw[e];exact cw rfl
 rintro af rfl;try refine eK (by(try simp only[List.length_cons,List.length_nil,Nat.reduceAdd,Nat.zero_add]);rfl) (by(try simp only[dz]);rfl) ?_
 refine k9 rfl h.gS ?_;refine pf rfl rfl ?_;have Co:(ei.map eV).length=ei.length:=by simp
 have BS:∀r∈ei.map eV,dI r.sp r.st:=ai9;have xw:∀r∈ei.map eV,r.st.length<=20:=λr ad=>by
  obtain⟨bR,ir,rfl⟩:=List.mem_map.1 ad;have:=(fU bR ir).ei;show bR.st.length<=20;omega
 generalize ei.map eV=D at Co BS xw;refine ez (λaf=>∃L:List aX,af=[.agg (dJ L)]/\L.length=ei.length/\(∀r∈L,dI r.sp r.st)/\∀r∈L,r.st.length<=20) ?_ ?_
 ·refine cK rfl (λU=>?_) (λU=>?_)
  ·have aU:0<l.length:=by omega
   have du:=m6 h.gS aU;have h9:=h.rd _ (pH aU);have h6:=h.ma _ (pH aU);generalize l.getD 0 default=r at du h9 h6;refine ae9 rfl ?_;refine AT rfl rfl (by omega) ?_;refine nN (m8 (k+3) ((D.length-1:Nat):Int) (by omega) (by omega)) rfl ?_;rintro v ⟨m,rfl,ani,xu⟩;obtain⟨m,rfl⟩:=Int.eq_ofNat_of_zero_le ani;refine wp _ du ?_;refine dr (am3 (k+3) h9 h6) rfl ?_;refine aix rfl rfl (by omega) ?_;refine eU (cs:=(eV r).cells) rfl rfl ?_;refine aiy (r:=eV r) rfl rfl rfl (by omega) ?_;refine cw ⟨D.set m (eV r),rfl,by simp[Co],aoX BS (.inr ⟨0,rfl⟩),λs ao=>?_⟩;rcases List.mem_or_eq_of_mem_set ao with bc|bc
   ·exact xw s bc
   ·rw[bc];exact h6
  ·exact cw ⟨D,rfl,Co,BS,xw⟩
 rintro af ⟨L,rfl,apE,aoh,apF⟩;try refine eK (by(try simp only[List.length_cons,List.length_nil,Nat.reduceAdd,Nat.zero_add]);rfl) (by(try simp only[dz]);rfl) ?_
 refine anX rfl ?_;have gr:=h.plain;have p2:=e4.plain;have p3:=GR aoh;refine wp_ret (v:=.sl none 2 0 4 [ax slip,b3,ax s2,tb,ax s2,.sl none 3 0 L.length (dJ L),ax s2,tb]) rfl (by simp[gr,p2,p3]) ⟨s2,tb,ei,_,L,rfl,e4,by omega,⟨.inr ⟨0,rfl⟩,aoh,by omega,apF⟩,apE⟩
theorem apq{bg gf eD fj fA gB jD k2:aa}:∀i:Nat,i<4->kp 2 (.sl none 2 0 4 [bg,gf,eD,fj,fA,gB,jD,k2]) (ax i)=some (.agg [[bg,eD,fA,jD].getD i .bad,[gf,fj,gB,k2].getD i .bad])
 |0,_=>rfl
 |1,_=>rfl
 |2,_=>rfl
 |3,_=>rfl
theorem apb{id:Option Nat}{a b n:Nat}{cs:List aa}:ht Tryz.prog 48 (.sl id a b n cs)=some (ax n):=by
 have h:(match Tryz.prog.underlying 48 with|some (.slice _)=>true|_=>false)=true:=by kernel_rfl
 split at h
 ·rename_i e he;simp[ht,he]
 ·cases h
theorem aoC{C:b2->FuncId->List aa->Option aa}{n:Nat}{R:Out->Prop}{d:Nat}{st:List aa}{t:Tree}{x:aS}{id:Option Nat}{a b m:Nat}{cs:List aa}(aj:x.aP d st=.sl id a b m cs)(k:b6 C n t (d+1) (ax m::st) R):b6 C n (.av (.len 48 x) t) d st R:=wp _ (by simp only[Prim.fZ,aj];exact apb) k
end
section
open Go Go.RowKit
abbrev lF(l:List Bool):List aa:=l.map aa.bool
def su(x:aa)(l:List Bool):Prop:=(x=.bC/\l=[])\/∃off,x=.sl none 1 off l.length (lF l)
theorem Pn(l:List Bool):bG (lF l)=true:=by
 induction l with
 |nil=>rfl
 |cons a l az=>simp_all
theorem su.plain{x:aa}{l:List Bool}(h:su x l):x.plain=true/\x.one=true:=by
 rcases h with⟨rfl,_⟩|⟨off,rfl⟩;all_goals simp_all[Pn]
theorem agv:Tryz.prog.underlying 119=some (.slice 4):=by kernel_rfl
theorem su.len{x:aa}{l:List Bool}(h:su x l):ht Tryz.prog 119 x=some (ax l.length):=by rcases h with⟨rfl,rfl⟩|⟨off,rfl⟩<;>simp[ht]
theorem an7{x:aa}{l:List Bool}(h:su x l){n:Nat}(aI:n<l.length):kp 1 x (ax n)=some (.agg [.bool (l.getD n false)]):=by
 rcases h with⟨rfl,rfl⟩|⟨off,rfl⟩;all_goals simp_all[List.drop_eq_getElem_cons,kp]
def BB(l:List Bool):aa:=match l with
 |[]=>.bC
 |a::l=>.sl none 1 0 (l.length+1) (lF (a::l))
theorem an8(l:List Bool):su (BB l) l:=by
 cases l with
 |nil=>exact .inl ⟨rfl,rfl⟩
 |cons a l=>exact .inr ⟨0,rfl⟩
section
variable{C:b2->FuncId->List aa->Option aa}{n:Nat}{R:Out->Prop}{d:Nat}{st:List aa}{t:Tree}
theorem aox{x:aS}{v:aa}{l:List Bool}(aj:x.aP d st=v)(h:su v l)(k:b6 C n t (d+1) (ax l.length::st) R):b6 C n (.av (.len 119 x) t) d st R:=wp _ (by rw[←h.len,←aj];rfl) k
theorem aoY{x:aS}{m:Nat}(aj:x.aP d st=ax m)(hm:m<1000000)(k:b6 C n t (d+1) (.agg (lF (List.replicate m false))::st) R):b6 C n (.av (.mk [.bool false] 1 x) t) d st R:=wp _ (by
 have e:∀n:Nat,e8 [.bool false] n=lF (List.replicate n false):=by
  intro n;induction n with
  |zero=>rfl
  |succ n az=>grind [e8]
 grind [Prim.fZ,tL]) k
theorem aoG{c:aR}{l:List Bool}(ah:c.aP d st=.agg (lF l))(k:b6 C n t (d+1) (.sl none 1 0 l.length (lF l)::st) R):b6 C n (.av (.bK 1 .real c) t) d st R:=wp _ (by simp[Prim.fZ,ah,iU,isNil]) k
theorem aoH{c:aR}{l:List Bool}(ah:c.aP d st=.agg (lF l))(k:b6 C n t (d+1) (BB l::st) R):b6 C n (.av (.bK 1 .cZ c) t) d st R:=wp _ (by
 cases l with
 |nil=>simp[Prim.fZ,ah,iU,isNil,BB]
 |cons a l=>simp[Prim.fZ,ah,iU,isNil,BB]) k
theorem aoI{c:aR}{y:aS}{l:List Bool}{a:Bool}(ah:c.aP d st=.agg (lF l))(aF:y.aP d st=.sl none 1 0 1 [.bool a])(ak:l.length<1000000)(k:b6 C n t (d+1) (.agg (lF (l++[a]))::st) R):b6 C n (.av (.push 1 1 c y) t) d st R:=wp _ (by
 simp[Prim.fZ,ah,aF];omega) k
end
def Cp(slip:Int)(r:aX)(p:a7)(line:Nat)(fl:List Bool):Bool:=(List.range p.g.length).all λk=>fl.getD k false||nr slip (p.g.getD k 0) (dp r (line+k))
def n4(slip:Int)(r:aX)(p:a7)(line:Nat)(fl:List Bool):Bool:=decide (((line+p.g.length:Nat):Int)<=r.lines-1)&&(Cp slip r p line fl&&(!(pG slip r p line||sf slip r p line)&&sg slip r p))
theorem aoy{slip:Int}{r:aX}{p:a7}{line n:Nat}:n4 slip r p line (List.replicate n false)=ln slip r p line:=by grind [Cp,Ci,n4,ln]
theorem am1{slip:Int}{r:aX}{p:a7}{line:Nat}:pG slip r p line=decide (0<line/\dp r (line-1)<=p.up-slip):=by grind [pG,x3]
theorem an2{slip:Int}{r:aX}{p:a7}{line:Nat}:sf slip r p line=decide (((line+p.g.length:Nat):Int)<r.lines-1/\dp r (line+p.g.length)<=p.aP-slip):=by grind [sf,x3]
theorem an9{slip a b:Int}:nr slip a b=decide (a-b<=slip/\b-a<=slip):=by simp[nr]
theorem aoa(k:Nat){slip:Int}(aT:0<=slip)(U:slip<=3){r:aX}(ad:r.ok){p:a7}(ae:p.ok){line:Nat}(ak:line<100){x:aa}{fl:List Bool}(aj:su x fl)(xr:fl.length=p.g.length):dT (k+2) 115 [.agg r.cells,ax slip,.agg p.cells,ax line,x] λv=>v=.bool (n4 slip r p line fl):=by
 refine gj (t:=t115) (by kernel_rfl) (fn:=Tryz.f115) (by kernel_rfl) (by simp[dd,flagsOf,a7.cells,ae.c5.plain,aX.cells,ad.c5.plain,aj.plain]) ?_;have fp:=ae.pR;have hn:=ad.hn;have k5:=ad.k5;have w1:=ad.w1;have w2:=ad.w2;have gr:=ae.ud;have p2:=ae.j7;have p3:=ae.d0;have p4:=ae.d1;have CI:=ae.c9;have vH:=ae.w1;have bh:=Jh ad;have oN:=ae.c5;refine eU (by rfl) rfl ?_;refine eU (by rfl) rfl ?_;refine ib rfl (by assumption) ?_;refine IN rfl rfl (by omega) ?_;refine ez (λaf=>af=[.bool (decide (r.lines-1<((line+p.g.length:Nat):Int)))]) ?_ ?_
 ·refine hZ rfl rfl ?_;refine pW rfl (by omega) ?_;refine Ek rfl rfl (by omega) (by omega) ?_;refine pf rfl rfl ?_;exact cw rfl
 rintro af rfl;refine cK rfl (λab=>?_) (λab=>?_)
 ·refine wp_ret rfl rfl ?_;have al:¬(((line+p.g.length:Nat):Int)<=r.lines-1):=by omega
  unfold n4;rw[decide_eq_false al];rfl
 have aV:decide (((line+p.g.length:Nat):Int)<=r.lines-1)=true:=decide_eq_true (by omega);refine ez (λaf=>af=[]/\Cp slip r p line fl=true) ?_ ?_
 ·refine wp_loop (λj af=>∃i:Nat,af=[ax i]/\i+j=p.g.length/\∀k,k<i->(fl.getD k false||nr slip (p.g.getD k 0) (dp r (line+k)))=true) p.g.length (by omega) ⟨0,rfl,by omega,λk aq=>by omega⟩ ?_;rintro j af ⟨i,rfl,hi,hb⟩;refine ib rfl (by assumption) ?_;refine hZ rfl rfl ?_;refine cK rfl (λal=>?_) (λal=>?_)
  ·have aU:i<p.g.length:=by omega
   have aN:=ae.get aU;have ao:=bh (line+i);have kt:=tc oN aU;have Ut:(fl.getD i false||nr slip (p.g.getD i 0) (dp r (line+i)))=false->Cp slip r p line fl=false:=λh=>Bool.eq_false_iff.2 λah=>by
    have:=List.all_eq_true.1 ah i (by simpa using aU);rw[h]at this;cases this
   have bh:(fl.getD i false||nr slip (p.g.getD i 0) (dp r (line+i)))=true->∀k,k<i+1->(fl.getD k false||nr slip (p.g.getD k 0) (dp r (line+k)))=true:=λh k aq=>by
    by_cases e:k=i
    ·subst e;exact h
    ·exact hb k (by omega)
   generalize p.g.getD i 0=a at aN kt Ut bh;clear oN;refine ez (λaf=>af=[.bool (!(fl.getD i false||nr slip a (dp r (line+i))))]) ?_ ?_
   ·refine wp _ (an7 aj (by omega)) ?_;refine wI rfl ?_;refine wq rfl (λaJ=>?_) (λaJ=>?_)
    ·have e:fl.getD i false=false:=by simpa using aJ
     refine wp _ kt ?_;refine IN rfl rfl (by omega) ?_;refine dr (anh (k+0) ad (line+i)) rfl ?_;refine dr (an6 (k+0) (slip:=slip) (m:=a) (r:=dp r (line+i)) (by omega)) rfl ?_;refine wI rfl ?_;rw[e,an9,Bool.false_or];exact cw rfl
    ·have e:fl.getD i false=true:=by simpa using aJ
     rw[e,Bool.true_or];exact cw rfl
   rintro af rfl;refine wq rfl (λaJ=>?_) (λaJ=>?_)
   ·refine gK ?_;refine gK ?_;refine wp_ret rfl rfl ?_;unfold n4;rw[aV,Ut (by cases ai:(fl.getD i false||nr slip a (dp r (line+i)))with|false=>rfl|true=>rw[ai]at aJ;cases aJ)];rfl
   ·refine ie rfl rfl (by omega) ?_;exact cw ⟨j-1,by omega,i+1,rfl,by omega,bh (by cases ai:(fl.getD i false||nr slip a (dp r (line+i)))with|true=>rfl|false=>rw[ai]at aJ;cases aJ)⟩
  ·refine ia (by decide) ?_;exact cw ⟨rfl,List.all_eq_true.2 λk aq=>hb k (by simp at aq;omega)⟩
 rintro af ⟨rfl,ans⟩;refine ez (λaf=>af=[.bool (decide (0<line/\dp r (line-1)<=p.up-slip))]) ?_ ?_
 ·refine pf rfl rfl ?_;refine cK rfl (λal=>?_) (λal=>?_)
  ·refine AT rfl rfl (by omega) ?_;refine dr (anh (k+0) ad (line-1)) rfl ?_;refine Ek rfl rfl (by omega) (by omega) ?_;refine A6 rfl rfl ?_;exact cw (sX (by omega))
  ·exact cw (EZ (by omega))
 rintro af rfl;refine cK rfl (λal=>?_) (λal=>?_)
 ·refine wp_ret rfl rfl ?_;unfold n4;rw[aV,ans,am1,decide_eq_true al];rfl
 refine ez (λaf=>af=[.bool (decide (((line+p.g.length:Nat):Int)<r.lines-1/\dp r (line+p.g.length)<=p.aP-slip))]) ?_ ?_
 ·refine Ek rfl rfl (by omega) (by omega) ?_;refine hZ rfl rfl ?_;refine cK rfl (λaJ=>?_) (λaJ=>?_)
  ·refine dr (anh (k+0) ad (line+p.g.length)) rfl ?_;refine Ek rfl rfl (by omega) (by omega) ?_;refine A6 rfl rfl ?_;exact cw (sX (by omega))
  ·exact cw (EZ (by omega))
 rintro af rfl;refine cK rfl (λaJ=>?_) (λaJ=>?_)
 ·refine wp_ret rfl rfl ?_;unfold n4;rw[aV,ans,am1,an2,decide_eq_true aJ,decide_eq_false al];rfl
 refine ez (λaf=>af=[.bool (sg slip r p)]) ?_ ?_
 ·refine sM rfl rfl ?_;refine cK rfl (λbm=>?_) (λbm=>?_)
  ·have e:sg slip r p=true:=by unfold sg;rw[decide_eq_true bm];rfl
   rw[e];exact cw rfl
  ·refine dr (an6 (k+0) (slip:=slip) (m:=p.wd) (r:=r.width) (by omega)) rfl ?_;have e:sg slip r p=nr slip p.wd r.width:=by unfold sg;rw[decide_eq_false bm];rfl
   rw[e,an9];exact cw rfl
 rintro af rfl;refine wp_ret rfl rfl ?_;unfold n4;rw[aV,ans,am1,an2,decide_eq_false aJ,decide_eq_false al];rfl
theorem apc(k:Nat){p:a7}(ae:p.ok):dT (k+1) 116 [.agg p.cells] λv=>v=.agg [m9 p.g.reverse,ax p.aP,ax p.up,ax p.wd,.bool p.fr]:=by
 refine gj (t:=t116) (by kernel_rfl) (fn:=Tryz.f116) (by kernel_rfl) (by simp[dd,flagsOf,a7.cells,ae.c5.plain]) ?_;have fp:=ae.pR;have oN:=ae.c5;refine eU (cs:=p.cells) rfl rfl ?_;refine ib rfl oN ?_;refine Ek rfl rfl (by omega) (by omega) ?_;refine ez (λaf=>af=[.agg (p.g.reverse.map ax)]) ?_ ?_
 ·refine wp_loop (λj af=>∃L:List Int,af=[ax ((j:Int)-1),.agg (L.map ax)]/\L.length+j=p.g.length/\L=p.g.reverse.take L.length) p.g.length (by omega) ⟨[],rfl,by simp,by simp⟩ ?_;rintro j af ⟨L,rfl,dg,aq⟩;refine Jl rfl rfl ?_;refine cK rfl (λh=>?_) (λh=>?_)
  ·obtain⟨m,rfl⟩:∃m,j=m+1:=⟨j-1,by omega⟩;have e:((m+1:Nat):Int)-1=(m:Int):=by omega
   rw[e];refine uG (m:=m) rfl oN rfl (by omega) ?_;refine Pk rfl rfl (by decide) (by omega) ?_;refine Ek rfl rfl (by omega) (by omega) ?_;refine cw ⟨m,by omega,L++[p.g.getD m 0],rfl,by simp;omega,?_⟩;rw[List.length_append,List.length_singleton,aow (by simp;omega),←aq];grind
  ·refine ia (by decide) ?_;have e:L=p.g.reverse:=by grind [List.take_of_length_le]
   rw[e];exact cw rfl
 rintro af rfl;refine Qv rfl ?_;have aH:=(rh p.g.reverse).plain;exact wp_ret (v:=.agg [m9 p.g.reverse,ax p.aP,ax p.up,ax p.wd,.bool p.fr]) rfl (by simp[aH]) rfl
theorem apd(k:Nat){x:aa}{fl:List Bool}(aj:su x fl)(ak:fl.length<=20):dT (k+1) 117 [x] λv=>v=BB fl.reverse:=by
 refine gj (t:=t117) (by kernel_rfl) (fn:=Tryz.f117) (by kernel_rfl) (by simp[dd,flagsOf,aj.plain]) ?_;refine aox rfl aj ?_;refine Ek rfl rfl (by omega) (by omega) ?_;refine ez (λaf=>af=[.agg (lF fl.reverse)]) ?_ ?_
 ·refine wp_loop (λj af=>∃L:List Bool,af=[.agg (lF L),ax ((j:Int)-1)]/\L.length+j=fl.length/\L=fl.reverse.take L.length) fl.length (by omega) ⟨[],rfl,by simp,by simp⟩ ?_;rintro j af ⟨L,rfl,dg,aq⟩;refine Jl rfl rfl ?_;refine cK rfl (λh=>?_) (λh=>?_)
  ·obtain⟨m,rfl⟩:∃m,j=m+1:=⟨j-1,by omega⟩;have e:((m+1:Nat):Int)-1=(m:Int):=by omega
   rw[e];refine wp _ (an7 (n:=m) aj (by omega)) ?_;refine aoI rfl rfl (by omega) ?_;refine Ek rfl rfl (by omega) (by omega) ?_;refine cw ⟨m,by omega,L++[fl.getD m false],rfl,by simp;omega,?_⟩;rw[List.length_append,List.length_singleton,List.take_add_one,←aq];grind
  ·refine ia (by decide) ?_;have e:L=fl.reverse:=by grind [List.take_of_length_le]
   rw[e];exact cw rfl
 rintro af rfl;refine aoH rfl ?_;exact wp_ret rfl (an8 fl.reverse).plain.1 rfl
def iV(slip:Int)(r:aX)(p:a7)(fl:List Bool)(t:Bool):Nat->List (Nat×Bool)
 |0=>[]
 |n+1=>iV slip r p fl t n++if n4 slip r p n fl=true then[(n,t)]else[]
def EJ(slip:Int)(r:aX)(p:a7)(fl:List Bool):List (Nat×Bool):=iV slip r p fl false r.lines.toNat++if p.fr then iV slip r (half p) fl.reverse true r.lines.toNat else[]
theorem af4(slip:Int)(r:aX)(p:a7)(fl:List Bool)(t:Bool)(n:Nat):(iV slip r p fl t n).length<=n:=by
 induction n with
 |zero=>simp[iV]
 |succ n az=>grind [iV]
theorem anL{slip:Int}{r:aX}{p:a7}{m:Nat}{t:Bool}:∀n,iV slip r p (List.replicate m false) t n=jz slip r p t n
 |0=>rfl
 |n+1=>by simp only[iV,jz,anL n,aoy]
theorem aon{slip:Int}{r:aX}{p:a7}{m:Nat}:EJ slip r p (List.replicate m false)=kl slip r p:=by grind [EJ,kl,anL]
theorem apv(k:Nat){slip:Int}(aT:0<=slip)(U:slip<=3){r:aX}(ad:r.ok){p:a7}(ae:p.ok){x:aa}{fl:List Bool}(aj:su x fl)(xr:fl.length=p.g.length):dT (k+3) 81 [.agg r.cells,ax slip,.agg p.cells,x] λv=>vO v (EJ slip r p fl):=by
 refine gj (t:=t81) (by kernel_rfl) (fn:=Tryz.f81) (by kernel_rfl) (by simp[dd,flagsOf,a7.cells,ae.c5.plain,aX.cells,ad.c5.plain,aj.plain]) ?_;have hn:=ad.hn;have k5:=ad.k5;have fp:=ae.pR;refine eU (by rfl) rfl ?_;refine eU (by rfl) rfl ?_;refine ez (λaf=>af=[.agg (gW (iV slip r p fl false r.lines.toNat))]) ?_ ?_
 ·refine wp_loop (λj af=>∃i:Nat,af=[.agg (gW (iV slip r p fl false i)),ax i]/\i+j=r.lines.toNat) r.lines.toNat (by omega) ⟨0,rfl,by omega⟩ ?_;rintro j af ⟨i,rfl,hi⟩;refine hZ rfl rfl ?_;refine cK rfl (λh=>?_) (λh=>?_)
  ·have hlen:=af4 slip r p fl false i;refine dr (aoa k aT U ad ae (line:=i) (by omega) aj xr) rfl ?_;refine ez (λaf=>af=[.agg (gW (iV slip r p fl false (i+1)))]) ?_ ?_
   ·simp only[iV];refine wq rfl (λal=>?_) (λal=>?_)
    ·rw[if_pos al];refine p5 (by rfl) rfl ?_;refine anP rfl rfl (by grind) ?_;exact cw rfl
    ·rw[if_neg (by simp[al]),List.append_nil];exact cw rfl
   rintro af rfl;refine ie rfl rfl (by omega) ?_;exact cw ⟨j-1,by omega,i+1,rfl,by omega⟩
  ·refine ia (by decide) ?_;have e:r.lines.toNat=i:=by omega
   rw[e];exact cw rfl
 rintro af rfl;have apG:=af4 slip r p fl false r.lines.toNat;have lZ:(a7.mk (m9 p.g.reverse) p.g.reverse p.aP p.up p.wd p.fr).ok:=⟨rh _,by grind,λx aj=>ae.gs x (by grind),ae.d0,ae.d1,ae.ud,ae.j7,ae.c9,ae.w1⟩;have ape:∀i,n4 slip r ⟨m9 p.g.reverse,p.g.reverse,p.aP,p.up,p.wd,p.fr⟩ i fl.reverse=n4 slip r (half p) i fl.reverse:=λi=>rfl;have aw:EJ slip r p fl=iV slip r p fl false r.lines.toNat++if p.fr then iV slip r (half p) fl.reverse true r.lines.toNat else[]:=rfl
 rw[aw];generalize iV slip r p fl false r.lines.toNat=F at apG;refine wp_loop (λj af=>∃i:Nat,af=[ax i,.agg (gW (F++if p.fr then iV slip r (half p) fl.reverse true i else[]))]/\i+j=r.lines.toNat/\(p.fr=false->i=0)) r.lines.toNat (by omega) ⟨0,by cases p.fr<;>simp[iV]<;>rfl,by omega,λ_=>rfl⟩ ?_;rintro j af ⟨i,rfl,hi,bO⟩;refine ez (λaf=>af=[.bool (decide ((i:Int)<r.lines)&&p.fr)]) ?_ ?_
 ·refine hZ rfl rfl ?_;refine cK rfl (λh=>?_) (λh=>?_)
  ·rw[decide_eq_true h,Bool.true_and];exact cw rfl
  ·rw[decide_eq_false h,Bool.false_and];exact cw rfl
 rintro af rfl;refine wq rfl (λh=>?_) (λh=>?_)
 ·simp only[Bool.and_eq_true,decide_eq_true_eq]at h;obtain⟨aU,ly⟩:=h;have hlen:=af4 slip r (half p) fl.reverse true i;refine dr (apc (k+1) ae) rfl ?_;refine dr (apd (k+1) aj (by omega)) rfl ?_;refine dr (aoa k aT U ad lZ (line:=i) (by omega) (an8 fl.reverse) (by simpa using xr)) rfl ?_;rw[ape];have eo:(F++if p.fr then iV slip r (half p) fl.reverse true (i+1)else[])=(F++if p.fr then iV slip r (half p) fl.reverse true i else[])++if n4 slip r (half p) i fl.reverse=true then[(i,true)]else[]:=by rw[if_pos ly,if_pos ly,List.append_assoc];rfl
  have sh:(F++if p.fr then iV slip r (half p) fl.reverse true i else[]).length<=24:=by rw[if_pos ly,List.length_append];omega
  refine wq rfl (λal=>?_) (λal=>?_)
  ·rw[if_pos (c:=n4 slip r (half p) i fl.reverse=true) al]at eo;refine p5 (by rfl) rfl ?_;refine anP rfl rfl (by first|omega|(simp;omega)) ?_;refine ie rfl rfl (by omega) ?_;refine cw ⟨j-1,by omega,i+1,?_,by omega,λh=>by rw[ly]at h;cases h⟩;rw[eo];rfl
  ·rw[if_neg (show ¬n4 slip r (half p) i fl.reverse=true by rw[al];exact Bool.false_ne_true),List.append_nil]at eo;refine ie rfl rfl (by omega) ?_;refine cw ⟨j-1,by omega,i+1,?_,by omega,λh=>by rw[ly]at h;cases h⟩;rw[eo];rfl
 ·have e:(if p.fr then iV slip r (half p) fl.reverse true i else[])=if p.fr then iV slip r (half p) fl.reverse true r.lines.toNat else[]:=by
   cases ly:p.fr with
   |false=>rfl
   |true=>
    rw[ly]at h;have:¬((i:Int)<r.lines):=by simpa using h
    rw[show i=r.lines.toNat by omega]
  rw[e];refine aoR rfl ?_;refine gK ?_;exact wp_ret rfl (an5 _).plain.1 (an5 _)
theorem apt(k:Nat){p:a7}(ae:p.ok):dT (k+1) 82 [.agg p.cells] λv=>v=.sl none 1 0 p.g.length (lF (List.replicate p.g.length false)):=by
 refine gj (t:=t82) (by kernel_rfl) (fn:=Tryz.f82) (by kernel_rfl) (by simp[dd,flagsOf,a7.cells,ae.c5.plain]) ?_;have fp:=ae.pR;refine eU (cs:=p.cells) rfl rfl ?_;refine ib rfl ae.c5 ?_;refine aoY rfl (by omega) ?_;refine aoG rfl ?_;have aH:=Pn (List.replicate p.g.length false);rw[List.length_replicate];exact wp_ret (v:=.sl none 1 0 p.g.length (lF (List.replicate p.g.length false))) rfl (by simp_all) rfl
theorem ao7(k:Nat){slip:Int}(aT:0<=slip)(U:slip<=3){r:aX}(ad:r.ok){p:a7}(ae:p.ok):dT (k+3) 81 [.agg r.cells,ax slip,.agg p.cells,.sl none 1 0 p.g.length (lF (List.replicate p.g.length false))] λv=>vO v (kl slip r p):=by
 have:=apv k aT U ad ae (x:=.sl none 1 0 p.g.length (lF (List.replicate p.g.length false))) (fl:=List.replicate p.g.length false) (.inr ⟨0,by simp⟩) (by simp);grind [aon]
end
section
open Go Go.RowKit
theorem EY:dI .bC []:=.inl ⟨rfl,rfl⟩
def akV(slip:Int)(l:List aX)(n:Int):List Int:=if gn slip l [n] []=0 then tM (l.getD n.toNat default) (l.getD n.toNat default).lines.toNat else[]
def akv(slip:Int)(l:List aX)(n:Int)(p:a7):List (Nat×Bool):=if gn slip l [n] [p]=0 then kl slip (l.getD n.toNat default) p else[]
def lj(p:a7):a7:=⟨.sl none 1 0 p.g.length (p.g.map ax),p.g,p.up,p.aP,p.wd,p.fr⟩
theorem lk.dup{p:a7}(h:lk p):lk (lj p):=⟨.inr ⟨0,rfl⟩,h.len⟩
theorem aoS(r:aX):gF (eV r)=gF r:=rfl
theorem anY:∀l:List aX,oj (l.map eV)=oj l
 |[]=>rfl
 |r::l=>by simp only[List.map_cons,oj,aoS,anY l]
theorem anV{slip:Int}{l:List aX}:jA slip (l.map eV)=jA slip l:=by simp only[jA,List.length_map,anY]
theorem aoO{slip:Int}{l:List aX}{ns:List Int}{ps:List a7}:gn slip (l.map eV) ns ps=gn slip l ns ps:=by simp only[gn,anV,List.length_map]
theorem aoL(p:a7):hj (lj p)=hj p:=rfl
theorem aoA{l:List aX}{i:Nat}(h:i<l.length):(l.map eV).getD i default=eV (l.getD i default):=by simp[List.getD_eq_getElem?_getD,h]
theorem anQ{slip:Int}{r:aX}{p:a7}{t:Bool}:∀n,jz slip r (lj p) t n=jz slip r p t n
 |0=>rfl
 |n+1=>by
  unfold jz;rw[anQ n];rfl
theorem anR{slip:Int}{r:aX}{p:a7}{t:Bool}:∀n,jz slip r (half (lj p)) t n=jz slip r (half p) t n
 |0=>rfl
 |n+1=>by
  unfold jz;rw[anR n];rfl
theorem aop{slip:Int}{r:aX}{p:a7}:kl slip r (lj p)=kl slip r p:=by
 unfold kl;rw[anQ,anR];rfl
end
section
open Go Go.RowKit
def T0:Prim->Bool
 |.ins ..=>false
 |_=>true
def oc:Tree->Bool
 |.av p t=>T0 p&&oc t
 |.ite _ a b=>oc a&&oc b
 |.call _ _ t | .kL _ _ t | .pick _ _ t | .loop _ _ t=>oc t
 |.join _ a b=>oc a&&oc b
 |_=>true
section
variable(P:Program)(fs:Array Func)
theorem adi(t:TypeId)(x y:aa):u2 { P with funcs:=fs } t x y=u2 P t x y:=rfl
theorem Rd:∀(l:List Field)(i:Nat)(xs ys:List aa),s3 { P with funcs:=fs } l i xs ys=s3 P l i xs ys
 |[],_,[],[]=>rfl
 |[],_,_::_,_=>rfl
 |[],_,[],_::_=>rfl
 |_::_,_,[],_=>rfl
 |_::_,_,_::_,[]=>rfl
 |f::l,i,x::xs,y::ys=>by simp only[s3,adi,Rd l]
theorem adj(t:TypeId)(xs ys:List aa):za { P with funcs:=fs } t xs ys=za P t xs ys:=by
 have aK:Program.underlying { P with funcs:=fs } t=P.underlying t:=rfl;have aO:Program.depth { P with funcs:=fs }=P.depth:=rfl;simp only[za,Re,Ja,Rd,aK,aO]
theorem adk(op:BinOp)(t:TypeId)(x y:aa):eB { P with funcs:=fs } op t x y=eB P op t x y:=by
 have aK:Program.underlying { P with funcs:=fs } t=P.underlying t:=rfl;simp only[eB,adj,aK]
theorem abD(ρ:List aa){p:Prim}(h:T0 p=true):Prim.run { P with funcs:=fs } ρ p=Prim.run P ρ p:=by
 cases p with
 |ins=>cases h
 |bin op t x y=>exact adk P fs op t _ _
 |conv s d x=>simp only[Prim.run];rfl
 |idx t x i=>simp only[Prim.run];rfl
 |len t x=>simp only[Prim.run];rfl
 |slice t x lo hi=>simp only[Prim.run];rfl
 |_=>simp only[Prim.run]
theorem qS{C:b2->FuncId->List aa->Option aa}{n:Nat}:∀(t:Tree)(ω:b2)(ρ:List aa),oc t=true->eval { P with funcs:=fs } C n t ω ρ=eval P C n t ω ρ
 |.ret _,_,_,_=>rfl
 |.jump _ _,_,_,_=>rfl
 |.av p t,ω,ρ,h=>by
  simp only[oc,Bool.and_eq_true]at h;simp only[eval,abD P fs ρ h.1];congr 1;funext v;exact qS t _ _ h.2
 |.ite _ a b,ω,ρ,h=>by
  simp only[oc,Bool.and_eq_true]at h;simp only[eval,qS a _ _ h.1,qS b _ _ h.2]
 |.call _ _ t,ω,ρ,h=>by
  have e:=λω ρ=>qS (C:=C) (n:=n) t ω ρ h;simp only[eval,e]
 |.kL _ _ t,ω,ρ,h=>by
  have e:=λω ρ=>qS (C:=C) (n:=n) t ω ρ h;simp only[eval,e]
 |.pick _ _ t,ω,ρ,h=>by
  have e:=λω ρ=>qS (C:=C) (n:=n) t ω ρ h;simp only[eval,e]
 |.loop _ _ t,ω,ρ,h=>by
  have e:=λω ρ=>qS (C:=C) (n:=n) t ω ρ h;simp only[eval,e]
 |.join _ a b,ω,ρ,h=>by
  simp only[oc,Bool.and_eq_true]at h;have aK:=λω ρ=>qS (C:=C) (n:=n) a ω ρ h.1;have aO:=λω ρ=>qS (C:=C) (n:=n) b ω ρ h.2;simp only[eval,aK,aO]
 |.die,_,_,_=>rfl
end
theorem abE{C:b2->FuncId->List aa->Option aa}{n:Nat}{t:Tree}(h:oc t=true)(ω:b2)(ρ:List aa):eval cl C n t ω ρ=eval Tryz.prog C n t ω ρ:=qS Tryz.prog cl.funcs t ω ρ h
theorem Rf{k:Nat}{g:FuncId}{args:List aa}{t:Tree}{fn:Func}{Q:aa->Prop}(a1:PP.cA g=some t)(aQ:cl.funcs[g]?=some fn)(gN:dd (flagsOf 23 fn) args=true)(ar:oc t=true)(h:bN Tryz.prog (PP.E cl k) 4096 t args λo=>∃v,o=.val v/\v.plain=true/\Q v):ks (PP.E cl) (k+1) g args Q:=by
 intro ω;obtain⟨o,U,v,rfl,ae,gI⟩:=h ω;refine⟨v,?_,gI⟩;unfold PP.E;simp only[g6,a1,aQ];rw[if_pos gN,abE ar];have bc:=U;unfold PP.E at bc;rw[bc];simp[ae]
theorem adl{g:FuncId}(h:zx g=true):PP.cA g=cA g:=by
 have aT:=h;simp only[zx,Bool.and_eq_true,bne_iff_ne,ne_eq]at aT;obtain⟨t,a1⟩:=Option.isSome_iff_exists.1 aT.1;obtain⟨w,hm,rfl,_⟩:=iN.DW a1;have U:(w.g=91\/w.g=92\/w.g=96\/w.g=121\/w.g=122\/w.g=123\/w.g=130\/w.g=131\/w.g=163)\/w.g=103\/w.g=58:=by
  have key:PP.xW.rows.all (λw=>decide ((w.g=91\/w.g=92\/w.g=96\/w.g=121\/w.g=122\/w.g=123\/w.g=130\/w.g=131\/w.g=163)\/w.g=103\/w.g=58))=true:=by kernel_rfl
  exact of_decide_eq_true (List.all_eq_true.1 key w hm)
 rcases U with U|U|U
 ·have fG:PP.cA 91=cA 91:=(show PP.cA 91=some t91 by kernel_rfl).trans (show cA 91=some t91 by kernel_rfl).symm;have ha:PP.cA 92=cA 92:=(show PP.cA 92=some t92 by kernel_rfl).trans (show cA 92=some t92 by kernel_rfl).symm;have od:PP.cA 96=cA 96:=(show PP.cA 96=some t96 by kernel_rfl).trans (show cA 96=some t96 by kernel_rfl).symm;have FK:PP.cA 121=cA 121:=(show PP.cA 121=some t121 by kernel_rfl).trans (show cA 121=some t121 by kernel_rfl).symm;have FL:PP.cA 122=cA 122:=(show PP.cA 122=some t122 by kernel_rfl).trans (show cA 122=some t122 by kernel_rfl).symm;have zy:PP.cA 123=cA 123:=(show PP.cA 123=some t123 by kernel_rfl).trans (show cA 123=some t123 by kernel_rfl).symm;have ahm:PP.cA 130=cA 130:=(show PP.cA 130=some t130 by kernel_rfl).trans (show cA 130=some t130 by kernel_rfl).symm;have T1:PP.cA 131=cA 131:=(show PP.cA 131=some t131 by kernel_rfl).trans (show cA 131=some t131 by kernel_rfl).symm;have ahn:PP.cA 163=cA 163:=(show PP.cA 163=some t163 by kernel_rfl).trans (show cA 163=some t163 by kernel_rfl).symm;rcases U with e|e|e|e|e|e|e|e|e
  ·rw[e];exact fG
  ·rw[e];exact ha
  ·rw[e];exact od
  ·rw[e];exact FK
  ·rw[e];exact FL
  ·rw[e];exact zy
  ·rw[e];exact ahm
  ·rw[e];exact T1
  ·rw[e];exact ahn
 ·exact absurd U aT.2.1
 ·exact absurd U aT.2.2
theorem abF:PP.xW.rows.all (λw=>match PP.xW.tree w with|some t=>oc t|none=>true)=true:=by kernel_rfl
theorem adm{g:FuncId}{t:Tree}(h:PP.cA g=some t):oc t=true:=by
 obtain⟨w,hm,_,e⟩:=iN.DW h;have:=List.all_eq_true.1 abF w hm;rwa[e]at this
instance ak6:oX (PP.E cl):=⟨λ{k g args t fn Q} aN a1 aQ gN h=>by
 simp only[zx,Bool.and_eq_true,bne_iff_ne,ne_eq]at aN;have T2:PP.cA g=some t:=by rw[adl (by simp[zx,aN])];exact a1
 exact Rf T2 (by rw[Qe aN.2.1 aN.2.2];exact aQ) gN (adm T2) h⟩
theorem No:∀{a b:List aa},hv (a++b)=(hv a&&hv b)
 |[],_=>by simp[hv]
 |x::a,b=>by simp[hv,No,Bool.and_assoc]
theorem aaa(l:List Int):hv (l.map ax)=true:=by
 induction l with
 |nil=>rfl
 |cons a l az=>simp[hv,aa.l1,az]
theorem dI.l1{x:aa}{l:List Int}(h:dI x l):x.l1=true:=by
 rcases h with⟨rfl,_⟩|⟨off,rfl⟩
 ·rfl
 ·simp[aa.l1,aaa]
theorem Xu{l:List aX}(h:∀r∈l,r.ok):hv (dJ l)=true:=by
 induction l with
 |nil=>rfl
 |cons r l az=>
  have e:dJ (r::l)=r.cells++dJ l:=by simp[dJ]
  rw[e,No,az λx aj=>h x (by simp[aj])];simp[aX.cells,hv,aa.l1,(h r (by simp)).c5.l1]
theorem Hand.l1{slip:Int}{b3:aa}{l:List aX}(h:Hand slip b3 l):b3.l1=true:=by
 rcases h.gS with⟨rfl,_⟩|⟨off,rfl⟩
 ·rfl
 ·simp[aa.l1,Xu h.ok]
theorem Rg(k:Nat){slip:Int}{b3:aa}{l:List aX}(h:Hand slip b3 l){p:a7}(ae:p.ok){i:Nat}(hi:i<l.length):ks (PP.E cl) (k+5) 103 [.ca,.bJ none 0 [ax slip,b3],.bJ none 0 [ax i],.bJ none 0 p.cells,.ca] λv=>v=.bD [.bool (kn slip (l.getD i default) p),ax i]:=by
 refine Rf (t:=PP.t103) (by kernel_rfl) (fn:=yW) (by kernel_rfl) (by
  have e:flagsOf 23 yW=[false,false,false,false,false]:=by kernel_rfl
  rw[e];simp[dd,a7.cells,ae.c5.plain,h.plain];rfl) (by kernel_rfl) ?_
 refine(?_:b6 (PP.E cl (k+4)) 4096 PP.t103 5 (dz [.ca,.bJ none 0 [ax slip,b3],.bJ none 0 [ax i],.bJ none 0 p.cells,.ca] []) _).run rfl;have ad:=h.get hi;have du:=m6 h.gS hi;generalize l.getD i default=r at ad du;refine ez (λaf=>af=[]) (cw rfl) ?_;rintro af rfl;refine wp _ rfl ?_;refine wp _ rfl ?_;refine dr (afE (C:=PP.E cl) (k+3) slip) rfl ?_;refine wp _ rfl ?_;refine wp _ rfl ?_;refine wp _ du ?_;refine wp _ rfl ?_;refine dr (afF (C:=PP.E cl) k h.cc h.s1 ad ae) rfl ?_;exact wp_ret rfl rfl rfl
theorem Rh{n:Nat}(h:n<=4)(b:Nat->Bool):rN n b=(List.range n).filter b:=by
 match n,h with
 |0,_=>simp[rN]
 |1,_=>simp only[rN,List.range_succ,List.range_zero,List.nil_append,List.cons_append,List.filter];simp
 |2,_=>simp only[rN,List.range_succ,List.range_zero,List.nil_append,List.cons_append,List.filter];simp
 |3,_=>simp only[rN,List.range_succ,List.range_zero,List.nil_append,List.cons_append,List.filter];simp
 |4,_=>simp only[rN,List.range_succ,List.range_zero,List.nil_append,List.cons_append,List.filter];simp
def oe(slip:Int)(l:List aX)(p:a7)(n:Nat):List Nat:=(List.range n).filter λi=>kn slip (l.getD i default) p
def hy(slip:Int)(l:List aX)(p:a7)(n:Nat):List Int:=(oe slip l p n).map λ(i:Nat)=>(i:Int)
theorem aoJ(slip:Int)(l:List aX)(p:a7)(n:Nat):(hy slip l p n).length<=n:=by
 unfold hy oe;rw[List.length_map];exact Nat.le_trans (List.length_filter_le _ _) (by simp)
theorem Qf(l:List Nat):dI (lS l) (l.map λ(i:Nat)=>(i:Int)):=by
 unfold lS;split
 ·rename_i e;cases l with
  |nil=>exact .inl ⟨rfl,rfl⟩
  |cons a l=>cases e
 ·exact .inr ⟨0,by simp⟩
theorem Sl(k:Nat){slip:Int}{b3:aa}{l:List aX}(h:Hand slip b3 l){p:a7}(ae:p.ok):dT (k+1) 58 [.agg [ax slip,b3],.agg p.cells] λv=>v=lS (oe slip l p l.length):=by
 have aw:yX [.agg [ax slip,b3],.agg p.cells] (oe slip l p l.length):=⟨[ax slip,b3],p.cells,b3,l.length,λi=>kn slip (l.getD i default) p,rfl,by simp[hv,aa.l1,h.l1],by simp[a7.cells,hv,aa.l1,ae.c5.l1],by simp[bG,h.plain],by simp[a7.cells,ae.c5.plain],rfl,by
  rcases h.gS with⟨rfl,rfl⟩|⟨off,rfl⟩
  ·exact .inl ⟨rfl,rfl⟩
  ·exact .inr ⟨_,_,_,rfl⟩,h.fI,λi hi ω=>by
   obtain⟨v,ai,rfl⟩:=Rg 4 h ae hi ω;exact ai,(Rh h.fI _).symm⟩
 intro ω;refine⟨_,?_,rfl⟩;have a1:cA 58=none:=by kernel_rfl
 have key:∀aG,yX [.agg [ax slip,b3],.agg p.cells] aG->aG=oe slip l p l.length:=by
  rintro aG ⟨ah,eg,cy,n,bit,iM⟩;obtain⟨aK,aO⟩:[ax slip,b3]=ah/\p.cells=eg:=by have:=iM.a;simpa using this
  subst aK aO;have aH:cy=b3:=by have:=iM.q;simpa using this.symm
  subst aH;have aI:n=l.length:=by
   rcases iM.r with⟨e,rfl⟩|⟨_,_,_,e⟩<;>rcases h.gS with⟨e',aO⟩|⟨off,e'⟩<;>rw[e']at e
   ·rw[aO];rfl
   ·cases e
   ·cases e
   ·injection e with _ _ _ e _;exact e.symm
  rw[iM.l,Rh iM.U4,aI];unfold oe;refine List.filter_congr λi hi=>?_;rw[List.mem_range]at hi;have U:=iM.b i (by omega) ω;obtain⟨v,ai,rfl⟩:=Rg 4 h ae hi ω;rw[ai]at U;simpa using U.symm
 have hex:∃aG,yX [.agg [ax slip,b3],.agg p.cells] aG:=⟨_,aw⟩;have e:pj ω 58 [.agg [ax slip,b3],.agg p.cells]=some (lS (oe slip l p l.length)):=by
  unfold pj;rw[if_pos rfl,dif_pos hex,key _ hex.choose_spec]
 unfold E;simp only[g6,a1];exact e
end
section
open Go Go.RowKit
def qs(slip:Int)(l:List aX)(ns:List Int)(p:a7):List Int:=if gn slip l ns [p]=0 then hy slip l p l.length else[]
def qt(slip:Int)(l:List aX)(n:Int)(p:a7):Int:=if gn slip l [n] [p]=0 then(if n∈hy slip l p l.length then(if(hy slip l p l.length).length=1 then 1 else 3)else 2)else 0
theorem aoE(slip:Int)(l:List aX)(p:a7)(n:Nat):hy slip l p (n+1)=hy slip l p n++(if kn slip (l.getD n default) p then[(n:Int)]else[]):=by
 simp only[hy,oe,List.range_succ,List.filter_append,List.map_append];congr 1;cases h:kn slip (l.getD n default) p<;>simp only[List.filter,h]<;>rfl
theorem ao1(k:Nat){slip:Int}{b3:aa}{l:List aX}(e4:Hand slip b3 l){p:a7}(ae:p.ok):dT (k+4) 65 [.agg [ax slip,b3],.agg p.cells] λv=>v=m9 (hy slip l p l.length):=by
 refine gj (t:=t65) (by kernel_rfl) (fn:=Tryz.f65) (by kernel_rfl) (by simp[dd,flagsOf,e4.plain,a7.cells,ae.c5.plain]) ?_;have cc:=e4.cc;have s1:=e4.s1;have fI:=e4.fI;have F4:=e4.gS;refine eU (by simp only[ag,aD,aM,aS.aP,aR.aP,cF,nth,cM,List.getD_cons_succ,List.getD_cons_zero,aX.cells,a7.cells];rfl) rfl ?_;refine eU (by simp only[ag,aD,aM,aS.aP,aR.aP,cF,nth,cM,List.getD_cons_succ,List.getD_cons_zero,aX.cells,a7.cells];rfl) rfl ?_;refine ez (λaf=>af=[.agg ((hy slip l p l.length).map ax)]) ?_ ?_
 ·refine wp_loop (λj af=>∃i:Nat,af=[.agg ((hy slip l p i).map ax),ax i]/\i+j=l.length) l.length (by omega) ⟨0,rfl,by omega⟩ ?_;rintro j af ⟨i,rfl,hi⟩;have hlen:=aoJ slip l p i;refine k9 rfl (by assumption) ?_;refine hZ rfl rfl ?_;refine cK rfl (λab=>?_) (λab=>?_)
  ·have aU:i<l.length:=by omega
   have ad:=e4.get aU;have du:=m6 F4 aU;have aaA:=aoE slip l p i;have acf:kn slip (l.getD i default) p=decide (0<(kl slip (l.getD i default) p).length):=rfl;generalize l.getD i default=r at ad du aaA acf;refine wp _ du ?_;refine dr (apt (k+2) ae) rfl ?_;refine nN (ao7 k cc s1 ad ae) rfl ?_;intro x aj;have hB:=aot slip ad p;refine aoF rfl aj ?_;refine pf rfl rfl ?_;generalize hy slip l p i=P at *;refine ez (λaf=>af=[.agg ((hy slip l p (i+1)).map ax)]) ?_ ?_
   ·refine cK rfl (λal=>?_) (λal=>?_)
    ·have e:kn slip r p=true:=by rw[acf,decide_eq_true_eq];omega
     rw[if_pos e]at aaA;refine p5 (by simp only[ag,aD,aM,aS.aP,aR.aP,cF,nth,cM,List.getD_cons_succ,List.getD_cons_zero,aX.cells,a7.cells];rfl) rfl ?_;refine Pk rfl rfl (by decide) (by first|omega|(simp;omega)) ?_;refine cw ?_;rw[aaA];simp[cF,aS.aP,aR.aP,nth,ag]
    ·have e:¬kn slip r p=true:=by rw[acf,decide_eq_true_eq];omega
     rw[if_neg e,List.append_nil]at aaA;refine cw ?_;rw[aaA];rfl
   rintro af rfl;refine ie rfl rfl (by omega) ?_;exact cw ⟨j-1,by omega,i+1,rfl,by omega⟩
  ·refine ia (by decide) ?_;have e:i=l.length:=by omega
   rw[e];exact cw rfl
 rintro af rfl;refine Qv rfl ?_;have aH:=(rh (hy slip l p l.length)).plain;exact wp_ret (v:=m9 (hy slip l p l.length)) rfl (by simp[aH]) rfl
theorem ao2(k:Nat){x:aa}{L:List Int}(aj:dI x L)(ak:L.length<4000)(n:Int):dT (k+1) 67 [x,ax n] λv=>v=.bool (decide (n∈L)):=by
 refine gj (t:=t67) (by kernel_rfl) (fn:=Tryz.f67) (by kernel_rfl) (by simp[dd,flagsOf,aj.plain]) ?_;try refine eK (by(try simp only[List.length_cons,List.length_nil,Nat.reduceAdd,Nat.zero_add]);rfl) (by(try simp only[dz]);rfl) ?_
 refine ez (λaf=>af=[]/\n∉L) ?_ ?_
 ·refine wp_loop (λj af=>∃i:Nat,af=[ax i]/\i+j=L.length/\∀k,k<i->L.getD k 0≠n) L.length (by omega) ⟨0,rfl,by omega,λk aq=>by omega⟩ ?_;rintro j af ⟨i,rfl,hi,hb⟩;refine ib rfl (by assumption) ?_;refine hZ rfl rfl ?_;refine cK rfl (λU=>?_) (λU=>?_)
  ·have aU:i<L.length:=by omega
   have du:=tc aj aU;have hm:L.getD i 0∈L:=by simp[List.getD_eq_getElem?_getD,aU]
   have dB:L.getD i 0≠n->∀k,k<i+1->L.getD k 0≠n:=λh k aq=>by
    by_cases e:k=i
    ·subst e;exact h
    ·exact hb k (by omega)
   generalize L.getD i 0=a at du hm dB;refine wp _ du ?_;refine sM rfl rfl ?_;refine cK rfl (λab=>?_) (λab=>?_)
   ·subst ab;refine gK ?_;refine gK ?_;refine wp_ret (v:=.bool true) rfl rfl ?_;rw[decide_eq_true hm]
   ·refine ie rfl rfl (by omega) ?_;exact cw ⟨j-1,by omega,i+1,rfl,by omega,dB ab⟩
  ·refine ia (by decide) ?_;refine cw ⟨rfl,λhm=>?_⟩;obtain⟨k,aq,e⟩:=List.getElem_of_mem hm;exact hb k (by omega) (by simpa[List.getD_eq_getElem?_getD,aq]using e)
 rintro af ⟨rfl,aI⟩;refine wp_ret (v:=.bool false) rfl rfl ?_;rw[decide_eq_false aI]
end
section
open Go Go.RowKit
abbrev u8(n:Int):aa:=.int .u8 n
section
variable{C:b2->FuncId->List aa->Option aa}{n:Nat}{R:Out->Prop}{d:Nat}{st:List aa}{t:Tree}
end
def VU(n s:Nat):List Bool:=(List.range n).map λk=>s.testBit k
@[simp]theorem anF(n s:Nat):(VU n s).length=n:=by simp[VU]
def anl(slip:Int)(r:aX)(p:a7)(fl:List Bool):Bool:=decide (0<(EJ slip r p fl).length)
def ack(n s:Nat):Nat->Nat
 |0=>0
 |k+1=>if s.testBit k then ack n s k ||| 2^(n-1-k)else ack n s k
end
section
open Go Go.RowKit
def pR(s:Nat):Nat->List Int
 |0=>[]
 |i+1=>pR s i++if s.testBit i then[(i:Int)]else[]
def D1(s:Nat):List Int:=pR s 5
def G(s:Nat):aa:=m9 (D1 s)
theorem Hi(s:Nat):dI (G s) (D1 s):=rh _
theorem Tw(s:Nat):∀i,(pR s i).length<=i
 |0=>by simp[pR]
 |i+1=>by
  have:=Tw s i;simp only[pR];split<;>simp<;>omega
theorem Po(s:Nat):(D1 s).length<=5:=Tw s 5
def IK(x:aa)(ms:List Nat):Prop:=(x=.bC/\ms=[])\/∃off,x=.sl none 1 off ms.length (ms.map G)
theorem aaB:∀ms:List Nat,bG (ms.map G)=true
 |[]=>rfl
 |s::ms=>by simp[(Hi s).plain,aaB ms]
theorem IK.plain{x:aa}{l:List Nat}(h:IK x l):x.plain=true/\x.one=true:=by
 rcases h with⟨rfl,_⟩|⟨off,rfl⟩
 ·exact⟨rfl,rfl⟩
 ·exact⟨by simp only[aa.plain];exact aaB l,rfl⟩
theorem anm:∃e,Tryz.prog.underlying 64=some (.slice e):=by
 have h:(match Tryz.prog.underlying 64 with|some (.slice _)=>true|_=>false)=true:=by kernel_rfl
 split at h
 ·exact⟨_,by assumption⟩
 ·cases h
theorem IK.len{x:aa}{l:List Nat}(h:IK x l):ht Tryz.prog 64 x=some (ax l.length):=by
 obtain⟨e,he⟩:=anm;rcases h with⟨rfl,rfl⟩|⟨off,rfl⟩<;>simp[ht,he]
theorem Ur{x:aa}{l:List Nat}(h:IK x l){n:Nat}(aI:n<l.length):kp 1 x (ax n)=some (.agg [G (l.getD n 0)]):=by
 rcases h with⟨rfl,rfl⟩|⟨off,rfl⟩
 ·simp at aI
 ·have e:((l.map G).drop (n*1)).take 1=[G (l.getD n 0)]:=by
   rw[Nat.mul_one,List.drop_eq_getElem_cons (by simpa using aI)];simp[List.getD_eq_getElem?_getD,aI]
  simp only[kp,Int.toNat_natCast];rw[if_pos ⟨by omega,by omega,trivial,by rw[e];rfl⟩,e]
def Rw(l:List Nat):aa:=match l with
 |[]=>.bC
 |a::l=>.sl none 1 0 (l.length+1) ((a::l).map G)
theorem amZ(l:List Nat):IK (Rw l) l:=by
 cases l with
 |nil=>exact .inl ⟨rfl,rfl⟩
 |cons a l=>exact .inr ⟨0,rfl⟩
section
variable{C:b2->FuncId->List aa->Option aa}{n:Nat}{R:Out->Prop}{d:Nat}{st:List aa}{t:Tree}
theorem Qt{x:aS}{v:aa}{l:List Nat}(aj:x.aP d st=v)(h:IK v l)(k:b6 C n t (d+1) (ax l.length::st) R):b6 C n (.av (.len 64 x) t) d st R:=wp _ (by rw[←h.len,←aj];rfl) k
theorem ae8{c:aR}{y:aS}{l:List Nat}{s:Nat}(ah:c.aP d st=.agg (l.map G))(aF:y.aP d st=.sl none 1 0 1 [G s])(ak:l.length<1000000)(k:b6 C n t (d+1) (.agg ((l++[s]).map G)::st) R):b6 C n (.av (.push 1 24 c y) t) d st R:=wp _ (by
 simp[Prim.fZ,ah,aF];omega) k
theorem agu{c:aR}{l:List Nat}(ah:c.aP d st=.agg (l.map G))(k:b6 C n t (d+1) (Rw l::st) R):b6 C n (.av (.bK 1 .cZ c) t) d st R:=wp _ (by
 cases l with
 |nil=>simp[Prim.fZ,ah,iU,isNil,Rw]
 |cons a l=>simp[Prim.fZ,ah,iU,isNil,Rw]) k
end
def Ji(a b:Int):Int:=if a<b then -1 else if b<a then 1 else 0
def Jm:List Int->List Int->Int
 |[],[]=>0
 |[],_::_=>-1
 |_::_,[]=>1
 |a::l,b::m=>if Ji a b≠0 then Ji a b else Jm l m
def Rz(a b:List Int):Int:=if Ji a.length b.length≠0 then Ji a.length b.length else Jm a b
theorem ab8(k:Nat)(a:Int):dT (k+1) 150 [ax a] λv=>v=.bool false:=by
 refine gj (t:=t150) (by kernel_rfl) (fn:=Tryz.f150) (by kernel_rfl) rfl ?_;refine hJ rfl rfl ?_;refine wp_ret rfl rfl ?_;show aa.bool (decide (a≠a))=_;simp
theorem ab9(k:Nat)(a b:Int):dT (k+2) 112 [ax a,ax b] λv=>v=ax (Ji a b):=by
 refine gj (t:=t112) (by kernel_rfl) (fn:=Tryz.f112) (by kernel_rfl) rfl ?_;try refine eK (by(try simp only[List.length_cons,List.length_nil,Nat.reduceAdd,Nat.zero_add]);rfl) (by(try simp only[dz]);rfl) ?_
 refine dr (ab8 k a) rfl ?_;refine dr (ab8 k b) rfl ?_;refine qV rfl ?_;refine qV rfl ?_;refine hZ rfl rfl ?_;refine cK rfl (λh=>?_) (λh=>?_)
 ·refine wp_ret (v:=ax _) rfl rfl ?_;unfold Ji;rw[if_pos h]
 ·refine pf rfl rfl ?_;refine cK rfl (λab=>?_) (λab=>?_)
  ·refine wp_ret (v:=ax _) rfl rfl ?_;unfold Ji;rw[if_neg h,if_pos ab]
  ·refine wp_ret (v:=ax _) rfl rfl ?_;unfold Ji;rw[if_neg h,if_neg ab]
theorem drop_cons{l:List Int}{i:Nat}(h:i<l.length):l.drop i=l.getD i 0::l.drop (i+1):=by
 rw[List.drop_eq_getElem_cons h];simp[List.getD_eq_getElem?_getD,h]
theorem am6(k:Nat){x y:aa}{a b:List Int}(aj:dI x a)(aF:dI y b)(ak:a.length<4000)(bQ:b.length<4000):dT (k+3) 113 [x,y] λv=>v=ax (Jm a b):=by
 refine gj (t:=t113) (by kernel_rfl) (fn:=Tryz.f113) (by kernel_rfl) (by simp[dd,flagsOf,aj.plain,aF.plain]) ?_;try refine eK (by(try simp only[List.length_cons,List.length_nil,Nat.reduceAdd,Nat.zero_add]);rfl) (by(try simp only[dz]);rfl) ?_
 refine ib rfl aj ?_;refine ez (λaf=>af=[]/\a.length<=b.length/\Jm a b=Jm [] (b.drop a.length)) ?_ ?_
 ·refine wp_loop (λj af=>∃i:Nat,af=[ax i]/\i+j=a.length/\i<=b.length/\Jm a b=Jm (a.drop i) (b.drop i)) a.length (by omega) ⟨0,rfl,by omega,by omega,rfl⟩ ?_;rintro j af ⟨i,rfl,hi,vx,he⟩;refine hZ rfl rfl ?_;refine cK rfl (λh=>?_) (λh=>?_)
  ·have aU:i<a.length:=by omega
   refine uG rfl aj rfl aU ?_;refine ib rfl aF ?_;refine Jl rfl rfl ?_;refine cK rfl (λab=>?_) (λab=>?_)
   ·refine gK ?_;refine gK ?_;refine wp_ret (v:=ax _) rfl rfl ?_;rw[he,drop_cons aU,show b.drop i=[]from List.drop_eq_nil_of_le (by omega)];rfl
   ·have acn:i<b.length:=by omega
    refine uG rfl aF rfl acn ?_;refine dr (ab9 k _ _) rfl ?_;rw[drop_cons aU,drop_cons acn]at he;simp only[Jm]at he;refine hJ rfl rfl ?_;refine cK rfl (λal=>?_) (λal=>?_)
    ·rw[if_pos al]at he;refine gK ?_;refine gK ?_;refine wp_ret (v:=ax _) rfl rfl ?_;rw[he]
    ·rw[if_neg al]at he;refine ie rfl rfl (by omega) ?_;exact cw ⟨j-1,by omega,i+1,rfl,by omega,by omega,he⟩
  ·refine ia (by decide) ?_;have e:i=a.length:=by omega
   subst e;rw[List.drop_length]at he;exact cw ⟨rfl,vx,he⟩
 rintro af ⟨rfl,hle,he⟩;try refine eK (by(try simp only[List.length_cons,List.length_nil,Nat.reduceAdd,Nat.zero_add]);rfl) (by(try simp only[dz]);rfl) ?_
 refine ib rfl aj ?_;refine ib rfl aF ?_;refine hZ rfl rfl ?_;refine cK rfl (λh=>?_) (λh=>?_)
 ·refine wp_ret (v:=ax _) rfl rfl ?_;rw[he,drop_cons (show a.length<b.length by omega)];rfl
 ·refine wp_ret (v:=ax _) rfl rfl ?_;rw[he,List.drop_eq_nil_of_le (by omega)];rfl
theorem am8(k:Nat){x y:aa}{a b:List Int}(aj:dI x a)(aF:dI y b)(ak:a.length<4000)(bQ:b.length<4000):dT (k+4) 111 [x,y] λv=>v=ax (Rz a b):=by
 refine gj (t:=t111) (by kernel_rfl) (fn:=Tryz.f111) (by kernel_rfl) (by simp[dd,flagsOf,aj.plain,aF.plain]) ?_;try refine eK (by(try simp only[List.length_cons,List.length_nil,Nat.reduceAdd,Nat.zero_add]);rfl) (by(try simp only[dz]);rfl) ?_
 refine ib rfl aj ?_;refine ib rfl aF ?_;refine dr (ab9 (k+1) _ _) rfl ?_;refine hJ rfl rfl ?_;refine cK rfl (λh=>?_) (λh=>?_)
 ·refine wp_ret (v:=ax _) rfl rfl ?_;unfold Rz;rw[if_pos h]
 ·refine dr (am6 k aj aF ak bQ) rfl ?_;refine wp_ret (v:=ax _) rfl rfl ?_;unfold Rz;rw[if_neg h]
def acm:List Nat:=[0,1,2,4,8,16,3,5,9,17,6,10,18,12,20,24,7,11,19,13,21,25,14,22,26,28,15,23,27,29,30,31]
def Ce(s:Nat):Nat:=acm.idxOf s
theorem aim:∀a:Nat,a<32->∀b:Nat,b<32->decide (Rz (D1 a) (D1 b)<0)=decide (Ce a<Ce b):=of_decide_eq_true (by kernel_rfl)
def bM(n m:Nat):List Nat:=acm.filter λs=>decide (s<2^n)&&decide ((D1 s).length=m)
def allM(n:Nat):List Nat:=(List.range (n+1)).flatMap (bM n)
theorem ain:∀n:Nat,n<6->(∀s:Nat,s<2^n->s∈allM n)/\(∀s∈allM n,s<2^n)/\(allM n).Pairwise (λa b=>Ce a<Ce b):=of_decide_eq_true (by kernel_rfl)
theorem ag2:∀n:Nat,n<6->∀m:Nat,m<6->(bM n m).length<=10/\∀s∈bM n m,s<32/\(D1 s).length=m/\∀g∈D1 s,0<=g/\g<n:=of_decide_eq_true (by kernel_rfl)
theorem ao0:∀n:Nat,n<=5->∀m:Nat,m<=n->dT 18 74 [ax 0,ax n,ax m] λv=>v=.sl none 1 0 (bM n m).length ((bM n m).map G)
 |0,_,0,_=>λω=>⟨.sl none 1 0 (bM 0 0).length ((bM 0 0).map G),by kernel_rfl,rfl⟩
 |1,_,0,_=>λω=>⟨.sl none 1 0 (bM 1 0).length ((bM 1 0).map G),by kernel_rfl,rfl⟩
 |1,_,1,_=>λω=>⟨.sl none 1 0 (bM 1 1).length ((bM 1 1).map G),by kernel_rfl,rfl⟩
 |2,_,0,_=>λω=>⟨.sl none 1 0 (bM 2 0).length ((bM 2 0).map G),by kernel_rfl,rfl⟩
 |2,_,1,_=>λω=>⟨.sl none 1 0 (bM 2 1).length ((bM 2 1).map G),by kernel_rfl,rfl⟩
 |2,_,2,_=>λω=>⟨.sl none 1 0 (bM 2 2).length ((bM 2 2).map G),by kernel_rfl,rfl⟩
 |3,_,0,_=>λω=>⟨.sl none 1 0 (bM 3 0).length ((bM 3 0).map G),by kernel_rfl,rfl⟩
 |3,_,1,_=>λω=>⟨.sl none 1 0 (bM 3 1).length ((bM 3 1).map G),by kernel_rfl,rfl⟩
 |3,_,2,_=>λω=>⟨.sl none 1 0 (bM 3 2).length ((bM 3 2).map G),by kernel_rfl,rfl⟩
 |3,_,3,_=>λω=>⟨.sl none 1 0 (bM 3 3).length ((bM 3 3).map G),by kernel_rfl,rfl⟩
 |4,_,0,_=>λω=>⟨.sl none 1 0 (bM 4 0).length ((bM 4 0).map G),by kernel_rfl,rfl⟩
 |4,_,1,_=>λω=>⟨.sl none 1 0 (bM 4 1).length ((bM 4 1).map G),by kernel_rfl,rfl⟩
 |4,_,2,_=>λω=>⟨.sl none 1 0 (bM 4 2).length ((bM 4 2).map G),by kernel_rfl,rfl⟩
 |4,_,3,_=>λω=>⟨.sl none 1 0 (bM 4 3).length ((bM 4 3).map G),by kernel_rfl,rfl⟩
 |4,_,4,_=>λω=>⟨.sl none 1 0 (bM 4 4).length ((bM 4 4).map G),by kernel_rfl,rfl⟩
 |5,_,0,_=>λω=>⟨.sl none 1 0 (bM 5 0).length ((bM 5 0).map G),by kernel_rfl,rfl⟩
 |5,_,1,_=>λω=>⟨.sl none 1 0 (bM 5 1).length ((bM 5 1).map G),by kernel_rfl,rfl⟩
 |5,_,2,_=>λω=>⟨.sl none 1 0 (bM 5 2).length ((bM 5 2).map G),by kernel_rfl,rfl⟩
 |5,_,3,_=>λω=>⟨.sl none 1 0 (bM 5 3).length ((bM 5 3).map G),by kernel_rfl,rfl⟩
 |5,_,4,_=>λω=>⟨.sl none 1 0 (bM 5 4).length ((bM 5 4).map G),by kernel_rfl,rfl⟩
 |5,_,5,_=>λω=>⟨.sl none 1 0 (bM 5 5).length ((bM 5 5).map G),by kernel_rfl,rfl⟩
 |n+6,h,_,_=>by omega
def zH:List Nat->Nat
 |[]=>0
 |m::l=>l.foldl (λm x=>if Ce x<Ce m then x else m) m
theorem ae4{l:List Nat}(h:l≠[])(x:Nat):zH (l++[x])=if Ce x<Ce (zH l)then x else zH l:=by
 cases l with
 |nil=>exact absurd rfl h
 |cons a l=>
  show(l++[x]).foldl _ a=_;rw[List.foldl_append];rfl
theorem Qx:∀(l:List Nat)(m:Nat),(l.foldl (λm x=>if Ce x<Ce m then x else m) m∈m::l)/\∀x∈m::l,¬Ce x<Ce (l.foldl (λm x=>if Ce x<Ce m then x else m) m)
 |[],m=>⟨by simp,by simp⟩
 |a::l,m=>by
  simp only[List.foldl_cons];split
  ·rename_i h;obtain⟨U,ab⟩:=Qx l a;refine⟨List.mem_cons_of_mem _ U,λx aj=>?_⟩;rcases List.mem_cons.1 aj with rfl|aj
   ·have:=ab a (by simp);omega
   ·exact ab x aj
  ·rename_i h;obtain⟨U,ab⟩:=Qx l m;refine⟨?_,λx aj=>?_⟩
   ·rcases List.mem_cons.1 U with U|U
    ·rw[U];simp
    ·exact List.mem_cons_of_mem _ (List.mem_cons_of_mem _ U)
   ·rcases List.mem_cons.1 aj with rfl|aj
    ·exact ab x (by simp)
    ·rcases List.mem_cons.1 aj with rfl|aj
     ·have:=ab m (by simp);omega
     ·exact ab x (List.mem_cons_of_mem _ aj)
theorem ae7{n:Nat}(aI:n<6)(A:Nat->Bool):(allM n).find? A=if(List.range (2^n)).filter A=[]then none else some (zH ((List.range (2^n)).filter A)):=by
 obtain⟨k1,bf,bP⟩:=ain n aI;split
 ·rename_i h;refine List.find?_eq_none.2 λs ao aW=>?_;have:s∈(List.range (2^n)).filter A:=List.mem_filter.2 ⟨List.mem_range.2 (bf s ao),aW⟩;rw[h]at this;simp at this
 ·rename_i h;have hm:zH ((List.range (2^n)).filter A)∈(List.range (2^n)).filter A/\∀x∈(List.range (2^n)).filter A,¬Ce x<Ce (zH ((List.range (2^n)).filter A)):=by
   generalize(List.range (2^n)).filter A=L at h;cases L with
   |nil=>exact absurd rfl h
   |cons a l=>exact Qx l a
  generalize zH ((List.range (2^n)).filter A)=m at hm;obtain⟨U,ab⟩:=hm;obtain⟨al,aJ⟩:=List.mem_filter.1 U;have bm:=k1 m (List.mem_range.1 al);cases aQ:(allM n).find? A with
  |none=>exact absurd aJ (List.find?_eq_none.1 aQ m bm)
  |some s=>
   obtain⟨ao,xs,bs,bL,fu⟩:=List.find?_eq_some_iff_append.1 aQ;congr 1;have anz:s∈allM n:=by rw[bL];simp
   have mH:s∈(List.range (2^n)).filter A:=List.mem_filter.2 ⟨List.mem_range.2 (bf s anz),ao⟩;rw[bL]at bm;rcases List.mem_append.1 bm with bI|bI
   ·have:=fu m bI;rw[aJ]at this;cases this
   ·rcases List.mem_cons.1 bI with bI|bI
    ·exact bI.symm
    ·rw[bL]at bP;have:=(List.pairwise_cons.1 (List.pairwise_append.1 bP).2.1).1 m bI;exact absurd this (ab s mH)
end
end Go.Proofs.YtlminnpaeaganaaGreat
