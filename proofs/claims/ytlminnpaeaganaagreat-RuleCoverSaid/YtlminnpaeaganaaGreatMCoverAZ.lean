/- Part of the proof of RuleCover. No condition. -/
import Derived.Test.YtlminnpaeaganaaGreatMCoverAW
import Derived.Test.YtlminnpaeaganaaGreatMCoverAY
namespace Go.Proofs.YtlminnpaeaganaaGreat
set_option maxRecDepth 100000
set_option linter.all false
section
open Go Go.RowKit
theorem uF{α:Type}{l:List α}{d:α}{P:α->Prop}(h:∀m,m<l.length->P (l.getD m d)):∀x∈l,P x:=λx aj=>by grind [List.getElem_of_mem]
def p6(l:List Int)(lo hi:Int):Prop:=∀x∈l,lo<=x/\x<=hi
instance(l:List Int)(lo hi:Int):Decidable (p6 l lo hi):=inferInstanceAs (Decidable (∀x∈l,lo<=x/\x<=hi))
def gF(r:aX):Int:=if r.st.length=0 then 7 else if 3<r.st.length then 6 else if p6 r.st 2 20 then(if(2<=r.lines/\r.lines<=12)/\1<=r.width/\r.width<=60 then 0 else 1)else 1
def oj:List aX->Int
 |[]=>0
 |r::l=>if gF r≠0 then gF r else oj l
def jA(slip:Int)(l:List aX):Int:=if 0<=slip/\slip<=3 then(if l.length=0 then 7 else if 4<l.length then 6 else oj l)else 1
def hj(p:a7):Int:=if 5<p.g.length then 6 else if p6 p.g 1 30 then(if(0<=p.up/\p.up<=30)/\(0<=p.aP/\p.aP<=30)/\0<=p.wd/\p.wd<=60 then 0 else 1)else 1
def pI:List a7->Int
 |[]=>0
 |p::l=>if hj p≠0 then hj p else pI l
def gn(slip:Int)(l:List aX)(ns:List Int)(ps:List a7):Int:=if jA slip l≠0 then jA slip l else if p6 ns 0 (l.length-1)then pI ps else 3
theorem Ij:∀{l:List aX},(∀m,m<l.length->gF (l.getD m default)=0)->oj l=0
 |[],_=>rfl
 |r::l,h=>by
  have aT:gF r=0:=by simpa using h 0 (by simp)
  simp only[oj,aT];exact Ij λm hm=>by simpa using h (m+1) (by grind)
theorem Jj:∀{l:List aX}{i:Nat},i<l.length->(∀m,m<i->gF (l.getD m default)=0)->gF (l.getD i default)≠0->oj l=gF (l.getD i default)
 |r::l,0,_,_,aI=>by grind [oj]
 |r::l,i+1,hi,h,aI=>by
  have aT:gF r=0:=by simpa using h 0 (by omega)
  simp only[oj,aT];exact Jj (by grind) (λm hm=>by grind) aI
theorem Rx:∀{l:List aX},oj l=0->∀r∈l,gF r=0
 |[],_,r,ad=>by simp at ad
 |a::l,h,r,ad=>by
  simp only[oj]at h;by_cases aT:gF a=0
  ·rw[if_neg (by grind)]at h;rcases List.mem_cons.1 ad with rfl|ad
   ·exact aT
   ·exact Rx h r ad
  grind
theorem Ik:∀{l:List a7},(∀m,m<l.length->hj (l.getD m default)=0)->pI l=0
 |[],_=>rfl
 |r::l,h=>by
  have aT:hj r=0:=by simpa using h 0 (by simp)
  simp only[pI,aT];exact Ik λm hm=>by simpa using h (m+1) (by grind)
theorem Jk:∀{l:List a7}{i:Nat},i<l.length->(∀m,m<i->hj (l.getD m default)=0)->hj (l.getD i default)≠0->pI l=hj (l.getD i default)
 |r::l,0,_,_,aI=>by grind [pI]
 |r::l,i+1,hi,h,aI=>by
  have aT:hj r=0:=by simpa using h 0 (by omega)
  simp only[pI,aT];exact Jk (by grind) (λm hm=>by grind) aI
theorem Rt:∀{l:List a7},pI l=0->∀p∈l,hj p=0
 |[],_,r,ad=>by simp at ad
 |a::l,h,r,ad=>by
  simp only[pI]at h;by_cases aT:hj a=0
  ·rw[if_neg (by grind)]at h;rcases List.mem_cons.1 ad with rfl|ad
   ·exact aT
   ·exact Rt h r ad
  grind
theorem aeW{r:aX}(hi:dI r.sp r.st)(h:gF r=0):r.ok:=by
 unfold gF at h;split at h
 ·cases h
 split at h
 ·cases h
 split at h
 ·split at h
  ·rename_i U ab al aJ;exact⟨hi,by omega,by omega,al,aJ.1.1,aJ.1.2,aJ.2.1,aJ.2.2⟩
  ·cases h
 ·cases h
theorem aeM{p:a7}(hi:dI p.k6 p.g)(h:hj p=0):p.ok:=by
 unfold hj at h;split at h
 ·cases h
 split at h
 ·split at h
  ·rename_i U al aJ;exact⟨hi,by omega,al,aJ.1.1,aJ.1.2,aJ.2.1.1,aJ.2.1.2,aJ.2.2.1,aJ.2.2.2⟩
  ·cases h
 ·cases h
theorem aeL{slip:Int}{b3:aa}{l:List aX}(ad:iq b3 l)(h:jA slip l=0):Hand slip b3 l:=by
 unfold jA at h;split at h
 ·split at h
  ·cases h
  split at h
  ·cases h
  rename_i U ab al;exact⟨U.1,U.2,ad.gS,by omega,by omega,λr hm=>aeW (ad.rd r hm) (Rx h r hm)⟩
 ·cases h
theorem sV(k:Nat)(x lo hi:Int):dT (k+1) 88 [ax x,ax lo,ax hi] λv=>v=.bool (decide (lo<=x/\x<=hi)):=(agj k x lo hi).mono λv e=>by rw[e];simp
theorem sW(k:Nat)(x lo hi:Int):dT (k+1) 106 [ax x,ax lo,ax hi] λv=>v=.bool (decide (lo<=x/\x<=hi)):=by
 refine gj (t:=t106) (by kernel_rfl) (fn:=Tryz.f106) (by kernel_rfl) rfl ?_;refine ez (λaf=>af=[.bool (decide (lo<=x/\x<=hi))]) ?_ ?_
 ·refine Jl rfl rfl ?_;refine cK rfl (λh=>?_) (λh=>?_)
  ·refine A6 rfl rfl ?_;exact cw (sX (by omega))
  ·exact cw (EZ (by omega))
 ·rintro af rfl;exact wp_ret rfl rfl rfl
theorem aeX(k:Nat){r:aX}(hi:dI r.sp r.st)(ak:r.st.length<=20):dT (k+2) 90 [.agg r.cells] λv=>v=ax (gF r):=by
 refine gj (t:=t90) (by kernel_rfl) (fn:=Tryz.f90) (by kernel_rfl) (by simp[dd,flagsOf,aX.cells,hi.plain]) ?_;refine eU (by rfl) rfl ?_;refine ib rfl (by assumption) ?_;refine dr (Ts k _ _) rfl ?_;by_cases U:r.st.length=0
 ·refine hJ rfl rfl ?_;refine D4 rfl (by omega) ?_;refine wp_ret (v:=ax _) rfl rfl ?_;grind [gF]
 by_cases ab:3<r.st.length
 ·refine hJ rfl rfl ?_;refine D4 rfl (by omega) ?_;refine wp_ret (v:=ax _) rfl rfl ?_;grind [gF]
 refine hJ rfl rfl ?_;refine pW rfl (by omega) ?_;refine ib rfl (by assumption) ?_;refine ez (λaf=>af=[]/\p6 r.st 2 20) ?_ ?_
 ·refine wp_loop (λj af=>∃i:Nat,af=[ax i]/\i+j=r.st.length/\∀m,m<i->2<=r.st.getD m 0/\r.st.getD m 0<=20) r.st.length (by omega) ⟨0,rfl,by omega,λm hm=>by omega⟩ ?_;rintro j af ⟨i,rfl,dL,hb⟩;refine hZ rfl rfl ?_;refine cK rfl (λbc=>?_) (λbc=>?_)
  ·have aU:i<r.st.length:=by omega
   refine uG rfl hi rfl aU ?_;refine dr (sV k _ _ _) rfl ?_;refine kg rfl ?_;refine cK rfl (λal=>?_) (λal=>?_)
   ·refine gK ?_;refine gK ?_;refine wp_ret (v:=ax _) rfl rfl ?_;unfold gF;rw[if_neg (by omega),if_neg (by omega),if_neg (λah=>al (ah _ (zI aU)))]
   ·refine ie rfl rfl (by omega) ?_;refine cw ⟨j-1,by omega,i+1,rfl,by omega,λm hm=>?_⟩;by_cases e:m=i
    ·subst e;exact Decidable.not_not.1 al
    ·exact hb m (by omega)
  ·refine ia (by decide) ?_;exact cw ⟨rfl,uF (d:=0) λm hm=>hb m (by omega)⟩
 rintro af ⟨rfl,aN⟩;refine ez (λaf=>af=[.bool (decide (¬((2<=r.lines/\r.lines<=12)/\1<=r.width/\r.width<=60)))]) ?_ ?_
 ·refine dr (sV k _ _ _) rfl ?_;refine kg rfl ?_;refine cK rfl (λal=>?_) (λal=>?_)
  ·exact cw (xi (by omega))
  ·refine dr (sV k _ _ _) rfl ?_;refine kg rfl ?_;exact cw (sX (by omega))
 rintro af rfl;refine cK rfl (λal=>?_) (λal=>?_)
 ·refine wp_ret (v:=ax _) rfl rfl ?_;unfold gF;rw[if_neg (by omega),if_neg (by omega),if_pos aN,if_neg al]
 ·refine wp_ret (v:=ax _) rfl rfl ?_;unfold gF;rw[if_neg (by omega),if_neg (by omega),if_pos aN,if_pos (Decidable.not_not.1 al)]
theorem aeY(k:Nat){r:aX}(hi:dI r.sp r.st)(ak:r.st.length<=20):dT (k+2) 114 [.agg r.cells] λv=>v=ax (gF r):=by
 refine gj (t:=t114) (by kernel_rfl) (fn:=Tryz.f114) (by kernel_rfl) (by simp[dd,flagsOf,aX.cells,hi.plain]) ?_;refine eU (by rfl) rfl ?_;refine ib rfl (by assumption) ?_;refine sM rfl rfl ?_;refine cK rfl (λU=>?_) (λU=>?_)
 ·refine wp_ret (v:=ax _) rfl rfl ?_;grind [gF]
 refine ib rfl hi ?_;refine pf rfl rfl ?_;refine cK rfl (λab=>?_) (λab=>?_)
 ·refine wp_ret (v:=ax _) rfl rfl ?_;grind [gF]
 refine ez (λaf=>af=[]/\p6 r.st 2 20) ?_ ?_
 ·refine wp_loop (λj af=>∃i:Nat,af=[ax i]/\i+j=r.st.length/\∀m,m<i->2<=r.st.getD m 0/\r.st.getD m 0<=20) r.st.length (by omega) ⟨0,rfl,by omega,λm hm=>by omega⟩ ?_;rintro j af ⟨i,rfl,dL,hb⟩;refine ib rfl hi ?_;refine hZ rfl rfl ?_;refine cK rfl (λbc=>?_) (λbc=>?_)
  ·have aU:i<r.st.length:=by omega
   refine uG rfl hi rfl aU ?_;refine dr (sW k _ _ _) rfl ?_;refine kg rfl ?_;refine cK rfl (λal=>?_) (λal=>?_)
   ·refine gK ?_;refine gK ?_;refine wp_ret (v:=ax _) rfl rfl ?_;unfold gF;rw[if_neg (by omega),if_neg (by omega),if_neg (λah=>al (ah _ (zI aU)))]
   ·refine ie rfl rfl (by omega) ?_;refine cw ⟨j-1,by omega,i+1,rfl,by omega,λm hm=>?_⟩;grind
  ·refine ia (by decide) ?_;exact cw ⟨rfl,uF (d:=0) λm hm=>hb m (by omega)⟩
 rintro af ⟨rfl,aN⟩;refine ez (λaf=>af=[.bool (decide (¬((2<=r.lines/\r.lines<=12)/\1<=r.width/\r.width<=60)))]) ?_ ?_
 ·refine dr (sW k _ _ _) rfl ?_;refine kg rfl ?_;refine cK rfl (λal=>?_) (λal=>?_)
  ·exact cw (xi (by omega))
  ·refine dr (sW k _ _ _) rfl ?_;refine kg rfl ?_;exact cw (sX (by omega))
 rintro af rfl;refine cK rfl (λal=>?_) (λal=>?_)
 ·refine wp_ret (v:=ax _) rfl rfl ?_;grind [gF]
 ·refine wp_ret (v:=ax _) rfl rfl ?_;grind [gF]
theorem aeZ(k:Nat){slip:Int}{b3:aa}{l:List aX}(h:iq b3 l):dT (k+3) 41 [.agg [ax slip,b3]] λv=>v=ax (jA slip l):=by
 refine gj (t:=t41) (by kernel_rfl) (fn:=Tryz.f41) (by kernel_rfl) (by simp[dd,flagsOf,h.plain]) ?_;refine eU (by rfl) rfl ?_;refine dr (sV (k+1) _ _ _) rfl ?_;refine kg rfl ?_;refine cK rfl (λao=>?_) (λao=>?_)
 ·refine wp_ret (v:=ax _) rfl rfl ?_;grind [jA]
 refine k9 rfl h.gS ?_;refine dr (Ts (k+1) _ _) rfl ?_;by_cases U:l.length=0
 ·refine hJ rfl rfl ?_;refine D4 rfl (by omega) ?_;refine wp_ret (v:=ax _) rfl rfl ?_;grind [jA]
 by_cases ab:4<l.length
 ·refine hJ rfl rfl ?_;refine D4 rfl (by omega) ?_;refine wp_ret (v:=ax _) rfl rfl ?_;grind [jA]
 refine hJ rfl rfl ?_;refine pW rfl (by omega) ?_;refine k9 rfl h.gS ?_;refine ez (λaf=>af=[]/\oj l=0) ?_ ?_
 ·refine wp_loop (λj af=>∃i:Nat,af=[ax i]/\i+j=l.length/\∀m,m<i->gF (l.getD m default)=0) l.length (by omega) ⟨0,rfl,by omega,λm hm=>by omega⟩ ?_;rintro j af ⟨i,rfl,dL,hb⟩;refine hZ rfl rfl ?_;refine cK rfl (λbc=>?_) (λbc=>?_)
  ·have aU:i<l.length:=by omega
   have du:=m6 h.gS aU;have dA:=λdB=>Jj (l:=l) aU hb dB;have h9:=h.rd _ (pH aU);have h6:=h.ma _ (pH aU);have bh:gF (l.getD i default)=0->∀m,m<i+1->gF (l.getD m default)=0:=λaT m hm=>by grind
   refine wp _ du ?_;refine dr (aeX k h9 h6) rfl ?_;refine hJ rfl rfl ?_;refine cK rfl (λal=>?_) (λal=>?_)
   ·refine gK ?_;refine gK ?_;refine wp_ret (v:=ax _) rfl rfl ?_;grind [jA]
   ·refine ie rfl rfl (by omega) ?_;exact cw ⟨j-1,by omega,i+1,rfl,by omega,bh (Decidable.not_not.1 al)⟩
  ·refine ia (by decide) ?_;exact cw ⟨rfl,Ij λm hm=>hb m (by omega)⟩
 rintro af ⟨rfl,aN⟩;refine wp_ret (v:=ax _) rfl rfl ?_;grind [jA]
theorem ae0(k:Nat){slip:Int}{b3:aa}{l:List aX}(h:iq b3 l):dT (k+3) 73 [.agg [ax slip,b3]] λv=>v=ax (jA slip l):=by
 refine gj (t:=t73) (by kernel_rfl) (fn:=Tryz.f73) (by kernel_rfl) (by simp[dd,flagsOf,h.plain]) ?_;refine eU (by rfl) rfl ?_;refine dr (sW (k+1) _ _ _) rfl ?_;refine kg rfl ?_;refine cK rfl (λao=>?_) (λao=>?_)
 ·refine wp_ret (v:=ax _) rfl rfl ?_;grind [jA]
 refine k9 rfl h.gS ?_;refine sM rfl rfl ?_;refine cK rfl (λU=>?_) (λU=>?_)
 ·refine wp_ret (v:=ax _) rfl rfl ?_;grind [jA]
 refine k9 rfl h.gS ?_;refine pf rfl rfl ?_;refine cK rfl (λab=>?_) (λab=>?_)
 ·refine wp_ret (v:=ax _) rfl rfl ?_;grind [jA]
 refine ez (λaf=>af=[]/\oj l=0) ?_ ?_
 ·refine wp_loop (λj af=>∃i:Nat,af=[ax i]/\i+j=l.length/\∀m,m<i->gF (l.getD m default)=0) l.length (by omega) ⟨0,rfl,by omega,λm hm=>by omega⟩ ?_;rintro j af ⟨i,rfl,dL,hb⟩;refine k9 rfl h.gS ?_;refine hZ rfl rfl ?_;refine cK rfl (λbc=>?_) (λbc=>?_)
  ·have aU:i<l.length:=by omega
   have du:=m6 h.gS aU;have dA:=λdB=>Jj (l:=l) aU hb dB;have h9:=h.rd _ (pH aU);have h6:=h.ma _ (pH aU);have bh:gF (l.getD i default)=0->∀m,m<i+1->gF (l.getD m default)=0:=λaT m hm=>by grind
   refine wp _ du ?_;refine dr (aeY k h9 h6) rfl ?_;refine hJ rfl rfl ?_;refine cK rfl (λal=>?_) (λal=>?_)
   ·refine gK ?_;refine gK ?_;refine wp_ret (v:=ax _) rfl rfl ?_;grind [jA]
   ·refine ie rfl rfl (by omega) ?_;exact cw ⟨j-1,by omega,i+1,rfl,by omega,bh (Decidable.not_not.1 al)⟩
  ·refine ia (by decide) ?_;exact cw ⟨rfl,Ij λm hm=>hb m (by omega)⟩
 rintro af ⟨rfl,aN⟩;refine wp_ret (v:=ax _) rfl rfl ?_;grind [jA]
theorem ae1(k:Nat){p:a7}(h:lk p):dT (k+2) 99 [.agg p.cells] λv=>v=ax (hj p):=by
 refine gj (t:=t99) (by kernel_rfl) (fn:=Tryz.f99) (by kernel_rfl) (by simp[dd,flagsOf,a7.cells,h.c5.plain]) ?_;refine eU (by rfl) rfl ?_;refine ib rfl h.c5 ?_;refine pf rfl rfl ?_;refine cK rfl (λU=>?_) (λU=>?_)
 ·refine wp_ret (v:=ax _) rfl rfl ?_;grind [hj]
 refine ib rfl h.c5 ?_;refine ez (λaf=>af=[]/\p6 p.g 1 30) ?_ ?_
 ·refine wp_loop (λj af=>∃i:Nat,af=[ax i]/\i+j=p.g.length/\∀m,m<i->1<=p.g.getD m 0/\p.g.getD m 0<=30) p.g.length (by omega) ⟨0,rfl,by omega,λm hm=>by omega⟩ ?_;rintro j af ⟨i,rfl,dL,hb⟩;refine hZ rfl rfl ?_;refine cK rfl (λbc=>?_) (λbc=>?_)
  ·have aU:i<p.g.length:=by omega
   refine uG rfl h.c5 rfl aU ?_;refine dr (sV k _ _ _) rfl ?_;refine kg rfl ?_;refine cK rfl (λal=>?_) (λal=>?_)
   ·refine gK ?_;refine gK ?_;refine wp_ret (v:=ax _) rfl rfl ?_;unfold hj;rw[if_neg (by omega),if_neg (λah=>al (ah _ (zI aU)))]
   ·refine ie rfl rfl (by omega) ?_;refine cw ⟨j-1,by omega,i+1,rfl,by omega,λm hm=>?_⟩;grind
  ·refine ia (by decide) ?_;exact cw ⟨rfl,uF (d:=0) λm hm=>hb m (by omega)⟩
 rintro af ⟨rfl,aN⟩;refine ez (λaf=>af=[.bool (decide (¬((0<=p.up/\p.up<=30)/\(0<=p.aP/\p.aP<=30)/\0<=p.wd/\p.wd<=60)))]) ?_ ?_
 ·refine dr (sV k _ _ _) rfl ?_;refine kg rfl ?_;refine cK rfl (λal=>?_) (λal=>?_)
  ·exact cw (xi (by omega))
  ·refine dr (sV k _ _ _) rfl ?_;refine kg rfl ?_;refine cK rfl (λaJ=>?_) (λaJ=>?_)
   ·exact cw (xi (by omega))
   ·refine dr (sV k _ _ _) rfl ?_;refine kg rfl ?_;exact cw (sX (by omega))
 rintro af rfl;refine cK rfl (λal=>?_) (λal=>?_)
 ·refine wp_ret (v:=ax _) rfl rfl ?_;unfold hj;rw[if_neg (by omega),if_pos aN,if_neg al]
 ·refine wp_ret (v:=ax _) rfl rfl ?_;unfold hj;rw[if_neg (by omega),if_pos aN,if_pos (Decidable.not_not.1 al)]
theorem ae2(k:Nat){p:a7}(h:lk p):dT (k+2) 107 [.agg p.cells] λv=>v=ax (hj p):=by
 refine gj (t:=t107) (by kernel_rfl) (fn:=Tryz.f107) (by kernel_rfl) (by simp[dd,flagsOf,a7.cells,h.c5.plain]) ?_;refine eU (by rfl) rfl ?_;refine ib rfl h.c5 ?_;refine pf rfl rfl ?_;refine cK rfl (λU=>?_) (λU=>?_)
 ·refine wp_ret (v:=ax _) rfl rfl ?_;grind [hj]
 refine ez (λaf=>af=[]/\p6 p.g 1 30) ?_ ?_
 ·refine wp_loop (λj af=>∃i:Nat,af=[ax i]/\i+j=p.g.length/\∀m,m<i->1<=p.g.getD m 0/\p.g.getD m 0<=30) p.g.length (by omega) ⟨0,rfl,by omega,λm hm=>by omega⟩ ?_;rintro j af ⟨i,rfl,dL,hb⟩;refine ib rfl h.c5 ?_;refine hZ rfl rfl ?_;refine cK rfl (λbc=>?_) (λbc=>?_)
  ·have aU:i<p.g.length:=by omega
   refine uG rfl h.c5 rfl aU ?_;refine dr (sW k _ _ _) rfl ?_;refine kg rfl ?_;refine cK rfl (λal=>?_) (λal=>?_)
   ·refine gK ?_;refine gK ?_;refine wp_ret (v:=ax _) rfl rfl ?_;unfold hj;rw[if_neg (by omega),if_neg (λah=>al (ah _ (zI aU)))]
   ·refine ie rfl rfl (by omega) ?_;refine cw ⟨j-1,by omega,i+1,rfl,by omega,λm hm=>?_⟩;grind
  ·refine ia (by decide) ?_;exact cw ⟨rfl,uF (d:=0) λm hm=>hb m (by omega)⟩
 rintro af ⟨rfl,aN⟩;refine ez (λaf=>af=[.bool (decide (¬((0<=p.up/\p.up<=30)/\(0<=p.aP/\p.aP<=30)/\0<=p.wd/\p.wd<=60)))]) ?_ ?_
 ·refine dr (sW k _ _ _) rfl ?_;refine kg rfl ?_;refine cK rfl (λal=>?_) (λal=>?_)
  ·exact cw (xi (by omega))
  ·refine dr (sW k _ _ _) rfl ?_;refine kg rfl ?_;refine cK rfl (λaJ=>?_) (λaJ=>?_)
   ·exact cw (xi (by omega))
   ·refine dr (sW k _ _ _) rfl ?_;refine kg rfl ?_;exact cw (sX (by omega))
 rintro af rfl;refine cK rfl (λal=>?_) (λal=>?_)
 ·refine wp_ret (v:=ax _) rfl rfl ?_;grind [hj]
 ·refine wp_ret (v:=ax _) rfl rfl ?_;grind [hj]
end
section
open Go Go.RowKit
theorem QA{slip:Int}{l:List aX}(h:jA slip l=0):1<=l.length:=by
 unfold jA at h;split at h
 ·split at h
  ·cases h
  ·omega
 ·cases h
theorem SB(k:Nat){slip:Int}{b3 x y:aa}{l:List aX}{ns:List Int}{ps:List a7}(h:iq b3 l)(aj:dI x ns)(mB:ns.length<4000)(aF:ov y ps)(ae:∀p∈ps,lk p)(cD:ps.length<4000):dT (k+4) 64 [.agg [ax slip,b3],x,y] λv=>v=ax (gn slip l ns ps):=by
 refine gj (t:=t64) (by kernel_rfl) (fn:=Tryz.f64) (by kernel_rfl) (by simp[dd,flagsOf,h.plain,aj.plain,aF.plain λp hm=>(ae p hm).c5]) ?_;have hlen:=h.len;refine eU (by simp only[ag,aD,aM,aS.aP,aR.aP,cF,nth,cM,List.getD_cons_succ,List.getD_cons_zero,aX.cells,a7.cells];rfl) rfl ?_;refine dr (ae0 k h) rfl ?_;refine hJ rfl rfl ?_;refine cK rfl (λhe=>?_) (λhe=>?_)
 ·refine wp_ret (v:=ax _) rfl rfl ?_;unfold gn;rw[if_pos he]
 replace he:=Decidable.not_not.1 he;have gk:=QA he;refine ez (λaf=>af=[]/\p6 ns 0 (l.length-1)) ?_ ?_
 ·refine wp_loop (λj af=>∃i:Nat,af=[ax i]/\i+j=ns.length/\∀m,m<i->0<=ns.getD m 0/\ns.getD m 0<=(l.length:Int)-1) ns.length (by omega) ⟨0,rfl,by omega,λm hm=>by omega⟩ ?_;rintro j af ⟨i,rfl,dL,hb⟩;try refine eK (by(try simp only[List.length_cons,List.length_nil,Nat.reduceAdd,Nat.zero_add]);rfl) (by(try simp only[dz]);rfl) ?_
  refine ib rfl aj ?_;refine hZ rfl rfl ?_;refine cK rfl (λbc=>?_) (λbc=>?_)
  ·have aU:i<ns.length:=by omega
   refine uG rfl aj rfl aU ?_;refine k9 rfl h.gS ?_;refine AT rfl rfl (by omega) ?_;refine dr (sW _ _ _ _) rfl ?_;refine kg rfl ?_;refine cK rfl (λal=>?_) (λal=>?_)
   ·refine gK ?_;refine gK ?_;refine wp_ret (v:=ax _) rfl rfl ?_;unfold gn;rw[if_neg (by simpa using he),if_neg (λah=>al (by have:=ah _ (zI aU);omega))]
    skip
   ·refine ie rfl rfl (by omega) ?_;refine cw ⟨j-1,by omega,i+1,rfl,by omega,λm hm=>?_⟩;by_cases e:m=i
    ·subst e;have:=Decidable.not_not.1 al;omega
    ·exact hb m (by omega)
  ·refine ia (by decide) ?_;exact cw ⟨rfl,uF (d:=0) λm hm=>hb m (by omega)⟩
 rintro af ⟨rfl,aN⟩;try refine eK (by(try simp only[List.length_cons,List.length_nil,Nat.reduceAdd,Nat.zero_add]);rfl) (by(try simp only[dz]);rfl) ?_
 refine ez (λaf=>af=[]/\pI ps=0) ?_ ?_
 ·refine wp_loop (λj af=>∃i:Nat,af=[ax i]/\i+j=ps.length/\∀m,m<i->hj (ps.getD m default)=0) ps.length (by omega) ⟨0,rfl,by omega,λm hm=>by omega⟩ ?_;rintro j af ⟨i,rfl,dL,hb⟩;try refine eK (by(try simp only[List.length_cons,List.length_nil,Nat.reduceAdd,Nat.zero_add]);rfl) (by(try simp only[dz]);rfl) ?_
  refine wj rfl aF ?_;refine hZ rfl rfl ?_;refine cK rfl (λbc=>?_) (λbc=>?_)
  ·have aU:i<ps.length:=by omega
   have du:=BA aF aU;have dA:=λdB=>Jk (l:=ps) aU hb dB;have h9:=ae _ (Ll aU);have bh:hj (ps.getD i default)=0->∀m,m<i+1->hj (ps.getD m default)=0:=λaT m hm=>by
    by_cases e:m=i
    ·subst e;exact aT
    ·exact hb m (by omega)
   generalize ps.getD i default=p at du dA h9 bh;refine wp _ du ?_;refine dr (ae2 _ h9) rfl ?_;refine hJ rfl rfl ?_;refine cK rfl (λal=>?_) (λal=>?_)
   ·refine gK ?_;refine gK ?_;refine wp_ret (v:=ax _) rfl rfl ?_;unfold gn;rw[if_neg (by simpa using he),if_pos aN,dA al]
    skip
   ·refine ie rfl rfl (by omega) ?_;exact cw ⟨j-1,by omega,i+1,rfl,by omega,bh (Decidable.not_not.1 al)⟩
  ·refine ia (by decide) ?_;exact cw ⟨rfl,Ik λm hm=>hb m (by omega)⟩
 rintro af ⟨rfl,bO⟩;refine wp_ret (v:=ax _) rfl rfl ?_;unfold gn;rw[if_neg (by simpa using he),if_pos aN,bO]
def Ry(slip:Int)(b3:aa)(e:Int)(v:aa):Prop:=∃a b,v=.bD [.agg [a,b],ax e]/\(e=0->a=ax slip/\b=b3)/\bG [a,b]=true
theorem HE{slip:Int}{b3:aa}{e:Int}(h:e≠0):Ry slip b3 e (.bD [.agg [ax 0,.bC],ax e]):=⟨_,_,rfl,λbc=>absurd bc h,rfl⟩
theorem Sz(k:Nat){slip:Int}{b3 x y:aa}{l:List aX}{ns:List Int}{ps:List a7}(h:iq b3 l)(aj:dI x ns)(mB:ns.length<4000)(aF:ov y ps)(ae:∀p∈ps,lk p)(cD:ps.length<4000):dT (k+4) 56 [.agg [ax slip,b3],x,y] (Ry slip b3 (gn slip l ns ps)):=by
 refine gj (t:=t56) (by kernel_rfl) (fn:=Tryz.f56) (by kernel_rfl) (by simp[dd,flagsOf,h.plain,aj.plain,aF.plain λp hm=>(ae p hm).c5]) ?_;have hlen:=h.len;refine eU (by simp only[ag,aD,aM,aS.aP,aR.aP,cF,nth,cM,List.getD_cons_succ,List.getD_cons_zero,aX.cells,a7.cells];rfl) rfl ?_;refine dr (aeZ k h) rfl ?_;refine hJ rfl rfl ?_;refine cK rfl (λhe=>?_) (λhe=>?_)
 ·refine wp_ret (v:=.bD [.agg [ax 0,.bC],ax _]) rfl rfl ?_;unfold gn;rw[if_pos he];exact HE he
 replace he:=Decidable.not_not.1 he;have gk:=QA he;refine ib rfl aj ?_;refine ez (λaf=>af=[]/\p6 ns 0 (l.length-1)) ?_ ?_
 ·refine wp_loop (λj af=>∃i:Nat,af=[ax i]/\i+j=ns.length/\∀m,m<i->0<=ns.getD m 0/\ns.getD m 0<=(l.length:Int)-1) ns.length (by omega) ⟨0,rfl,by omega,λm hm=>by omega⟩ ?_;rintro j af ⟨i,rfl,dL,hb⟩;refine hZ rfl rfl ?_;refine cK rfl (λbc=>?_) (λbc=>?_)
  ·have aU:i<ns.length:=by omega
   refine uG rfl aj rfl aU ?_;refine k9 rfl h.gS ?_;refine AT rfl rfl (by omega) ?_;refine dr (sV _ _ _ _) rfl ?_;refine kg rfl ?_;refine cK rfl (λal=>?_) (λal=>?_)
   ·refine gK ?_;refine gK ?_;refine wp_ret (v:=.bD [.agg [ax 0,.bC],ax 3]) rfl rfl ?_;unfold gn;rw[if_neg (by simpa using he),if_neg (λah=>al (by have:=ah _ (zI aU);omega))];exact HE (by decide)
   ·refine ie rfl rfl (by omega) ?_;refine cw ⟨j-1,by omega,i+1,rfl,by omega,λm hm=>?_⟩;by_cases e:m=i
    ·subst e;have:=Decidable.not_not.1 al;omega
    ·exact hb m (by omega)
  ·refine ia (by decide) ?_;exact cw ⟨rfl,uF (d:=0) λm hm=>hb m (by omega)⟩
 rintro af ⟨rfl,aN⟩;try refine eK (by(try simp only[List.length_cons,List.length_nil,Nat.reduceAdd,Nat.zero_add]);rfl) (by(try simp only[dz]);rfl) ?_
 refine wj rfl aF ?_;refine ez (λaf=>af=[]/\pI ps=0) ?_ ?_
 ·refine wp_loop (λj af=>∃i:Nat,af=[ax i]/\i+j=ps.length/\∀m,m<i->hj (ps.getD m default)=0) ps.length (by omega) ⟨0,rfl,by omega,λm hm=>by omega⟩ ?_;rintro j af ⟨i,rfl,dL,hb⟩;refine hZ rfl rfl ?_;refine cK rfl (λbc=>?_) (λbc=>?_)
  ·have aU:i<ps.length:=by omega
   have du:=BA aF aU;have dA:=λdB=>Jk (l:=ps) aU hb dB;have h9:=ae _ (Ll aU);have bh:hj (ps.getD i default)=0->∀m,m<i+1->hj (ps.getD m default)=0:=λaT m hm=>by
    by_cases e:m=i
    ·subst e;exact aT
    ·exact hb m (by omega)
   generalize ps.getD i default=p at du dA h9 bh;refine wp _ du ?_;refine dr (ae1 _ h9) rfl ?_;refine hJ rfl rfl ?_;refine cK rfl (λal=>?_) (λal=>?_)
   ·refine gK ?_;refine gK ?_;refine wp_ret (v:=.bD [.agg [ax 0,.bC],ax (hj p)]) rfl rfl ?_;unfold gn;rw[if_neg (by simpa using he),if_pos aN,dA al];exact HE al
   ·refine ie rfl rfl (by omega) ?_;exact cw ⟨j-1,by omega,i+1,rfl,by omega,bh (Decidable.not_not.1 al)⟩
  ·refine ia (by decide) ?_;exact cw ⟨rfl,Ik λm hm=>hb m (by omega)⟩
 rintro af ⟨rfl,bO⟩;refine wp_ret (v:=.bD [.agg [ax slip,b3],ax 0]) rfl (by simp[h.plain]) ?_;unfold gn;rw[if_neg (by simpa using he),if_pos aN,bO];exact⟨_,_,rfl,λ_=>⟨rfl,rfl⟩,by simp[h.plain]⟩
def agt(l:List Int)(i:Nat):Int:=if 0<=l.getD i 0/\l.getD i 0<=300 then(if 0<i/\l.getD i 0<=l.getD (i-1) 0 then 5 else 0)else 1
def Ko(l:List Int):Nat->Int
 |0=>0
 |n+1=>if Ko l n≠0 then Ko l n else agt l n
def aiu(l:List Int):Int:=if 16<l.length then 6 else Ko l l.length
def al8(slip:Int)(l:List aX)(n:Int)(ps:List Int):Int:=if gn slip l [n] []≠0 then gn slip l [n] []else aiu ps
end
section
open Go Go.RowKit
theorem adI{slip:Int}{l:List aX}{ns:List Int}{ps:List a7}(h:gn slip l ns ps=0):jA slip l=0/\p6 ns 0 (l.length-1)/\pI ps=0:=by
 unfold gn at h;split at h
 ·rename_i ah;exact absurd h ah
 ·rename_i ah;split at h
  ·rename_i aN;exact⟨Decidable.not_not.1 ah,aN,h⟩
  ·cases h
end
section
open Go Go.RowKit
theorem c3:Tryz.prog.cellsOf 3=1:=by kernel_rfl
theorem D2{P:Program}{k:Nat}{t:TypeId}{fl:List TypeId}{bz:List aa}(h:qu P k (t::fl) bz):∃q Lm,bz=q::Lm/\l4 P k t q/\qu P k fl Lm:=by
 cases bz with
 |nil=>exact h.elim
 |cons q bz=>exact⟨q,bz,rfl,h.1,h.2⟩
theorem ace{P:Program}{k:Nat}{bz:List aa}(h:qu P k [] bz):bz=[]:=by
 cases bz with
 |nil=>rfl
 |cons q bz=>exact h.elim
end
section
open Go Go.RowKit
abbrev lF(l:List Bool):List aa:=l.map aa.bool
def su(x:aa)(l:List Bool):Prop:=(x=.bC/\l=[])\/∃off,x=.sl none 1 off l.length (lF l)
theorem Pn(l:List Bool):bG (lF l)=true:=by
 induction l with
 |nil=>rfl
 |cons a l az=>simp_all
theorem su.plain{x:aa}{l:List Bool}(h:su x l):x.plain=true/\x.one=true:=by
 rcases h with⟨rfl,_⟩|⟨off,rfl⟩;all_goals simp_all[Pn]
theorem agv:Tryz.prog.underlying 119=some (.slice 4):=by kernel_rfl
theorem su.len{x:aa}{l:List Bool}(h:su x l):ht Tryz.prog 119 x=some (ax l.length):=by rcases h with⟨rfl,rfl⟩|⟨off,rfl⟩<;>simp[ht]
def BB(l:List Bool):aa:=match l with
 |[]=>.bC
 |a::l=>.sl none 1 0 (l.length+1) (lF (a::l))
section
variable{C:b2->FuncId->List aa->Option aa}{n:Nat}{R:Out->Prop}{d:Nat}{st:List aa}{t:Tree}
end
def Cp(slip:Int)(r:aX)(p:a7)(line:Nat)(q2:List Bool):Bool:=(List.range p.g.length).all λk=>q2.getD k false||nr slip (p.g.getD k 0) (dp r (line+k))
def n4(slip:Int)(r:aX)(p:a7)(line:Nat)(q2:List Bool):Bool:=decide (((line+p.g.length:Nat):Int)<=r.lines-1)&&(Cp slip r p line q2&&(!(pG slip r p line||sf slip r p line)&&sg slip r p))
def iV(slip:Int)(r:aX)(p:a7)(q2:List Bool)(t:Bool):Nat->List (Nat×Bool)
 |0=>[]
 |n+1=>iV slip r p q2 t n++if n4 slip r p n q2=true then[(n,t)]else[]
def EJ(slip:Int)(r:aX)(p:a7)(q2:List Bool):List (Nat×Bool):=iV slip r p q2 false r.lines.toNat++if p.fr then iV slip r (half p) q2.reverse true r.lines.toNat else[]
end
section
open Go Go.RowKit
theorem EY:dI .bC []:=.inl ⟨rfl,rfl⟩
def akV(slip:Int)(l:List aX)(n:Int):List Int:=if gn slip l [n] []=0 then tM (l.getD n.toNat default) (l.getD n.toNat default).lines.toNat else[]
def akv(slip:Int)(l:List aX)(n:Int)(p:a7):List (Nat×Bool):=if gn slip l [n] [p]=0 then kl slip (l.getD n.toNat default) p else[]
theorem tb{p:a7}:ov (.sl none 5 0 1 p.cells) [p]:=.inr ⟨0,by simp[uM]⟩
def lj(p:a7):a7:=⟨.sl none 1 0 p.g.length (p.g.map ax),p.g,p.up,p.aP,p.wd,p.fr⟩
end
section
open Go Go.RowKit
def T0:Prim->Bool
 |.ins ..=>false
 |_=>true
def oc:Tree->Bool
 |.av p t=>T0 p&&oc t
 |.ite _ a b=>oc a&&oc b
 |.call _ _ t | .kL _ _ t | .pick _ _ t | .loop _ _ t=>oc t
 |.join _ a b=>oc a&&oc b
 |_=>true
section
variable(P:Program)(fs:Array Func)
theorem adi(t:TypeId)(x y:aa):u2 { P with funcs:=fs } t x y=u2 P t x y:=rfl
theorem Rd:∀(l:List Field)(i:Nat)(xs ys:List aa),s3 { P with funcs:=fs } l i xs ys=s3 P l i xs ys
 |[],_,[],[]=>rfl
 |[],_,_::_,_=>rfl
 |[],_,[],_::_=>rfl
 |_::_,_,[],_=>rfl
 |_::_,_,_::_,[]=>rfl
 |f::l,i,x::xs,y::ys=>by simp only[s3,adi,Rd l]
theorem adj(t:TypeId)(xs ys:List aa):za { P with funcs:=fs } t xs ys=za P t xs ys:=by
 have aK:Program.underlying { P with funcs:=fs } t=P.underlying t:=rfl;have aO:Program.depth { P with funcs:=fs }=P.depth:=rfl;simp only[za,Re,Ja,Rd,aK,aO]
theorem adk(op:BinOp)(t:TypeId)(x y:aa):eB { P with funcs:=fs } op t x y=eB P op t x y:=by
 have aK:Program.underlying { P with funcs:=fs } t=P.underlying t:=rfl;simp only[eB,adj,aK]
theorem abD(ρ:List aa){p:Prim}(h:T0 p=true):Prim.run { P with funcs:=fs } ρ p=Prim.run P ρ p:=by
 cases p with
 |ins=>cases h
 |bin op t x y=>exact adk P fs op t _ _
 |conv s d x=>simp only[Prim.run];rfl
 |idx t x i=>simp only[Prim.run];rfl
 |len t x=>simp only[Prim.run];rfl
 |slice t x lo hi=>simp only[Prim.run];rfl
 |_=>simp only[Prim.run]
theorem qS{C:b2->FuncId->List aa->Option aa}{n:Nat}:∀(t:Tree)(ω:b2)(ρ:List aa),oc t=true->eval { P with funcs:=fs } C n t ω ρ=eval P C n t ω ρ
 |.ret _,_,_,_=>rfl
 |.jump _ _,_,_,_=>rfl
 |.av p t,ω,ρ,h=>by
  simp only[oc,Bool.and_eq_true]at h;simp only[eval,abD P fs ρ h.1];congr 1;funext v;exact qS t _ _ h.2
 |.ite _ a b,ω,ρ,h=>by
  simp only[oc,Bool.and_eq_true]at h;simp only[eval,qS a _ _ h.1,qS b _ _ h.2]
 |.call _ _ t,ω,ρ,h=>by
  have e:=λω ρ=>qS (C:=C) (n:=n) t ω ρ h;simp only[eval,e]
 |.kL _ _ t,ω,ρ,h=>by
  have e:=λω ρ=>qS (C:=C) (n:=n) t ω ρ h;simp only[eval,e]
 |.pick _ _ t,ω,ρ,h=>by
  have e:=λω ρ=>qS (C:=C) (n:=n) t ω ρ h;simp only[eval,e]
 |.loop _ _ t,ω,ρ,h=>by
  have e:=λω ρ=>qS (C:=C) (n:=n) t ω ρ h;simp only[eval,e]
 |.join _ a b,ω,ρ,h=>by
  simp only[oc,Bool.and_eq_true]at h;have aK:=λω ρ=>qS (C:=C) (n:=n) a ω ρ h.1;have aO:=λω ρ=>qS (C:=C) (n:=n) b ω ρ h.2;simp only[eval,aK,aO]
 |.die,_,_,_=>rfl
end
theorem abE{C:b2->FuncId->List aa->Option aa}{n:Nat}{t:Tree}(h:oc t=true)(ω:b2)(ρ:List aa):eval cl C n t ω ρ=eval Tryz.prog C n t ω ρ:=qS Tryz.prog cl.funcs t ω ρ h
theorem Rf{k:Nat}{g:FuncId}{args:List aa}{t:Tree}{fn:Func}{Q:aa->Prop}(a1:PP.cA g=some t)(aQ:cl.funcs[g]?=some fn)(gN:dd (flagsOf 23 fn) args=true)(ar:oc t=true)(h:bN Tryz.prog (PP.E cl k) 4096 t args λo=>∃v,o=.val v/\v.plain=true/\Q v):ks (PP.E cl) (k+1) g args Q:=by
 intro ω;obtain⟨o,U,v,rfl,ae,gI⟩:=h ω;refine⟨v,?_,gI⟩;unfold PP.E;simp only[g6,a1,aQ];rw[if_pos gN,abE ar];have bc:=U;unfold PP.E at bc;rw[bc];simp[ae]
theorem adl{g:FuncId}(h:zx g=true):PP.cA g=cA g:=by
 have aT:=h;simp only[zx,Bool.and_eq_true,bne_iff_ne,ne_eq]at aT;obtain⟨t,a1⟩:=Option.isSome_iff_exists.1 aT.1;obtain⟨w,hm,rfl,_⟩:=iN.DW a1;have U:(w.g=91\/w.g=92\/w.g=96\/w.g=121\/w.g=122\/w.g=123\/w.g=130\/w.g=131\/w.g=163)\/w.g=103\/w.g=58:=by
  have key:PP.xW.rows.all (λw=>decide ((w.g=91\/w.g=92\/w.g=96\/w.g=121\/w.g=122\/w.g=123\/w.g=130\/w.g=131\/w.g=163)\/w.g=103\/w.g=58))=true:=by kernel_rfl
  exact of_decide_eq_true (List.all_eq_true.1 key w hm)
 rcases U with U|U|U
 ·have fG:PP.cA 91=cA 91:=(show PP.cA 91=some t91 by kernel_rfl).trans (show cA 91=some t91 by kernel_rfl).symm;have ha:PP.cA 92=cA 92:=(show PP.cA 92=some t92 by kernel_rfl).trans (show cA 92=some t92 by kernel_rfl).symm;have od:PP.cA 96=cA 96:=(show PP.cA 96=some t96 by kernel_rfl).trans (show cA 96=some t96 by kernel_rfl).symm;have FK:PP.cA 121=cA 121:=(show PP.cA 121=some t121 by kernel_rfl).trans (show cA 121=some t121 by kernel_rfl).symm;have FL:PP.cA 122=cA 122:=(show PP.cA 122=some t122 by kernel_rfl).trans (show cA 122=some t122 by kernel_rfl).symm;have zy:PP.cA 123=cA 123:=(show PP.cA 123=some t123 by kernel_rfl).trans (show cA 123=some t123 by kernel_rfl).symm;have ahm:PP.cA 130=cA 130:=(show PP.cA 130=some t130 by kernel_rfl).trans (show cA 130=some t130 by kernel_rfl).symm;have T1:PP.cA 131=cA 131:=(show PP.cA 131=some t131 by kernel_rfl).trans (show cA 131=some t131 by kernel_rfl).symm;have ahn:PP.cA 163=cA 163:=(show PP.cA 163=some t163 by kernel_rfl).trans (show cA 163=some t163 by kernel_rfl).symm;rcases U with e|e|e|e|e|e|e|e|e
  ·rw[e];exact fG
  ·rw[e];exact ha
  ·rw[e];exact od
  ·rw[e];exact FK
  ·rw[e];exact FL
  ·rw[e];exact zy
  ·rw[e];exact ahm
  ·rw[e];exact T1
  ·rw[e];exact ahn
 ·exact absurd U aT.2.1
 ·exact absurd U aT.2.2
theorem abF:PP.xW.rows.all (λw=>match PP.xW.tree w with|some t=>oc t|none=>true)=true:=by kernel_rfl
theorem adm{g:FuncId}{t:Tree}(h:PP.cA g=some t):oc t=true:=by
 obtain⟨w,hm,_,e⟩:=iN.DW h;have:=List.all_eq_true.1 abF w hm;rwa[e]at this
instance ak6:oX (PP.E cl):=⟨λ{k g args t fn Q} aN a1 aQ gN h=>by
 simp only[zx,Bool.and_eq_true,bne_iff_ne,ne_eq]at aN;have T2:PP.cA g=some t:=by rw[adl (by simp[zx,aN])];exact a1
 exact Rf T2 (by rw[Qe aN.2.1 aN.2.2];exact aQ) gN (adm T2) h⟩
theorem No:∀{a b:List aa},hv (a++b)=(hv a&&hv b)
 |[],_=>by simp[hv]
 |x::a,b=>by simp[hv,No,Bool.and_assoc]
theorem aaa(l:List Int):hv (l.map ax)=true:=by
 induction l with
 |nil=>rfl
 |cons a l az=>simp[hv,aa.l1,az]
theorem dI.l1{x:aa}{l:List Int}(h:dI x l):x.l1=true:=by
 rcases h with⟨rfl,_⟩|⟨off,rfl⟩
 ·rfl
 ·simp[aa.l1,aaa]
theorem Xu{l:List aX}(h:∀r∈l,r.ok):hv (dJ l)=true:=by
 induction l with
 |nil=>rfl
 |cons r l az=>
  have e:dJ (r::l)=r.cells++dJ l:=by simp[dJ]
  rw[e,No,az λx aj=>h x (by simp[aj])];simp[aX.cells,hv,aa.l1,(h r (by simp)).c5.l1]
theorem Hand.l1{slip:Int}{b3:aa}{l:List aX}(h:Hand slip b3 l):b3.l1=true:=by
 rcases h.gS with⟨rfl,_⟩|⟨off,rfl⟩
 ·rfl
 ·simp[aa.l1,Xu h.ok]
theorem Rg(k:Nat){slip:Int}{b3:aa}{l:List aX}(h:Hand slip b3 l){p:a7}(ae:p.ok){i:Nat}(hi:i<l.length):ks (PP.E cl) (k+5) 103 [.ca,.bJ none 0 [ax slip,b3],.bJ none 0 [ax i],.bJ none 0 p.cells,.ca] λv=>v=.bD [.bool (kn slip (l.getD i default) p),ax i]:=by
 refine Rf (t:=PP.t103) (by kernel_rfl) (fn:=yW) (by kernel_rfl) (by
  have e:flagsOf 23 yW=[false,false,false,false,false]:=by kernel_rfl
  rw[e];simp[dd,a7.cells,ae.c5.plain,h.plain];rfl) (by kernel_rfl) ?_
 refine(?_:b6 (PP.E cl (k+4)) 4096 PP.t103 5 (dz [.ca,.bJ none 0 [ax slip,b3],.bJ none 0 [ax i],.bJ none 0 p.cells,.ca] []) _).run rfl;have ad:=h.get hi;have du:=m6 h.gS hi;generalize l.getD i default=r at ad du;refine ez (λaf=>af=[]) (cw rfl) ?_;rintro af rfl;refine wp _ rfl ?_;refine wp _ rfl ?_;refine dr (afE (C:=PP.E cl) (k+3) slip) rfl ?_;refine wp _ rfl ?_;refine wp _ rfl ?_;refine wp _ du ?_;refine wp _ rfl ?_;refine dr (afF (C:=PP.E cl) k h.cc h.s1 ad ae) rfl ?_;exact wp_ret rfl rfl rfl
theorem Rh{n:Nat}(h:n<=4)(b:Nat->Bool):rN n b=(List.range n).filter b:=by
 match n,h with
 |0,_=>simp[rN]
 |1,_=>simp only[rN,List.range_succ,List.range_zero,List.nil_append,List.cons_append,List.filter];simp
 |2,_=>simp only[rN,List.range_succ,List.range_zero,List.nil_append,List.cons_append,List.filter];simp
 |3,_=>simp only[rN,List.range_succ,List.range_zero,List.nil_append,List.cons_append,List.filter];simp
 |4,_=>simp only[rN,List.range_succ,List.range_zero,List.nil_append,List.cons_append,List.filter];simp
def oe(slip:Int)(l:List aX)(p:a7)(n:Nat):List Nat:=(List.range n).filter λi=>kn slip (l.getD i default) p
def hy(slip:Int)(l:List aX)(p:a7)(n:Nat):List Int:=(oe slip l p n).map λ(i:Nat)=>(i:Int)
theorem Qf(l:List Nat):dI (lS l) (l.map λ(i:Nat)=>(i:Int)):=by
 unfold lS;split
 ·rename_i e;cases l with
  |nil=>exact .inl ⟨rfl,rfl⟩
  |cons a l=>cases e
 ·exact .inr ⟨0,by simp⟩
theorem Sl(k:Nat){slip:Int}{b3:aa}{l:List aX}(h:Hand slip b3 l){p:a7}(ae:p.ok):dT (k+1) 58 [.agg [ax slip,b3],.agg p.cells] λv=>v=lS (oe slip l p l.length):=by
 have aw:yX [.agg [ax slip,b3],.agg p.cells] (oe slip l p l.length):=⟨[ax slip,b3],p.cells,b3,l.length,λi=>kn slip (l.getD i default) p,rfl,by simp[hv,aa.l1,h.l1],by simp[a7.cells,hv,aa.l1,ae.c5.l1],by simp[bG,h.plain],by simp[a7.cells,ae.c5.plain],rfl,by
  rcases h.gS with⟨rfl,rfl⟩|⟨off,rfl⟩
  ·exact .inl ⟨rfl,rfl⟩
  ·exact .inr ⟨_,_,_,rfl⟩,h.fI,λi hi ω=>by
   obtain⟨v,ai,rfl⟩:=Rg 4 h ae hi ω;exact ai,(Rh h.fI _).symm⟩
 intro ω;refine⟨_,?_,rfl⟩;have a1:cA 58=none:=by kernel_rfl
 have key:∀aG,yX [.agg [ax slip,b3],.agg p.cells] aG->aG=oe slip l p l.length:=by
  rintro aG ⟨ah,eg,cy,n,bit,iM⟩;obtain⟨aK,aO⟩:[ax slip,b3]=ah/\p.cells=eg:=by have:=iM.a;simpa using this
  subst aK aO;have aH:cy=b3:=by have:=iM.q;simpa using this.symm
  subst aH;have aI:n=l.length:=by
   rcases iM.r with⟨e,rfl⟩|⟨_,_,_,e⟩<;>rcases h.gS with⟨e',aO⟩|⟨off,e'⟩<;>rw[e']at e
   ·rw[aO];rfl
   ·cases e
   ·cases e
   ·injection e with _ _ _ e _;exact e.symm
  rw[iM.l,Rh iM.U4,aI];unfold oe;refine List.filter_congr λi hi=>?_;rw[List.mem_range]at hi;have U:=iM.b i (by omega) ω;obtain⟨v,ai,rfl⟩:=Rg 4 h ae hi ω;rw[ai]at U;simpa using U.symm
 have hex:∃aG,yX [.agg [ax slip,b3],.agg p.cells] aG:=⟨_,aw⟩;have e:pj ω 58 [.agg [ax slip,b3],.agg p.cells]=some (lS (oe slip l p l.length)):=by
  unfold pj;rw[if_pos rfl,dif_pos hex,key _ hex.choose_spec]
 unfold E;simp only[g6,a1];exact e
end
section
open Go Go.RowKit
theorem Ek{slip:Int}{b3:aa}{l:List aX}{ns:List Int}{p:a7}(ad:iq b3 l)(ae:lk p)(h:gn slip l ns [p]=0):Hand slip b3 l/\p.ok:=by
 obtain⟨al,_,bI⟩:=adI h;exact⟨aeL ad al,aeM ae.c5 (Rt bI p (by simp))⟩
def qs(slip:Int)(l:List aX)(ns:List Int)(p:a7):List Int:=if gn slip l ns [p]=0 then hy slip l p l.length else[]
def qt(slip:Int)(l:List aX)(n:Int)(p:a7):Int:=if gn slip l [n] [p]=0 then(if n∈hy slip l p l.length then(if(hy slip l p l.length).length=1 then 1 else 3)else 2)else 0
theorem adH(k:Nat){slip:Int}{b3:aa}{l:List aX}(h:iq b3 l){p:a7}(ae:lk p):dT (k+5) 15 [.agg [ax slip,b3],.agg p.cells] λv=>∃y,v=.bD [y,ax (gn slip l [] [p])]/\dI y (qs slip l [] p):=by
 refine gj (t:=t15) (by kernel_rfl) (fn:=Tryz.f15) (by kernel_rfl) (by simp[dd,flagsOf,h.plain,a7.cells,ae.c5.plain]) ?_;refine eU (by simp only[ag,aD,aM,aS.aP,aR.aP,cF,nth,cM,List.getD_cons_succ,List.getD_cons_zero,aX.cells,a7.cells];rfl) rfl ?_;refine eU (by simp only[ag,aD,aM,aS.aP,aR.aP,cF,nth,cM,List.getD_cons_succ,List.getD_cons_zero,aX.cells,a7.cells];rfl) rfl ?_;refine nN (Sz k (slip:=slip) (x:=.bC) (ns:=[]) (y:=.sl none 5 0 1 p.cells) (ps:=[p]) h EY (by simp) tb (by simpa using ae) (by simp)) rfl ?_;rintro v ⟨a,b,rfl,bL,cD⟩;refine pe (by simp only[ag,aD,aM,aS.aP,aR.aP,cF,nth,cM,List.getD_cons_succ,List.getD_cons_zero,aX.cells,a7.cells,ll];rfl) ?_;refine pe (by simp only[ag,aD,aM,aS.aP,aR.aP,cF,nth,cM,List.getD_cons_succ,List.getD_cons_zero,aX.cells,a7.cells,ll];rfl) ?_;refine eU (by simp only[ag,aD,aM,aS.aP,aR.aP,cF,nth,cM,List.getD_cons_succ,List.getD_cons_zero,aX.cells,a7.cells];rfl) rfl ?_;refine hJ rfl rfl ?_;refine cK rfl (λhe=>?_) (λhe=>?_)
 ·exact wp_ret (v:=.bD [.bC,ax (gn slip l [] [p])]) rfl rfl ⟨.bC,rfl,by unfold qs;rw[if_neg he];exact EY⟩
 replace he:=Decidable.not_not.1 he;obtain⟨rfl,rfl⟩:=bL he;obtain⟨e4,tK⟩:=Ek h ae he;refine dr (Sl (k+3) e4 tK) rfl ?_;have aH:=Qf (oe slip l p l.length);have xv:=aH.plain;exact wp_ret (v:=.bD [lS (oe slip l p l.length),ax 0]) rfl (by simp[xv]) ⟨_,by rw[he],by unfold qs;rw[if_pos he];exact aH⟩
end
section
open Go Go.RowKit
abbrev u8(n:Int):aa:=.int .u8 n
section
variable{C:b2->FuncId->List aa->Option aa}{n:Nat}{R:Out->Prop}{d:Nat}{st:List aa}{t:Tree}
end
def VU(n s:Nat):List Bool:=(List.range n).map λk=>s.testBit k
@[simp]theorem anF(n s:Nat):(VU n s).length=n:=by simp[VU]
def anl(slip:Int)(r:aX)(p:a7)(q2:List Bool):Bool:=decide (0<(EJ slip r p q2).length)
def ack(n s:Nat):Nat->Nat
 |0=>0
 |k+1=>if s.testBit k then ack n s k ||| 2^(n-1-k)else ack n s k
end
section
open Go Go.RowKit
def pR(s:Nat):Nat->List Int
 |0=>[]
 |i+1=>pR s i++if s.testBit i then[(i:Int)]else[]
def D1(s:Nat):List Int:=pR s 5
def G(s:Nat):aa:=m9 (D1 s)
theorem Hi(s:Nat):dI (G s) (D1 s):=rh _
theorem Tw(s:Nat):∀i,(pR s i).length<=i
 |0=>by simp[pR]
 |i+1=>by
  have:=Tw s i;simp only[pR];split<;>simp<;>omega
theorem Po(s:Nat):(D1 s).length<=5:=Tw s 5
def IK(x:aa)(ms:List Nat):Prop:=(x=.bC/\ms=[])\/∃off,x=.sl none 1 off ms.length (ms.map G)
theorem aaB:∀ms:List Nat,bG (ms.map G)=true
 |[]=>rfl
 |s::ms=>by simp[(Hi s).plain,aaB ms]
theorem IK.plain{x:aa}{l:List Nat}(h:IK x l):x.plain=true/\x.one=true:=by
 rcases h with⟨rfl,_⟩|⟨off,rfl⟩
 ·exact⟨rfl,rfl⟩
 ·exact⟨by simp only[aa.plain];exact aaB l,rfl⟩
theorem anm:∃e,Tryz.prog.underlying 64=some (.slice e):=by
 have h:(match Tryz.prog.underlying 64 with|some (.slice _)=>true|_=>false)=true:=by kernel_rfl
 split at h
 ·exact⟨_,by assumption⟩
 ·cases h
theorem IK.len{x:aa}{l:List Nat}(h:IK x l):ht Tryz.prog 64 x=some (ax l.length):=by
 obtain⟨e,he⟩:=anm;rcases h with⟨rfl,rfl⟩|⟨off,rfl⟩<;>simp[ht,he]
theorem Ur{x:aa}{l:List Nat}(h:IK x l){n:Nat}(aI:n<l.length):kp 1 x (ax n)=some (.agg [G (l.getD n 0)]):=by
 rcases h with⟨rfl,rfl⟩|⟨off,rfl⟩
 ·simp at aI
 ·have e:((l.map G).drop (n*1)).take 1=[G (l.getD n 0)]:=by
   rw[Nat.mul_one,List.drop_eq_getElem_cons (by simpa using aI)];simp[List.getD_eq_getElem?_getD,aI]
  simp only[kp,Int.toNat_natCast];rw[if_pos ⟨by omega,by omega,trivial,by rw[e];rfl⟩,e]
def Rw(l:List Nat):aa:=match l with
 |[]=>.bC
 |a::l=>.sl none 1 0 (l.length+1) ((a::l).map G)
theorem amZ(l:List Nat):IK (Rw l) l:=by
 cases l with
 |nil=>exact .inl ⟨rfl,rfl⟩
 |cons a l=>exact .inr ⟨0,rfl⟩
section
variable{C:b2->FuncId->List aa->Option aa}{n:Nat}{R:Out->Prop}{d:Nat}{st:List aa}{t:Tree}
theorem Qt{x:aS}{v:aa}{l:List Nat}(aj:x.aP d st=v)(h:IK v l)(k:b6 C n t (d+1) (ax l.length::st) R):b6 C n (.av (.len 64 x) t) d st R:=wp _ (by rw[←h.len,←aj];rfl) k
theorem ae8{c:aR}{y:aS}{l:List Nat}{s:Nat}(ah:c.aP d st=.agg (l.map G))(aF:y.aP d st=.sl none 1 0 1 [G s])(ak:l.length<1000000)(k:b6 C n t (d+1) (.agg ((l++[s]).map G)::st) R):b6 C n (.av (.push 1 24 c y) t) d st R:=wp _ (by
 simp[Prim.fZ,ah,aF];omega) k
theorem agu{c:aR}{l:List Nat}(ah:c.aP d st=.agg (l.map G))(k:b6 C n t (d+1) (Rw l::st) R):b6 C n (.av (.bK 1 .cZ c) t) d st R:=wp _ (by
 cases l with
 |nil=>simp[Prim.fZ,ah,iU,isNil,Rw]
 |cons a l=>simp[Prim.fZ,ah,iU,isNil,Rw]) k
end
def Ji(a b:Int):Int:=if a<b then -1 else if b<a then 1 else 0
def Jm:List Int->List Int->Int
 |[],[]=>0
 |[],_::_=>-1
 |_::_,[]=>1
 |a::l,b::m=>if Ji a b≠0 then Ji a b else Jm l m
def Rz(a b:List Int):Int:=if Ji a.length b.length≠0 then Ji a.length b.length else Jm a b
theorem ab8(k:Nat)(a:Int):dT (k+1) 150 [ax a] λv=>v=.bool false:=by
 refine gj (t:=t150) (by kernel_rfl) (fn:=Tryz.f150) (by kernel_rfl) rfl ?_;refine hJ rfl rfl ?_;refine wp_ret rfl rfl ?_;show aa.bool (decide (a≠a))=_;simp
theorem ab9(k:Nat)(a b:Int):dT (k+2) 112 [ax a,ax b] λv=>v=ax (Ji a b):=by
 refine gj (t:=t112) (by kernel_rfl) (fn:=Tryz.f112) (by kernel_rfl) rfl ?_;try refine eK (by(try simp only[List.length_cons,List.length_nil,Nat.reduceAdd,Nat.zero_add]);rfl) (by(try simp only[dz]);rfl) ?_
 refine dr (ab8 k a) rfl ?_;refine dr (ab8 k b) rfl ?_;refine qV rfl ?_;refine qV rfl ?_;refine hZ rfl rfl ?_;refine cK rfl (λh=>?_) (λh=>?_)
 ·refine wp_ret (v:=ax _) rfl rfl ?_;unfold Ji;rw[if_pos h]
 ·refine pf rfl rfl ?_;refine cK rfl (λab=>?_) (λab=>?_)
  ·refine wp_ret (v:=ax _) rfl rfl ?_;unfold Ji;rw[if_neg h,if_pos ab]
  ·refine wp_ret (v:=ax _) rfl rfl ?_;unfold Ji;rw[if_neg h,if_neg ab]
theorem drop_cons{l:List Int}{i:Nat}(h:i<l.length):l.drop i=l.getD i 0::l.drop (i+1):=by
 rw[List.drop_eq_getElem_cons h];simp[List.getD_eq_getElem?_getD,h]
theorem am6(k:Nat){x y:aa}{a b:List Int}(aj:dI x a)(aF:dI y b)(ak:a.length<4000)(bQ:b.length<4000):dT (k+3) 113 [x,y] λv=>v=ax (Jm a b):=by
 refine gj (t:=t113) (by kernel_rfl) (fn:=Tryz.f113) (by kernel_rfl) (by simp[dd,flagsOf,aj.plain,aF.plain]) ?_;try refine eK (by(try simp only[List.length_cons,List.length_nil,Nat.reduceAdd,Nat.zero_add]);rfl) (by(try simp only[dz]);rfl) ?_
 refine ib rfl aj ?_;refine ez (λaf=>af=[]/\a.length<=b.length/\Jm a b=Jm [] (b.drop a.length)) ?_ ?_
 ·refine wp_loop (λj af=>∃i:Nat,af=[ax i]/\i+j=a.length/\i<=b.length/\Jm a b=Jm (a.drop i) (b.drop i)) a.length (by omega) ⟨0,rfl,by omega,by omega,rfl⟩ ?_;rintro j af ⟨i,rfl,hi,vx,he⟩;refine hZ rfl rfl ?_;refine cK rfl (λh=>?_) (λh=>?_)
  ·have aU:i<a.length:=by omega
   refine uG rfl aj rfl aU ?_;refine ib rfl aF ?_;refine Jl rfl rfl ?_;refine cK rfl (λab=>?_) (λab=>?_)
   ·refine gK ?_;refine gK ?_;refine wp_ret (v:=ax _) rfl rfl ?_;rw[he,drop_cons aU,show b.drop i=[]from List.drop_eq_nil_of_le (by omega)];rfl
   ·have acn:i<b.length:=by omega
    refine uG rfl aF rfl acn ?_;refine dr (ab9 k _ _) rfl ?_;rw[drop_cons aU,drop_cons acn]at he;simp only[Jm]at he;refine hJ rfl rfl ?_;refine cK rfl (λal=>?_) (λal=>?_)
    ·rw[if_pos al]at he;refine gK ?_;refine gK ?_;refine wp_ret (v:=ax _) rfl rfl ?_;rw[he]
    ·rw[if_neg al]at he;refine ie rfl rfl (by omega) ?_;exact cw ⟨j-1,by omega,i+1,rfl,by omega,by omega,he⟩
  ·refine ia (by decide) ?_;have e:i=a.length:=by omega
   subst e;rw[List.drop_length]at he;exact cw ⟨rfl,vx,he⟩
 rintro af ⟨rfl,hle,he⟩;try refine eK (by(try simp only[List.length_cons,List.length_nil,Nat.reduceAdd,Nat.zero_add]);rfl) (by(try simp only[dz]);rfl) ?_
 refine ib rfl aj ?_;refine ib rfl aF ?_;refine hZ rfl rfl ?_;refine cK rfl (λh=>?_) (λh=>?_)
 ·refine wp_ret (v:=ax _) rfl rfl ?_;rw[he,drop_cons (show a.length<b.length by omega)];rfl
 ·refine wp_ret (v:=ax _) rfl rfl ?_;rw[he,List.drop_eq_nil_of_le (by omega)];rfl
theorem am8(k:Nat){x y:aa}{a b:List Int}(aj:dI x a)(aF:dI y b)(ak:a.length<4000)(bQ:b.length<4000):dT (k+4) 111 [x,y] λv=>v=ax (Rz a b):=by
 refine gj (t:=t111) (by kernel_rfl) (fn:=Tryz.f111) (by kernel_rfl) (by simp[dd,flagsOf,aj.plain,aF.plain]) ?_;try refine eK (by(try simp only[List.length_cons,List.length_nil,Nat.reduceAdd,Nat.zero_add]);rfl) (by(try simp only[dz]);rfl) ?_
 refine ib rfl aj ?_;refine ib rfl aF ?_;refine dr (ab9 (k+1) _ _) rfl ?_;refine hJ rfl rfl ?_;refine cK rfl (λh=>?_) (λh=>?_)
 ·refine wp_ret (v:=ax _) rfl rfl ?_;unfold Rz;rw[if_pos h]
 ·refine dr (am6 k aj aF ak bQ) rfl ?_;refine wp_ret (v:=ax _) rfl rfl ?_;unfold Rz;rw[if_neg h]
def acm:List Nat:=[0,1,2,4,8,16,3,5,9,17,6,10,18,12,20,24,7,11,19,13,21,25,14,22,26,28,15,23,27,29,30,31]
def Ce(s:Nat):Nat:=acm.idxOf s
theorem aim:∀a:Nat,a<32->∀b:Nat,b<32->decide (Rz (D1 a) (D1 b)<0)=decide (Ce a<Ce b):=of_decide_eq_true (by kernel_rfl)
def bM(n m:Nat):List Nat:=acm.filter λs=>decide (s<2^n)&&decide ((D1 s).length=m)
def allM(n:Nat):List Nat:=(List.range (n+1)).flatMap (bM n)
theorem ain:∀n:Nat,n<6->(∀s:Nat,s<2^n->s∈allM n)/\(∀s∈allM n,s<2^n)/\(allM n).Pairwise (λa b=>Ce a<Ce b):=of_decide_eq_true (by kernel_rfl)
theorem ag2:∀n:Nat,n<6->∀m:Nat,m<6->(bM n m).length<=10/\∀s∈bM n m,s<32/\(D1 s).length=m/\∀g∈D1 s,0<=g/\g<n:=of_decide_eq_true (by kernel_rfl)
def zH:List Nat->Nat
 |[]=>0
 |m::l=>l.foldl (λm x=>if Ce x<Ce m then x else m) m
theorem ae4{l:List Nat}(h:l≠[])(x:Nat):zH (l++[x])=if Ce x<Ce (zH l)then x else zH l:=by
 cases l with
 |nil=>exact absurd rfl h
 |cons a l=>
  show(l++[x]).foldl _ a=_;rw[List.foldl_append];rfl
theorem Qx:∀(l:List Nat)(m:Nat),(l.foldl (λm x=>if Ce x<Ce m then x else m) m∈m::l)/\∀x∈m::l,¬Ce x<Ce (l.foldl (λm x=>if Ce x<Ce m then x else m) m)
 |[],m=>⟨by simp,by simp⟩
 |a::l,m=>by
  simp only[List.foldl_cons];split
  ·rename_i h;obtain⟨U,ab⟩:=Qx l a;refine⟨List.mem_cons_of_mem _ U,λx aj=>?_⟩;rcases List.mem_cons.1 aj with rfl|aj
   ·have:=ab a (by simp);omega
   ·exact ab x aj
  ·rename_i h;obtain⟨U,ab⟩:=Qx l m;refine⟨?_,λx aj=>?_⟩
   ·rcases List.mem_cons.1 U with U|U
    ·rw[U];simp
    ·exact List.mem_cons_of_mem _ (List.mem_cons_of_mem _ U)
   ·rcases List.mem_cons.1 aj with rfl|aj
    ·exact ab x (by simp)
    ·rcases List.mem_cons.1 aj with rfl|aj
     ·have:=ab m (by simp);omega
     ·exact ab x (List.mem_cons_of_mem _ aj)
theorem ae7{n:Nat}(aI:n<6)(A:Nat->Bool):(allM n).find? A=if(List.range (2^n)).filter A=[]then none else some (zH ((List.range (2^n)).filter A)):=by
 obtain⟨k1,bf,bP⟩:=ain n aI;split
 ·rename_i h;refine List.find?_eq_none.2 λs ao aW=>?_;have:s∈(List.range (2^n)).filter A:=List.mem_filter.2 ⟨List.mem_range.2 (bf s ao),aW⟩;rw[h]at this;simp at this
 ·rename_i h;have hm:zH ((List.range (2^n)).filter A)∈(List.range (2^n)).filter A/\∀x∈(List.range (2^n)).filter A,¬Ce x<Ce (zH ((List.range (2^n)).filter A)):=by
   generalize(List.range (2^n)).filter A=L at h;cases L with
   |nil=>exact absurd rfl h
   |cons a l=>exact Qx l a
  generalize zH ((List.range (2^n)).filter A)=m at hm;obtain⟨U,ab⟩:=hm;obtain⟨al,aJ⟩:=List.mem_filter.1 U;have bm:=k1 m (List.mem_range.1 al);cases aQ:(allM n).find? A with
  |none=>exact absurd aJ (List.find?_eq_none.1 aQ m bm)
  |some s=>
   obtain⟨ao,xs,bs,bL,fu⟩:=List.find?_eq_some_iff_append.1 aQ;congr 1;have anz:s∈allM n:=by rw[bL];simp
   have mH:s∈(List.range (2^n)).filter A:=List.mem_filter.2 ⟨List.mem_range.2 (bf s anz),ao⟩;rw[bL]at bm;rcases List.mem_append.1 bm with bI|bI
   ·have:=fu m bI;rw[aJ]at this;cases this
   ·rcases List.mem_cons.1 bI with bI|bI
    ·exact bI.symm
    ·rw[bL]at bP;have:=(List.pairwise_cons.1 (List.pairwise_append.1 bP).2.1).1 m bI;exact absurd this (ab s mH)
end
section
open Go Go.RowKit
theorem takeN{l:List Nat}{i:Nat}(h:i<l.length):l.take (i+1)=l.take i++[l.getD i 0]:=by
 rw[List.take_add_one];simp[List.getD_eq_getElem?_getD,h]
theorem SF{l:List Nat}{i:Nat}(h:i<l.length):l.getD i 0∈l:=by simp[List.getD_eq_getElem?_getD,h]
theorem am9(k:Nat){x:aa}{ms:List Nat}(aj:IK x ms)(aT:0<ms.length)(ak:ms.length<=32)(ao:∀s∈ms,s<32):dT (k+5) 110 [x,.fn 111 []] λv=>v=G (zH ms):=by
 refine gj (t:=t110) (by kernel_rfl) (fn:=Tryz.f110) (by kernel_rfl) (by simp[dd,flagsOf,aj.plain]) ?_;have lR:∀i,i<=ms.length->∀s∈ms.take i,s<32:=λi _ s hm=>ao s (List.mem_of_mem_take hm);try refine eK (by(try simp only[List.length_cons,List.length_nil,Nat.reduceAdd,Nat.zero_add]);rfl) (by(try simp only[dz]);rfl) ?_
 refine Qt rfl aj ?_;refine hZ rfl rfl ?_;refine ez (λaf=>af=[]) ?_ ?_
 ·refine pW rfl (by omega) ?_;exact cw rfl
 rintro af rfl;try refine eK (by(try simp only[List.length_cons,List.length_nil,Nat.reduceAdd,Nat.zero_add]);rfl) (by(try simp only[dz]);rfl) ?_
 refine wp _ (Ur aj (n:=0) aT) ?_;refine ez (λaf=>af=[G (zH ms)]) ?_ ?_
 ·refine wp_loop (λj af=>∃i:Nat,af=[G (zH (ms.take (i+1))),ax ((i+1:Nat):Int)]/\i+1+j=ms.length) (ms.length-1) (by omega) ⟨0,by rw[takeN aT];rfl,by omega⟩ ?_;rintro j af ⟨i,rfl,hi⟩;try refine eK (by(try simp only[List.length_cons,List.length_nil,Nat.reduceAdd,Nat.zero_add]);rfl) (by(try simp only[dz]);rfl) ?_
  refine Qt rfl aj ?_;refine hZ rfl rfl ?_;refine cK rfl (λh=>?_) (λh=>?_)
  ·have aU:i+1<ms.length:=by omega
   have du:=Ur aj aU;have au:=ao _ (SF aU);have Tx:zH (ms.take (i+1+1))=if Ce (ms.getD (i+1) 0)<Ce (zH (ms.take (i+1)))then ms.getD (i+1) 0 else zH (ms.take (i+1)):=by rw[takeN aU,ae4 (by intro h;have:=congrArg List.length h;rw[List.length_take,List.length_nil]at this;omega)]
   have hm:zH (ms.take (i+1))<32:=by
    have bU:ms.take (i+1)≠[]:=by intro h;have:=congrArg List.length h;rw[List.length_take,List.length_nil]at this;omega
    have lh:=lR (i+1) (by omega);generalize ms.take (i+1)=L at bU lh;cases L with
    |nil=>exact absurd rfl bU
    |cons a l=>exact lh _ (Qx l a).1
   generalize zH (ms.take (i+1))=m at Tx hm;generalize ms.getD (i+1) 0=a at du au Tx;refine wp _ du ?_;refine XL (g:=111) (caps:=[]) rfl (am8 k (Hi a) (Hi m) (by have:=Po a;omega) (by have:=Po m;omega)) rfl ?_;refine hZ rfl rfl ?_;rw[aim a au m hm];refine ez (λaf=>af=[G (zH (ms.take (i+1+1)))]) ?_ ?_
   ·rw[Tx];refine cK rfl (λal=>?_) (λal=>?_)
    ·rw[if_pos al];refine wp _ du ?_;exact cw rfl
    ·rw[if_neg al];exact cw rfl
   rintro af rfl;refine ie rfl rfl (by omega) ?_;exact cw ⟨j-1,by omega,i+1,rfl,by omega⟩
  ·refine ia (by decide) ?_;have e:ms.take (i+1)=ms:=List.take_of_length_le (by omega);rw[e];exact cw rfl
 rintro af rfl;exact wp_ret rfl (Hi _).plain.1 rfl
def Qz(ms:List Nat):aa:=if ms=[]then .bD [.bC,.bool false]else .bD [G (zH ms),.bool true]
theorem ang(k:Nat){x:aa}{ms:List Nat}(aj:IK x ms)(ak:ms.length<=32)(ao:∀s∈ms,s<32):dT (k+6) 72 [x] λv=>v=Qz ms:=by
 refine gj (t:=t72) (by kernel_rfl) (fn:=Tryz.f72) (by kernel_rfl) (by simp[dd,flagsOf,aj.plain]) ?_;try refine eK (by(try simp only[List.length_cons,List.length_nil,Nat.reduceAdd,Nat.zero_add]);rfl) (by(try simp only[dz]);rfl) ?_
 refine Qt rfl aj ?_;refine sM rfl rfl ?_;refine cK rfl (λh=>?_) (λh=>?_)
 ·refine wp_ret (v:=.bD [.bC,.bool false]) rfl rfl ?_;rw[Qz,if_pos (List.length_eq_zero_iff.1 (by omega))]
 ·refine dr (am9 k aj (by omega) ak ao) rfl ?_;refine wp_ret (v:=.bD [G (zH ms),.bool true]) rfl (by simp[(Hi _).plain]) ?_;rw[Qz,if_neg (λe=>h (by rw[e];rfl))]
def SG:Option Nat->aa
 |some s=>.bD [G s,ax 0]
 |none=>.bD [.bC,ax 11]
def anyS(slip:Int)(r:aX)(p:a7)(s:Nat):Bool:=anl slip r p (VU p.g.length s)
theorem aeI(A:Nat->Bool)(s:Nat):(List.range (s+1)).filter A=(List.range s).filter A++if A s then[s]else[]:=by
 rw[List.range_succ,List.filter_append];congr 1;by_cases h:A s=true
 ·simp[h]
 ·simp[h]
theorem Y8(f:Nat->List Nat)(m:Nat):∀d,∃X,(List.range (m+1+d)).flatMap f=(List.range m).flatMap f++(f m++X)
 |0=>⟨[],by simp[List.range_succ]⟩
 |d+1=>by
  obtain⟨X,fz⟩:=Y8 f m d;refine⟨X++f (m+1+d),?_⟩;rw[show m+1+(d+1)=m+1+d+1 by omega,List.range_succ,List.flatMap_append,fz];simp
theorem Tr{L:List Nat}{A:Nat->Bool}(h:∀t∈L,A t=false):L.find? A=none:=List.find?_eq_none.2 λt a1 aW=>by rw[h t a1]at aW;cases aW
theorem agx{n m i:Nat}{A:Nat->Bool}(hm:m<=n)(U:∀t∈(List.range m).flatMap (bM n),A t=false)(hi:i<(bM n m).length)(ab:∀t∈(bM n m).take i,A t=false)(aW:A ((bM n m).getD i 0)=true):(allM n).find? A=some ((bM n m).getD i 0):=by
 obtain⟨X,fz⟩:=Y8 (bM n) m (n-m);unfold allM;rw[show n+1=m+1+(n-m)by omega,fz,List.find?_append,Tr U,Option.none_or,List.find?_append];have e:bM n m=(bM n m).take i++(bM n m).getD i 0::(bM n m).drop (i+1):=by
  have al:=List.take_append_drop i (bM n m);rw[List.drop_eq_getElem_cons hi]at al;rw[←al];simp[List.getD_eq_getElem?_getD,hi]
 have aO:(bM n m).find? A=some ((bM n m).getD i 0):=by
  generalize(bM n m).getD i 0=s at aW e;rw[e,List.find?_append,Tr ab,Option.none_or,List.find?_cons_of_pos aW]
 rw[aO];rfl
end
end Go.Proofs.YtlminnpaeaganaaGreat
