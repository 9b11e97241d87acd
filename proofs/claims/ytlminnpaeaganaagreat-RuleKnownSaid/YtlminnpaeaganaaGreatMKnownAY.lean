/- Part of the proof of RuleKnown. No condition. -/
import Derived.Test.YtlminnpaeaganaaGreatProg
import Derived.Conc.LeavingOf
import Derived.Shelf.Sort.AssemblyIn
import Derived.Shelf.Slices.In.SortNone
import Derived.Shelf.Slices.In.CompactI
import Derived.Ground.NamesProg
import Derived.Ground.Names2Prog
import Derived.Test.YtlminnpaeaganaaGreatChecked
import Derived.Test.YtlminnpaeaganaaGreatRows
import Derived.Test.YtlminnpaeaganaaGreatMKnownAH
import Derived.Test.YtlminnpaeaganaaGreatMKnownAM
import Derived.Test.YtlminnpaeaganaaGreatMKnownAX
namespace Go.Proofs.YtlminnpaeaganaaGreat
set_option maxRecDepth 100000
set_option linter.all false
section
open Go Go.RowKit
variable[cQ]
def JL(r:aa):Prop:=wY r=true
def wH(r:aa):Prop:=r=.bC\/∃off len cs,r=.sl none 1 off len cs/\cs.length=len/\∀c∈cs,∃n,c=.int .i64 n
def pn(l:List aa):Prop:=∃r x,l=[r,.int .u64 x]/\JL r
theorem Ap{r:aa}:JL r↔wH r:=by
 unfold JL wH wY;constructor
 ·intro h;split at h
  ·grind
  ·rename_i off len cs;simp  at h;refine .inr ⟨off,len,cs,rfl,h.1,λc ah=>?_⟩;have:=h.2 c ah;unfold zh at this;grind
  ·cases h
 ·rintro(rfl|⟨off,len,cs,rfl,U,ab⟩)
  ·rfl
  ·simp ;refine⟨U,λc ah=>?_⟩;obtain⟨n,rfl⟩:=ab c ah;rfl
theorem G4{r:aa}(h:wH r):r.plain=true/\r.one=true:=by
 rcases h with rfl|⟨off,len,cs,rfl,_,ah⟩
 ·trivial
 ·refine⟨?_,rfl⟩;refine(hH cs).2 λq aH=>?_;obtain⟨n,rfl⟩:=ah q aH;trivial
section
variable{P:Program}{ops:Array Oper}{o:Oper}{rest:List Oper}{s:aA}{K:aA->Prop}
def Pj(o:Oper):Bool:=match o.op with
 |.buildSlice _ _ _=>false
 |_=>true
theorem eT(v:aa)(aN:o.guard=none)(hb:Pj o=true)(ai:bV P s.m s.ay o=some v)(h:h1 P ops rest (s.put o.dst v) K):h1 P ops (o::rest) s K:=by
 simp only[h1,ld,aN];refine⟨s,dW.refl s,H5 (m0:=s.m) ⟨Nat.le_refl _,λ_ _=>rfl⟩ ai (λt l p e=>?_) h⟩;grind [Pj]
theorem HD{t:TypeId}{x y:Operand}{CG:TypeId}{a7:String}{Gw:Array Edge}{id off:Nat}{v:aa}{l:List aa}(aj:s.ay x=.ptr id off)(ai:s.ay y=v)(cr:id<s.m.n)(aX:(P.info? t).isSome)(ah:P.cellsOf t=1)(U:v.one=true)(iu:v.cells=[v])(fW:s.m.β id=.cells l)(ak:off+1<=l.length)
  (h:h1 P ops rest (s.hq id (fa l off [v])) K):h1 P ops (⟨none,.store t x y,CG,a7,Gw,none⟩::rest) s K:=by
 refine⟨s,dW.refl s,?_⟩;show _=none/\uK P s t (s.ay x) (s.ay y) _;grind [uK]
theorem ab4{t:TypeId}{x:Operand}{d:Option Tmp}{CG:TypeId}{a7:String}{Gw:Array Edge}{l:List aa}(aq:(s.ay x).known=true)(ak:(s.ay x).cells=l)
  (h:h1 P ops rest (s.gu d l) K):h1 P ops (⟨d,.box t x,CG,a7,Gw,none⟩::rest) s K:=by
 refine⟨s,dW.refl s,?_⟩;show(s.ay x).known=true/\h1 P ops rest (s.gu d (s.ay x).cells) K;grind
theorem jm(v:aa)(m0:Mem)(T:l0)(aN:o.guard=none)(hb:hX o=true)(ai:bV P m0 s.ay o=some v)(h:kO P m0 T ops rest (s.put o.dst v) K):kO P m0 T ops (o::rest) s K:=by grind [kO,ld,mY,hX]
end
section
theorem F3(i:Nat):pd Tryz.prog 85 (.ptr i 0) 0=some (.ptr i 0):=by kernel_rfl
theorem xH(i:Nat):pd Tryz.prog 85 (.ptr i 0) 1=some (.ptr i 1):=by kernel_rfl
theorem aif:ik Tryz.prog 22=some false:=by kernel_rfl
theorem aih:ik Tryz.prog 83=some false:=by kernel_rfl
theorem aii:Tryz.prog.cellsOf 22=1:=by kernel_rfl
theorem Un:Tryz.prog.cellsOf 83=1:=by kernel_rfl
theorem Lf:Tryz.prog.cellsOf 3=1:=by kernel_rfl
theorem aij:(Tryz.prog.info? 22).isSome=true:=by kernel_rfl
theorem Uo:(Tryz.prog.info? 83).isSome=true:=by kernel_rfl
theorem Lg:(Tryz.prog.info? 3).isSome=true:=by kernel_rfl
theorem Cc:Tryz.prog.underlying 22=some (.slice 3):=by kernel_rfl
theorem aik:Tryz.prog.underlying 83=some (.int .u64):=by kernel_rfl
theorem ail:Tryz.prog.underlying 3=some (.int .i64):=by kernel_rfl
variable{i:Nat}{m:Mem}{r:aa}{x:Int}
theorem Lh(hm:i<m.n):h0 Tryz.prog { m with β:=ea m.β i (.cells [r,.int .u64 x]) } 22 (.ptr i 0)=some r:=by simp[h0,nW,hm,aif]
theorem Cd(hm:i<m.n):h0 Tryz.prog { m with β:=ea m.β i (.cells [r,.int .u64 x]) } 83 (.ptr i 1)=some (.int .u64 x):=by simp[h0,nW,hm,aih]
theorem gen{P:Program}{c:Code}{s:aA}{Q:eJ->aA->Prop}(F:aA->Prop)(aw:F s)(h:∀s',F s'->ff P c s' Q):ff P c s Q:=h s aw
theorem aav{P:Program}{c:Code}{s:aA}{Q:eJ->aA->Prop}(F:aA->Prop)(h:ff P c s λe s'=>e=.normal/\F s')(gI:∀s',F s'->Q .normal s'):ff P c s Q:=oZ h λe s' ⟨he,ao⟩=>by grind
theorem wrap_u64(n:Int):0<=IntKind.u64.wrap n/\IntKind.u64.wrap n<18446744073709551616:=by grind [IntKind.wrap,IntKind.bits,IntKind.signed]
theorem Aq(β:Nat->di)(i:Nat)(c d:di):ea (ea β i c) i d=ea β i d:=by grind [ea]
theorem ab5(aX:i<m.n)(ad:wH r):gL Tryz.prog 62 [.ptr i 0] { m with β:=ea m.β i (.cells [r,.int .u64 x]) } λv E m'=>(∃n,v=.int .u64 n/\0<=n/\n<4294967296)/\E=[]/\∃bR bk,wH bR/\m'={ m with β:=ea m.β i (.cells [bR,.int .u64 bk]) }:=by
 refine GQ (fn:=Tryz.f62) (by kernel_rfl) rfl (Nat.le_of_ble_eq_true rfl) (by kernel_rfl) (by kernel_rfl) ?_;have ae:(entry [.ptr i 0] { m with β:=ea m.β i (.cells [r,.int .u64 x]) }).g 0=.ptr i 0:=rfl;have hm:(entry [.ptr i 0] { m with β:=ea m.β i (.cells [r,.int .u64 x]) }).m={ m with β:=ea m.β i (.cells [r,.int .u64 x]) }:=rfl;have he:(entry [.ptr i 0] { m with β:=ea m.β i (.cells [r,.int .u64 x]) }).bb=[]:=rfl;generalize entry [.ptr i 0] { m with β:=ea m.β i (.cells [r,.int .u64 x]) }=s at ae hm he;refine o6 (qL ?_);refine eT (.int .u64 0) rfl rfl (by simp[bV,aA.ay,jT]) ?_;refine o6 (qL ?_);refine eT (.int .u64 0) rfl rfl (by simp[bV,aA.ay,jT]) ?_;refine o6 (o6 (qL ?_));refine eT (.ptr i 0) rfl rfl (by simp[bV,aA.ay,ae]) ?_;refine eT (.ptr i 0) rfl rfl (by simp[bV,aA.ay,ae]) ?_;refine eT (.ptr i 0) rfl rfl (by simp[bV,aA.ay,F3]) ?_;refine eT r rfl rfl (by simp[bV,aA.ay,hm,Lh aX]) ?_;have hlen:∃len:Nat,ht Tryz.prog 22 r=some (.int .i64 len)/\(0<len->∃off cs,r=.sl none 1 off len cs/\cs.length=len/\∀c∈cs,∃n,c=.int .i64 n):=by
  rcases ad with rfl|⟨off,len,cs,rfl,U,ab⟩
  ·exact⟨0,by simp[ht,Cc],λh=>absurd h (by omega)⟩
  ·exact⟨len,by simp[ht,Cc],λ_=>⟨off,cs,rfl,U,ab⟩⟩
 obtain⟨len,hlen,hB⟩:=hlen;refine eT (.int .i64 len) rfl rfl (by simp[bV,aA.ay,hlen]) ?_;refine eT (.bool (decide (0<(len:Int)))) rfl rfl (by simp[bV,aA.ay,jT,eB]) ?_;refine gen (λs'=>s'.g 0=.ptr i 0/\s'.m={ m with β:=ea m.β i (.cells [r,.int .u64 x]) }/\s'.bb=[]/\s'.g 3=.int .u64 0/\s'.g 10=.bool (decide (0<(len:Int)))) (by simp[ae,hm,he]) ?_;clear ae hm he s;rintro s ⟨ae,hm,he,al,h7⟩;refine aav (λs'=>∃bR ua,wH bR/\s'.g 0=.ptr i 0/\s'.g 3=.int .u64 ua/\s'.m={ m with β:=ea m.β i (.cells [bR,.int .u64 x]) }/\s'.bb=[]) ?_ ?_
 ·refine AA (decide (0<(len:Int))) (by simp[aA.ay,h7]) ?_;by_cases aU:0<len
  ·rw[if_pos (by simp;omega)];obtain⟨off,cs,rfl,iu,hcs⟩:=hB aU;cases cs with
   |nil=>simp at iu;omega
   |cons c cs=>
    obtain⟨n,rfl⟩:=hcs c (by simp);refine o6 (qL ?_);refine eT (.ptr i 0) rfl rfl (by simp[bV,aA.ay,ae]) ?_;refine eT (.ptr i 0) rfl rfl (by simp[bV,aA.ay]) ?_;refine eT (.ptr i 0) rfl rfl (by simp[bV,aA.ay,F3]) ?_;refine eT (.sl none 1 off len (.int .i64 n::cs)) rfl rfl (by simp[bV,aA.ay,hm,Lh aX]) ?_;refine eT (.bJ none off (.int .i64 n::cs)) rfl rfl (by simp[bV,aA.ay,jT,pT,Cc,Lf,Lg,aU]) ?_;refine eT (.int .i64 n) rfl rfl (by simp[bV,aA.ay,h0,nW,show ik Tryz.prog 3=some false by kernel_rfl]) ?_;refine eT (.int .u64 (IntKind.u64.wrap n)) rfl rfl (by simp[bV,aA.ay,q5,aik,ail]) ?_;refine eT (.int .u64 (IntKind.u64.wrap n)) rfl rfl (by simp[bV,aA.ay]) ?_;refine gen (λs'=>s'.g 0=.ptr i 0/\s'.m={ m with β:=ea m.β i (.cells [.sl none 1 off len (.int .i64 n::cs),.int .u64 x]) }/\s'.bb=[]/\s'.g 3=.int .u64 (IntKind.u64.wrap n)) (by simp[ae,hm,he]) ?_;clear ae hm he al h7 s;rintro s ⟨ae,hm,he,al⟩;have af3:∃bR,p1 Tryz.prog 22 (.sl none 1 off len (.int .i64 n::cs)) (some (.int .i64 1)) none=some bR/\wH bR:=by
     by_cases U:1=len
     ·refine⟨.sl none 1 0 0 [],by simp[p1,Cc,rm,Lf,Lg,←U],.inr ⟨0,0,[],rfl,rfl,by simp⟩⟩
     ·refine⟨.sl none 1 (off+1) (len-1) cs,?_,.inr ⟨off+1,len-1,cs,rfl,by simp at iu;omega,λc ah=>hcs c (by simp[ah])⟩⟩;have:cs.take (len-1)=cs:=List.take_of_length_le (by simp at iu;omega);simp[p1,Cc,rm,Lf,Lg,U,this];omega
    obtain⟨bR,vz,nq⟩:=af3;refine qL ?_;refine eT (.ptr i 0) rfl rfl (by simp[bV,aA.ay,ae]) ?_;refine eT (.ptr i 0) rfl rfl (by simp[bV,aA.ay,ae]) ?_;refine eT (.ptr i 0) rfl rfl (by simp[bV,aA.ay]) ?_;refine eT (.ptr i 0) rfl rfl (by simp[bV,aA.ay,F3]) ?_;refine eT (.sl none 1 off len (.int .i64 n::cs)) rfl rfl (by simp[bV,aA.ay,hm,Lh aX]) ?_;refine eT bR rfl rfl (by simp[bV,aA.ay,jT,vz]) ?_;refine eT (.ptr i 0) rfl rfl (by simp[bV,aA.ay]) ?_;refine eT (.ptr i 0) rfl rfl (by simp[bV,aA.ay,F3]) ?_;refine HD (id:=i) (off:=0) (v:=bR) (l:=[.sl none 1 off len (.int .i64 n::cs),.int .u64 x]) (by simp[aA.ay]) (by simp[aA.ay]) (by simp[hm,aX]) aij aii (G4 nq).2 (by rcases nq with rfl|⟨_,_,_,rfl,_⟩<;>rfl) (by simp[hm]) (by simp) ?_;exact⟨rfl,bR,_,nq,by simp[ae],by simp[al];rfl,by simp[hm,fa,Aq],by simp[he]⟩
  ·rw[if_neg (by simp;omega)];exact OY ⟨rfl,r,0,ad,ae,al,hm,he⟩
 rintro s ⟨bR,ua,ir,ae,al,hm,he⟩;refine o6 (qL ?_);refine eT (.ptr i 0) rfl rfl (by simp[bV,aA.ay,ae]) ?_;refine eT (.ptr i 0) rfl rfl (by simp[bV,aA.ay,ae]) ?_;refine eT (.ptr i 0) rfl rfl (by simp[bV,aA.ay]) ?_;refine eT (.ptr i 1) rfl rfl (by simp[bV,aA.ay,xH]) ?_;refine eT (.int .u64 x) rfl rfl (by simp[bV,aA.ay,hm,Cd aX]) ?_;refine eT (.int .u64 ua) rfl rfl (by simp[bV,aA.ay,al]) ?_;refine eT (.int .u64 (IntKind.u64.wrap (x+ua))) rfl rfl (by simp[bV,aA.ay,eB]) ?_;refine eT (.int .u64 (IntKind.u64.wrap (IntKind.u64.wrap (x+ua)+6364136223846793005))) rfl rfl (by simp[bV,aA.ay,jT,eB]) ?_;generalize IntKind.u64.wrap (IntKind.u64.wrap (x+ua)+6364136223846793005)=mK;refine eT (.int .u64 (IntKind.u64.wrap (mK*15074714826142052245))) rfl rfl (by simp[bV,aA.ay,jT,eB]) ?_;generalize IntKind.u64.wrap (mK*15074714826142052245)=jh;refine eT (.ptr i 0) rfl rfl (by simp[bV,aA.ay]) ?_;refine eT (.ptr i 1) rfl rfl (by simp[bV,aA.ay,xH]) ?_;refine HD (id:=i) (off:=1) (v:=.int .u64 jh) (l:=[bR,.int .u64 x]) (by simp[aA.ay]) (by simp[aA.ay]) (by simp[hm,aX]) Uo Un rfl rfl (by simp[hm]) (by simp) ?_;refine gen (λs'=>s'.g 0=.ptr i 0/\s'.m={ m with β:=ea m.β i (.cells [bR,.int .u64 jh]) }/\s'.bb=[]) (by simp[ae,hm,he,fa,Aq]) ?_;clear ae hm he al s;rintro s ⟨ae,hm,he⟩;refine o6 (H9 (by kernel_rfl) 11 (by kernel_rfl) (λ_ _ _ _ _=>False) ?_);refine jm (.ptr i 0) _ _ rfl rfl (by simp[bV,aA.ay,ae]) ?_;refine jm (.ptr i 0) _ _ rfl rfl (by simp[bV,aA.ay,ae]) ?_;refine jm (.ptr i 0) _ _ rfl rfl (by simp[bV,aA.ay]) ?_;refine jm (.ptr i 1) _ _ rfl rfl (by simp[bV,aA.ay,xH]) ?_;refine jm (.int .u64 jh) _ _ rfl rfl (by simp[bV,aA.ay,hm,Cd aX]) ?_;refine jm (.ptr i 0) _ _ rfl rfl (by simp[bV,aA.ay,ae]) ?_;refine jm (.ptr i 0) _ _ rfl rfl (by simp[bV,aA.ay]) ?_;refine jm (.ptr i 1) _ _ rfl rfl (by simp[bV,aA.ay,xH]) ?_;refine jm (.int .u64 jh) _ _ rfl rfl (by simp[bV,aA.ay,hm,Cd aX]) ?_;refine jm (.int .u64 (jh.fdiv (2^29))) _ _ rfl rfl (by simp[bV,aA.ay,jT,eB,IntKind.bits]) ?_;generalize jh.fdiv (2^29)=vK;refine jm (.int .u64 (bits .xor .u64 jh vK)) _ _ rfl rfl (by simp[bV,aA.ay,eB]) ?_;generalize bits .xor .u64 jh vK=mP;refine eT (.ptr i 0) rfl rfl (by simp[bV,aA.ay]) ?_;refine eT (.ptr i 1) rfl rfl (by simp[bV,aA.ay,xH]) ?_;refine HD (id:=i) (off:=1) (v:=.int .u64 mP) (l:=[bR,.int .u64 jh]) (by simp[aA.ay]) (by simp[aA.ay]) (by simp[hm,aX]) Uo Un rfl rfl (by simp[hm]) (by simp) ?_;refine gen (λs'=>s'.g 0=.ptr i 0/\s'.m={ m with β:=ea m.β i (.cells [bR,.int .u64 mP]) }/\s'.bb=[]) (by simp[ae,hm,he,fa,Aq]) ?_;clear ae hm he s;rintro s ⟨ae,hm,he⟩;refine o6 (H9 (by kernel_rfl) 11 (by kernel_rfl) (λ_ _ _ _ _=>False) ?_);refine jm (.ptr i 0) _ _ rfl rfl (by simp[bV,aA.ay,ae]) ?_;refine jm (.ptr i 0) _ _ rfl rfl (by simp[bV,aA.ay]) ?_;refine jm (.ptr i 1) _ _ rfl rfl (by simp[bV,aA.ay,xH]) ?_;refine jm (.int .u64 mP) _ _ rfl rfl (by simp[bV,aA.ay,hm,Cd aX]) ?_;refine jm (.ptr i 0) _ _ rfl rfl (by simp[bV,aA.ay,ae]) ?_;refine jm (.ptr i 0) _ _ rfl rfl (by simp[bV,aA.ay]) ?_;refine jm (.ptr i 1) _ _ rfl rfl (by simp[bV,aA.ay,xH]) ?_;refine jm (.int .u64 mP) _ _ rfl rfl (by simp[bV,aA.ay,hm,Cd aX]) ?_;refine jm (.int .u64 (mP.fdiv (2^33))) _ _ rfl rfl (by simp[bV,aA.ay,jT,eB,IntKind.bits]) ?_;generalize mP.fdiv (2^33)=Vf;refine jm (.int .u64 (bits .xor .u64 mP Vf)) _ _ rfl rfl (by simp[bV,aA.ay,eB]) ?_;generalize bits .xor .u64 mP Vf=LU;refine jm (.int .u64 (IntKind.u64.wrap (LU*18397679294719823053))) _ _ rfl rfl (by simp[bV,aA.ay,jT,eB]) ?_;have hb:=wrap_u64 (LU*18397679294719823053);generalize IntKind.u64.wrap (LU*18397679294719823053)=vJ at hb;refine eT (.int .u64 vJ) rfl rfl (by simp[bV,aA.ay]) ?_;refine gen (λs'=>s'.g 4=.int .u64 vJ/\s'.m={ m with β:=ea m.β i (.cells [bR,.int .u64 mP]) }/\s'.bb=[]) (by simp[hm,he]) ?_;clear ae hm he s;rintro s ⟨ae,hm,he⟩;refine o6 (qL ?_);refine eT (.int .u64 vJ) rfl rfl (by simp[bV,aA.ay,ae]) ?_;refine eT (.int .u64 (vJ.fdiv (2^32))) rfl rfl (by simp[bV,aA.ay,jT,eB,IntKind.bits]) ?_;refine eT (.int .u64 (vJ.fdiv (2^32))) rfl rfl (by simp[bV,aA.ay]) ?_;refine Iz ⟨.inr rfl,.int .u64 (vJ.fdiv (2^32)),?_,_,_,.inl ⟨rfl,rfl⟩,⟨_,rfl,?_,?_⟩,by simp[he],bR,mP,ir,by simp[hm]⟩
 ·show pt _ _ [.tmp 2]=_;simp[pt,q9,uQ]
 ·rw[Int.fdiv_eq_ediv_of_nonneg _ (by decide)];omega
 ·rw[Int.fdiv_eq_ediv_of_nonneg _ (by decide)];omega
theorem MB{φ:bo}{m:Mem}{w:World}{j:Nat}{l:List aa}{DI:List aa->Prop}(h:c0 φ m w)(aC:m.β j=.cells l)(dQ:DI l)(ae:bG l=true):c0 φ { m with β:=ea m.β j (.inv DI) } w:=by
 refine⟨λk aq=>?_,h.dt,h.arr,h.jo,h.hp,h.sep,h.gw⟩;by_cases e:k=j
 ·subst e;obtain⟨b,cs,e,U,ab,al⟩:=h.cells aq (by grind);rw[aC]at al;exact .inr ⟨b,cs,e,U,ab,by simp ;exact⟨l,dQ,λe=>pS e l ae,λn=>ox n l ae,al⟩⟩
 ·simp only[qK _ _ _ _ e];exact h.box k aq
theorem Wh{φ:bo}{m:Mem}{w:World}{j:Nat}{DI:List aa->Prop}(h:c0 φ m w)(aC:j<m.n)(hb:m.β j=.inv DI):∃l,DI l/\c0 φ { m with β:=ea m.β j (.cells l) } w:=by
 obtain⟨b,cs,e,U,ab,al⟩:=h.cells aC (by grind);rw[hb]at al;obtain⟨l,dQ,_,_,aJ⟩:=al;refine⟨l,dQ,λk aq=>?_,h.dt,h.arr,h.jo,h.hp,h.sep,h.gw⟩;by_cases e':k=j
 ·subst e';exact .inr ⟨b,cs,e,U,ab,by simp ;exact aJ⟩
 ·simp only[qK _ _ _ _ e'];exact h.box k aq
theorem ab6(β:Nat->di)(i:Nat)(c:di)(h:β i=c):ea β i c=β:=by grind [ea]
def nU:b2->FuncId->List aa->Option aa:=λω g args=>if g=62 then match args with
 |[.ptr 0 0]=>some (.int .u64 ((ω []%4294967296:Nat):Int))
 |_=>none
 else none
theorem Hh{ω:b2}{g:FuncId}{args:List aa}{v:aa}(h:nU ω g args=some v):g=62/\args=[.ptr 0 0]/\v=.int .u64 ((ω []%4294967296:Nat):Int):=by grind [nU]
theorem yi:jq Tryz.prog pn nU:=by
 refine⟨λg args ao args' m au=>?_,λω g args v h=>?_,λω g args v h=>?_⟩
 ·obtain⟨v0,aT⟩:=Option.isSome_iff_exists.1 (ao gP);obtain⟨rfl,rfl,_⟩:=Hh aT;obtain⟨q,aG,rfl,U,ab⟩:=au;subst ab;rcases U with⟨rfl,ae⟩|⟨_,i,rfl,aX,hb⟩
  ·trivial
  ·intro φ af w hm ai;obtain⟨l,⟨r,x,rfl,ad⟩,xu⟩:=Wh hm aX hb;refine(ab5 aX (Ap.1 ad) φ af w xu ai).mono ?_;rintro e w' ⟨v,pv,E,m',bn,rfl,eW,eX,eo,⟨n,rfl,Li,Up⟩,rfl,bR,bk,ir,rfl⟩;have cD:=G4 ir;have kU:=MB (DI:=pn) (j:=i) (l:=[bR,.int .u64 bk]) eX (by simp) ⟨bR,bk,rfl,Ap.2 ir⟩ (by simp only[bG,cD.1,cD.2];rfl);simp only[Aq]at kU;rw[ab6 _ _ _ hb]at kU;refine⟨v,_,[],m,bn,rfl,eW,kU,eo,⟨λ_=>n.toNat,?_⟩,rfl,rfl,rfl⟩;grind [nU]
 ·obtain⟨_,_,rfl⟩:=Hh h;rfl
 ·obtain⟨rfl,_,_⟩:=Hh h;trivial
theorem adF(x:aa)(h:x.known=true)(ah:x.cells=[x]):sI Tryz.prog 85 [(0,x),(1,.int .u64 1)]=some (.agg [x,.int .u64 1]):=by
 have bO:ki Tryz.prog 85=some [.bC,.int .u64 0]:=by kernel_rfl
 obtain⟨fs,hu,au,aT,U⟩:∃fs:Array Field,Tryz.prog.underlying 85=some (.struct fs)/\fs.toList.all (λf=>(Tryz.prog.info? f.type).isSome)=true/\ya Tryz.prog fs 0=some (0,1)/\ya Tryz.prog fs 1=some (1,1):=
  ⟨(match Tryz.prog.underlying 85 with|some (.struct fs)=>fs|_=>#[]),by kernel_rfl,by kernel_rfl,by kernel_rfl,by kernel_rfl⟩
 simp only[sI,hu,bO,au,if_true];have aK:(aa.int .u64 1).cells=[.int .u64 1]:=rfl;have aO:(aa.int .u64 1).known=true:=rfl;grind [kJ,fa]
theorem ab7:Qs Tryz.prog pn 11:=by
 intro x m aj;have hc:=G4 (Ap.1 aj);have ah:x.cells=[x]:=by rcases Ap.1 aj with rfl|⟨_,_,_,rfl,_⟩<;>rfl
 have aq:x.known=true:=by rcases Ap.1 aj with rfl|⟨_,_,_,rfl,_⟩<;>rfl
 have key:gL Tryz.prog 11 [x] m λv E m'=>v=.ptr m.n 0/\E=[]/\m'=⟨ea m.β m.n (.cells [x,.int .u64 1]),m.n+1,m.an,m.rc⟩:=by
  refine GQ (fn:=Tryz.f11) (by kernel_rfl) rfl (Nat.le_of_ble_eq_true rfl) (by kernel_rfl) (by kernel_rfl) ?_;have ae:(entry [x] m).g 0=x:=rfl;have hm:(entry [x] m).m=m:=rfl;have he:(entry [x] m).bb=[]:=rfl;refine o6 (qL ?_);refine eT .ca rfl rfl (by rfl) ?_;refine o6 (qL ?_);refine eT x rfl rfl (by simp[bV,aA.ay,ae]) ?_;refine eT (.agg [x,.int .u64 1]) rfl rfl (by simp_all[bV,aA.ay,jT,adF]) ?_;refine ab4 (l:=[x,.int .u64 1]) (by rfl) (by rfl) ?_;refine eT (.ptr m.n 0) rfl rfl (by simp[bV,aA.ay,hm]) ?_;refine Iz ⟨.inr rfl,.ptr m.n 0,?_,_,_,.inl ⟨rfl,rfl⟩,rfl,by simp[he],?_⟩;all_goals simp_all[pt,q9,uQ]
 intro φ af w hm ai;refine(key φ af w hm ai).mono ?_;rintro e w' ⟨v,pv,E,m',bn,rfl,eW,eX,eo,rfl,rfl,rfl⟩;have kU:=MB (DI:=pn) (j:=m.n) (l:=[x,.int .u64 1]) eX (by simp) ⟨x,1,rfl,aj⟩ (by simp only[bG,hc.1,hc.2];rfl);grind [Aq]
end
end
section
open Go Go.Conc Go.RowKit
structure adG(args:List aa)(l:List Nat)(ah eg:List aa)(cy:aa)(n:Nat)(bit:Nat->Bool):Prop where
 a:args=[.agg ah,.agg eg]
 d1:hv ah=true
 d2:hv eg=true
 gr:bG ah=true
 p2:bG eg=true
 q:ah[1]?=some cy
 r:Ke cy n
 U4:n<=4
 b:∀i,i<n->∀ω,PP.E cl 9 ω 103 [.ca,.bJ none 0 ah,.bJ none 0 [.int .i64 (i:Int)],.bJ none 0 eg,.ca]=some (.bD [.bool (bit i),.int .i64 (i:Int)])
 l:l=rN n bit
def yX(args:List aa)(l:List Nat):Prop:=∃ah eg cy n bit,adG args l ah eg cy n bit
open Classical in
noncomputable def pj(ω:b2)(g:FuncId)(args:List aa):Option aa:=
 if g=58 then(if h:∃l,yX args l then some (lS h.choose)else none)else nU ω g args
theorem Ns(l:List Nat):(lS l).plain=true:=by
 unfold lS;split
 ·rfl
 ·simp only[aa.plain];generalize l=l;induction l with
  |nil=>rfl
  |cons a l az=>simp_all[bG,aa.plain,aa.one]
section
variable[cQ]
theorem Y0{φ:bo}{m:Mem}{w:World}{l:List Nat}(hm:c0 φ m w){τ:Tape}{d:Nat}{v:Value}{w1:World}(h:JI l (a8 w τ d) v w1):aY φ w1 (lS l) v/\c0 φ m w1/\Step φ w φ w1 []:=by
 have sd:=hm.a8 τ d;rcases h with⟨rfl,rfl,rfl⟩|⟨bU,c,e,f,cap,U,rfl,rfl,ab⟩
 ·exact⟨rfl,sd,sD φ w τ d⟩
 ·have aN:jQ (a8 w τ d) { a8 w τ d with heap:=(a8 w τ d).heap.push (.cells c e f) }:=⟨rfl,rfl,by simp,λb hb=>by
   show((a8 w τ d).heap.push _)[b]?=_;rw[Array.getElem?_push_lt hb];exact(Array.getElem?_eq_getElem hb).symm⟩
  have k1:=yg aN sd (λ_ _ h=>h) (λ_ _ h=>h) (λb h=>.inl h);have k2:=N1 sd aN k1;refine⟨?_,k2,(sD φ w τ d).trans (x9 aN k1)⟩;cases l with
  |nil=>exact absurd rfl bU
  |cons i0 fY=>
   refine⟨by simp,_,cap,rfl,U,.inr ⟨_,rfl,⟨?_,?_⟩,sA λj p aC=>?_⟩⟩
   ·rintro(⟨i,h⟩|⟨i,h⟩)
    ·exact Nat.lt_irrefl _ (mo sd h)
    ·exact Nat.lt_irrefl _ (jN sd h)
   ·show _<((a8 w τ d).heap.push _).size;simp
   ·rw[List.getElem?_map]at aC;obtain⟨i,aX,rfl⟩:=Option.map_eq_some_iff.1 aC;refine⟨Value.int .i64 ((i:Nat):Int),?_,rfl⟩;have du:((a8 w τ d).heap.push (.cells c e f))[(a8 w τ d).heap.size]?=some (.cells c e f):=by simp
    have aeG:({ a8 w τ d with heap:=(a8 w τ d).heap.push (.cells c e f) }:World).heap[(a8 w τ d).heap.size]?=some (.cells c e f):=du;simp only[World.cell?,aeG,Nat.zero_add];simpa using ab j i aX
end
theorem XH:@jq my Tryz.prog pn pj:=by
 letI:=my
 refine⟨λg args ao args' m au=>?_,λω g args v h=>?_,λω g args v h=>?_⟩
 ·by_cases aN:g=58
  ·subst aN;have aT:=ao gP;unfold pj at aT;rw[if_pos rfl]at aT;have hex:∃l,yX args l:=by
    by_cases h:∃l,yX args l
    ·exact h
    ·rw[dif_neg h]at aT;cases aT
   have ah:=hex.choose_spec;obtain⟨ah,eg,cy,n,bit,aw⟩:=ah;have zi:∀ω,pj ω 58 args=some (lS hex.choose):=λω=>by unfold pj;rw[if_pos rfl,dif_pos hex]
   generalize hex.choose=l at aw zi;intro φ af w hm ai;have kR:args'=args:=by
    rw[aw.a]at au⊢;obtain⟨q,aG,rfl,U,dM,ei,rfl,ab,al⟩:=au;have al:ei=[]:=al;subst al;rcases U with⟨rfl,_⟩|⟨h,_⟩
    ·rcases ab with⟨rfl,_⟩|⟨h,_⟩
     ·rfl
     ·cases h
    ·cases h
   subst kR;have gm:=ai;rw[aw.a]at gm;refine WR (Post:=λv w1=>∃τ d,JI l (a8 w τ d) v w1) (λτ d=>⟨rfl,?_,φ,ah,eg,cy,n,bit,?_,aw.d1,aw.d2,aw.gr,aw.p2,aw.q,aw.r,aw.U4,λi aX=>YZ aw.gr aw.p2 (aw.b i aX),λv w1 h=>⟨τ,d,aw.l▸h⟩⟩) λv w' ⟨τ,d,ad⟩=>?_
   ·obtain⟨_,_,rfl,_,_,_,rfl,_,h⟩:=gm;have h:_=[]:=h;subst h;rfl
   ·exact bl.keeps (DS φ w τ d) _ _ (by simpa using gm)
   ·obtain⟨U,ab,al⟩:=Y0 hm ad;exact⟨v,lS l,[],m,φ,rfl,U,ab,al,⟨gP,zi gP⟩,Ns l,rfl,rfl⟩
  ·have e:∀ω,pj ω g args=nU ω g args:=λω=>by unfold pj;rw[if_neg aN]
   refine(yi.zG g args (λω=>e ω▸ao ω) args' m au).mono λpv E m' ⟨⟨ω,h⟩,ab⟩=>⟨⟨ω,(e ω).trans h⟩,ab⟩
 ·unfold pj at h;split at h
  ·split at h
   ·cases h;exact Ns _
   ·cases h
  ·exact yi.plain ω g args v h
 ·unfold pj at h;split at h
  ·rename_i aN;subst aN;exact⟨_,Tryz.func58,by decide,rfl⟩
  ·exact yi.fn ω g args v h
end
section
open Go Go.RowKit Go.WideShapes Go.ChangeShapes Go.Conc
section
variable{H:Type}{enc:TypeId×Value->H}
theorem Wk:∀f a w nE,@cQ.spec my f a w nE->nO Tryz.prog f/\a.size=arity Tryz.prog f:=by
 intro f a w nE h;have aQ:f=58:=h.1;have au:a.size=2:=h.2.1;subst aQ;exact⟨Hj (by kernel_rfl),au.trans (by kernel_rfl)⟩
def apN(f:FuncId):Bool:=!ag0.contains f&&f != 87
theorem apP:(ag0++[87]).all (λg=>match Tryz.prog.funcs[g]? with
  |some fn=>(match fn.body with
   |some c=>Ii (if g=87 then[87]else ag0) c&&iC g&&!(fn.name == "runtime.NumGoroutine")
   |none=>false)
  |none=>false)=true:=by kernel_rfl
theorem apQ{f:FuncId}(aQ:apN f=true):∀g L,apO g L->IL Tryz.prog iC L f g:=by
 have key:∀g L,g∈ag0++[87]->L=(if g=87 then[87]else ag0)->∃fn c,Tryz.prog.funcs[g]?=some fn/\fn.body=some c/\(fn.name == "runtime.NumGoroutine")=false/\Ii L c=true/\codeOk Tryz.prog iC c=true:=λg L aN dg=>by
  have h:=List.all_eq_true.1 apP g aN;subst dg;cases U:Tryz.prog.funcs[g]? with
  |none=>rw[U]at h;cases h
  |some fn=>
   rw[U]at h;dsimp only at h;cases ab:fn.body with
   |none=>rw[ab]at h;cases h
   |some c=>
    rw[ab]at h;simp only[Bool.and_eq_true,Bool.not_eq_true']at h;obtain⟨apS,_,c2,k1,_,k2,_,_,_,bP⟩:=adr.fns g h.1.2;rw[U]at k1;cases k1;rw[ab]at k2;cases k2;exact⟨fn,c,rfl,ab,h.2,h.1.1,bP⟩
 simp only[apN,Bool.and_eq_true,Bool.not_eq_true',bne_iff_ne,ne_eq]at aQ;have apR:∀g∈ag0,g≠87:=by decide
 rintro g L (⟨rfl,rfl⟩|⟨rfl,rfl⟩)
 ·exact⟨by decide,λh=>(by rw[List.contains_iff_mem.2 h]at aQ;cases aQ.1),λg aN=>key g _ (by simp[aN]) (by rw[if_neg (apR g aN)])⟩
 ·exact⟨by simp,λh=>aQ.2 (by simpa using h),λg aN=>by
   have:g=87:=by simpa using aN
   subst this;exact key 87 _ (by simp) rfl⟩
theorem aaL{f:FuncId}{fn:Func}{s:ChangeSpec}{k:Nat}{bt:TypeId}{apart fresh handsOn again:Bool}(ak:laidOutB Tryz.prog=true)(ai:s.vars=[])(F8:fn.resultTypes=#[bt])(F9:Tryz.prog.underlying bt=some .bool)(aq:fn.params.toList.all (sN Tryz.prog k)=true)(mE:∀t∈fn.params.toList,Tryz.prog.readableRec t=true/\t<Tryz.prog.types.size)
  (ao:∀ds:List (DataW H),ds.length=fn.params.size->s.fn H (ds++[])={ results:=[.lit (.bool true)],args:=ds }) (aw:iC f=true) (c1:Tryz.prog.inits.idxOf? f=none) (acn:apN f=true)
  (e4:∀bz,qu Tryz.prog k fn.params.toList bz->∀m,@gL my Tryz.prog f bz m λv E m'=>v=.bool true/\E=[]/\m'=m)
  {W:World} {base:Nat} {args:Array Value} {ds gs:List (DataW H)} {before:List MemPlace} (vL:Tryz.prog.globals.size<=W.heap.size) (zi:∀(j:Nat) t v,fn.params[j]?=some t->args[j]?=some v->Value.okWide Tryz.prog W .any base t v)
  (hW:DataW.Whole enc Tryz.prog fn.params.toList s.vars apart W args.toList ds gs before):
  ∃M last o w' bw,runNT Tryz.prog (M+1) (solo (G (Frame.enter Tryz.prog f args .normal) []) W) #[]=(.ended o w',bw)/\runN Tryz.prog M (solo (G (Frame.enter Tryz.prog f args .normal) []) W)=.next last /\
    step Tryz.prog last=.ended o w'/\Conc.Good Tryz.prog (λv W'=>s.post enc Tryz.prog fn apart fresh handsOn again W.blind args v W'.blind) last o w' bw:=by
 letI:=my
 have UA:=hW;obtain⟨p,q,aW,ew,rfl,ag5,amd⟩:=hW;rw[ai]at ew;obtain⟨rfl,rfl⟩:=trodVars_none ew;obtain⟨V,k1,k2,_,_,_,_,_,bP,_⟩:=Nr (bH Tryz.prog iC) (rows W) W vL λb hb=>hb;obtain⟨uX,bz,U,ab⟩:=On (C:=bH Tryz.prog iC) (M:=rows W) (λ_=>rfl) (λb c e f h=>⟨c,e,f,h⟩) k2 bP (k:=k) aW (λj t v a1 ai=>zi j t v (by simpa using a1) (by simpa using ai)) aq;have hlen:ds.length=fn.params.size:=by
  have:∀{fl:List TypeId}{af:List Value}{ds:List (DataW H)}{a7:List MemPlace},DataW.TrodAll enc Tryz.prog W 0 (λ_=>true) true fl af ds a7->ds.length=fl.length:=by
   intro fl;induction fl with
   |nil=>intro af ds a7 h;cases af<;>cases ds<;>simp_all[DataW.TrodAll]
   |cons t fl az=>intro af ds a7 h;cases af<;>cases ds<;>simp only[DataW.TrodAll]at h;obtain⟨p,q,_,ab,_⟩:=h;simp[az ab]
  simpa using this aW
 have ah:=(Mk (R:=λv=>v=.bool true) (f:=f) (λm=>e4 bz ab m) U).mono (R':=λe w'=>e=.returned (.bool true)) λe w' ⟨v,pv,bn,he,ad,ae,_⟩=>by
  subst ae;have ad:v=.bool true:=ad;rw[he,ad]
 refine XN (R:=λe w'=>e=.returned (.bool true)) (p:=Tryz.prog) (p':=Tryz.prog) (F:=iC) aet adr vL (ab2 adE) aw c1 Wk (apQ acn) (λv bg k3 bF σ cn fp _ vy=>?_) k1 (bE.As uX) (by simpa using ah);injection cn with aiD;subst aiD;cases fp
 have fM:=ao ds hlen;have hb:Below W.heap.size W (a8 bF W.tape bF.drawn):=⟨vy.os,rfl,vy.out,vy.size,vy.blk⟩;refine ChangeSpec.post_blind (W':=a8 bF W.tape bF.drawn) (VW (pa:=p) (pv:=[]) UA (λb sp aV=>?_) (λsp agz=>?_) (λsp _=>?_) rfl hb (ok_one F8 rfl (okWide_bool_mk F9 true)))
 ·rw[F8,fM];exact trodAll_mk1 (shut_bool F9 true)
 ·rw[fM];exact Mn ak hb aW mE (λx aj=>UA.lt x (by simpa using aj)) (λx aj=>agz x (by simpa using aj))
 ·rw[ai,fM];rfl
end
end
section
open Go Go.RowKit
open Go.Shelf
def oY:Go.Shelf.Ren:=⟨fun|189=>86|191=>86|125=>120|257=>119|128=>161|129=>162|294=>152|295=>153|296=>154|297=>155|298=>156|299=>157|216=>158|300=>159|301=>160|328=>170|329=>171|330=>172|331=>173|332=>174|215=>150|343=>175|n=>n,fun|28=>22|3=>3|46=>101|0=>0|51=>149|53=>83|4=>4|183=>181|182=>180|131=>185|5=>5|9=>9|218=>195|222=>198|228=>200|229=>114|n=>n,fun|n=>n⟩
theorem HX:Go.Proofs.Lays.n189 Tryz.prog oY:={
 mixed:=by kernel_rfl
 f125:=Tryz.func120.trans (congrArg some (by kernel_rfl))
 f128:=Tryz.func161.trans (congrArg some (by kernel_rfl))
 f129:=Tryz.func162.trans (congrArg some (by kernel_rfl))
 f189:=Tryz.func86.trans (congrArg some (by kernel_rfl))
 f215:=Tryz.func150.trans (congrArg some (by kernel_rfl))
 f216:=Tryz.func158.trans (congrArg some (by kernel_rfl))
 f257:=Tryz.func119.trans (congrArg some (by kernel_rfl))
 f294:=Tryz.func152.trans (congrArg some (by kernel_rfl))
 f295:=Tryz.func153.trans (congrArg some (by kernel_rfl))
 f296:=Tryz.func154.trans (congrArg some (by kernel_rfl))
 f297:=Tryz.func155.trans (congrArg some (by kernel_rfl))
 f298:=Tryz.func156.trans (congrArg some (by kernel_rfl))
 f299:=Tryz.func157.trans (congrArg some (by kernel_rfl))
 f300:=Tryz.func159.trans (congrArg some (by kernel_rfl))
 f301:=Tryz.func160.trans (congrArg some (by kernel_rfl))
 f328:=Tryz.func170.trans (congrArg some (by kernel_rfl))
 f329:=Tryz.func171.trans (congrArg some (by kernel_rfl))
 f330:=Tryz.func172.trans (congrArg some (by kernel_rfl))
 f331:=Tryz.func173.trans (congrArg some (by kernel_rfl))
 f332:=Tryz.func174.trans (congrArg some (by kernel_rfl))
 f343:=Tryz.func175.trans (congrArg some (by kernel_rfl))
 t0:=Tryz.underlying0
 a0:=Tryz.isAgg0
 z0:=Tryz.sizeOf0
 v0:=Tryz.zeroValue0
 t3:=Tryz.underlying3
 a3:=Tryz.isAgg3
 z3:=Tryz.sizeOf3
 v3:=Tryz.zeroValue3
 t4:=Tryz.underlying4
 a4:=Tryz.isAgg4
 z4:=Tryz.sizeOf4
 v4:=Tryz.zeroValue4
 t5:=Tryz.underlying5
 a5:=Tryz.isAgg5
 z5:=Tryz.sizeOf5
 v5:=Tryz.zeroValue5
 t9:=Tryz.underlying9
 a9:=Tryz.isAgg9
 z9:=Tryz.sizeOf9
 v9:=Tryz.zeroValue9
 t28:=Tryz.underlying22
 a28:=Tryz.isAgg22
 z28:=Tryz.sizeOf22
 v28:=Tryz.zeroValue22
 t46:=Tryz.underlying101
 a46:=Tryz.isAgg101
 z46:=Tryz.sizeOf101
 v46:=Tryz.zeroValue101
 t51:=Tryz.underlying149
 a51:=Tryz.isAgg149
 z51:=Tryz.sizeOf149
 v51:=Tryz.zeroValue149
 t53:=Tryz.underlying83
 a53:=Tryz.isAgg83
 z53:=Tryz.sizeOf83
 v53:=Tryz.zeroValue83
 t131:=Tryz.underlying185
 a131:=Tryz.isAgg185
 z131:=Tryz.sizeOf185
 v131:=Tryz.zeroValue185
 t182:=Tryz.underlying180
 a182:=Tryz.isAgg180
 z182:=Tryz.sizeOf180
 v182:=Tryz.zeroValue180
 t183:=Tryz.underlying181
 a183:=Tryz.isAgg181
 z183:=Tryz.sizeOf181
 v183:=Tryz.zeroValue181
 t218:=Tryz.underlying195
 a218:=Tryz.isAgg195
 z218:=Tryz.sizeOf195
 v218:=Tryz.zeroValue195
 t222:=Tryz.underlying198
 a222:=Tryz.isAgg198
 z222:=Tryz.sizeOf198
 v222:=Tryz.zeroValue198
 t228:=Tryz.underlying200
 a228:=Tryz.isAgg200
 z228:=Tryz.sizeOf200
 v228:=Tryz.zeroValue200
 t229:=Tryz.underlying114
 a229:=Tryz.isAgg114
 z229:=Tryz.sizeOf114
 v229:=Tryz.zeroValue114 }
def N2:Go.Shelf.Ren:=⟨fun|20=>87|n=>n,fun|22=>22|3=>3|4=>4|0=>0|n=>n,fun|n=>n⟩
theorem Fg:Go.Proofs.Lays2.n20 Tryz.prog N2:={
 mixed:=by kernel_rfl
 f20:=Tryz.func87.trans (congrArg some (by kernel_rfl))
 t0:=Tryz.underlying0
 a0:=Tryz.isAgg0
 z0:=Tryz.sizeOf0
 v0:=Tryz.zeroValue0
 t3:=Tryz.underlying3
 a3:=Tryz.isAgg3
 z3:=Tryz.sizeOf3
 v3:=Tryz.zeroValue3
 t4:=Tryz.underlying4
 a4:=Tryz.isAgg4
 z4:=Tryz.sizeOf4
 v4:=Tryz.zeroValue4
 t22:=Tryz.underlying22
 a22:=Tryz.isAgg22
 z22:=Tryz.sizeOf22
 v22:=Tryz.zeroValue22
 i3:=by kernel_rfl }
open Go.Sort
theorem Il{cs:List aa}(h:cs.all zh=true):cs=(cs.map UT).map (aa.int .i64):=by
 induction cs with
 |nil=>rfl
 |cons c cs az=>
  simp only[List.all_cons,Bool.and_eq_true]at h;simp only[List.map_cons];rw[←az h.2];congr 1;cases c with
  |int k n=>cases k<;>first|rfl|simp[zh]at h
  |_=>simp[zh]at h
section
variable{P:Program}{φ:bo}{w w':World}{m:Mem}{id b:Nat}{cur:Array Value}{e:TypeId}
theorem DN(φ:bo)(w:World):∀sn:List Int,bl φ w (sn.map (aa.int .i64)) (sn.map (Value.int .i64))
 |[]=>by simp only[List.map_nil,bl]
 |z::sn=>⟨_,_,rfl,rfl,DN φ w sn⟩
theorem N4(sn:List Int)(hle:sn.length<=cur.size):(cur.toList.take (0+0)++sn.map (Value.int .i64)++cur.toList.drop (0+0+(sn.map (Value.int .i64)).length)).toArray=putCells (Value.int .i64) 0 sn.toArray cur:=by
 apply Array.ext
 ·simp[putCells];omega
 ·intro i U ab;simp only[putCells,Nat.zero_le,true_and,Nat.zero_add,Nat.sub_zero,Array.getElem_mapIdx,List.size_toArray,List.take_zero,List.nil_append,List.length_map,List.getElem_toArray];by_cases aX:i<sn.length
  ·rw[if_pos aX,List.getElem_append_left (by simpa using aX)];simp[aX]
  ·rw[if_neg aX,List.getElem_append_right (by simpa using aX)];simp only[List.length_map,List.getElem_drop,Array.getElem_toList];congr 1;omega
theorem N5[cQ](P:Program)(hm:c0 φ m w)(au:φ.arr id=some b)(hb:w.heap[b]?=some (.cells cur e (0,0)))(sn:List Int)(hle:sn.length<=cur.size)
  (U:∀c,c<w.heap.size->c≠b->w'.heap[c]?=w.heap[c]?) (ab:w'.heap[b]?=some (.cells (putCells (Value.int .i64) 0 sn.toArray cur) e (0,0))) (ao:w.heap.size<=w'.heap.size)
  (ar:w'.os=w.os) (hu:w'.output=w.output):
  c0 φ { m with β:=λi=>(m.β i).sub (nd id 0 (sn.map (aa.int .i64))) } w'/\Step φ w φ w' (nd id 0 (sn.map (aa.int .i64))):=by
 have Ff:∀i,φ.arr i=some b->i=id:=λi h=>hm.hp i id b h au;have lR:(sn.map (aa.int .i64)).all aa.one=true:=by rw[List.all_eq_true];intro p ae;obtain⟨z,_,rfl⟩:=List.mem_map.1 ae;rfl
 obtain⟨w1,g1,g2,g3,g4,⟨m2,g5,g6⟩,g7,g8,g9⟩:=P1 (P:=P) (off:=0) au Ff (sn.map (aa.int .i64)) (sn.map (Value.int .i64)) 0 w cur (DN φ w sn) lR (λp ae=>by obtain⟨z,_,rfl⟩:=List.mem_map.1 ae;rfl) hb (by simpa using hle);have bh:=run_storeCells_at P b 0 e (sn.map (Value.int .i64)) 0 cur w hb (by simpa using hle) (λv ai=>by obtain⟨z,_,rfl⟩:=List.mem_map.1 ai;rfl);rw[g1]at bh;injection bh with _ bh;have Xk:=jK hb;have fg:w1.heap[b]?=w'.heap[b]?:=by rw[bh,setRow_heap w b cur _ e _ hb,ab,N4 sn hle]
 have Ju:∀c,c<w.heap.size->w'.heap[c]?=w1.heap[c]?:=λc ah=>by
  by_cases tn:c=b
  ·rw[tn,fg]
  ·rw[U c ah tn,g3 c tn]
 have aq:kk φ w1 φ w':=⟨λ_ _ h=>h,λ_ _ h=>h,λ_ _ h=>h,by omega,λi c ah=>Ju c (jN hm ah),λc ah _=>Ju c (by omega)⟩;have vk:∀q c,aY φ w q c->aY φ w' (q.sub (nd id 0 (sn.map (aa.int .i64)))) c:=λq c h=>aY.keeps aq _ _ (g2 q c h);refine⟨⟨λi aX=>?_,hm.dt,λi c ah=>?_,hm.jo,hm.hp,hm.sep,λl o h=>(U l (jK (hm.gw l o h)) (λe=>by have:=hm.gw l o h;rw[e,hb]at this;cases this)).trans (hm.gw l o h)⟩,⟨vk,ar,hu,ao,λc aU fu _=>⟨U c aU (λe=>fu (.inr ⟨id,by rw[e];exact au⟩)),fu⟩⟩⟩
 ·rcases hm.box i aX with⟨cy,dM⟩|⟨c,m2,e',gv,tm,ir⟩
  ·exact .inl ⟨H2 _ _ cy,dM⟩
  exact .inr ⟨c,m2,e',gv,(U c (mo hm gv) (λe=>hm.sep i id c gv (by rw[e];exact au))).trans tm,Iy vk ir⟩
 ·obtain⟨cy,dM⟩:=hm.arr i c ah;by_cases tn:c=b
  ·rw[tn];exact⟨cy,kz.cells ab⟩
  ·exact⟨cy,dM.of_eq (U c (jN hm ah) tn)⟩
theorem Pq[cQ](hm:c0 φ m w)(au:φ.arr id=some b)(hb:w.heap[b]?=some (.cells cur e (0,0))){Tv:Array Value}
  (U:∀c,c<w.heap.size->c≠b->w'.heap[c]?=w.heap[c]?) (ab:w'.heap[b]?=some (.cells Tv e (0,0))) (ao:w.heap.size<=w'.heap.size)
  (ar:w'.os=w.os) (hu:w'.output=w.output):
  c0 (φ.drop id) { m with β:=λi=>(m.β i).sub [.kill id] } w'/\Step φ w (φ.drop id) w' [.kill id]/\¬(φ.drop id).own b:=by
 have fu:¬(φ.drop id).own b:=by
  rintro(⟨j,aC⟩|⟨j,aC⟩)
  ·exact hm.sep j id b aC au
  ·simp only[bo.drop]at aC;split at aC
   ·cases aC
   ·rename_i bU;exact bU (hm.hp j id b aC au)
 have bU:∀i c,i≠id->φ.arr i=some c->c≠b:=λi c aX ah e=>aX (hm.hp i id b (by rw[←e];exact ah) au);have aq:sB id φ w (φ.drop id) w':=by refine⟨λ_ _ h=>h,λi c aX h=>by simp[bo.drop,aX,h],λc ah aI k=>aI (AJ k),ao,λi c aX ah=>U c (jN hm ah) (bU i c aX ah),λc ah aI=>U c ah (λe=>aI (.inr ⟨id,by rw[e];exact au⟩))⟩
 have vk:∀q c,aY φ w q c->aY (φ.drop id) w' (q.sub [.kill id]) c:=λq c h=>aY.kill aq q c h;refine⟨⟨λi aX=>?_,hm.dt,λi c ah=>?_,hm.jo,λi j c cy dM=>?_,λi j c cy dM=>?_,λl o h=>(U l (jK (hm.gw l o h)) (λe=>by have:=hm.gw l o h;rw[e,hb]at this;cases this)).trans (hm.gw l o h)⟩,⟨vk,ar,hu,ao,λc aU aI _=>⟨aq.rest c aU aI,aq.rG c aU aI⟩⟩,fu⟩
 ·rcases hm.box i aX with⟨cy,dM⟩|⟨c,m2,e',gv,tm,ir⟩
  ·exact .inl ⟨H2 _ _ cy,dM⟩
  exact .inr ⟨c,m2,e',gv,(U c (mo hm gv) (λe=>hm.sep i id c gv (by rw[e];exact au))).trans tm,Iy vk ir⟩
 ·simp only[bo.drop]at ah;split at ah
  ·cases ah
  ·rename_i aX;obtain⟨cy,dM⟩:=hm.arr i c ah;exact⟨cy,dM.of_eq (U c (jN hm ah) (bU i c aX ah))⟩
 ·simp only[bo.drop]at cy dM;split at cy<;>first|(cases cy;done)|skip
  split at dM<;>first|(cases dM;done)|skip
  exact hm.hp i j c cy dM
 ·simp only[bo.drop]at dM;split at dM<;>first|(cases dM;done)|skip
  exact hm.sep i j c cy dM
end
theorem Dr{w:World}{b:Nat}{cur:Array Value}{e:TypeId}(hb:w.heap[b]?=some (.cells cur e (0,0)))(sn:List Int)(n:Nat):
  (putRow (Value.int .i64) (Go.Sort.ahead w n) b 0 sn.toArray).heap[b]?=some (.cells (putCells (Value.int .i64) 0 sn.toArray cur) e (0,0))/\(putRow (Value.int .i64) (Go.Sort.ahead w n) b 0 sn.toArray).heap.size=w.heap.size /\
   (∀c,c≠b->(putRow (Value.int .i64) (Go.Sort.ahead w n) b 0 sn.toArray).heap[c]?=w.heap[c]?):=by
 refine⟨?_,by simp[putRow,mapBlock,Go.Sort.ahead],λc ah=>?_⟩
 ·simp[putRow,mapBlock,Go.Sort.ahead,Array.getElem?_modify,hb,onCells]
 ·simp[putRow,mapBlock,Go.Sort.ahead,Array.getElem?_modify,Ne.symm ah]
theorem N6{w:World}{os:Array Obj}:(∀c,c<w.heap.size->(grow w os).heap[c]?=w.heap[c]?)/\w.heap.size<=(grow w os).heap.size:=by
 refine⟨λc ah=>?_,by simp[grow]⟩;simp only[grow];rw[Array.getElem?_append_left ah]
theorem holds_of{φ:bo}{w:World}{b:Nat}{cur:Array Value}{e:TypeId}{sn:List Int}(hb:w.heap[b]?=some (.cells cur e (0,0)))(dA:b7 φ w b (sn.map (aa.int .i64)) 0):Holds (Value.int .i64) w b 0 sn.toArray:=by
 intro j aC;have jB:j<sn.length:=by simpa using aC
 obtain⟨c,ah,ai⟩:=r5.1 dA j (.int .i64 sn[j]) (by simp[jB]);refine⟨?_,by simp[World.frozen?,hb]⟩;rw[ah];have:c=.int .i64 sn[j]:=ai;rw[this];simp[jB]
theorem Kh[cQ]{φ:bo}{w:World}{b:Nat}{l:List aa}{τ:Tape}{d:Nat}(h:b7 φ w b l 0):b7 φ (a8 w τ d) b l 0:=by
 rw[r5]at h⊢;intro j p ae;obtain⟨c,ah,ai⟩:=h j p ae;exact⟨c,ah,aY.keeps (DS φ w τ d) _ _ ai⟩
theorem JA{D:Option Nat}{n:Nat}{P:Program}{f:FuncId}{args:Array Value}{w:World}{R:Ending->World->Prop}(h:CallsIn (Fence.list [oY.f 189,oY.f 191,oY.f 257,oY.f 125,oY.f 294,oY.f 295,oY.f 296,oY.f 297,oY.f 298,oY.f 299,oY.f 216,oY.f 300,oY.f 301,oY.f 129,oY.f 328,oY.f 329,oY.f 330,oY.f 331,oY.f 332,oY.f 215,oY.f 343] D) n P f args w R):CallsIn (Fence.list ag0 D) n P f args w R:=
 h.wider (by decide)
theorem BS{F:Fence}{n:Nat}{P:Program}{f:FuncId}{args:Array Value}{w:World}{R R':Ending->World->Prop}(h:CallsIn F n P f args w R)(ad:∀e w',R e w'->R' e w'):CallsIn F n P f args w R':=
 ⟨h.1,λcs ah=>let⟨e,w',fr,r,s⟩:=h.2 cs ah;⟨e,w',fr,ad _ _ r,s⟩⟩
theorem Qv:@Sc my Tryz.prog 86:=by
 letI:cQ:=my
 intro cs m lh hlen;refine⟨λid φ af w hm ai=>?_,λφ af w hm ai=>?_⟩
 ·obtain⟨v,cB,rfl,ai,e0⟩:=ai;simp only[bl]at e0;subst e0;obtain⟨ak,a,cap,rfl,lg,h⟩:=ai;rcases h with h|⟨b,rfl,⟨au,cur,e,hb,gN⟩,dA⟩
  ·exact absurd h.1 (by simp)
  have hcs:=Il lh;rw[hcs]at dA;have rI:(cs.map UT).length=cs.length:=by simp
  have ah:∀τ d D,CallsIn (Fence.list ag0 (some D)) 66 Tryz.prog 86 #[.slice (some ⟨b,0,none⟩) (cs.map UT).length cap] (a8 w τ d) (λe w'=>e=.returned (.tuple #[])/\∃τ d n os,w'=grow (putRow (Value.int .i64) (Go.Sort.ahead (a8 w τ d) n) b 0 ((cs.map UT).mergeSort λx y=>decide (x<=y)).toArray) os):=λτ d D=>
   BS (JA (AnyS.slices_Sort_int_in HX D b 0 cap (cs.map UT) (a8 w τ d) (holds_of (w:=a8 w τ d) hb (Kh dA)) (jK hb) (by rw[rI];omega))) λe w' ⟨U,n,os,ab⟩=>⟨U,τ,d,n,os,ab⟩
  rw[rI]at ah;refine @lb.mono my _ _ _ _ _ _ (@zv my _ _ _ ag0 _ _ _ _ (.inl ⟨rfl,rfl⟩) (by decide) ah λe w' h=>⟨_,h.1⟩) ?_;rintro Dm w' ⟨rfl,τ,d,n,os,rfl⟩;obtain⟨f1,f2,f3⟩:=Dr (w:=a8 w τ d) hb ((cs.map UT).mergeSort λx y=>decide (x<=y)) n;obtain⟨k1,k2⟩:=N6 (w:=putRow (Value.int .i64) (Go.Sort.ahead (a8 w τ d) n) b 0 ((cs.map UT).mergeSort λx y=>decide (x<=y)).toArray) (os:=os);replace f2:_=w.heap.size:=f2;obtain⟨CO,hF⟩:=N5 (w':=grow (putRow (Value.int .i64) (Go.Sort.ahead (a8 w τ d) n) b 0 ((cs.map UT).mergeSort λx y=>decide (x<=y)).toArray) os) Tryz.prog hm au hb ((cs.map UT).mergeSort λx y=>decide (x<=y)) (by rw[List.length_mergeSort,rI];omega)
   (λc ah bU=>by rw[k1 c (by rw[f2];exact ah),f3 c bU];rfl) (by rw[k1 b (by rw[f2];exact jK hb),f1]) (by omega) rfl rfl
  exact⟨_,.undef,_,_,φ,rfl,by simp only[aY],CO,hF,rfl,rfl,rfl⟩
 ·obtain⟨v,cB,rfl,ai,e0⟩:=ai;simp only[bl]at e0;subst e0;simp only[aY]at ai;subst ai;have ah:∀τ d D,CallsIn (Fence.list ag0 (some D)) 2 Tryz.prog 86 #[.slice none 0 0] (a8 w τ d) (λe w'=>e=.returned (.tuple #[])/\∃τ d,w'=a8 w τ d):=λτ d D=>
   BS (JA (AnyS.slices_Sort_int_none_in HX D none 0 (a8 w τ d))) λe w' ⟨U,ab⟩=>⟨U,τ,d,ab⟩
  refine @lb.mono my _ _ _ _ _ _ (@zv my _ _ _ ag0 _ _ _ _ (.inl ⟨rfl,rfl⟩) (by decide) ah λe w' h=>⟨_,h.1⟩) ?_;rintro Dm w' ⟨rfl,τ,d,rfl⟩;exact⟨_,.undef,_,_,φ,rfl,by simp only[aY],hm.a8 τ d,sD φ w τ d,rfl,rfl,rfl⟩
theorem go_eq(d:Array Int):∀(ys pre:List Int)(p:Int),d.toList=pre++p::ys->((List.range' (pre.length+1) ys.length).filter (Lib.keeps d)).map (λj=>d[j]!)=J0 p ys
 |[],pre,p,h=>by simp[J0]
 |y::ys,pre,p,h=>by
  have aT:d[pre.length]! = p:=by
   have:d.toList[pre.length]?=some p:=by rw[h];simp
   rw[Array.getElem?_toList]at this;simp[getElem!_def,this]
  have U:d[pre.length+1]! = y:=by
   have:d.toList[pre.length+1]?=some y:=by rw[h];simp
   rw[Array.getElem?_toList]at this;simp[getElem!_def,this]
  have az:=go_eq d ys (pre++[p]) y (by rw[h];simp);simp only[List.length_append,List.length_singleton]at az;simp only[List.length_cons,List.range'_succ,J0];by_cases aF:y=p
  ·rw[List.filter_cons_of_neg (by simp[Lib.keeps,aT,U,aF]),if_pos aF,az,aF]
  ·rw[List.filter_cons_of_pos (by simp[Lib.keeps,aT,U,aF]),if_neg aF,List.map_cons,U,az]
theorem D1(sn:List Int):Lib.compact sn=agM sn:=by
 cases sn with
 |nil=>rfl
 |cons x xs=>
  have:=go_eq (x::xs).toArray xs [] x (by simp);unfold Lib.compact Lib.compactUpTo;rw[List.range_eq_range',List.length_cons,List.range'_succ,List.filter_cons_of_pos (by simp[Lib.keeps]),List.map_cons];simp only[List.length_nil,Nat.zero_add]at this⊢;rw[this];simp[agM]
theorem ON:@Sd my Tryz.prog 87:=by
 letI:cQ:=my
 intro cs m lh hlen;refine⟨λid φ af w hm ai=>?_,λφ af w hm ai=>?_⟩
 ·obtain⟨v,cB,rfl,ai,e0⟩:=ai;simp only[bl]at e0;subst e0;obtain⟨ak,a,cap,rfl,lg,h⟩:=ai;rcases h with h|⟨b,rfl,⟨au,cur,e,hb,gN⟩,dA⟩
  ·exact absurd h.1 (by simp)
  have hcs:=Il lh;rw[hcs]at dA;have rI:(cs.map UT).length=cs.length:=by simp
  have ah:∀τ d D,CallsIn (Fence.list _ (some D)) 0 Tryz.prog 87 #[.slice (some ⟨b,0,none⟩) (cs.map UT).length cap] (a8 w τ d) (λe w'=>e=.returned (.slice (some ⟨b,0,none⟩) (Lib.compact (cs.map UT)).length cap)/\∃τ d n,w'=putRow (Value.int .i64) (Go.Sort.ahead (a8 w τ d) n) b 0 (Lib.compact (cs.map UT)++List.replicate (cs.length-(Lib.compact (cs.map UT)).length) 0).toArray):=λτ d D=>
   BS (AnyS.slices_Compact_int_in Fg D b 0 cap (cs.map UT) (a8 w τ d) (holds_of (w:=a8 w τ d) hb (Kh dA)) (by rw[rI];omega) (by rw[rI];exact lg)) λe w' ⟨U,n,ab⟩=>⟨U,τ,d,n,by rw[ab,rI]⟩
  rw[rI]at ah;refine @lb.mono my _ _ _ _ _ _ (@zv my _ _ _ [87] _ _ _ _ (.inr ⟨rfl,rfl⟩) (by decide) ah λe w' h=>⟨_,h.1⟩) ?_;rintro Dm w' ⟨rfl,τ,d,n,rfl⟩;obtain⟨GA,bO⟩:∃GA,GA=Lib.compact (cs.map UT)++List.replicate (cs.length-(Lib.compact (cs.map UT)).length) 0:=⟨_,rfl⟩;rw[←bO];obtain⟨f1,f2,f3⟩:=Dr (w:=a8 w τ d) hb GA n;replace f2:_=w.heap.size:=f2;obtain⟨CO,hF,Gz⟩:=Pq (w':=putRow (Value.int .i64) (Go.Sort.ahead (a8 w τ d) n) b 0 GA.toArray) hm au hb (λc ah bU=>f3 c bU) f1 (by omega) rfl rfl;have hle:(Lib.compact (cs.map UT)).length<=cs.length:=by
   unfold Lib.compact Lib.compactUpTo;rw[List.length_map];refine Nat.le_trans (List.length_filter_le _ _) ?_;simp
  have iu:(E4 cs).length=(Lib.compact (cs.map UT)).length:=by simp[E4,D1]
  refine⟨_,.sl none 1 0 (E4 cs).length (E4 cs),_,_,φ.drop id,rfl,?_,CO,hF,rfl,rfl,rfl⟩;rw[←iu];refine⟨by simp,_,cap,rfl,by omega,.inr ⟨b,rfl,⟨Gz,by rw[f2];exact jK hb⟩,sA λj p aC=>?_⟩⟩;have tl:j<(E4 cs).length:=(List.getElem?_eq_some_iff.1 aC).1;have ae:p=.int .i64 ((Lib.compact (cs.map UT))[j]'(by omega)):=by
   have:=aC;simp only[E4,D1]at this tl⊢;rw[List.getElem?_map]at this;obtain⟨z,Cm,Vk⟩:=Option.map_eq_some_iff.1 this;rw[←Vk];congr 1;rw[List.getElem?_eq_some_iff]at Cm;obtain⟨_,Cm⟩:=Cm;rw[←Cm]
  subst ae;refine⟨_,?_,rfl⟩;have Vu:j<cur.size:=by omega
  simp only[World.cell?,f1,putCells,Nat.zero_add];have VU:j<GA.length:=by rw[bO,List.length_append,List.length_replicate];omega
  simp only[Option.isSome_none,Bool.false_eq_true,if_false,Array.getElem?_mapIdx,Array.getElem?_eq_getElem Vu,Option.map_some,Nat.zero_le,true_and,List.size_toArray,VU,if_true,Nat.sub_zero];congr 2;have:GA[j]?=some ((Lib.compact (cs.map UT))[j]'(by omega)):=by
   rw[bO,List.getElem?_append_left (by omega)];simp
  simp[getElem!_def,this]
 ·obtain⟨v,cB,rfl,ai,e0⟩:=ai;simp only[bl]at e0;subst e0;simp only[aY]at ai;subst ai;have ah:∀τ d D,CallsIn (Fence.list [87] (some D)) 0 Tryz.prog 87 #[.slice none 0 0] (a8 w τ d) (λe w'=>e=.returned (.slice none 0 0)/\∃τ d,w'=a8 w τ d):=λτ d D=>
   BS (AnyS.slices_Compact_int_empty_in Fg D none 0 (a8 w τ d)) λe w' ⟨U,ab⟩=>⟨U,τ,d,ab⟩
  refine @lb.mono my _ _ _ _ _ _ (@zv my _ _ _ [87] _ _ _ _ (.inr ⟨rfl,rfl⟩) (by decide) ah λe w' h=>⟨_,h.1⟩) ?_;rintro Dm w' ⟨rfl,τ,d,rfl⟩;exact⟨_,.bC,_,_,φ,rfl,by simp only[aY],hm.a8 τ d,sD φ w τ d,rfl,rfl,rfl⟩
end
section
open Go Go.RowKit
def tj:FuncId->Option (Option (Nat×Nat)):=λg=>if g=163 then some none else none
noncomputable def GL:iN:=⟨Tryz.prog,⟨11,some 86,some 87⟩,UY,UZ,tj,S4++[{g:=10,s:=[1001,1002,1003,1004],k:=[ao 0 60 [ae 68] [68] [] [3,5,7,9,23,25,27,29,33,35,37,39],ao 0 252 [ae 81] [81],ao 0 1021 [] [],ao 0 2042 [ae 10] [9,8,7,10],ao 0 130706 [ae 146] [146,9,8,7,10],ao 0 65532 [ae 223] [223],ao 0 8388604 [ae 326] [326],ao 0 536870908 [ae 406] [406],ao 0 17179869180 [ae 461] [461],ao 0 137438953470 [ae 0] [0]],h:=[(1001,1),(1001,3),(1001,5),(1001,7),(1002,1),(1002,3),(1002,5),(1002,7),(1003,1),(1003,3),(1003,5),(1003,7),(1004,1),(1004,3),(1004,5),(1004,7)],i:=[100100040,100200040,100300040,100400040]},
 {g:=14,k:=[ao 0 125 [⟨false,10,0,some (1,.cZ),false⟩] [10],ao 0 250 [⟨false,10,0,some (1,.cZ),false⟩,ae 34] [5,8,4,33,34,10],ao 0 128205 [] [12,5,8,4,33,34,11,10] [0,1],ao 0 256410 [ae 43] [12,41,5,8,4,33,34,11,10,42,43] [0,1],ao 0 512829 [ae 15] [5,8,4,33,34,11,10,15],ao 0 1025658 [⟨false,12,0,none,true⟩,ae 15,ae 55] [12,53,5,8,4,33,34,11,10,54,55,15],ao 0 131284275 [ae 15] [12,53,5,8,4,33,34,11,10,54,15,55],ao 0 262568550 [ae 15] [17,60,12,53,5,8,4,33,34,11,10,54,55,15] [2],ao 0 8402193613 [ae 15] [17,60,12,53,5,8,4,33,34,11,10,54,55,15],ao 0 512831 [⟨false,10,0,some (1,.cZ),false⟩] [5,8,4,33,10,34]]},
 {g:=15},
 {g:=16,k:=[ao 0 29 [ae 5] [5],ao 0 58 [ae 5,ae 6] [1,0,6,5],ao 0 464 [ae 18] [18,1,0,6,5]]},
 {g:=18},
 {g:=20,k:=[ao 0 510 [ae 0] [0]]},
 {g:=27},
 {g:=32,k:=[ao 0 1789 [⟨false,9,0,some (1,.cZ),false⟩] [9],ao 0 3578 [ae 39,⟨false,9,0,some (1,.cZ),false⟩] [7,9,1,38,39],ao 0 916069 [] [10,7,1,38,39,9] [] [5],ao 0 1832138 [ae 44] [7,9,1,38,39,10,42,43,44] [] [5],ao 0 3664285 [⟨false,13,0,some (1,.cZ),false⟩] [7,1,38,39,13,9],ao 0 7328570 [⟨false,13,0,some (1,.cZ),false⟩,ae 59] [10,7,1,38,39,9,58,59,13],ao 0 938057011 [⟨false,13,0,some (1,.cZ),false⟩] [10,7,1,38,39,9,58,13,59]]},
 {g:=35,s:=[5005,5005011005],k:=[(5005,7,⟨[⟨true,5,0,some (1,.cZ),false⟩],[],[],[],true⟩),(5005,14,⟨[ae 18,⟨true,5,0,some (1,.cZ),false⟩],[],[3,5,4,6,17,18],[],true⟩),(5005,3687,⟨[⟨true,5,0,some (1,.cZ),false⟩],[],[3,5,4,6,17,18],[],true⟩),(5005,7374,⟨[ae 30,⟨true,5,0,some (1,.cZ),false⟩],[],[8,3,9,28,5,4,6,17,18,29,30],[],true⟩),(5005,943923,⟨[⟨true,5,0,some (1,.cZ),false⟩],[],[8,3,9,28,5,4,6,17,18,29,30],[],true⟩),(5005,1887846,⟨[ae 36,⟨true,5,0,some (1,.cZ),false⟩],[],[11,8,3,34,9,28,5,4,6,17,18,29,30,35,36],[],true⟩),(5005011005,255,⟨[⟨true,5,0,some (1,.cZ),false⟩],[],[],[],true⟩)],t:=[(0,8,0)]},
 {g:=37,s:=[5005,5005011005],k:=[(5005,7,⟨[⟨true,4,0,some (1,.cZ),false⟩],[],[],[],true⟩),(5005,14,⟨[ae 18,⟨true,4,0,some (1,.cZ),false⟩],[],[3,5,4,6,17,18],[],true⟩),(5005,3687,⟨[⟨true,4,0,some (1,.cZ),false⟩],[],[3,5,4,6,17,18],[],true⟩),(5005,7374,⟨[ae 30,⟨true,4,0,some (1,.cZ),false⟩],[],[8,3,9,28,5,4,6,17,18,29,30],[],true⟩),(5005,943923,⟨[⟨true,4,0,some (1,.cZ),false⟩],[],[8,3,9,28,5,4,6,17,18,29,30],[],true⟩),(5005,1887846,⟨[ae 36,⟨true,4,0,some (1,.cZ),false⟩],[],[11,8,3,34,9,28,5,4,6,17,18,29,30,35,36],[],true⟩),ao 5005011005 6 [ae 28] [28,5,7,8],(5005011005,7,⟨[⟨true,4,0,some (1,.cZ),false⟩],[],[],[],true⟩)]},
 {g:=40},
 {g:=41,k:=[ao 0 61 [] [],ao 0 122 [ae 21] [19,20,21]]},
 {g:=42},
 {g:=43},
 {g:=44,k:=[ao 0 29 [⟨false,3,0,some (2,.cZ),false⟩] [3],ao 0 58 [⟨false,3,0,some (2,.cZ),false⟩,ae 4] [0,4,3]]},
 {g:=45,k:=[ao 0 29 [] [],ao 0 58 [ae 5] [1,0,5]]},
 {g:=46},
 {g:=47,k:=[ao 0 253 [⟨false,11,0,some (1,.cZ),false⟩] [11],ao 0 506 [⟨false,11,0,some (1,.cZ),false⟩,ae 35] [5,1,8,10,34,35,11],ao 0 64819 [⟨false,11,0,some (1,.cZ),false⟩] [5,1,8,10,34,11,35]]},
 {g:=48,k:=[ao 0 61 [] [],ao 0 122 [ae 23] [5,1,8,23]]},
 {g:=49,k:=[ao 0 125 [⟨false,10,0,some (1,.cZ),false⟩] [10],ao 0 250 [⟨false,10,0,some (1,.cZ),false⟩,ae 24] [2,1,8,23,24,10],ao 0 32051 [⟨false,10,0,some (1,.cZ),false⟩] [2,1,8,23,10,24]]},
 {g:=50,k:=[ao 0 125 [] [],ao 0 250 [ae 37] [11,2,9,10,37],ao 0 32051 [] [11,2,9,10,37],ao 0 64102 [ae 13] [13,11,12,2,9,10,37],ao 0 8205093 [⟨true,4,0,some (1,.cZ),false⟩] [13,12,11,2,9,10,37,14],ao 0 16410186 [ae 50,⟨true,4,0,some (1,.cZ),false⟩] [14,13,11,12,2,9,10,37,49,50]]},
 {g:=56,k:=[ao 0 29 [] [6,3,2],ao 0 58 [ae 22] [6,3,20,2,21,22],ao 0 61 [] [6,3],ao 0 122 [ae 37] [6,35,3,36,37]]},
 {g:=57,s:=[1012,1013,1013001002,1013001002700027,1013001002700027002004,1013001002700027002004004012,1013001002700027010005,1013001002700027010005004012],k:=[(1013001002,13,⟨[⟨true,6,0,some (2,.cZ),false⟩],[],[2],[],true⟩),(1013001002700027,28,⟨[ae 19,⟨true,6,0,some (2,.cZ),false⟩],[],[19,3,4,6],[],true⟩),(1013001002700027,125,⟨[ae 7],[],[7,3,6],[],true⟩),(1013001002700027,250,⟨[ae 7,ae 23],[],[3,4,6,22,23,7],[],true⟩),(1013001002700027,32051,⟨[ae 7],[],[3,4,6,22,7,23],[],true⟩),(1013001002700027002004,13,⟨[⟨true,6,0,some (2,.cZ),false⟩],[],[],[],true⟩),(1013001002700027002004,26,⟨[ae 13,⟨true,6,0,some (2,.cZ),false⟩],[],[2,5,1,6,3,4,12,13],[],true⟩),(1013001002700027002004,3378,⟨[ae 29,⟨true,6,0,some (2,.cZ),false⟩],[],[29,2,5,1,6,3,4,12,13],[],true⟩),ao 1013001002700027002004004012 13 [] [2],(1013001002700027010005,13,⟨[],[0],[],[],true⟩),(1013001002700027010005,26,⟨[ae 13],[0],[2,5,1,6,3,4,12,13],[],true⟩),(1013001002700027010005,3378,⟨[ae 29],[0],[29,2,5,1,6,3,4,12,13],[],true⟩),ao 1013001002700027010005004012 13 [] [2]]},
 {g:=59},
 {g:=60},
 {g:=66},
 {g:=70},
 {g:=71},
 {g:=72},
 {g:=77,k:=[ao 0 58 [ae 9] [1,8,9,3] [0]],o:=[(0,5)]},
 {g:=78},
 {g:=79,k:=[ao 0 13 [] [0],ao 0 61 [ae 3] [3],ao 0 122 [ae 3,ae 4] [0,4,3]]},
 {g:=80,k:=[ao 0 13 [] [0],ao 0 61 [ae 3] [3],ao 0 122 [ae 3,ae 4] [0,4,3]]},
 {g:=88,k:=[ao 0 6 [ae 6] [6]]},
 {g:=89},
 {g:=90,k:=[ao 0 29 [] [1],ao 0 58 [ae 16] [14,1,15,16],ao 0 60 [ae 33] [33]]},
 {g:=93,k:=[ao 0 29 [⟨false,3,0,some (1,.cZ),false⟩] [3],ao 0 58 [⟨false,3,0,some (1,.cZ),false⟩,ae 5] [0,5,3],ao 0 7475 [⟨false,3,0,some (1,.cZ),false⟩] [0,3,5]]},
 {g:=94,k:=[ao 0 29 [ae 9] [6,9,8]]},
 {g:=95,k:=[ao 0 61 [⟨false,10,0,some (1,.cZ),false⟩] [10],ao 0 122 [⟨false,10,0,some (1,.cZ),false⟩,ae 25] [9,6,7,23,24,25,10] [] [3,5,7],ao 0 15667 [⟨false,10,0,some (1,.cZ),false⟩] [9,6,7,23,24,10,25]]},
 {g:=99,k:=[ao 0 29 [] [1],ao 0 58 [ae 12] [10,1,11,12],ao 0 60 [ae 35] [35]]},
 {g:=108,k:=[ao 0 13 [] [],ao 0 26 [ae 8] [0,1,7,8]]},
 {g:=109,k:=[ao 0 13 [] [],ao 0 26 [ae 8] [0,1,7,8]]},
 {g:=110,k:=[ao 0 13 [] [0,1],ao 0 61 [ae 5] [5],ao 0 122 [ae 5,ae 6] [0,1,6,5],ao 0 3913 [ae 5] [0,1,5,6]]},
 {g:=111},
 {g:=112},
 {g:=113,k:=[ao 0 13 [] [1,0],ao 0 26 [ae 11] [1,9,0,10,11]]},
 {g:=124,k:=[ao 0 29 [] [],ao 0 58 [ae 10] [0,8,9,10],ao 0 14950 [ae 28] [28,0,8,9,10]]},
 {g:=125},
 {g:=150}]⟩
noncomputable def cA(g:FuncId):Option Tree:=GL.cA g
section
theorem J3:(GL.cA 163).isSome=true:=by kernel_rfl
theorem EH[cQ]:E2 Tryz.prog 23 ⟨11,some 86,some 87⟩ tj cA:=GL.S5 (by kernel_rfl) λg r h=>by
 replace h:tj g=some r:=h;unfold tj at h;split at h
 ·rename_i e;subst e;exact J3
 cases h
end
noncomputable def E(P:Program)(k:Nat)(ω:b2)(g:FuncId)(a:List aa):Option aa:=jD P 23 cA pj 4096 k ω g a
theorem ac5:@mu my Tryz.prog pn ⟨11,some 86,some 87⟩:=@mu.mk my _ _ _ (λ_=>@ab7 my) (λf h=>by injection h with h;subst h;exact Qv) (λf h=>by injection h with h;subst h;exact ON)
theorem IH(k:Nat):@jq my Tryz.prog pn (E Tryz.prog k):=(@C9 my Tryz.prog _ _ _ _ _ _ _ (by kernel_rfl) (@EH my) XH ac5 k).1
instance amw:cQ:=my
end
section
open Go Go.RowKit Go.WideShapes Go.ChangeShapes
theorem Oo{DI:List aa->Prop}{m:Mem}:∀{bz:List aa},(∀q∈bz,q.plain=true)->im DI m bz bz
 |[],_=>rfl
 |q::bz,h=>⟨q,bz,rfl,.inl ⟨rfl,h q (by simp)⟩,Oo λx aj=>h x (by simp[aj])⟩
theorem own:ownKnob Tryz.prog.godebug=none:=by kernel_rfl
theorem laidOut:laidOutB Tryz.prog=true:=by kernel_rfl
end
section
open Go Go.RowKit Go.WideShapes Go.ChangeShapes Go.Conc
theorem XO{W:World}(h:W.ShapedOpen Tryz.prog):Tryz.prog.globals.size<=W.heap.size:=by
 have key:∀g,g<Tryz.prog.globals.size->((((begin Tryz.prog (λ_ _=>0) default).world).heap[g]?).bind Obj.row?).isSome=true->g<W.heap.size:=λg aN aj=>by
  obtain⟨⟨zero,t⟩,bO⟩:=Option.isSome_iff_exists.1 aj;obtain⟨cs,U,_⟩:=h.1 g zero t aN bO;exact(Array.getElem?_eq_some_iff.1 U).1
 have aI:Tryz.prog.globals.size=0\/((((begin Tryz.prog (λ_ _=>0) default).world).heap[Tryz.prog.globals.size-1]?).bind Obj.row?).isSome=true:=.inr (by kernel_rfl);rcases aI with aT|aT
 ·omega
 ·by_cases U:Tryz.prog.globals.size=0
  ·omega
  ·have:=key _ (by omega) aT;omega
section
variable{H:Type}{enc:TypeId×Value->H}
theorem XM{os:Os}{f:FuncId}{fn:Func}{s:ChangeSpec}{conds:List PathCond}{apart fresh handsOn again:Bool}{k:Nat}{bt:TypeId}(started:os.Started)(dX:Tryz.prog.funcs[f]?=some fn)
  (witness:∃(w:World)(tape:Tape)(i:Input),w.os=os/\(w.forCall tape i).Shaped Tryz.prog/\i.vars=[]/\Input.okWide Tryz.prog (w.forCall tape i) .any w.heap.size f i /\
   s.pre6 enc Tryz.prog fn conds apart (w.forCall tape i).memory i.args/\({}:Assume).holds Tryz.prog (lone (Frame.enter Tryz.prog f i.args .normal) [] (w.forCall tape i)))
  (ak:laidOutB Tryz.prog=true) (ai:s.vars=[]) (F8:fn.resultTypes=#[bt]) (F9:Tryz.prog.underlying bt=some .bool) (aq:fn.params.toList.all (sN Tryz.prog k)=true) (mE:∀t∈fn.params.toList,Tryz.prog.readableRec t=true/\t<Tryz.prog.types.size)
  (ao:∀ds:List (DataW H),ds.length=fn.params.size->s.fn H (ds++[])={ results:=[.lit (.bool true)],args:=ds }) (aw:iC f=true) (c1:Tryz.prog.inits.idxOf? f=none) (acn:apN f=true)
  (e4:∀bz,qu Tryz.prog k fn.params.toList bz->∀m,@gL my Tryz.prog f bz m λv E m'=>v=.bool true/\E=[]/\m'=m):
  ReturnsInLeavingWide {} Tryz.checked os f .any (s.pre6 enc Tryz.prog fn conds apart) (s.post enc Tryz.prog fn apart fresh handsOn again):=by
 refine returnsInLeavingWide_of_good (C:=Tryz.checked) own started witness ?_;intro w tape i _ nk _ fU nY akw;obtain⟨_,_,_,cC,zn,_,_,_,_,zi⟩:=fU;have e:cC=fn:=Option.some.inj (zn.symm.trans dX);subst e;obtain⟨⟨ds,gs,before,hw,ah⟩,bO⟩:=nY;have KG:=DataW.Whole.of_heap (w':=w.forCall tape i) (by rfl) hw;exact aaL ak ai F8 F9 aq mE ao aw c1 acn e4 (base:=w.heap.size) (XO nk) zi KG
end
end
section
open Go Go.RowKit Go.WideShapes Go.ChangeShapes
theorem Nh(ej:∀bz,qu Tryz.prog 6 Tryz.f10.params.toList bz->∀ω,E Tryz.prog 20 ω 10 bz=some (.bool true))(os:Os)(started:os.Started)(H:Type)(enc:TypeId×Value->H):
  ReturnsInLeavingWide {} Tryz.checked os 10 .any (Rows.ruleKnownSpec.pre6 enc Tryz.prog Tryz.f10 Rows.ruleKnownRow.domain false) (Rows.ruleKnownSpec.post enc Tryz.prog Tryz.f10 false true false false):=by
 letI:=my
 refine XM (k:=6) (bt:=4) started Tryz.func10
  (ChangeSpec.witness6 (enc:=enc) (C:=Tryz.checked) false ⟨#[],#[],[]⟩ 10 (by kernel_rfl) (by kernel_rfl) (by kernel_rfl) (by kernel_rfl))
  laidOut rfl rfl (by kernel_rfl) (by kernel_rfl) (by
  intro t a1;have:Tryz.f10.params.toList.all (λt=>Tryz.prog.readableRec t&&decide (t<Tryz.prog.types.size))=true:=by kernel_rfl
  have:=List.all_eq_true.1 this t a1;simpa using this) (λds ak=>?_) (by kernel_rfl) (by kernel_rfl) (by kernel_rfl) (λbz aH m=>?_)
 ·match ds,ak with
  |[],_=>rfl
 ·refine @gL.mono my _ _ _ _ _ _ ((IH 20).zG 10 bz (λω=>by rw[ej bz aH ω];rfl) bz m (Oo (Om aH))) ?_;rintro v E m' ⟨⟨ω,U⟩,_,ab,al⟩;rw[ej bz aH ω]at U;injection U with U;exact⟨U.symm,ab,al⟩
theorem No(ej:∀bz,qu Tryz.prog 6 Tryz.f10.params.toList bz->∀ω,E Tryz.prog 20 ω 10 bz=some (.bool true)):Rows.RuleKnownSaid:=
 OpenClaim.holds_of_wide_leaving 10 Tryz.f10 rfl rfl rfl rfl rfl rfl rfl ⟨rfl,rfl,rfl,rfl,rfl⟩ rfl rfl rfl rfl rfl (by kernel_rfl) Tryz.func10 (by kernel_rfl)
  (of_decide_eq_true (by kernel_rfl)) (by unfold Func.isWrapper;first|(rw[if_pos (by decide +kernel)];kernel_rfl)|(rw[if_neg (by decide +kernel)];exact⟨rfl,rfl⟩))
  (λos started H enc _=>Nh ej os started H enc)
end
end Go.Proofs.YtlminnpaeaganaaGreat
