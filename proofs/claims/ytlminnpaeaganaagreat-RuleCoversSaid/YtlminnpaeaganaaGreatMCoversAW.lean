/- Part of the proof of RuleCovers. No condition. -/
import Derived.Test.YtlminnpaeaganaaGreatProg
import Derived.Conc.LeavingOf
import Derived.Test.YtlminnpaeaganaaGreatChecked
import Derived.Test.YtlminnpaeaganaaGreatRows
import Derived.Test.YtlminnpaeaganaaGreatMCoversAG
import Derived.Test.YtlminnpaeaganaaGreatMCoversAK
import Derived.Test.YtlminnpaeaganaaGreatMCoversAU
import Derived.Test.YtlminnpaeaganaaGreatMCoversAV
namespace Go.Proofs.YtlminnpaeaganaaGreat
set_option maxRecDepth 100000
set_option linter.all false
section
open Go Go.RowKit
variable[cQ]
def JL(r:aa):Prop:=wY r=true
def wH(r:aa):Prop:=r=.bC\/∃off len cs,r=.sl none 1 off len cs/\cs.length=len/\∀c∈cs,∃n,c=.int .i64 n
def pn(l:List aa):Prop:=∃r x,l=[r,.int .u64 x]/\JL r
theorem Ap{r:aa}:JL r↔wH r:=by
 unfold JL wH wY;constructor
 ·intro h;split at h
  ·grind
  ·rename_i off len cs;simp  at h;refine .inr ⟨off,len,cs,rfl,h.1,λc ah=>?_⟩;have:=h.2 c ah;unfold zh at this;grind
  ·cases h
 ·rintro(rfl|⟨off,len,cs,rfl,U,ab⟩)
  ·rfl
  ·simp ;refine⟨U,λc ah=>?_⟩;obtain⟨n,rfl⟩:=ab c ah;rfl
theorem G4{r:aa}(h:wH r):r.plain=true/\r.one=true:=by
 rcases h with rfl|⟨off,len,cs,rfl,_,ah⟩
 ·trivial
 ·refine⟨?_,rfl⟩;refine(hH cs).2 λq aH=>?_;obtain⟨n,rfl⟩:=ah q aH;trivial
section
variable{P:Program}{ops:Array Oper}{o:Oper}{rest:List Oper}{s:aA}{K:aA->Prop}
def Pj(o:Oper):Bool:=match o.op with
 |.buildSlice _ _ _=>false
 |_=>true
theorem eT(v:aa)(aN:o.guard=none)(hb:Pj o=true)(ai:bV P s.m s.ay o=some v)(h:h1 P ops rest (s.put o.dst v) K):h1 P ops (o::rest) s K:=by
 simp only[h1,ld,aN];refine⟨s,dW.refl s,H5 (m0:=s.m) ⟨Nat.le_refl _,λ_ _=>rfl⟩ ai (λt l p e=>?_) h⟩;grind [Pj]
theorem HD{t:TypeId}{x y:Operand}{CG:TypeId}{ps:String}{Gw:Array Edge}{id off:Nat}{v:aa}{l:List aa}(aj:s.ay x=.ptr id off)(ai:s.ay y=v)(cr:id<s.m.n)(hi:(P.info? t).isSome)(ah:P.cellsOf t=1)(U:v.one=true)(iu:v.cells=[v])(fW:s.m.β id=.cells l)(ak:off+1<=l.length)
  (h:h1 P ops rest (s.hq id (fa l off [v])) K):h1 P ops (⟨none,.store t x y,CG,ps,Gw,none⟩::rest) s K:=by
 refine⟨s,dW.refl s,?_⟩;show _=none/\uK P s t (s.ay x) (s.ay y) _;grind [uK]
theorem ab4{t:TypeId}{x:Operand}{d:Option Tmp}{CG:TypeId}{ps:String}{Gw:Array Edge}{l:List aa}(aq:(s.ay x).known=true)(ak:(s.ay x).cells=l)
  (h:h1 P ops rest (s.gu d l) K):h1 P ops (⟨d,.box t x,CG,ps,Gw,none⟩::rest) s K:=by
 refine⟨s,dW.refl s,?_⟩;show(s.ay x).known=true/\h1 P ops rest (s.gu d (s.ay x).cells) K;grind
theorem jm(v:aa)(m0:Mem)(T:l0)(aN:o.guard=none)(hb:hX o=true)(ai:bV P m0 s.ay o=some v)(h:kO P m0 T ops rest (s.put o.dst v) K):kO P m0 T ops (o::rest) s K:=by grind [kO,ld,mY,hX]
end
section
theorem F3(i:Nat):pd Tryz.prog 85 (.ptr i 0) 0=some (.ptr i 0):=by kernel_rfl
theorem xH(i:Nat):pd Tryz.prog 85 (.ptr i 0) 1=some (.ptr i 1):=by kernel_rfl
theorem aif:ik Tryz.prog 22=some false:=by kernel_rfl
theorem aih:ik Tryz.prog 83=some false:=by kernel_rfl
theorem aii:Tryz.prog.cellsOf 22=1:=by kernel_rfl
theorem Un:Tryz.prog.cellsOf 83=1:=by kernel_rfl
theorem Lf:Tryz.prog.cellsOf 3=1:=by kernel_rfl
theorem aij:(Tryz.prog.info? 22).isSome=true:=by kernel_rfl
theorem Uo:(Tryz.prog.info? 83).isSome=true:=by kernel_rfl
theorem Lg:(Tryz.prog.info? 3).isSome=true:=by kernel_rfl
theorem Cc:Tryz.prog.underlying 22=some (.slice 3):=by kernel_rfl
theorem aik:Tryz.prog.underlying 83=some (.int .u64):=by kernel_rfl
theorem ail:Tryz.prog.underlying 3=some (.int .i64):=by kernel_rfl
variable{i:Nat}{m:Mem}{r:aa}{x:Int}
theorem Lh(hm:i<m.n):h0 Tryz.prog { m with β:=ea m.β i (.cells [r,.int .u64 x]) } 22 (.ptr i 0)=some r:=by simp[h0,nW,hm,aif]
theorem Cd(hm:i<m.n):h0 Tryz.prog { m with β:=ea m.β i (.cells [r,.int .u64 x]) } 83 (.ptr i 1)=some (.int .u64 x):=by simp[h0,nW,hm,aih]
theorem gen{P:Program}{c:Code}{s:aA}{Q:eJ->aA->Prop}(F:aA->Prop)(aw:F s)(h:∀s',F s'->ff P c s' Q):ff P c s Q:=h s aw
theorem aav{P:Program}{c:Code}{s:aA}{Q:eJ->aA->Prop}(F:aA->Prop)(h:ff P c s λe s'=>e=.normal/\F s')(gI:∀s',F s'->Q .normal s'):ff P c s Q:=oZ h λe s' ⟨he,ao⟩=>by grind
theorem wrap_u64(n:Int):0<=IntKind.u64.wrap n/\IntKind.u64.wrap n<18446744073709551616:=by grind [IntKind.wrap,IntKind.bits,IntKind.signed]
theorem Aq(β:Nat->di)(i:Nat)(c d:di):ea (ea β i c) i d=ea β i d:=by grind [ea]
theorem ab5(hi:i<m.n)(ad:wH r):gL Tryz.prog 62 [.ptr i 0] { m with β:=ea m.β i (.cells [r,.int .u64 x]) } λv E m'=>(∃n,v=.int .u64 n/\0<=n/\n<4294967296)/\E=[]/\∃bR bk,wH bR/\m'={ m with β:=ea m.β i (.cells [bR,.int .u64 bk]) }:=by
 refine GQ (fn:=Tryz.f62) (by kernel_rfl) rfl (Nat.le_of_ble_eq_true rfl) (by kernel_rfl) (by kernel_rfl) ?_;have ae:(entry [.ptr i 0] { m with β:=ea m.β i (.cells [r,.int .u64 x]) }).g 0=.ptr i 0:=rfl;have hm:(entry [.ptr i 0] { m with β:=ea m.β i (.cells [r,.int .u64 x]) }).m={ m with β:=ea m.β i (.cells [r,.int .u64 x]) }:=rfl;have he:(entry [.ptr i 0] { m with β:=ea m.β i (.cells [r,.int .u64 x]) }).bb=[]:=rfl;generalize entry [.ptr i 0] { m with β:=ea m.β i (.cells [r,.int .u64 x]) }=s at ae hm he;refine o6 (qL ?_);refine eT (.int .u64 0) rfl rfl (by simp[bV,aA.ay,jT]) ?_;refine o6 (qL ?_);refine eT (.int .u64 0) rfl rfl (by simp[bV,aA.ay,jT]) ?_;refine o6 (o6 (qL ?_));refine eT (.ptr i 0) rfl rfl (by simp[bV,aA.ay,ae]) ?_;refine eT (.ptr i 0) rfl rfl (by simp[bV,aA.ay,ae]) ?_;refine eT (.ptr i 0) rfl rfl (by simp[bV,aA.ay,F3]) ?_;refine eT r rfl rfl (by simp[bV,aA.ay,hm,Lh hi]) ?_;have hlen:∃len:Nat,ht Tryz.prog 22 r=some (.int .i64 len)/\(0<len->∃off cs,r=.sl none 1 off len cs/\cs.length=len/\∀c∈cs,∃n,c=.int .i64 n):=by
  rcases ad with rfl|⟨off,len,cs,rfl,U,ab⟩
  ·exact⟨0,by simp[ht,Cc],λh=>absurd h (by omega)⟩
  ·exact⟨len,by simp[ht,Cc],λ_=>⟨off,cs,rfl,U,ab⟩⟩
 obtain⟨len,hlen,hB⟩:=hlen;refine eT (.int .i64 len) rfl rfl (by simp[bV,aA.ay,hlen]) ?_;refine eT (.bool (decide (0<(len:Int)))) rfl rfl (by simp[bV,aA.ay,jT,eB]) ?_;refine gen (λs'=>s'.g 0=.ptr i 0/\s'.m={ m with β:=ea m.β i (.cells [r,.int .u64 x]) }/\s'.bb=[]/\s'.g 3=.int .u64 0/\s'.g 10=.bool (decide (0<(len:Int)))) (by simp[ae,hm,he]) ?_;clear ae hm he s;rintro s ⟨ae,hm,he,al,h7⟩;refine aav (λs'=>∃bR ua,wH bR/\s'.g 0=.ptr i 0/\s'.g 3=.int .u64 ua/\s'.m={ m with β:=ea m.β i (.cells [bR,.int .u64 x]) }/\s'.bb=[]) ?_ ?_
 ·refine AA (decide (0<(len:Int))) (by simp[aA.ay,h7]) ?_;by_cases aU:0<len
  ·rw[if_pos (by simp;omega)];obtain⟨off,cs,rfl,iu,hcs⟩:=hB aU;cases cs with
   |nil=>simp at iu;omega
   |cons c cs=>
    obtain⟨n,rfl⟩:=hcs c (by simp);refine o6 (qL ?_);refine eT (.ptr i 0) rfl rfl (by simp[bV,aA.ay,ae]) ?_;refine eT (.ptr i 0) rfl rfl (by simp[bV,aA.ay]) ?_;refine eT (.ptr i 0) rfl rfl (by simp[bV,aA.ay,F3]) ?_;refine eT (.sl none 1 off len (.int .i64 n::cs)) rfl rfl (by simp[bV,aA.ay,hm,Lh hi]) ?_;refine eT (.bJ none off (.int .i64 n::cs)) rfl rfl (by simp[bV,aA.ay,jT,pT,Cc,Lf,Lg,aU]) ?_;refine eT (.int .i64 n) rfl rfl (by simp[bV,aA.ay,h0,nW,show ik Tryz.prog 3=some false by kernel_rfl]) ?_;refine eT (.int .u64 (IntKind.u64.wrap n)) rfl rfl (by simp[bV,aA.ay,q5,aik,ail]) ?_;refine eT (.int .u64 (IntKind.u64.wrap n)) rfl rfl (by simp[bV,aA.ay]) ?_;refine gen (λs'=>s'.g 0=.ptr i 0/\s'.m={ m with β:=ea m.β i (.cells [.sl none 1 off len (.int .i64 n::cs),.int .u64 x]) }/\s'.bb=[]/\s'.g 3=.int .u64 (IntKind.u64.wrap n)) (by simp[ae,hm,he]) ?_;clear ae hm he al h7 s;rintro s ⟨ae,hm,he,al⟩;have af3:∃bR,p1 Tryz.prog 22 (.sl none 1 off len (.int .i64 n::cs)) (some (.int .i64 1)) none=some bR/\wH bR:=by
     by_cases U:1=len
     ·refine⟨.sl none 1 0 0 [],by simp[p1,Cc,rm,Lf,Lg,←U],.inr ⟨0,0,[],rfl,rfl,by simp⟩⟩
     ·refine⟨.sl none 1 (off+1) (len-1) cs,?_,.inr ⟨off+1,len-1,cs,rfl,by simp at iu;omega,λc ah=>hcs c (by simp[ah])⟩⟩;have:cs.take (len-1)=cs:=List.take_of_length_le (by simp at iu;omega);simp[p1,Cc,rm,Lf,Lg,U,this];omega
    obtain⟨bR,vz,nq⟩:=af3;refine qL ?_;refine eT (.ptr i 0) rfl rfl (by simp[bV,aA.ay,ae]) ?_;refine eT (.ptr i 0) rfl rfl (by simp[bV,aA.ay,ae]) ?_;refine eT (.ptr i 0) rfl rfl (by simp[bV,aA.ay]) ?_;refine eT (.ptr i 0) rfl rfl (by simp[bV,aA.ay,F3]) ?_;refine eT (.sl none 1 off len (.int .i64 n::cs)) rfl rfl (by simp[bV,aA.ay,hm,Lh hi]) ?_;refine eT bR rfl rfl (by simp[bV,aA.ay,jT,vz]) ?_;refine eT (.ptr i 0) rfl rfl (by simp[bV,aA.ay]) ?_;refine eT (.ptr i 0) rfl rfl (by simp[bV,aA.ay,F3]) ?_;refine HD (id:=i) (off:=0) (v:=bR) (l:=[.sl none 1 off len (.int .i64 n::cs),.int .u64 x]) (by simp[aA.ay]) (by simp[aA.ay]) (by simp[hm,hi]) aij aii (G4 nq).2 (by rcases nq with rfl|⟨_,_,_,rfl,_⟩<;>rfl) (by simp[hm]) (by simp) ?_;exact⟨rfl,bR,_,nq,by simp[ae],by simp[al];rfl,by simp[hm,fa,Aq],by simp[he]⟩
  ·rw[if_neg (by simp;omega)];exact OY ⟨rfl,r,0,ad,ae,al,hm,he⟩
 rintro s ⟨bR,ua,ir,ae,al,hm,he⟩;refine o6 (qL ?_);refine eT (.ptr i 0) rfl rfl (by simp[bV,aA.ay,ae]) ?_;refine eT (.ptr i 0) rfl rfl (by simp[bV,aA.ay,ae]) ?_;refine eT (.ptr i 0) rfl rfl (by simp[bV,aA.ay]) ?_;refine eT (.ptr i 1) rfl rfl (by simp[bV,aA.ay,xH]) ?_;refine eT (.int .u64 x) rfl rfl (by simp[bV,aA.ay,hm,Cd hi]) ?_;refine eT (.int .u64 ua) rfl rfl (by simp[bV,aA.ay,al]) ?_;refine eT (.int .u64 (IntKind.u64.wrap (x+ua))) rfl rfl (by simp[bV,aA.ay,eB]) ?_;refine eT (.int .u64 (IntKind.u64.wrap (IntKind.u64.wrap (x+ua)+6364136223846793005))) rfl rfl (by simp[bV,aA.ay,jT,eB]) ?_;generalize IntKind.u64.wrap (IntKind.u64.wrap (x+ua)+6364136223846793005)=mK;refine eT (.int .u64 (IntKind.u64.wrap (mK*15074714826142052245))) rfl rfl (by simp[bV,aA.ay,jT,eB]) ?_;generalize IntKind.u64.wrap (mK*15074714826142052245)=jh;refine eT (.ptr i 0) rfl rfl (by simp[bV,aA.ay]) ?_;refine eT (.ptr i 1) rfl rfl (by simp[bV,aA.ay,xH]) ?_;refine HD (id:=i) (off:=1) (v:=.int .u64 jh) (l:=[bR,.int .u64 x]) (by simp[aA.ay]) (by simp[aA.ay]) (by simp[hm,hi]) Uo Un rfl rfl (by simp[hm]) (by simp) ?_;refine gen (λs'=>s'.g 0=.ptr i 0/\s'.m={ m with β:=ea m.β i (.cells [bR,.int .u64 jh]) }/\s'.bb=[]) (by simp[ae,hm,he,fa,Aq]) ?_;clear ae hm he al s;rintro s ⟨ae,hm,he⟩;refine o6 (H9 (by kernel_rfl) 11 (by kernel_rfl) (λ_ _ _ _ _=>False) ?_);refine jm (.ptr i 0) _ _ rfl rfl (by simp[bV,aA.ay,ae]) ?_;refine jm (.ptr i 0) _ _ rfl rfl (by simp[bV,aA.ay,ae]) ?_;refine jm (.ptr i 0) _ _ rfl rfl (by simp[bV,aA.ay]) ?_;refine jm (.ptr i 1) _ _ rfl rfl (by simp[bV,aA.ay,xH]) ?_;refine jm (.int .u64 jh) _ _ rfl rfl (by simp[bV,aA.ay,hm,Cd hi]) ?_;refine jm (.ptr i 0) _ _ rfl rfl (by simp[bV,aA.ay,ae]) ?_;refine jm (.ptr i 0) _ _ rfl rfl (by simp[bV,aA.ay]) ?_;refine jm (.ptr i 1) _ _ rfl rfl (by simp[bV,aA.ay,xH]) ?_;refine jm (.int .u64 jh) _ _ rfl rfl (by simp[bV,aA.ay,hm,Cd hi]) ?_;refine jm (.int .u64 (jh.fdiv (2^29))) _ _ rfl rfl (by simp[bV,aA.ay,jT,eB,IntKind.bits]) ?_;generalize jh.fdiv (2^29)=vK;refine jm (.int .u64 (bits .xor .u64 jh vK)) _ _ rfl rfl (by simp[bV,aA.ay,eB]) ?_;generalize bits .xor .u64 jh vK=mP;refine eT (.ptr i 0) rfl rfl (by simp[bV,aA.ay]) ?_;refine eT (.ptr i 1) rfl rfl (by simp[bV,aA.ay,xH]) ?_;refine HD (id:=i) (off:=1) (v:=.int .u64 mP) (l:=[bR,.int .u64 jh]) (by simp[aA.ay]) (by simp[aA.ay]) (by simp[hm,hi]) Uo Un rfl rfl (by simp[hm]) (by simp) ?_;refine gen (λs'=>s'.g 0=.ptr i 0/\s'.m={ m with β:=ea m.β i (.cells [bR,.int .u64 mP]) }/\s'.bb=[]) (by simp[ae,hm,he,fa,Aq]) ?_;clear ae hm he s;rintro s ⟨ae,hm,he⟩;refine o6 (H9 (by kernel_rfl) 11 (by kernel_rfl) (λ_ _ _ _ _=>False) ?_);refine jm (.ptr i 0) _ _ rfl rfl (by simp[bV,aA.ay,ae]) ?_;refine jm (.ptr i 0) _ _ rfl rfl (by simp[bV,aA.ay]) ?_;refine jm (.ptr i 1) _ _ rfl rfl (by simp[bV,aA.ay,xH]) ?_;refine jm (.int .u64 mP) _ _ rfl rfl (by simp[bV,aA.ay,hm,Cd hi]) ?_;refine jm (.ptr i 0) _ _ rfl rfl (by simp[bV,aA.ay,ae]) ?_;refine jm (.ptr i 0) _ _ rfl rfl (by simp[bV,aA.ay]) ?_;refine jm (.ptr i 1) _ _ rfl rfl (by simp[bV,aA.ay,xH]) ?_;refine jm (.int .u64 mP) _ _ rfl rfl (by simp[bV,aA.ay,hm,Cd hi]) ?_;refine jm (.int .u64 (mP.fdiv (2^33))) _ _ rfl rfl (by simp[bV,aA.ay,jT,eB,IntKind.bits]) ?_;generalize mP.fdiv (2^33)=Vf;refine jm (.int .u64 (bits .xor .u64 mP Vf)) _ _ rfl rfl (by simp[bV,aA.ay,eB]) ?_;generalize bits .xor .u64 mP Vf=LU;refine jm (.int .u64 (IntKind.u64.wrap (LU*18397679294719823053))) _ _ rfl rfl (by simp[bV,aA.ay,jT,eB]) ?_;have hb:=wrap_u64 (LU*18397679294719823053);generalize IntKind.u64.wrap (LU*18397679294719823053)=z5 at hb;refine eT (.int .u64 z5) rfl rfl (by simp[bV,aA.ay]) ?_;refine gen (λs'=>s'.g 4=.int .u64 z5/\s'.m={ m with β:=ea m.β i (.cells [bR,.int .u64 mP]) }/\s'.bb=[]) (by simp[hm,he]) ?_;clear ae hm he s;rintro s ⟨ae,hm,he⟩;refine o6 (qL ?_);refine eT (.int .u64 z5) rfl rfl (by simp[bV,aA.ay,ae]) ?_;refine eT (.int .u64 (z5.fdiv (2^32))) rfl rfl (by simp[bV,aA.ay,jT,eB,IntKind.bits]) ?_;refine eT (.int .u64 (z5.fdiv (2^32))) rfl rfl (by simp[bV,aA.ay]) ?_;refine Iz ⟨.inr rfl,.int .u64 (z5.fdiv (2^32)),?_,_,_,.inl ⟨rfl,rfl⟩,⟨_,rfl,?_,?_⟩,by simp[he],bR,mP,ir,by simp[hm]⟩
 ·show pt _ _ [.tmp 2]=_;simp[pt,q9,uQ]
 ·rw[Int.fdiv_eq_ediv_of_nonneg _ (by decide)];omega
 ·rw[Int.fdiv_eq_ediv_of_nonneg _ (by decide)];omega
theorem MB{φ:bo}{m:Mem}{w:World}{j:Nat}{l:List aa}{DI:List aa->Prop}(h:c0 φ m w)(aC:m.β j=.cells l)(dQ:DI l)(ae:bG l=true):c0 φ { m with β:=ea m.β j (.inv DI) } w:=by
 refine⟨λk aq=>?_,h.dt,h.arr,h.jo,h.hp,h.sep,h.gw⟩;by_cases e:k=j
 ·subst e;obtain⟨b,cs,e,U,ab,al⟩:=h.cells aq (by grind);rw[aC]at al;exact .inr ⟨b,cs,e,U,ab,by simp ;exact⟨l,dQ,λe=>pS e l ae,λn=>ox n l ae,al⟩⟩
 ·simp only[qK _ _ _ _ e];exact h.box k aq
theorem Wh{φ:bo}{m:Mem}{w:World}{j:Nat}{DI:List aa->Prop}(h:c0 φ m w)(aC:j<m.n)(hb:m.β j=.inv DI):∃l,DI l/\c0 φ { m with β:=ea m.β j (.cells l) } w:=by
 obtain⟨b,cs,e,U,ab,al⟩:=h.cells aC (by grind);rw[hb]at al;obtain⟨l,dQ,_,_,aJ⟩:=al;refine⟨l,dQ,λk aq=>?_,h.dt,h.arr,h.jo,h.hp,h.sep,h.gw⟩;by_cases e':k=j
 ·subst e';exact .inr ⟨b,cs,e,U,ab,by simp ;exact aJ⟩
 ·simp only[qK _ _ _ _ e'];exact h.box k aq
theorem ab6(β:Nat->di)(i:Nat)(c:di)(h:β i=c):ea β i c=β:=by grind [ea]
def nU:b2->FuncId->List aa->Option aa:=λω g args=>if g=62 then match args with
 |[.ptr 0 0]=>some (.int .u64 ((ω []%4294967296:Nat):Int))
 |_=>none
 else none
theorem Hh{ω:b2}{g:FuncId}{args:List aa}{v:aa}(h:nU ω g args=some v):g=62/\args=[.ptr 0 0]/\v=.int .u64 ((ω []%4294967296:Nat):Int):=by grind [nU]
theorem yi:jq Tryz.prog pn nU:=by
 refine⟨λg args ao args' m au=>?_,λω g args v h=>?_,λω g args v h=>?_⟩
 ·obtain⟨v0,aT⟩:=Option.isSome_iff_exists.1 (ao gP);obtain⟨rfl,rfl,_⟩:=Hh aT;obtain⟨q,aG,rfl,U,ab⟩:=au;subst ab;rcases U with⟨rfl,ae⟩|⟨_,i,rfl,hi,hb⟩
  ·trivial
  ·intro φ af w hm ai;obtain⟨l,⟨r,x,rfl,ad⟩,xu⟩:=Wh hm hi hb;refine(ab5 hi (Ap.1 ad) φ af w xu ai).mono ?_;rintro e w' ⟨v,pv,E,m',bn,rfl,eW,eX,eo,⟨n,rfl,Li,Up⟩,rfl,bR,bk,ir,rfl⟩;have cD:=G4 ir;have kU:=MB (DI:=pn) (j:=i) (l:=[bR,.int .u64 bk]) eX (by simp) ⟨bR,bk,rfl,Ap.2 ir⟩ (by simp only[bG,cD.1,cD.2];rfl);simp only[Aq]at kU;rw[ab6 _ _ _ hb]at kU;refine⟨v,_,[],m,bn,rfl,eW,kU,eo,⟨λ_=>n.toNat,?_⟩,rfl,rfl,rfl⟩;grind [nU]
 ·obtain⟨_,_,rfl⟩:=Hh h;rfl
 ·obtain⟨rfl,_,_⟩:=Hh h;trivial
theorem adF(x:aa)(h:x.known=true)(ah:x.cells=[x]):sI Tryz.prog 85 [(0,x),(1,.int .u64 1)]=some (.agg [x,.int .u64 1]):=by
 have bO:ki Tryz.prog 85=some [.bC,.int .u64 0]:=by kernel_rfl
 obtain⟨fs,hu,au,aT,U⟩:∃fs:Array Field,Tryz.prog.underlying 85=some (.struct fs)/\fs.toList.all (λf=>(Tryz.prog.info? f.type).isSome)=true/\ya Tryz.prog fs 0=some (0,1)/\ya Tryz.prog fs 1=some (1,1):=
  ⟨(match Tryz.prog.underlying 85 with|some (.struct fs)=>fs|_=>#[]),by kernel_rfl,by kernel_rfl,by kernel_rfl,by kernel_rfl⟩
 simp only[sI,hu,bO,au,if_true];have aK:(aa.int .u64 1).cells=[.int .u64 1]:=rfl;have aO:(aa.int .u64 1).known=true:=rfl;grind [kJ,fa]
theorem ab7:Qs Tryz.prog pn 11:=by
 intro x m aj;have hc:=G4 (Ap.1 aj);have ah:x.cells=[x]:=by rcases Ap.1 aj with rfl|⟨_,_,_,rfl,_⟩<;>rfl
 have aq:x.known=true:=by rcases Ap.1 aj with rfl|⟨_,_,_,rfl,_⟩<;>rfl
 have key:gL Tryz.prog 11 [x] m λv E m'=>v=.ptr m.n 0/\E=[]/\m'=⟨ea m.β m.n (.cells [x,.int .u64 1]),m.n+1,m.an,m.rc⟩:=by
  refine GQ (fn:=Tryz.f11) (by kernel_rfl) rfl (Nat.le_of_ble_eq_true rfl) (by kernel_rfl) (by kernel_rfl) ?_;have ae:(entry [x] m).g 0=x:=rfl;have hm:(entry [x] m).m=m:=rfl;have he:(entry [x] m).bb=[]:=rfl;refine o6 (qL ?_);refine eT .ca rfl rfl (by rfl) ?_;refine o6 (qL ?_);refine eT x rfl rfl (by simp[bV,aA.ay,ae]) ?_;refine eT (.agg [x,.int .u64 1]) rfl rfl (by simp_all[bV,aA.ay,jT,adF]) ?_;refine ab4 (l:=[x,.int .u64 1]) (by rfl) (by rfl) ?_;refine eT (.ptr m.n 0) rfl rfl (by simp[bV,aA.ay,hm]) ?_;refine Iz ⟨.inr rfl,.ptr m.n 0,?_,_,_,.inl ⟨rfl,rfl⟩,rfl,by simp[he],?_⟩;all_goals simp_all[pt,q9,uQ]
 intro φ af w hm ai;refine(key φ af w hm ai).mono ?_;rintro e w' ⟨v,pv,E,m',bn,rfl,eW,eX,eo,rfl,rfl,rfl⟩;have kU:=MB (DI:=pn) (j:=m.n) (l:=[x,.int .u64 1]) eX (by simp) ⟨x,1,rfl,aj⟩ (by simp only[bG,hc.1,hc.2];rfl);grind [Aq]
end
end
section
open Go Go.Conc Go.RowKit
structure adG(args:List aa)(l:List Nat)(ah eg:List aa)(cy:aa)(n:Nat)(bit:Nat->Bool):Prop where
 a:args=[.agg ah,.agg eg]
 d1:hv ah=true
 d2:hv eg=true
 gr:bG ah=true
 p2:bG eg=true
 q:ah[1]?=some cy
 r:Ke cy n
 U4:n<=4
 b:∀i,i<n->∀ω,PP.E cl 9 ω 103 [.ca,.bJ none 0 ah,.bJ none 0 [.int .i64 (i:Int)],.bJ none 0 eg,.ca]=some (.bD [.bool (bit i),.int .i64 (i:Int)])
 l:l=rN n bit
def yX(args:List aa)(l:List Nat):Prop:=∃ah eg cy n bit,adG args l ah eg cy n bit
open Classical in
noncomputable def pj(ω:b2)(g:FuncId)(args:List aa):Option aa:=
 if g=58 then(if h:∃l,yX args l then some (lS h.choose)else none)else nU ω g args
theorem Ns(l:List Nat):(lS l).plain=true:=by
 unfold lS;split
 ·rfl
 ·simp only[aa.plain];generalize l=l;induction l with
  |nil=>rfl
  |cons a l az=>simp_all[bG,aa.plain,aa.one]
section
variable[cQ]
theorem Y0{φ:bo}{m:Mem}{w:World}{l:List Nat}(hm:c0 φ m w){τ:Tape}{d:Nat}{v:Value}{w1:World}(h:JI l (a8 w τ d) v w1):aY φ w1 (lS l) v/\c0 φ m w1/\Step φ w φ w1 []:=by
 have sd:=hm.a8 τ d;rcases h with⟨rfl,rfl,rfl⟩|⟨bU,c,e,f,cap,U,rfl,rfl,ab⟩
 ·exact⟨rfl,sd,sD φ w τ d⟩
 ·have aN:jQ (a8 w τ d) { a8 w τ d with heap:=(a8 w τ d).heap.push (.cells c e f) }:=⟨rfl,rfl,by simp,λb hb=>by
   show((a8 w τ d).heap.push _)[b]?=_;rw[Array.getElem?_push_lt hb];exact(Array.getElem?_eq_getElem hb).symm⟩
  have k1:=yg aN sd (λ_ _ h=>h) (λ_ _ h=>h) (λb h=>.inl h);have bf:=N1 sd aN k1;refine⟨?_,bf,(sD φ w τ d).trans (x9 aN k1)⟩;cases l with
  |nil=>exact absurd rfl bU
  |cons i0 fY=>
   refine⟨by simp,_,cap,rfl,U,.inr ⟨_,rfl,⟨?_,?_⟩,sA λj p aC=>?_⟩⟩
   ·rintro(⟨i,h⟩|⟨i,h⟩)
    ·exact Nat.lt_irrefl _ (mo sd h)
    ·exact Nat.lt_irrefl _ (jN sd h)
   ·show _<((a8 w τ d).heap.push _).size;simp
   ·rw[List.getElem?_map]at aC;obtain⟨i,hi,rfl⟩:=Option.map_eq_some_iff.1 aC;refine⟨Value.int .i64 ((i:Nat):Int),?_,rfl⟩;have du:((a8 w τ d).heap.push (.cells c e f))[(a8 w τ d).heap.size]?=some (.cells c e f):=by simp
    have aeG:({ a8 w τ d with heap:=(a8 w τ d).heap.push (.cells c e f) }:World).heap[(a8 w τ d).heap.size]?=some (.cells c e f):=du;simp only[World.cell?,aeG,Nat.zero_add];simpa using ab j i hi
end
theorem XH:@jq my Tryz.prog pn pj:=by
 letI:=my
 refine⟨λg args ao args' m au=>?_,λω g args v h=>?_,λω g args v h=>?_⟩
 ·by_cases aN:g=58
  ·subst aN;have aT:=ao gP;unfold pj at aT;rw[if_pos rfl]at aT;have hex:∃l,yX args l:=by
    by_cases h:∃l,yX args l
    ·exact h
    ·rw[dif_neg h]at aT;cases aT
   have ah:=hex.choose_spec;obtain⟨ah,eg,cy,n,bit,aw⟩:=ah;have zi:∀ω,pj ω 58 args=some (lS hex.choose):=λω=>by unfold pj;rw[if_pos rfl,dif_pos hex]
   generalize hex.choose=l at aw zi;intro φ af w hm ai;have kR:args'=args:=by
    rw[aw.a]at au⊢;obtain⟨q,aG,rfl,U,dM,ei,rfl,ab,al⟩:=au;have al:ei=[]:=al;subst al;rcases U with⟨rfl,_⟩|⟨h,_⟩
    ·rcases ab with⟨rfl,_⟩|⟨h,_⟩
     ·rfl
     ·cases h
    ·cases h
   subst kR;have gm:=ai;rw[aw.a]at gm;refine WR (Post:=λv w1=>∃τ d,JI l (a8 w τ d) v w1) (λτ d=>⟨rfl,?_,φ,ah,eg,cy,n,bit,?_,aw.d1,aw.d2,aw.gr,aw.p2,aw.q,aw.r,aw.U4,λi hi=>YZ aw.gr aw.p2 (aw.b i hi),λv w1 h=>⟨τ,d,aw.l▸h⟩⟩) λv w' ⟨τ,d,ad⟩=>?_
   ·obtain⟨_,_,rfl,_,_,_,rfl,_,h⟩:=gm;have h:_=[]:=h;subst h;rfl
   ·exact bl.keeps (DS φ w τ d) _ _ (by simpa using gm)
   ·obtain⟨U,ab,al⟩:=Y0 hm ad;exact⟨v,lS l,[],m,φ,rfl,U,ab,al,⟨gP,zi gP⟩,Ns l,rfl,rfl⟩
  ·have e:∀ω,pj ω g args=nU ω g args:=λω=>by unfold pj;rw[if_neg aN]
   refine(yi.zG g args (λω=>e ω▸ao ω) args' m au).mono λpv E m' ⟨⟨ω,h⟩,ab⟩=>⟨⟨ω,(e ω).trans h⟩,ab⟩
 ·unfold pj at h;split at h
  ·split at h
   ·cases h;exact Ns _
   ·cases h
  ·exact yi.plain ω g args v h
 ·unfold pj at h;split at h
  ·rename_i aN;subst aN;exact⟨_,Tryz.func58,by decide,rfl⟩
  ·exact yi.fn ω g args v h
end
section
open Go Go.RowKit Go.WideShapes Go.ChangeShapes Go.Conc
section
variable{H:Type}{enc:TypeId×Value->H}
theorem Wk:∀f a w nE,@cQ.spec my f a w nE->nO Tryz.prog f/\a.size=arity Tryz.prog f:=by
 intro f a w nE h;have aQ:f=58:=h.1;have au:a.size=2:=h.2.1;subst aQ;exact⟨Hj (by kernel_rfl),au.trans (by kernel_rfl)⟩
def apN(f:FuncId):Bool:=!ag0.contains f&&f != 87
theorem apP:(ag0++[87]).all (λg=>match Tryz.prog.funcs[g]? with
  |some fn=>(match fn.body with
   |some c=>Ii (if g=87 then[87]else ag0) c&&iC g&&!(fn.name == "runtime.NumGoroutine")
   |none=>false)
  |none=>false)=true:=by kernel_rfl
theorem apQ{f:FuncId}(aQ:apN f=true):∀g L,apO g L->IL Tryz.prog iC L f g:=by
 have key:∀g L,g∈ag0++[87]->L=(if g=87 then[87]else ag0)->∃fn c,Tryz.prog.funcs[g]?=some fn/\fn.body=some c/\(fn.name == "runtime.NumGoroutine")=false/\Ii L c=true/\codeOk Tryz.prog iC c=true:=λg L aN dg=>by
  have h:=List.all_eq_true.1 apP g aN;subst dg;cases U:Tryz.prog.funcs[g]? with
  |none=>rw[U]at h;cases h
  |some fn=>
   rw[U]at h;dsimp only at h;cases ab:fn.body with
   |none=>rw[ab]at h;cases h
   |some c=>
    rw[ab]at h;simp only[Bool.and_eq_true,Bool.not_eq_true']at h;obtain⟨apS,_,c2,k1,_,bf,_,_,_,bP⟩:=adr.fns g h.1.2;rw[U]at k1;cases k1;rw[ab]at bf;cases bf;exact⟨fn,c,rfl,ab,h.2,h.1.1,bP⟩
 simp only[apN,Bool.and_eq_true,Bool.not_eq_true',bne_iff_ne,ne_eq]at aQ;have apR:∀g∈ag0,g≠87:=by decide
 rintro g L (⟨rfl,rfl⟩|⟨rfl,rfl⟩)
 ·exact⟨by decide,λh=>(by rw[List.contains_iff_mem.2 h]at aQ;cases aQ.1),λg aN=>key g _ (by simp[aN]) (by rw[if_neg (apR g aN)])⟩
 ·exact⟨by simp,λh=>aQ.2 (by simpa using h),λg aN=>by
   have:g=87:=by simpa using aN
   subst this;exact key 87 _ (by simp) rfl⟩
theorem aaL{f:FuncId}{fn:Func}{s:ChangeSpec}{k:Nat}{bt:TypeId}{apart fresh handsOn again:Bool}(ak:laidOutB Tryz.prog=true)(ai:s.vars=[])(F8:fn.resultTypes=#[bt])(F9:Tryz.prog.underlying bt=some .bool)(aq:fn.params.toList.all (sN Tryz.prog k)=true)(mE:∀t∈fn.params.toList,Tryz.prog.readableRec t=true/\t<Tryz.prog.types.size)
  (ao:∀ds:List (DataW H),ds.length=fn.params.size->s.fn H (ds++[])={ results:=[.lit (.bool true)],args:=ds }) (aw:iC f=true) (c1:Tryz.prog.inits.idxOf? f=none) (acn:apN f=true)
  (e4:∀bz,qu Tryz.prog k fn.params.toList bz->∀m,@gL my Tryz.prog f bz m λv E m'=>v=.bool true/\E=[]/\m'=m)
  {W:World} {base:Nat} {args:Array Value} {ds gs:List (DataW H)} {before:List MemPlace} (vL:Tryz.prog.globals.size<=W.heap.size) (zi:∀(j:Nat) t v,fn.params[j]?=some t->args[j]?=some v->Value.okWide Tryz.prog W .any base t v)
  (hW:DataW.Whole enc Tryz.prog fn.params.toList s.vars apart W args.toList ds gs before):
  ∃M last o w' bw,runNT Tryz.prog (M+1) (solo (G (Frame.enter Tryz.prog f args .normal) []) W) #[]=(.ended o w',bw)/\runN Tryz.prog M (solo (G (Frame.enter Tryz.prog f args .normal) []) W)=.next last /\
    step Tryz.prog last=.ended o w'/\Conc.Good Tryz.prog (λv W'=>s.post enc Tryz.prog fn apart fresh handsOn again W.blind args v W'.blind) last o w' bw:=by
 letI:=my
 have UA:=hW;obtain⟨p,q,aW,ew,rfl,ag5,amd⟩:=hW;rw[ai]at ew;obtain⟨rfl,rfl⟩:=trodVars_none ew;obtain⟨V,k1,bf,_,_,_,_,_,bP,_⟩:=Nr (bH Tryz.prog iC) (rows W) W vL λb hb=>hb;obtain⟨uX,bz,U,ab⟩:=On (C:=bH Tryz.prog iC) (M:=rows W) (λ_=>rfl) (λb c e f h=>⟨c,e,f,h⟩) bf bP (k:=k) aW (λj t v a1 ai=>zi j t v (by simpa using a1) (by simpa using ai)) aq;have hlen:ds.length=fn.params.size:=by
  have:∀{ts:List TypeId}{af:List Value}{ds:List (DataW H)}{ps:List MemPlace},DataW.TrodAll enc Tryz.prog W 0 (λ_=>true) true ts af ds ps->ds.length=ts.length:=by
   intro ts;induction ts with
   |nil=>intro af ds ps h;cases af<;>cases ds<;>simp_all[DataW.TrodAll]
   |cons t ts az=>intro af ds ps h;cases af<;>cases ds<;>simp only[DataW.TrodAll]at h;obtain⟨p,q,_,ab,_⟩:=h;simp[az ab]
  simpa using this aW
 have ah:=(Mk (R:=λv=>v=.bool true) (f:=f) (λm=>e4 bz ab m) U).mono (R':=λe w'=>e=.returned (.bool true)) λe w' ⟨v,pv,bn,he,ad,ae,_⟩=>by
  subst ae;have ad:v=.bool true:=ad;rw[he,ad]
 refine XN (R:=λe w'=>e=.returned (.bool true)) (p:=Tryz.prog) (p':=Tryz.prog) (F:=iC) aet adr vL (ab2 adE) aw c1 Wk (apQ acn) (λv a3 k3 bF σ cn g2 _ vy=>?_) k1 (bE.As uX) (by simpa using ah);injection cn with aiD;subst aiD;cases g2
 have fM:=ao ds hlen;have hb:Below W.heap.size W (a8 bF W.tape bF.drawn):=⟨vy.os,rfl,vy.out,vy.size,vy.blk⟩;refine ChangeSpec.post_blind (W':=a8 bF W.tape bF.drawn) (VW (pa:=p) (pv:=[]) UA (λb sp aV=>?_) (λsp agz=>?_) (λsp _=>?_) rfl hb (ok_one F8 rfl (okWide_bool_mk F9 true)))
 ·rw[F8,fM];exact trodAll_mk1 (shut_bool F9 true)
 ·rw[fM];exact Mn ak hb aW mE (λx aj=>UA.lt x (by simpa using aj)) (λx aj=>agz x (by simpa using aj))
 ·rw[ai,fM];rfl
end
end
section
open Go Go.RowKit
def tj:FuncId->Option (Option (Nat×Nat)):=λg=>if g=53 then some (some (5,0))else if g=163 then some none else if g=31 then some none else none
noncomputable def GL:iN:=⟨Tryz.prog,⟨11,none,none⟩,UY,UZ,tj,S4++[{g:=6,k:=[ao 0 253 [⟨false,9,0,some (5,.cZ),false⟩] [8,9,1,7],ao 0 506 [⟨false,9,0,some (5,.cZ),false⟩,ae 10] [8,7,1,10,9],ao 0 1020 [ae 52] [52,8,11,9,1,7],ao 0 1021 [] [8,11,9,1] [1],ao 0 4093 [] [],ao 0 8186 [ae 13] [12,8,13],ao 0 2095694 [ae 125] [125,12,8,13]],c:=[(0,10001),(0,17009)],r:=[(31,none,5,true)]},
 {g:=12,k:=[ao 0 29 [⟨true,1,1,some (3,.cZ),false⟩] [4,5],ao 0 58 [ae 6,⟨true,1,1,some (3,.cZ),false⟩] [5,0,4,6]]},
 {g:=13,k:=[ao 0 125 [⟨true,3,1,none,false⟩,⟨true,3,2,none,false⟩] [4,7,0],ao 0 252 [ae 53] [53,4,7,0],ao 0 253 [] [4,7,0] [0]],c:=[(0,3018)],r:=[(53,(some (5,0)),1,true)]},
 {g:=15},
 {g:=16,k:=[ao 0 29 [ae 5] [5],ao 0 58 [ae 5,ae 6] [1,0,6,5],ao 0 464 [ae 18] [18,1,0,6,5]]},
 {g:=17,k:=[ao 0 14 [ae 5] [5,0],ao 0 28 [ae 5] [0,1,5],ao 0 224 [ae 17] [17,0,1,5]]},
 {g:=18},
 {g:=20,k:=[ao 0 510 [ae 0] [0]]},
 {g:=21,k:=[ao 0 12 [ae 15] [15,2,1],ao 0 29 [] [1],ao 0 58 [ae 5] [2,1,5],ao 0 61 [] [],ao 0 122 [ae 6] [1,6]]},
 {g:=22,s:=[2002],k:=[ao 0 61 [] [5,6,2] [0],ao 2002 29 [] [2,1,3] [0],ao 2002 58 [ae 4] [1,3,2,4] [0]],i:=[24]},
 {g:=23},
 {g:=24,k:=[ao 0 29 [] [2,1,3] [0],ao 0 58 [ae 4] [1,3,2,4] [0]]},
 {g:=25},
 {g:=29,k:=[ao 0 6 [ae 8] [8]]},
 {g:=30,k:=[ao 0 29 [⟨true,1,0,some (1,.cZ),false⟩] [2,3],ao 0 58 [ae 4,⟨true,1,0,some (1,.cZ),false⟩] [3,0,2,4]]},
 {g:=31,k:=[ao 0 29 [] [3] [0],ao 0 58 [ae 4] [0,3,4] [0]]},
 {g:=32,k:=[ao 0 1789 [⟨false,9,0,some (1,.cZ),false⟩] [9],ao 0 3578 [ae 39,⟨false,9,0,some (1,.cZ),false⟩] [7,9,1,38,39],ao 0 916069 [] [10,7,1,38,39,9] [] [5],ao 0 1832138 [ae 44] [7,9,1,38,39,10,42,43,44] [] [5],ao 0 3664285 [⟨false,13,0,some (1,.cZ),false⟩] [7,1,38,39,13,9],ao 0 7328570 [⟨false,13,0,some (1,.cZ),false⟩,ae 59] [10,7,1,38,39,9,58,59,13],ao 0 938057011 [⟨false,13,0,some (1,.cZ),false⟩] [10,7,1,38,39,9,58,13,59]]},
 {g:=33,k:=[ao 0 125 [] [],ao 0 250 [ae 8] [1,2,8],ao 0 16019 [] [1,2,8],ao 0 32038 [ae 10] [10,9,1,2,8],ao 0 4100901 [ae 11] [10,9,1,2,8,11],ao 0 8201802 [ae 11,ae 12] [10,9,1,2,8,12,11],ao 0 1049830693 [ae 14] [10,9,1,2,8,12,14,11],ao 0 2099661386 [ae 14,ae 15] [13,10,9,1,2,8,12,11,15,14],ao 0 33594582180 [ae 14] [13,10,9,1,2,8,12,11,14,15],ao 0 524915347 [ae 11] [10,9,1,2,8,11,12]]},
 {g:=35,s:=[5005,5005011005],k:=[(5005,7,⟨[⟨true,5,0,some (1,.cZ),false⟩],[],[],[],true⟩),(5005,14,⟨[ae 18,⟨true,5,0,some (1,.cZ),false⟩],[],[3,5,4,6,17,18],[],true⟩),(5005,3687,⟨[⟨true,5,0,some (1,.cZ),false⟩],[],[3,5,4,6,17,18],[],true⟩),(5005,7374,⟨[ae 30,⟨true,5,0,some (1,.cZ),false⟩],[],[8,3,9,28,5,4,6,17,18,29,30],[],true⟩),(5005,943923,⟨[⟨true,5,0,some (1,.cZ),false⟩],[],[8,3,9,28,5,4,6,17,18,29,30],[],true⟩),(5005,1887846,⟨[ae 36,⟨true,5,0,some (1,.cZ),false⟩],[],[11,8,3,34,9,28,5,4,6,17,18,29,30,35,36],[],true⟩),(5005011005,255,⟨[⟨true,5,0,some (1,.cZ),false⟩],[],[],[],true⟩)],t:=[(0,8,0)]},
 {g:=40},
 {g:=41,k:=[ao 0 61 [] [],ao 0 122 [ae 21] [19,20,21]]},
 {g:=42},
 {g:=43},
 {g:=45,k:=[ao 0 29 [] [],ao 0 58 [ae 5] [1,0,5]]},
 {g:=47,k:=[ao 0 253 [⟨false,11,0,some (1,.cZ),false⟩] [11],ao 0 506 [⟨false,11,0,some (1,.cZ),false⟩,ae 35] [5,1,8,10,34,35,11],ao 0 64819 [⟨false,11,0,some (1,.cZ),false⟩] [5,1,8,10,34,11,35]]},
 {g:=50,k:=[ao 0 125 [] [],ao 0 250 [ae 37] [11,2,9,10,37],ao 0 32051 [] [11,2,9,10,37],ao 0 64102 [ae 13] [13,11,12,2,9,10,37],ao 0 8205093 [⟨true,4,0,some (1,.cZ),false⟩] [13,12,11,2,9,10,37,14],ao 0 16410186 [ae 50,⟨true,4,0,some (1,.cZ),false⟩] [14,13,11,12,2,9,10,37,49,50]]},
 {g:=51},
 {g:=52},
 {g:=53,s:=[1003],k:=[ao 0 29 [] [6,4,2,0] [0],ao 0 58 [ae 7] [2,4,0,6,7] [0],ao 0 125 [⟨true,0,3,none,false⟩] [6,4],ao 1003 29 [] [3] [0],ao 1003 58 [ae 4] [0,3,4] [0]],i:=[63]},
 {g:=54,k:=[ao 0 29 [⟨true,2,0,some (1,.cZ),false⟩] [8,9,5,0,3,2],ao 0 58 [ae 10,⟨true,2,0,some (1,.cZ),false⟩] [9,5,8,0,3,2,10],ao 0 125 [⟨true,2,1,none,false⟩] [8,9,5,0,3],ao 0 253 [⟨true,2,2,none,false⟩] [8,9,5,0]]},
 {g:=55},
 {g:=56,k:=[ao 0 29 [] [6,3,2],ao 0 58 [ae 22] [6,3,20,2,21,22],ao 0 61 [] [6,3],ao 0 122 [ae 37] [6,35,3,36,37]]},
 {g:=57,s:=[1012,1013,1013001002,1013001002700027,1013001002700027002004,1013001002700027002004004012,1013001002700027010005,1013001002700027010005004012],k:=[(1013001002,13,⟨[⟨true,6,0,some (2,.cZ),false⟩],[],[2],[],true⟩),(1013001002700027,28,⟨[ae 19,⟨true,6,0,some (2,.cZ),false⟩],[],[19,3,4,6],[],true⟩),(1013001002700027,125,⟨[ae 7],[],[7,3,6],[],true⟩),(1013001002700027,250,⟨[ae 7,ae 23],[],[3,4,6,22,23,7],[],true⟩),(1013001002700027,32051,⟨[ae 7],[],[3,4,6,22,7,23],[],true⟩),(1013001002700027002004,13,⟨[⟨true,6,0,some (2,.cZ),false⟩],[],[],[],true⟩),(1013001002700027002004,26,⟨[ae 13,⟨true,6,0,some (2,.cZ),false⟩],[],[2,5,1,6,3,4,12,13],[],true⟩),(1013001002700027002004,3378,⟨[ae 29,⟨true,6,0,some (2,.cZ),false⟩],[],[29,2,5,1,6,3,4,12,13],[],true⟩),ao 1013001002700027002004004012 13 [] [2],(1013001002700027010005,13,⟨[],[0],[],[],true⟩),(1013001002700027010005,26,⟨[ae 13],[0],[2,5,1,6,3,4,12,13],[],true⟩),(1013001002700027010005,3378,⟨[ae 29],[0],[29,2,5,1,6,3,4,12,13],[],true⟩),ao 1013001002700027010005004012 13 [] [2]]},
 {g:=59},
 {g:=60},
 {g:=61},
 {g:=63,k:=[ao 0 29 [] [3] [0],ao 0 58 [ae 4] [0,3,4] [0]]},
 {g:=64,k:=[ao 0 29 [] [2],ao 0 58 [ae 8] [3,1,2,8],ao 0 61 [] [],ao 0 122 [ae 9] [2,9]]},
 {g:=65,k:=[ao 0 29 [⟨false,5,0,some (1,.cZ),false⟩] [5],ao 0 58 [⟨false,5,0,some (1,.cZ),false⟩,ae 6] [3,2,6,5],ao 0 1865 [⟨false,5,0,some (1,.cZ),false⟩] [3,2,5,6]]},
 {g:=67,k:=[ao 0 13 [] [],ao 0 26 [ae 5] [1,0,5]]},
 {g:=68,k:=[ao 0 12 [ae 21] [21,3,2],ao 0 29 [] [],ao 0 58 [ae 5] [3,2,5],ao 0 3730 [ae 58] [58,3,2,5]]},
 {g:=69,k:=[ao 0 29 [] [],ao 0 58 [ae 5] [1,0,5],ao 0 3730 [ae 60] [60,1,0,5]]},
 {g:=70},
 {g:=71},
 {g:=72},
 {g:=73,k:=[ao 0 125 [] [],ao 0 250 [ae 3] [1,3]]},
 {g:=74,k:=[ao 0 61 [⟨false,7,0,some (1,.cZ),false⟩] [7],ao 0 122 [⟨false,7,0,some (1,.cZ),false⟩,ae 8] [8,2,1,7],ao 0 7827 [⟨false,7,0,some (1,.cZ),false⟩] [2,1,7,8],ao 0 15654 [⟨false,7,0,some (1,.cZ),false⟩,ae 10] [9,8,2,1,10,7]],o:=[(0,34)]},
 {g:=77,k:=[ao 0 58 [ae 9] [1,8,9,3] [0]],o:=[(0,5)]},
 {g:=78},
 {g:=79,k:=[ao 0 13 [] [0],ao 0 61 [ae 3] [3],ao 0 122 [ae 3,ae 4] [0,4,3]]},
 {g:=80,k:=[ao 0 13 [] [0],ao 0 61 [ae 3] [3],ao 0 122 [ae 3,ae 4] [0,4,3]]},
 {g:=81,k:=[ao 0 29 [⟨false,9,0,some (2,.cZ),false⟩] [3,6,1,4,9],ao 0 58 [⟨false,9,0,some (2,.cZ),false⟩,ae 10] [3,6,1,4,10,9],ao 0 1865 [⟨false,9,0,some (2,.cZ),false⟩] [3,6,1,4,9,10],ao 0 122 [ae 11] [3,6,1,4,11,9] [0],ao 0 976 [ae 36] [36,3,6,1,4,11,9]]},
 {g:=82},
 {g:=88,k:=[ao 0 6 [ae 6] [6]]},
 {g:=89},
 {g:=90,k:=[ao 0 29 [] [1],ao 0 58 [ae 16] [14,1,15,16],ao 0 60 [ae 33] [33]]},
 {g:=93,k:=[ao 0 29 [⟨false,3,0,some (1,.cZ),false⟩] [3],ao 0 58 [⟨false,3,0,some (1,.cZ),false⟩,ae 5] [0,5,3],ao 0 7475 [⟨false,3,0,some (1,.cZ),false⟩] [0,3,5]]},
 {g:=94,k:=[ao 0 29 [ae 9] [6,9,8]]},
 {g:=95,k:=[ao 0 61 [⟨false,10,0,some (1,.cZ),false⟩] [10],ao 0 122 [⟨false,10,0,some (1,.cZ),false⟩,ae 25] [9,6,7,23,24,25,10] [] [3,5,7],ao 0 15667 [⟨false,10,0,some (1,.cZ),false⟩] [9,6,7,23,24,10,25]]},
 {g:=97},
 {g:=98},
 {g:=99,k:=[ao 0 29 [] [1],ao 0 58 [ae 12] [10,1,11,12],ao 0 60 [ae 35] [35]]},
 {g:=106,k:=[ao 0 6 [ae 6] [6]]},
 {g:=107,k:=[ao 0 29 [] [1],ao 0 58 [ae 3] [1,3],ao 0 60 [ae 37] [37]]},
 {g:=109,k:=[ao 0 13 [] [],ao 0 26 [ae 8] [0,1,7,8]]},
 {g:=110,k:=[ao 0 13 [] [0,1],ao 0 61 [ae 5] [5],ao 0 122 [ae 5,ae 6] [0,1,6,5],ao 0 3913 [ae 5] [0,1,5,6]]},
 {g:=111},
 {g:=112},
 {g:=113,k:=[ao 0 13 [] [1,0],ao 0 26 [ae 11] [1,9,0,10,11]]},
 {g:=114,k:=[ao 0 61 [] [1],ao 0 122 [ae 3] [1,3],ao 0 124 [ae 35] [35]]},
 {g:=115,k:=[ao 0 28 [ae 26] [26,1,3,5,7,4,11],ao 0 61 [] [1,5,7,11,3],ao 0 122 [ae 12] [1,3,5,7,4,11,12],ao 0 3912 [ae 53] [53,1,3,5,7,4,11,12],ao 0 124 [ae 66] [66,1,5,7,11],ao 0 252 [ae 81] [81,1,5,7],ao 0 254 [ae 10] [10]]},
 {g:=116,k:=[ao 0 29 [⟨true,2,0,some (1,.cZ),false⟩] [2,3],ao 0 58 [ae 4,⟨true,2,0,some (1,.cZ),false⟩] [3,1,2,4]]},
 {g:=117,k:=[ao 0 29 [⟨false,3,0,some (1,.cZ),false⟩] [3],ao 0 58 [⟨false,3,0,some (1,.cZ),false⟩,ae 4] [0,4,3]]},
 {g:=118},
 {g:=124,k:=[ao 0 29 [] [],ao 0 58 [ae 10] [0,8,9,10],ao 0 14950 [ae 28] [28,0,8,9,10]]},
 {g:=125},
 {g:=126},
 {g:=150},
 {g:=151,k:=[ao 0 6 [ae 6] [6]]}]⟩
noncomputable def cA(g:FuncId):Option Tree:=GL.cA g
section
theorem J3:(GL.cA 53).isSome=true:=by kernel_rfl
theorem J4:(GL.cA 163).isSome=true:=by kernel_rfl
theorem apf:(GL.cA 31).isSome=true:=by kernel_rfl
theorem EH[cQ]:E2 Tryz.prog 23 ⟨11,none,none⟩ tj cA:=GL.S5 (by kernel_rfl) λg r h=>by
 replace h:tj g=some r:=h;unfold tj at h;split at h
 ·rename_i e;subst e;exact J3
 split at h
 ·rename_i e;subst e;exact J4
 split at h
 ·rename_i e;subst e;exact apf
 cases h
end
noncomputable def E(P:Program)(k:Nat)(ω:b2)(g:FuncId)(a:List aa):Option aa:=g6 P 23 cA pj 4096 k ω g a
theorem ac5:@mu my Tryz.prog pn ⟨11,none,none⟩:=@mu.mk my _ _ _ (λ_=>@ab7 my) (λf h=>(by cases h)) (λf h=>(by cases h))
theorem IH(k:Nat):@jq my Tryz.prog pn (E Tryz.prog k):=(@C9 my Tryz.prog _ _ _ _ _ _ _ (by kernel_rfl) (@EH my) XH ac5 k).1
instance amw:cQ:=my
end
section
open Go Go.RowKit Go.WideShapes Go.ChangeShapes
theorem Oo{DI:List aa->Prop}{m:Mem}:∀{bz:List aa},(∀q∈bz,q.plain=true)->im DI m bz bz
 |[],_=>rfl
 |q::bz,h=>⟨q,bz,rfl,.inl ⟨rfl,h q (by simp)⟩,Oo λx aj=>h x (by simp[aj])⟩
theorem own:ownKnob Tryz.prog.godebug=none:=by kernel_rfl
theorem laidOut:laidOutB Tryz.prog=true:=by kernel_rfl
end
section
open Go Go.RowKit Go.WideShapes Go.ChangeShapes Go.Conc
theorem XO{W:World}(h:W.ShapedOpen Tryz.prog):Tryz.prog.globals.size<=W.heap.size:=by
 have key:∀g,g<Tryz.prog.globals.size->((((begin Tryz.prog (λ_ _=>0) default).world).heap[g]?).bind Obj.row?).isSome=true->g<W.heap.size:=λg aN aj=>by
  obtain⟨⟨zero,t⟩,bO⟩:=Option.isSome_iff_exists.1 aj;obtain⟨cs,U,_⟩:=h.1 g zero t aN bO;exact(Array.getElem?_eq_some_iff.1 U).1
 have aI:Tryz.prog.globals.size=0\/((((begin Tryz.prog (λ_ _=>0) default).world).heap[Tryz.prog.globals.size-1]?).bind Obj.row?).isSome=true:=.inr (by kernel_rfl);rcases aI with aT|aT
 ·omega
 ·by_cases U:Tryz.prog.globals.size=0
  ·omega
  ·have:=key _ (by omega) aT;omega
section
variable{H:Type}{enc:TypeId×Value->H}
theorem XM{os:Os}{f:FuncId}{fn:Func}{s:ChangeSpec}{conds:List PathCond}{apart fresh handsOn again:Bool}{k:Nat}{bt:TypeId}(started:os.Started)(dX:Tryz.prog.funcs[f]?=some fn)
  (witness:∃(w:World)(tape:Tape)(i:Input),w.os=os/\(w.forCall tape i).Shaped Tryz.prog/\i.vars=[]/\Input.okWide Tryz.prog (w.forCall tape i) .any w.heap.size f i /\
   s.pre6 enc Tryz.prog fn conds apart (w.forCall tape i).memory i.args/\({}:Assume).holds Tryz.prog (lone (Frame.enter Tryz.prog f i.args .normal) [] (w.forCall tape i)))
  (ak:laidOutB Tryz.prog=true) (ai:s.vars=[]) (F8:fn.resultTypes=#[bt]) (F9:Tryz.prog.underlying bt=some .bool) (aq:fn.params.toList.all (sN Tryz.prog k)=true) (mE:∀t∈fn.params.toList,Tryz.prog.readableRec t=true/\t<Tryz.prog.types.size)
  (ao:∀ds:List (DataW H),ds.length=fn.params.size->s.fn H (ds++[])={ results:=[.lit (.bool true)],args:=ds }) (aw:iC f=true) (c1:Tryz.prog.inits.idxOf? f=none) (nlq:apN f=true)
  (e4:∀bz,qu Tryz.prog k fn.params.toList bz->∀m,@gL my Tryz.prog f bz m λv E m'=>v=.bool true/\E=[]/\m'=m):
  ReturnsInLeavingWide {} Tryz.checked os f .any (s.pre6 enc Tryz.prog fn conds apart) (s.post enc Tryz.prog fn apart fresh handsOn again):=by
 refine returnsInLeavingWide_of_good (C:=Tryz.checked) own started witness ?_;intro w tape i _ nk _ fU nY akw;obtain⟨_,_,_,cC,zn,_,_,_,_,zi⟩:=fU;have e:cC=fn:=Option.some.inj (zn.symm.trans dX);subst e;obtain⟨⟨ds,gs,before,hw,ah⟩,bO⟩:=nY;have KG:=DataW.Whole.of_heap (w':=w.forCall tape i) (by rfl) hw;exact aaL ak ai F8 F9 aq mE ao aw c1 nlq e4 (base:=w.heap.size) (XO nk) zi KG
end
end
section
open Go Go.RowKit Go.WideShapes Go.ChangeShapes
theorem aoj(ej:∀bz,qu Tryz.prog 6 Tryz.f6.params.toList bz->∀ω,E Tryz.prog 20 ω 6 bz=some (.bool true))(os:Os)(started:os.Started)(H:Type)(enc:TypeId×Value->H):
  ReturnsInLeavingWide {} Tryz.checked os 6 .any (Rows.ruleCoversSpec.pre6 enc Tryz.prog Tryz.f6 Rows.ruleCoversRow.domain false) (Rows.ruleCoversSpec.post enc Tryz.prog Tryz.f6 false true false false):=by
 letI:=my
 refine XM (k:=6) (bt:=4) started Tryz.func6
  (ChangeSpec.witness6 (enc:=enc) (C:=Tryz.checked) false ⟨#[],#[.agg #[.int .i64 0,.slice none 0 0],.slice none 0 0,.slice none 0 0],[]⟩ 6 (by kernel_rfl) (by kernel_rfl) (by kernel_rfl) (by kernel_rfl))
  laidOut rfl rfl (by kernel_rfl) (by kernel_rfl) (by
  intro t a1;have:Tryz.f6.params.toList.all (λt=>Tryz.prog.readableRec t&&decide (t<Tryz.prog.types.size))=true:=by kernel_rfl
  have:=List.all_eq_true.1 this t a1;simpa using this) (λds ak=>?_) (by kernel_rfl) (by kernel_rfl) (by kernel_rfl) (λbz aH m=>?_)
 ·match ds,ak with
  |[d0,d1,d2],_=>rfl
 ·refine @gL.mono my _ _ _ _ _ _ ((IH 20).zG 6 bz (λω=>by rw[ej bz aH ω];rfl) bz m (Oo (Om aH))) ?_;rintro v E m' ⟨⟨ω,U⟩,_,ab,al⟩;rw[ej bz aH ω]at U;injection U with U;exact⟨U.symm,ab,al⟩
theorem aok(ej:∀bz,qu Tryz.prog 6 Tryz.f6.params.toList bz->∀ω,E Tryz.prog 20 ω 6 bz=some (.bool true)):Rows.RuleCoversSaid:=
 OpenClaim.holds_of_wide_leaving 6 Tryz.f6 rfl rfl rfl rfl rfl rfl rfl ⟨rfl,rfl,rfl,rfl,rfl⟩ rfl rfl rfl rfl rfl (by kernel_rfl) Tryz.func6 (by kernel_rfl)
  (of_decide_eq_true (by kernel_rfl)) (by unfold Func.isWrapper;first|(rw[if_pos (by decide +kernel)];kernel_rfl)|(rw[if_neg (by decide +kernel)];exact⟨rfl,rfl⟩))
  (λos started H enc _=>aoj ej os started H enc)
end
section
open Go Go.RowKit
section
variable{P:Program}{C:b2->FuncId->List aa->Option aa}{n:Nat}{R:Out->Prop}{ρ:List aa}
@[simp]theorem dk{p:Prim}{t:Tree}:bN P C n (.av p t) ρ R↔∃v,p.run P ρ=some v/\bN P C n t (ρ++[v]) R:=by
 refine⟨λh=>by letI:=jx;exact h.av,λ⟨v,h,k⟩ ω=>?_⟩;obtain⟨o,ar,cn⟩:=k ω;exact⟨o,by simp only[eval,h];exact ar,cn⟩
@[simp]theorem uE{v:aS}:bN P C n (.ret v) ρ R↔R (.val (v.den ρ)):=by
 refine⟨λh=>?_,λh ω=>⟨_,rfl,h⟩⟩;obtain⟨o,ar,cn⟩:=h gP;simp only[eval,Option.some.injEq]at ar;subst ar;exact cn
@[simp]theorem kG{L:Nat}{l:List aS}:bN P C n (.jump L l) ρ R↔R (.jump L (ep ρ l)):=by
 refine⟨λh=>?_,λh ω=>⟨_,rfl,h⟩⟩;obtain⟨o,ar,cn⟩:=h gP;simp only[eval,Option.some.injEq]at ar;subst ar;exact cn
def xJ(x:Bool)(A B:Prop):Prop:=(x=true->A)/\(x=false->B)
theorem gR{x:Bool}{A B:Prop}(h:x=true->A)(k:x=false->B):xJ x A B:=⟨h,k⟩
@[simp]theorem Ig{A B:Prop}:xJ true A B↔A:=by simp[xJ]
@[simp]theorem Ol{A B:Prop}:xJ false A B↔B:=by simp[xJ]
def Kk(v:aa)(A B:Prop):Prop:=(v=.bool true/\A)\/(v=.bool false/\B)
@[simp]theorem hV{b:Bool}{A B:Prop}:Kk (.bool b) A B↔xJ b A B:=by cases b<;>simp[Kk,xJ]
@[simp]theorem run_ite{c:aR}{a b:Tree}:bN P C n (.ite c a b) ρ R↔Kk (c.den ρ) (bN P C n a ρ R) (bN P C n b ρ R):=by
 refine⟨λh=>by letI:=jx;exact h.ite,λh ω=>?_⟩;rcases h with⟨h,k⟩|⟨h,k⟩
 ·obtain⟨o,ar,cn⟩:=k ω;exact⟨o,by simp only[eval,h];exact ar,cn⟩
 ·obtain⟨o,ar,cn⟩:=k ω;exact⟨o,by simp only[eval,h];exact ar,cn⟩
theorem gb{g:FuncId}{args:List aS}{t:Tree}{Q:aa->Prop}(h:∀ω,∃v,C ω g (ep ρ args)=some v/\Q v)(k:∀v,Q v->bN P C n t (ρ++[v]) R):bN P C n (.call g args t) ρ R:=by
 intro ω;obtain⟨v,U,ab⟩:=h ω.l;obtain⟨o,ar,cn⟩:=k v ab ω.r;exact⟨o,by simp only[eval,U];exact ar,cn⟩
theorem AD{f:aR}{g:FuncId}{caps:List aa}{args:List aS}{t:Tree}{Q:aa->Prop}(aQ:f.den ρ=.fn g caps)(h:∀ω,∃v,C ω g (ep ρ args++caps)=some v/\Q v)(k:∀v,Q v->bN P C n t (ρ++[v]) R):bN P C n (.kL f args t) ρ R:=by
 intro ω;obtain⟨v,U,ab⟩:=h ω.l;obtain⟨o,ar,cn⟩:=k v ab ω.r;exact⟨o,by simp only[eval,aQ,U];exact ar,cn⟩
theorem hY{L:Nat}{b k:Tree}(J:List aa->Prop)(h:bN P C n b ρ (fV L J R))(aq:∀af,J af->bN P C n k (ρ++af) R):bN P C n (.join L b k) ρ R:=by
 intro ω;obtain⟨o,ar,cn⟩:=h ω.l;cases o with
 |val v=>exact⟨_,by simp only[eval,ar],cn⟩
 |jump cL af=>
  by_cases e:cL=L
  ·subst e;simp only[fV,if_true]at cn;obtain⟨o',eC,ni⟩:=aq af cn ω.r;exact⟨o',by simp only[eval,ar,if_true];exact eC,ni⟩
  ·simp only[fV,if_neg e]at cn;exact⟨_,by simp only[eval,ar,if_neg e],cn⟩
theorem o7{L:Nat}{init:List aS}{b:Tree}(I:Nat->List aa->Prop)(N:Nat)(gq:N<n)(aT:I N (ep ρ init))(ao:∀j af,I j af->bN P C n b (ρ++af) (fV L (λcB=>∃j5,j5<j/\I j5 cB) R)):bN P C n (.loop L init b) ρ R:=by
 have key:∀k j af,j<k->I j af->∀ω,∃o,iter (λω af=>eval P C n b ω (ρ++af)) L k ω af=some o/\R o:=by
  intro k;induction k with
  |zero=>intro j af h;omega
  |succ k az=>
   intro j af aC iM ω;obtain⟨o,ar,cn⟩:=ao j af iM ω.l;cases o with
   |val v=>exact⟨_,by simp only[iter,ar],cn⟩
   |jump cL cB=>
    by_cases e:cL=L
    ·subst e;simp only[fV,if_true]at cn;obtain⟨j5,aU,aip⟩:=cn;obtain⟨o',eC,ni⟩:=az j5 cB (by omega) aip ω.r;exact⟨o',by simp only[iter,ar,if_true];exact eC,ni⟩
    ·simp only[fV,if_neg e]at cn;exact⟨_,by simp only[iter,ar,if_neg e],cn⟩
 intro ω;obtain⟨o,ar,cn⟩:=key n N _ gq aT ω;exact⟨o,by simp only[eval];exact ar,cn⟩
@[simp]theorem mj{L:Nat}{J:List aa->Prop}{af:List aa}:fV L J R (.jump L af)↔J af:=by simp[fV]
theorem Y4{L cL:Nat}{J:List aa->Prop}{af:List aa}(h:cL≠L):fV L J R (.jump cL af)↔R (.jump cL af):=by simp[fV,h]
@[simp]theorem acg{L:Nat}{J:List aa->Prop}{v:aa}:fV L J R (.val v)↔R (.val v):=by simp[fV]
end
abbrev mR:=Nat->b2->FuncId->List aa->Option aa
def ks(C:mR)(k:Nat)(g:FuncId)(args:List aa)(Q:aa->Prop):Prop:=∀ω,∃v,C k ω g args=some v/\Q v
theorem ks.mono{C:mR}{k:Nat}{g:FuncId}{args:List aa}{Q lB:aa->Prop}(h:ks C k g args Q)(aH:∀v,Q v->lB v):ks C k g args lB:=λω=>by
 obtain⟨v,U,ab⟩:=h ω;exact⟨v,U,aH v ab⟩
abbrev dT:=ks (E Tryz.prog)
theorem lO{k:Nat}{g:FuncId}{args:List aa}{t:Tree}{fn:Func}{Q:aa->Prop}(a1:cA g=some t)(aQ:Tryz.prog.funcs[g]?=some fn)(gN:dd (flagsOf 23 fn) args=true)(h:bN Tryz.prog (E Tryz.prog k) 4096 t args λo=>∃v,o=.val v/\v.plain=true/\Q v):dT (k+1) g args Q:=by
 intro ω;obtain⟨o,ar,v,rfl,ae,gI⟩:=h ω;refine⟨v,?_,gI⟩;unfold E;simp only[g6,a1,aQ,gN,if_true];have bc:=ar;unfold E at bc;rw[bc];simp[ae]
noncomputable def zx(g:FuncId):Bool:=(PP.cA g).isSome&&(g != 103&&g != 58)
class oX(C:mR):Prop where
 of:∀{k:Nat}{g:FuncId}{args:List aa}{t:Tree}{fn:Func}{Q:aa->Prop},zx g=true->cA g=some t->Tryz.prog.funcs[g]?=some fn->dd (flagsOf 23 fn) args=true->(bN Tryz.prog (C k) 4096 t args λo=>∃v,o=.val v/\v.plain=true/\Q v)->ks C (k+1) g args Q
instance:oX (E Tryz.prog):=⟨λ_=>lO⟩
theorem sU{C:mR}[oX C]{k:Nat}{g:FuncId}{args:List aa}{t:Tree}{fn:Func}{Q:aa->Prop}(a1:cA g=some t)(ak:zx g=true)(aQ:Tryz.prog.funcs[g]?=some fn)(gN:dd (flagsOf 23 fn) args=true)(h:bN Tryz.prog (C k) 4096 t args λo=>∃v,o=.val v/\v.plain=true/\Q v):ks C (k+1) g args Q:=oX.of ak a1 aQ gN h
attribute [simp] Prim.run aS.den aR.den ep cM ll vc na Bg zj zk vd uW tL xK A5 wO List.getD_cons_succ List.getD_cons_zero
@[simp]theorem akl{k:IntKind}{x:Int}:(aa.int k x).one=true:=rfl
@[simp]theorem aj1{b:Bool}:(aa.bool b).one=true:=rfl
@[simp]theorem aj2:aa.bC.one=true:=rfl
@[simp]theorem aks{id:Option Nat}{a b c:Nat}{l:List aa}:(aa.sl id a b c l).one=true:=rfl
@[simp]theorem akt{f:FuncId}{l:List aa}:(aa.fn f l).one=true:=rfl
@[simp]theorem akm{l:List aa}:(aa.agg l).one=false:=rfl
@[simp]theorem ajP{k:IntKind}{x:Int}:(aa.int k x).plain=true:=by simp[aa.plain]
@[simp]theorem ajH{b:Bool}:(aa.bool b).plain=true:=by simp[aa.plain]
@[simp]theorem ajI:aa.bC.plain=true:=by simp[aa.plain]
@[simp]theorem aj3{a b c:Nat}{l:List aa}:(aa.sl none a b c l).plain=bG l:=by simp[aa.plain]
@[simp]theorem ajQ{l:List aa}:(aa.agg l).plain=bG l:=by simp[aa.plain]
@[simp]theorem ajR{l:List aa}:(aa.bD l).plain=jO l:=by simp[aa.plain]
@[simp]theorem plain_fn{f:FuncId}{l:List aa}:(aa.fn f l).plain=bG l:=by simp[aa.plain]
@[simp]theorem ajJ{o:Nat}{l:List aa}:(aa.bJ none o l).plain=bG l:=by simp[aa.plain]
attribute [simp] bG jO
abbrev ax(n:Int):aa:=.int .i64 n
abbrev bv(b:Bool):aa:=.bool b
section
variable{P:Program}{t:TypeId}{k:IntKind}{a b:Int}
@[simp]theorem aj4:eB P .add t (.int k a) (.int k b)=some (.int k (k.wrap (a+b))):=by simp[eB]
@[simp]theorem Pl:eB P .sub t (.int k a) (.int k b)=some (.int k (k.wrap (a-b))):=by simp[eB]
@[simp]theorem aj5:eB P .mul t (.int k a) (.int k b)=some (.int k (k.wrap (a*b))):=by simp[eB]
@[simp]theorem aj6:eB P .eql t (.int k a) (.int k b)=some (.bool (decide (a=b))):=by simp[eB]
@[simp]theorem aj7:eB P .neq t (.int k a) (.int k b)=some (.bool (decide (a≠b))):=by simp[eB]
@[simp]theorem aj8:eB P .lss t (.int k a) (.int k b)=some (.bool (decide (a<b))):=by simp[eB]
@[simp]theorem aj9:eB P .leq t (.int k a) (.int k b)=some (.bool (decide (a<=b))):=by simp[eB]
@[simp]theorem aka:eB P .gtr t (.int k a) (.int k b)=some (.bool (decide (b<a))):=by simp[eB]
@[simp]theorem akb:eB P .geq t (.int k a) (.int k b)=some (.bool (decide (b<=a))):=by simp[eB]
theorem D3(h:b≠0):eB P .rem t (.int k a) (.int k b)=some (.int k (a.tmod b)):=by simp[eB,h]
theorem aaC(h:b≠0):eB P .quo t (.int k a) (.int k b)=some (.int k (k.wrap (a.tdiv b))):=by simp[eB,h]
@[simp]theorem akn{x:Bool}:rH .not (.bool x)=some (.bool !x):=rfl
end
theorem wrap64{n:Int}(U:-9223372036854775808<=n)(ab:n<=9223372036854775807):IntKind.i64.wrap n=n:=by
 simp[IntKind.wrap,IntKind.bits,IntKind.signed];omega
theorem Qw{n:Int}(U:0<=n)(ab:n<18446744073709551616):IntKind.u64.wrap n=n:=by
 simp[IntKind.wrap,IntKind.bits,IntKind.signed];omega
def dI(x:aa)(l:List Int):Prop:=(x=.bC/\l=[])\/∃off,x=.sl none 1 off l.length (l.map ax)
theorem uj(l:List Int):bG (l.map ax)=true:=by
 induction l with
 |nil=>rfl
 |cons a l az=>simp[bG,aa.plain,az]
theorem dI.plain{x:aa}{l:List Int}(h:dI x l):x.plain=true/\x.one=true:=by
 rcases h with⟨rfl,_⟩|⟨off,rfl⟩
 ·exact⟨rfl,rfl⟩
 ·exact⟨by simp only[aa.plain];exact uj l,rfl⟩
theorem Kl:Tryz.prog.underlying 22=some (.slice 3):=by kernel_rfl
theorem dI.len{x:aa}{l:List Int}(h:dI x l):ht Tryz.prog 22 x=some (ax l.length):=by rcases h with⟨rfl,rfl⟩|⟨off,rfl⟩<;>simp[ht,Kl]
theorem Fu{x:aa}{l:List Int}(h:dI x l){i:Int}{k:IntKind}(aT:0<=i)(U:i<l.length):kp 1 x (.int k i)=some (.agg [ax (l.getD i.toNat 0)]):=by
 rcases h with⟨rfl,rfl⟩|⟨off,rfl⟩
 ·simp at U;omega
 ·have aU:i.toNat<l.length:=by omega
  have e:((l.map ax).drop (i.toNat*1)).take 1=[ax (l.getD i.toNat 0)]:=by
   rw[Nat.mul_one,List.drop_eq_getElem_cons (by simpa using aU)];simp[List.getD_eq_getElem?_getD,aU]
  simp only[kp];rw[if_pos ⟨aT,U,trivial,by rw[e];rfl⟩,e]
end
section
open Go Go.RowKit
theorem aeQ:Tryz.prog.underlying 83=some (.int .u64):=by kernel_rfl
theorem JM:Tryz.prog.underlying 3=some (.int .i64):=by kernel_rfl
abbrev pQ:aa:=.ptr 0 0
theorem age(k:Nat):dT (k+1) 62 [pQ] λv=>∃x:Int,v=.int .u64 x/\0<=x/\x<4294967296:=by
 intro ω;refine⟨.int .u64 ((ω []%4294967296:Nat):Int),by simp[E,g6,show cA 62=none from rfl,pj,nU],_,rfl,by omega,by omega⟩
theorem m8(k:Nat)(n:Int)(aI:n<4294967295)(qv:-9223372036854775808<=n):dT (k+2) 23 [pQ,ax n] λv=>∃x,v=ax x/\0<=x/\x<=max n 0:=by
 refine lO (t:=t23) (by kernel_rfl) (fn:=Tryz.f23) (by kernel_rfl) rfl ?_;simp[t23,ag,aD,aM];refine gR (λh=>?_) (λh=>?_)<;>simp at h
 ·omega
 ·refine gb (age k) ?_;rintro v ⟨x,rfl,lv,dG⟩;have aK:IntKind.i64.wrap (n+1)=n+1:=wrap64 (by omega) (by omega);have aO:IntKind.u64.wrap (n+1)=n+1:=Qw (by omega) (by omega);have hb:x*(n+1)<4294967296*(n+1):=Int.mul_lt_mul_of_pos_right dG (by omega);have ix:0<=x*(n+1):=Int.mul_nonneg lv (by omega);have bS:IntKind.u64.wrap (x*(n+1))=x*(n+1):=Qw ix (by omega);have aH:0<=(x*(n+1)).fdiv 4294967296/\(x*(n+1)).fdiv 4294967296<=n:=by
   rw[Int.fdiv_eq_ediv_of_nonneg _ (by decide)];omega
  have b8:IntKind.i64.wrap ((x*(n+1)).fdiv 4294967296)=(x*(n+1)).fdiv 4294967296:=wrap64 (by omega) (by omega);simp[q5,aeQ,JM,aK,aO,bS,eB,IntKind.bits,b8,aa.plain];exact⟨aH.1,by omega⟩
theorem td(k:Nat)(lo hi:Int)(aT:0<=hi-lo)(U:hi-lo<4294967295)(ab:-1000000<=lo)(al:lo<=1000000):dT (k+3) 52 [pQ,ax lo,ax hi] λv=>∃x,v=ax x/\lo<=x/\x<=hi:=by
 refine lO (t:=t52) (by kernel_rfl) (fn:=Tryz.f52) (by kernel_rfl) rfl ?_;simp[t52,ag,aD,aM,wrap64 (n:=hi-lo) (by omega) (by omega)];refine gb (m8 k (hi-lo) (by omega) (by omega)) ?_;rintro v ⟨x,rfl,lv,dG⟩;simp[wrap64 (n:=lo+x) (by omega) (by omega),aa.plain];omega
def Uu(v:aa):Prop:=∃b,v=.bool b
@[simp]theorem akc{b:Bool}:Uu (.bool b):=⟨b,rfl⟩
theorem Km(k:Nat)(n:Int)(aT:0<=n)(U:n<1000000):dT (k+3) 55 [pQ,ax n] Uu:=by
 refine lO (t:=t55) (by kernel_rfl) (fn:=Tryz.f55) (by kernel_rfl) rfl ?_;simp[t55,ag,aD,aM,wrap64 (n:=n-1) (by omega) (by omega)];refine gb (m8 k (n-1) (by omega) (by omega)) ?_;rintro v ⟨x,rfl,lv,dG⟩;simp[aaC,aa.plain]
theorem zl(k:Nat){x:aa}{l:List Int}(h:dI x l)(ak:0<l.length)(er:l.length<1000000):dT (k+3) 51 [pQ,x] λv=>∃a,v=ax a/\a∈l:=by
 refine lO (t:=t51) (by kernel_rfl) (fn:=Tryz.f51) (by kernel_rfl) (by simp[dd,flagsOf,h.plain]) ?_;simp[t51,ag,aD,aM,h.len,wrap64 (n:=(l.length:Int)-1) (by omega) (by omega)];refine gb (m8 k ((l.length:Int)-1) (by omega) (by omega)) ?_;rintro v ⟨i,rfl,F5,rJ⟩;have aU:i.toNat<l.length:=by omega
 simp[Fu h F5 (by omega),aa.plain,List.getD_eq_getElem?_getD,aU]
end
end Go.Proofs.YtlminnpaeaganaaGreat
