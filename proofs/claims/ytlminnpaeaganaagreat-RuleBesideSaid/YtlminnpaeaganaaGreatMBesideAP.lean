/- Part of the proof of RuleBeside. No condition. -/
import Derived.Test.YtlminnpaeaganaaGreatMBesideAF
import Derived.Test.YtlminnpaeaganaaGreatMBesideAK
import Derived.Test.YtlminnpaeaganaaGreatMBesideAO
namespace Go.Proofs.YtlminnpaeaganaaGreat
set_option maxRecDepth 100000
set_option linter.all false
section
open Go Go.Conc Go.ConcN Go.RowKit Go.Conc.Lib Go.ConcR.Gen Go.ConcN.Gen
open Go.ConcR (KK wgBlock WgAt stA smA rd wr mk DC0 Payload)
section
variable{P:Program}{T:(Nat->Prop)->(World->Prop)->Goroutine->Prop}{R n:Nat}{bM:Nat->Prop}{A:World->Prop}{g g1:Goroutine}
theorem sT(ad:g.status=.running)(aW:fL bM A)(ao:∀w,stepG P true g w=.go g1 w #[])(k:tJ P T R n bM A g1):tJ P T R (n+1) bM A g:=
 ⟨ad,aW,λw hw _ _=>⟨g1,w,#[],A,ao w,⟨rfl,rfl,Nat.le_refl _,λ_ _ _=>rfl,λe he=>by simp at he⟩,hw,by
  have e:(λb=>bM b\/(w.heap.size<=b/\b<w.heap.size))=bM:=funext λb=>propext ⟨λh=>h.resolve_right (by omega),.inl⟩;rw[e];exact k⟩⟩
variable{ops:Array Oper}{i:Nat}{rest:List Nat}{o:Oper}{b:Frame}{a:Act}{k:List Item}{cs:List Frame}
theorem abV(v:Value)(aW:fL bM A)(ar:ops[i]?=some o)(hw:Region.wanted o (yielded ops a.tmps)=true)(aq:b.kind≠.early)
  (ad:∀w,(execOp a.eval o).run P w=.ok (.value v) w) (he:∀w,(execOp a.eval o).events P w #[]=#[]) (h:tJ P T R n bM A (G (b.at (a.put o.dst v) (.inRegion ops rest::k)) cs)):tJ P T R (n+1) bM A (G (b.at a (.inRegion ops (i::rest)::k)) cs):=
 sT rfl aW (λw=>by rw[stepG_value ar hw aq (ad w)];unfold listed;rw[he w,seen_none]) h
theorem IF(mw:Obj)(aW:fL bM A)(ar:ops[i]?=some o)(hw:Region.wanted o (yielded ops a.tmps)=true)(aq:b.kind≠.early)
  (ad:∀w,(execOp a.eval o).run P w=.ok (.value (.pointer (some ⟨w.heap.size,0,none⟩))) (w.alloc mw)) (he:∀w,(execOp a.eval o).events P w #[]=#[])
  (h:∀dw,¬bM dw->R<=dw->tJ P T R n (λb=>bM b\/b=dw) (λw=>A w/\w.heap[dw]?=some mw) (G (b.at (a.put o.dst (.pointer (some ⟨dw,0,none⟩))) (.inRegion ops rest::k)) cs)):tJ P T R (n+1) bM A (G (b.at a (.inRegion ops (i::rest)::k)) cs):=by
 refine⟨rfl,aW,λw gl h8 cn=>?_⟩;have ao:(w.alloc mw).heap.size=w.heap.size+1:=by simp
 refine⟨G (b.at (a.put o.dst (.pointer (some ⟨w.heap.size,0,none⟩))) (.inRegion ops rest::k)) cs,w.alloc mw,#[],λw1=>A w1/\w1.heap[w.heap.size]?=some mw,by rw[stepG_value ar hw aq (ad w)];unfold listed;rw[he w,Go.Conc.seen_none],⟨rfl,rfl,by omega,λb hb _=>Below.heap_alloc _ _ _ hb,λe he=>by simp at he⟩,⟨aW w _ gl (by omega) λb hb=>Below.heap_alloc _ _ _ (h8 b hb),heap_alloc_new w _⟩,?_⟩;have e:(λb=>bM b\/(w.heap.size<=b/\b<(w.alloc mw).heap.size))=λb=>bM b\/b=w.heap.size:=funext λb=>propext (or_congr Iff.rfl (by rw[ao];omega));rw[e];exact h _ (λx=>Nat.lt_irrefl _ (h8 _ x)) cn
end
noncomputable def yF(T:Array Value)(us:List Frame):Goroutine:=G ((base 58).at ⟨T,[]⟩ (.inRegion xd [0]::[.code Bz])) us
theorem adB:Tryz.f58.body=some sb:=by kernel_rfl
theorem Sv(h p:Value):(#[h,p]++Array.replicate 32 undef:Array Value)=#[h,p,undef,undef,undef,undef,undef,undef,undef,undef,undef,undef,undef,undef,undef,undef,undef,undef,undef,undef,undef,undef,undef,undef,undef,undef,undef,undef,undef,undef,undef,undef,undef,undef]:=by kernel_rfl
theorem ntmps58:Tryz.f58.ntmps=34:=by kernel_rfl
theorem abW(h p:Value):Frame.enter Tryz.prog 58 #[h,p] .normal=(base 58).at ⟨#[h,p,undef,undef,undef,undef,undef,undef,undef,undef,undef,undef,undef,undef,undef,undef,undef,undef,undef,undef,undef,undef,undef,undef,undef,undef,undef,undef,undef,undef,undef,undef,undef,undef],[]⟩ [.code sb]:=by
 rw[enter_at _ Tryz.func58 adB,ntmps58];show(base 58).at ⟨(#[h,p]++Array.replicate 32 undef:Array Value),[]⟩ _=_;rw[Sv]
theorem ahS(h p:Value):nD h p #[h,p,undef,undef,undef,undef,undef,undef,undef,undef,undef,undef,undef,undef,undef,undef,undef,undef,undef,undef,undef,undef,undef,undef,undef,undef,undef,undef,undef,undef,undef,undef,undef,undef]:=by
 rw[←Sv];refine⟨by simp,by simp,by simp,λk v aq ab _=>?_⟩;rw[Array.getElem?_append_right (by simpa using ab),Array.getElem?_replicate]at aq;split at aq
 ·cases aq;exact .inr rfl
 ·cases aq
section
variable{KSw:Nat->Prop}{W:World}{R:Nat}{hcs pcs:Array Value}{us:List Frame}
def ajn(KSw:Nat->Prop)(W:World)(R:Nat)(hcs pcs:Array Value)(us:List Frame)(bM:Nat->Prop)(A:World->Prop)(g:Goroutine):Prop:=
 ∃hbI pbI C T,¬KSw hbI/\¬KSw pbI/\¬KSw C/\C≠hbI/\C≠pbI/\R<=hbI/\R<=pbI/\R<=C/\(∀b,bM b↔KSw b\/b=hbI\/b=pbI\/b=C) /\
  (∀w,A w->(∀b,KSw b->w.heap[b]?=W.heap[b]?)/\w.heap[hbI]?=some (.cells hcs 92)/\w.heap[pbI]?=some (.cells pcs 30)/\w.heap[C]?=some (.cells #[.bool false,.bool false,.bool false,.bool false] 142)) /\
  g=yF T us/\nD (.agg hcs) (.agg pcs) T/\T[2]?=some (.pointer (some ⟨hbI,0,none⟩))/\T[3]?=some (.pointer (some ⟨pbI,0,none⟩))/\T[5]?=some (e6 C)
set_option maxRecDepth 100000 in
set_option maxHeartbeats 4000000 in
theorem abX:tJ Tryz.prog (ajn KSw W R hcs pcs us) R 12 KSw (λw=>∀b,KSw b->w.heap[b]?=W.heap[b]?) (G (Frame.enter Tryz.prog 58 #[.agg hcs,.agg pcs] .normal) us):=by
 have qq:fL KSw (λw=>∀b,KSw b->w.heap[b]?=W.heap[b]?):=λw w1 h ao hb b aq=>(hb b aq).trans (h b aq);have tU:=ahS (.agg hcs) (.agg pcs);rw[abW];simp only[yF,Bz,xd,sb,Tryz.f58,Option.getD_some];refine sT rfl qq (λw=>stepG_seq) ?_;refine sT rfl qq (λw=>stepG_region) ?_;simp only[List.size_toArray,List.length_cons,List.length_nil,Nat.reduceAdd,Nat.zero_add,List.range,List.range.loop];refine IF (.cells hcs 92) qq rfl rfl (by decide) (λw=>by simp[go_sem,Act.eval];try rfl) (λw=>by simp[go_sem,Act.eval]) λhbI U ahT=>?_
 walk_nrm
 have qm:=AB qq hbI (.cells hcs 92);refine IF (.cells pcs 30) qm rfl rfl (by decide) (λw=>by simp[go_sem,Act.eval];try rfl) (λw=>by simp[go_sem,Act.eval]) λpbI ab ahU=>?_
 walk_nrm
 have vq:=AB qm pbI (.cells pcs 30);refine abV (.slice none 0 0) vq rfl rfl (by decide) (λw=>by go_simp) (λw=>by simp[go_sem, *]) ?_
 walk_nrm
 refine sT rfl vq (λw=>stepG_region_end) ?_;refine sT rfl vq (λw=>stepG_seq) ?_;refine sT rfl vq (λw=>stepG_region) ?_;simp only[List.size_toArray,List.length_cons,List.length_nil,Nat.reduceAdd,Nat.zero_add,List.range,List.range.loop];refine IF (.cells #[.bool false,.bool false,.bool false,.bool false] 142) vq rfl rfl (by decide) (λw=>by simp[go_sem];try rfl) (λw=>by simp[go_sem]) λC al ahV=>?_
 walk_nrm
 have FX:=AB vq C (.cells #[.bool false,.bool false,.bool false,.bool false] 142);refine sT rfl FX (λw=>stepG_region_end) ?_;refine sT rfl FX (λw=>stepG_seq) ?_;refine sT rfl FX (λw=>stepG_region) ?_;simp only[List.size_toArray,List.length_cons,List.length_nil,Nat.reduceAdd,Nat.zero_add,List.range,List.range.loop];refine⟨FX,hbI,pbI,C,_,U,λx=>ab (.inl x),λx=>al (.inl (.inl x)),λe=>al (.inl (.inr e)),λe=>al (.inr e),ahT,ahU,ahV,λb=>⟨?_,?_⟩,λw hw=>⟨hw.1.1.1,hw.1.1.2,hw.1.2,hw.2⟩,rfl,?_,rfl,rfl,rfl⟩
 ·rintro(((x|x)|x)|x)
  ·exact .inl x
  ·exact .inr (.inl x)
  ·exact .inr (.inr (.inl x))
  ·exact .inr (.inr (.inr x))
 ·rintro(x|x|x|x)
  ·exact .inl (.inl (.inl x))
  ·exact .inl (.inl (.inr x))
  ·exact .inl (.inr x)
  ·exact .inr x
 ·exact(((tU.set 2 (by decide) (.inr sL)).set 3 (by decide) (.inr sL)).set 4 (by decide) (.inr Su)).set 5 (by decide) (.inr sL)
end
end
section
open Go Go.Conc Go.RowKit
open Go.ConcN (PayAt Has WgLive)
abbrev n2:bo:=⟨λ_=>none,λ_=>none⟩
def Jd(ah eg:List aa)(i:Nat)(b:Bool):Prop:=∀(V:World)(ae ip pp:Value),aY n2 V (.bJ none 0 ah) ae->aY n2 V (.bJ none 0 [.int .i64 (i:Int)]) ip->aY n2 V (.bJ none 0 eg) pp ->
 @lb jx cl 103 #[.pointer none,ae,ip,pp,.pointer none] V λe _=>e=.returned (zg b i)
def Ke(q:aa)(n:Nat):Prop:=(q=.bC/\n=0)\/∃sz off cs,q=.sl none sz off n cs
def rN(n:Nat)(bit:Nat->Bool):List Nat:=(List.range 4).filter λi=>decide (i<n)&&bit i
def JI(l:List Nat)(w:World)(v:Value)(w1:World):Prop:=(l=[]/\v=.slice none 0 0/\w1=w) \/
 (l≠[]/\∃c e f cap,l.length<=cap/\v=.slice (some ⟨w.heap.size,0,none⟩) l.length cap/\w1={ w with heap:=w.heap.push (.cells c e f) }/\∀(k i:Nat),l[k]?=some i->c[k]?=some (Value.int .i64 ((i:Nat):Int)))
def adC:Spec:=λf args w Post=>f=58/\args.size=2/\∃(φ:bo)(ah eg:List aa)(cy:aa)(n:Nat)(bit:Nat->Bool),
 bl φ w [.agg ah,.agg eg] args.toList/\hv ah=true/\hv eg=true/\bG ah=true/\bG eg=true/\ah[1]?=some cy/\Ke cy n/\n<=4/\(∀i,i<n->Jd ah eg i (bit i))/\∀v w1,JI (rN n bit) w v w1->Post v w1
def Je(l:List Nat)(V w:World)(v:Value):Prop:=(l=[]/\v=.slice none 0 0) \/
 (l≠[]/\∃b cap c e f,V.heap.size<=b/\l.length<=cap/\v=.slice (some ⟨b,0,none⟩) l.length cap/\w.heap[b]?=some (.cells c e f)/\∀(k i:Nat),l[k]?=some i->c[k]?=some (Value.int .i64 ((i:Nat):Int)))
def EG:Prop:=∀(ah eg:List aa)(bs:Nat->Bool)(V:World)(x1 mN mp:Value),bG ah=true->bG eg=true->aY n2 V (.agg ah) x1->aY n2 V (.agg eg) mN->aY n2 V (.bJ none 0 [.bool (bs 0),.bool (bs 1),.bool (bs 2),.bool (bs 3)]) mp ->
 @lb jx cl 58 #[x1,mN,.pointer none,.pointer none,.pointer none,mp] V λe w'=>∃v,e=.returned v/\Je ((List.range 4).filter bs) V w' v
theorem Sw:(bH cl fc).G=(bH Tryz.prog iC).G:=by
 unfold bH cl;dsimp only
section
variable{ρ:bA}{ro S KSw:Nat->Prop}{CP W w:World}{φ:bo}{ah eg:List aa}{hcs pcs:Array Value}{tT:List Value}
theorem Pg{V:World}{b:Nat}{e:TypeId}{f:Nat×Nat}(hb:w.heap[b]?=some (.cells hcs e f)){C:ee}{M:Nat->Prop}(e3:M b)(ew:∀b o v,M b->w.cell? ⟨b,o,none⟩=some v->aZ C (ef M) v v->V.cell? ⟨b,o,none⟩=some v)(ao:df (aZ C (ef M)) hcs.toList hcs.toList){ah:List aa}(ad:bl n2 V ah hcs.toList):b7 n2 V b ah 0:=by
 refine sA λj p aC=>?_;obtain⟨v,ai,ae⟩:=o1 ad aC;have iw:hcs[j]?=some v:=by simpa using ai
 refine⟨v,ew _ _ _ e3 ?_ (@Ie jx _ _ _ _ _ ao j v v ai ai),ae⟩;simp[World.cell?,hb,iw]
theorem Rq(hw:dN (bH Tryz.prog iC) ρ ro CP W)(mb:∀a b,ρ a b->KSw b)(xF:bl φ CP [.agg ah,.agg eg] tT)(gE:hv ah=true)(jY:hv eg=true)(rz:df (aZ (bH Tryz.prog iC) ρ) tT [.agg hcs,.agg pcs])(aW:∀b,KSw b->w.heap[b]?=W.heap[b]?)(bX:W.heap.size<=w.heap.size){M:Nat->Prop}(ahW:∀b,M b->∃c e f,w.heap[b]?=some (.cells c e f))(ahX:∀b,KSw b->(∃c e f,w.heap[b]?=some (.cells c e f))->M b):
  ∃V,dN (bH cl fc) (ef M) M V w/\V.heap.size=w.heap.size/\(∀b o v,M b->w.cell? ⟨b,o,none⟩=some v->aZ (bH cl fc) (ef M) v v->V.cell? ⟨b,o,none⟩=some v)/\aZ (bH cl fc) (ef M) (.agg hcs) (.agg hcs)/\aZ (bH cl fc) (ef M) (.agg pcs) (.agg pcs)/\bl n2 V ah hcs.toList/\bl n2 V eg pcs.toList:=by
 have ql:dN (bH Tryz.prog iC) ρ ro CP w:=hw.keep bX λa b bL=>aW b (mb a b bL);obtain⟨V,k1,bf,_,_,_,_,_,bP,_⟩:=Nr (bH cl fc) M w (Nat.le_trans (by rw[Sw];exact hw.ru) bX) ahW;have e3:∀b a6,ρ b a6->(∃o,w.heap[a6]?=some o/\n3 o)->M a6:=λb a6 h ⟨o,U,ab⟩=>ahX _ (mb b a6 h) (by
  cases o with
  |cells c e f=>exact⟨c,e,f,U⟩
  |_=>exact ab.elim)
 have ad:=Hf (C2:=bH cl fc) (M:=M) ql e3 bf bP [.agg ah,.agg eg] (by simp[hv,aa.l1,gE,jY]) xF rz;obtain⟨eh,r2⟩:=ad;obtain⟨s1,s2⟩:aZ (bH cl fc) (ef M) (.agg hcs) (.agg hcs)/\aZ (bH cl fc) (ef M) (.agg pcs) (.agg pcs):=by
  cases eh with
  |cons a b=>cases b with
   |cons b _=>exact⟨a,b⟩
 obtain⟨mN,fI,cy,⟨BL,dM,gC⟩,qD,ei,jF,⟨xp,kB,kC⟩,qH⟩:=r2;injection cy with cy FY;subst FY;injection jF with jF _;subst cy jF;injection dM with dM;injection kB with kB;subst dM kB;exact⟨V,k1,bf,bP,s1,s2,gC,kC⟩
theorem abY(hw:dN (bH Tryz.prog iC) ρ ro CP W)(mb:∀a b,ρ a b->KSw b)(xF:bl φ CP [.agg ah,.agg eg] tT)(gE:hv ah=true)(jY:hv eg=true)(rz:df (aZ (bH Tryz.prog iC) ρ) tT [.agg hcs,.agg pcs]){n:Nat}{bit:Nat->Bool}(Kf:∀i,i<n->Jd ah eg i (bit i))
  {Wg C hbI pbI:Nat} {bM:Nat->Prop} {j dw:Nat} (aC:j<n) (Cb:(∀b,KSw b->w.heap[b]?=W.heap[b]?)/\w.heap[hbI]?=some (.cells hcs 92)/\w.heap[pbI]?=some (.cells pcs 30)) (bX:W.heap.size<=w.heap.size) (eP:∀b,KSw b\/b=hbI\/b=pbI->bM b) (vx:bM dw) (aU:∀b,bM b->b<w.heap.size) (mX:w.heap[dw]?=some (.cells #[.int .i64 (j:Int)] 3)):
  ∃s,ku Wg C bit j s (λ_=>False) bM (born Tryz.prog (call103 Wg C (.pointer (some ⟨hbI,0,none⟩)) (.pointer (some ⟨dw,0,none⟩)) (.pointer (some ⟨pbI,0,none⟩)))) w/\Acc oR s:=by
 let M:Nat->Prop:=λb=>bM b/\∃c e f,w.heap[b]?=some (.cells c e f);obtain⟨V,k1,bf,bP,s1,s2,gC,kC⟩:=Rq hw mb xF gE jY rz Cb.1 bX (M:=M) (λb hb=>hb.2) λb hb ad=>⟨eP _ (.inl hb),ad⟩;have LR:M hbI:=⟨eP _ (.inr (.inl rfl)),_,_,_,Cb.2.1⟩;have mp:M pbI:=⟨eP _ (.inr (.inr rfl)),_,_,_,Cb.2.2⟩;have LS:M dw:=⟨vx,_,_,_,mX⟩;have aK:df (aZ (bH cl fc) (ef M)) hcs.toList hcs.toList:=by
  cases s1 with
  |agg U ab=>exact bE.toList ⟨U,ab⟩
 have aO:df (aZ (bH cl fc) (ef M)) pcs.toList pcs.toList:=by
  cases s2 with
  |agg U ab=>exact bE.toList ⟨U,ab⟩
 have xh:∀b,M b->b<V.heap.size:=λb hb=>by rw[bf];exact aU b hb.1
 have ay:∀b,M b->aZ (bH cl fc) (ef M) (.pointer (some ⟨b,0,none⟩)) (.pointer (some ⟨b,0,none⟩)):=λb hb=>.ptr ⟨⟨rfl,hb⟩,rfl,rfl⟩;have s8:=Kf j aC V (.pointer (some ⟨hbI,0,none⟩)) (.pointer (some ⟨dw,0,none⟩)) (.pointer (some ⟨pbI,0,none⟩))
  ⟨hbI,rfl,yh (xh _ LR),Pg Cb.2.1 LR bP aK gC⟩
  ⟨dw,rfl,yh (xh _ LS),⟨⟨_,bP _ _ _ LS (by simp[World.cell?,mX]) .int,rfl⟩,trivial⟩⟩
  ⟨pbI,rfl,yh (xh _ mp),Pg Cb.2.2 mp bP aO kC⟩
  (mM λv _=>v=zg (bit j) j) dv [] (.inl rfl) λv w' ai=>@Way.done jx _ _ _ _ _ λτ d=>⟨rfl,v,rfl,by injection ai⟩
 have EV:=YQ (λf w x=>by cases x.1) s8;refine⟨_,.pre (m:=5) (abN Wg C _ _ _) EV k1 ?_ (λb hb=>hb.1) λb hb=>aU b hb.1,abR (XD EV) _⟩;have fN:∀{v:Value},tY v->aZ (bH cl fc) (ef M) undef v:=λh=>by
  rcases h with⟨U,ab,al,aJ,bm⟩|h
  ·exact .bT U ab ⟨al,aJ,bm⟩
  ·subst h;exact .tuple rfl (by simp[undef])
 unfold LP xX;refine bE.ofList ?_;have ou:=fN Ic;exact .cons (fN sL) (.cons (ay _ LR) (.cons (ay _ LS) (.cons (ay _ mp) (.cons (fN sL) (.cons ou (.cons ou (.cons ou (.cons ou (.cons ou (.cons ou (.cons ou (.cons ou (.cons ou (.cons ou (.cons ou (.cons ou (.cons ou (.cons ou .nil))))))))))))))))))
end
end
section
open Go Go.Conc Go.RowKit
open Go.ConcN (PayAt Has WgLive)
def Ft(a0 eD mp:Value):Array Value:=#[a0,eD,undef,undef,undef,mp,undef,undef,undef,undef,undef,undef,undef,undef,undef,undef,.bool false,undef,undef,undef,undef,undef,undef,undef,undef,undef,undef,undef,undef,undef,undef,undef,undef,undef]
theorem abZ:ta.body=some (.seq (.region 90 rv false) l2):=by kernel_rfl
theorem aaq:ta.ntmps=34:=by kernel_rfl
theorem aeA(a0 eD z mp:Value):(#[a0,eD,z,z,z,mp]++Array.replicate 28 undef:Array Value)=#[a0,eD,z,z,z,mp,undef,undef,undef,undef,undef,undef,undef,undef,undef,undef,undef,undef,undef,undef,undef,undef,undef,undef,undef,undef,undef,undef,undef,undef,undef,undef,undef,undef]:=by kernel_rfl
theorem aar(a0 eD z mp:Value):Frame.enter cl 58 #[a0,eD,z,z,z,mp] .normal=⟨58,#[a0,eD,z,z,z,mp,undef,undef,undef,undef,undef,undef,undef,undef,undef,undef,undef,undef,undef,undef,undef,undef,undef,undef,undef,undef,undef,undef,undef,undef,undef,undef,undef,undef],[.code (.seq (.region 90 rv false) l2)],[],.run,.normal,none⟩:=by
 rw[←aeA];rw[enter_at _ ID abZ,aaq];rfl
theorem aas{T:Frame->List Frame->World->Prop}(ek:∀f w,¬T f [dv] w){a0 eD z mp:Value}{V:World}(h:m7 cl T (Frame.enter cl 58 #[a0,eD,z,z,z,mp] .normal) [dv] V):
  m7 cl T ⟨58,Ft a0 eD mp,[.code l2],[],.run,.normal,none⟩ [dv] V:=by
 rw[aar]at h;have iP:∀(f:Frame)(w:World),¬∀τ d,T f [dv] (a8 w τ d):=λf w x=>ek _ _ (x default 0);have k1:=kF (f1:=⟨58,#[a0,eD,z,z,z,mp,undef,undef,undef,undef,undef,undef,undef,undef,undef,undef,undef,undef,undef,undef,undef,undef,undef,undef,undef,undef,undef,undef,undef,undef,undef,undef,undef,undef],[.code (.region 90 rv false),.code l2],[],.run,.normal,none⟩) (cs1:=[dv]) (w1:=λτ d=>a8 V τ d) h (iP _ _) λτ d=>⟨#[],rfl⟩;have bf:=kF (f1:=⟨58,#[a0,eD,z,z,z,mp,undef,undef,undef,undef,undef,undef,undef,undef,undef,undef,undef,undef,undef,undef,undef,undef,undef,undef,undef,undef,undef,undef,undef,undef,undef,undef,undef,undef],[.inRegion rv [0,1,2,3,4],.code l2],[],.run,.normal,none⟩) (cs1:=[dv]) (w1:=λτ d=>a8 V τ d) (k1 default 0) (iP _ _) λτ d=>⟨_,rfl⟩;have bP:=kF (f1:=⟨58,#[a0,eD,z,z,z,mp,undef,undef,undef,undef,undef,undef,undef,undef,undef,undef,.bool true,undef,undef,undef,undef,undef,undef,undef,undef,undef,undef,undef,undef,undef,undef,undef,undef,undef],[.inRegion rv [1,2,3,4],.code l2],[],.run,.normal,none⟩) (cs1:=[dv]) (w1:=λτ d=>a8 V τ d) (bf default 0) (iP _ _) λτ d=>⟨_,rfl⟩;have cX:=kF (f1:=⟨58,#[a0,eD,undef,z,z,mp,undef,undef,undef,undef,undef,undef,undef,undef,undef,undef,.bool true,undef,undef,undef,undef,undef,undef,undef,undef,undef,undef,undef,undef,undef,undef,undef,undef,undef],[.inRegion rv [2,3,4],.code l2],[],.run,.normal,none⟩) (cs1:=[dv]) (w1:=λτ d=>a8 V τ d) (bP default 0) (iP _ _) λτ d=>⟨_,rfl⟩;have fi:=kF (f1:=⟨58,#[a0,eD,undef,undef,z,mp,undef,undef,undef,undef,undef,undef,undef,undef,undef,undef,.bool true,undef,undef,undef,undef,undef,undef,undef,undef,undef,undef,undef,undef,undef,undef,undef,undef,undef],[.inRegion rv [3,4],.code l2],[],.run,.normal,none⟩) (cs1:=[dv]) (w1:=λτ d=>a8 V τ d) (cX default 0) (iP _ _) λτ d=>⟨_,rfl⟩;have tW:=kF (f1:=⟨58,#[a0,eD,undef,undef,undef,mp,undef,undef,undef,undef,undef,undef,undef,undef,undef,undef,.bool true,undef,undef,undef,undef,undef,undef,undef,undef,undef,undef,undef,undef,undef,undef,undef,undef,undef],[.inRegion rv [4],.code l2],[],.run,.normal,none⟩) (cs1:=[dv]) (w1:=λτ d=>a8 V τ d) (fi default 0) (iP _ _) λτ d=>⟨_,rfl⟩;have LQ:=kF (f1:=⟨58,Ft a0 eD mp,[.inRegion rv [],.code l2],[],.run,.normal,none⟩) (cs1:=[dv]) (w1:=λτ d=>a8 V τ d) (tW default 0) (iP _ _) λτ d=>⟨_,rfl⟩;have ajo:=kF (f1:=⟨58,Ft a0 eD mp,[.code l2],[],.run,.normal,none⟩) (cs1:=[dv]) (w1:=λτ d=>a8 V τ d) (LQ default 0) (iP _ _) λτ d=>⟨_,rfl⟩;exact ajo V.tape V.drawn
theorem ab0:codeOk cl fc l2=true:=by kernel_rfl
theorem aeB:(Tryz.prog.funcs[58]?).map (·.results)=(cl.funcs[58]?).map (·.results):=by
 rw[Tryz.func58,ID];rfl
theorem akG:((Fs[0]?).bind (·.dst))=some 21:=by kernel_rfl
section
variable{C:Nat}{M:Nat->Prop}{au pa x1 mN:Value}{T:Array Value}
theorem aeC(xG:aZ (bH cl fc) (ef M) x1 au)(lv:aZ (bH cl fc) (ef M) mN pa)(e3:M C)(aq:nD au pa T)(t5:T[5]?=some (e6 C))(t16:T[16]?=some (.bool false)):cv (bH cl fc) (ef M) (Ft x1 mN (e6 C)) T:=by
 have fN:∀{v:Value},tY v->aZ (bH cl fc) (ef M) undef v:=λh=>by
  rcases h with⟨U,ab,al,aJ,bm⟩|h
  ·exact .bT U ab ⟨al,aJ,bm⟩
  ·subst h;exact .tuple rfl (by simp)
 have hm:aZ (bH cl fc) (ef M) (e6 C) (e6 C):=.ptr ⟨⟨rfl,e3⟩,rfl,rfl⟩;obtain⟨v0,v1,v2,v3,v4,v5,v6,so,sq,v9,v10,v11,v12,rS,tB,tC,vs,rT,rU,rV,v20,v21,v22,rY,v24,r1,r3,r4,v28,r6,v30,v31,r8,r9,rfl⟩:=Ej T aq.sz;have t0:=aq.t0;have t1:=aq.t1;simp  at t0 t1 t5 t16;subst t0 t1 t5 t16;refine bE.ofList ?_;exact .cons xG (.cons lv (.cons (fN (aq.gU 2 v2 rfl (by decide) (by decide))) (.cons (fN (aq.gU 3 v3 rfl (by decide) (by decide))) (.cons (fN (aq.gU 4 v4 rfl (by decide) (by decide))) (.cons hm (.cons (fN (aq.gU 6 v6 rfl (by decide) (by decide))) (.cons (fN (aq.gU 7 so rfl (by decide) (by decide))) (.cons (fN (aq.gU 8 sq rfl (by decide) (by decide))) (.cons (fN (aq.gU 9 v9 rfl (by decide) (by decide))) (.cons (fN (aq.gU 10 v10 rfl (by decide) (by decide))) (.cons (fN (aq.gU 11 v11 rfl (by decide) (by decide))) (.cons (fN (aq.gU 12 v12 rfl (by decide) (by decide))) (.cons (fN (aq.gU 13 rS rfl (by decide) (by decide))) (.cons (fN (aq.gU 14 tB rfl (by decide) (by decide))) (.cons (fN (aq.gU 15 tC rfl (by decide) (by decide))) (.cons .bool (.cons (fN (aq.gU 17 rT rfl (by decide) (by decide))) (.cons (fN (aq.gU 18 rU rfl (by decide) (by decide))) (.cons (fN (aq.gU 19 rV rfl (by decide) (by decide))) (.cons (fN (aq.gU 20 v20 rfl (by decide) (by decide))) (.cons (fN (aq.gU 21 v21 rfl (by decide) (by decide))) (.cons (fN (aq.gU 22 v22 rfl (by decide) (by decide))) (.cons (fN (aq.gU 23 rY rfl (by decide) (by decide))) (.cons (fN (aq.gU 24 v24 rfl (by decide) (by decide))) (.cons (fN (aq.gU 25 r1 rfl (by decide) (by decide))) (.cons (fN (aq.gU 26 r3 rfl (by decide) (by decide))) (.cons (fN (aq.gU 27 r4 rfl (by decide) (by decide))) (.cons (fN (aq.gU 28 v28 rfl (by decide) (by decide))) (.cons (fN (aq.gU 29 r6 rfl (by decide) (by decide))) (.cons (fN (aq.gU 30 v30 rfl (by decide) (by decide))) (.cons (fN (aq.gU 31 v31 rfl (by decide) (by decide))) (.cons (fN (aq.gU 32 r8 rfl (by decide) (by decide))) (.cons (fN (aq.gU 33 r9 rfl (by decide) (by decide))) (.nil))))))))))))))))))))))))))))))))))
end
section
variable{Q:Machine->Outcome->World->Trace->Prop}{u':Frame}{us':List Frame}{S:Nat->Prop}{C:Nat}{bs:Nat->Bool}{au pa:Value}
def Bf(S:Nat->Prop)(C:Nat)(l:List Nat)(w bF:World)(bg:Value):Prop:=(l=[]/\bg=.slice none 0 0) \/
 (l≠[]/\∃b c e f cap,l.length<=cap/\bg=.slice (some ⟨b,0,none⟩) l.length cap/\bF.heap[b]?=some (.cells c e f)/\(b=C\/w.heap.size<=b)/\¬S b/\∀(k i:Nat),l[k]?=some i->c[k]?=some (Value.int .i64 ((i:Nat):Int)))
theorem adD{K:ee}{σ:bA}{ro:Nat->Prop}{lE V W:World}{l:List Nat}{v bg:Value}(hw:dN K σ ro V W)(ad:Je l lE V v)(ai:aZ K σ v bg):(l=[]/\bg=.slice none 0 0) \/
  (l≠[]/\∃b c e f cap,l.length<=cap/\bg=.slice (some ⟨b,0,none⟩) l.length cap/\W.heap[b]?=some (.cells c e f)/\(∃a,lE.heap.size<=a/\σ a b)/\∀(k i:Nat),l[k]?=some i->c[k]?=some (Value.int .i64 ((i:Nat):Int))):=by
 rcases ad with⟨U,rfl⟩|⟨U,b,cap,cO,gH,f0,ab,al,rfl,aJ,bm⟩
 ·cases ai;grind
 ·refine .inr ⟨U,?_⟩;have eb:0<l.length:=List.length_pos_iff.2 U;generalize aI:l.length=n at ai eb;cases ai with
  |@sl _ a' _ _ ai=>
   obtain⟨⟨g1,g2,g3⟩,ah⟩:=ai;obtain⟨a6,o',s'⟩:=a';subst g2 g3;have mX:∀(k i:Nat),l[k]?=some i->W.cell? ⟨a6,k,none⟩=some (Value.int .i64 ((i:Nat):Int)):=λk i aq=>by
    have KW:V.cell? ⟨b,k,none⟩=some (Value.int .i64 ((i:Nat):Int)):=by grind [World.cell?]
    rcases hw.cell (a:=⟨b,k,none⟩) (a':=⟨a6,k,none⟩) ⟨g1,rfl,rfl⟩with⟨x,_⟩|⟨x,bk,k1,bf,bP⟩
    ·grind
    ·rw[KW]at k1;cases k1;cases bP;exact bf
   obtain⟨i0,jX⟩:∃i0,l[0]?=some i0:=⟨l[0]'(by omega),by grind⟩;obtain⟨c,e,f,du⟩:∃c e f,W.heap[a6]?=some (.cells c e f):=by grind [World.cell?]
   refine⟨a6,c,e,f,cap,by omega,rfl,du,⟨b,ab,g1⟩,λk i aq=>?_⟩;grind [World.cell?]
  |jc=>grind
theorem YV(ek:EG){ajp:World}{T:Array Value}(aq:nD au pa T)(t5:T[5]?=some (e6 C))(t16:T[16]?=some (.bool false))
  {gs:Array Goroutine} {w:World} {sl:Option (Nat×Nat)} {t:Trace} {q:Nat->Nat} (h:l3 Tryz.prog S ajp (A3 T (u'::us')) gs w t q) {M:Nat->Prop} (Ug:M C) (ahY:∀b,M b->b<w.heap.size/\¬S b) {hcs pcs:Array Value} {ah eg:List aa} (K9:au=.agg hcs) (tz:pa=.agg pcs) (oM:bG ah=true) (lZ:bG eg=true)
  (aeD:∀w1:World,w1.heap=w.heap->∃V,dN (bH cl fc) (ef M) M V w1/\V.heap.size=w1.heap.size/\(∀b o v,M b->w1.cell? ⟨b,o,none⟩=some v->aZ (bH cl fc) (ef M) v v->V.cell? ⟨b,o,none⟩=some v)/\aZ (bH cl fc) (ef M) (.agg hcs) (.agg hcs)/\aZ (bH cl fc) (ef M) (.agg pcs) (.agg pcs)/\bl n2 V ah hcs.toList/\bl n2 V eg pcs.toList)
  {c:Array Value} {e:TypeId} {f:Nat×Nat} (hC:w.heap[C]?=some (.cells c e f)) (al2:∀i,i<4->c[i]?=some (.bool (bs i)))
  (re:∀(bg:Value)(bF:World)(hQ:Array Goroutine)(lr:Option (Nat×Nat))(t1:Trace)(cy:Nat->Nat),Bf S C ((List.range 4).filter bs) w bF bg->l3 Tryz.prog S w (G (u'.finish bg) us') hQ bF t1 cy->Ends Tryz.prog Q (crowd hQ bF lr) t1):Ends Tryz.prog Q (crowd gs w sl) t:=by
 refine Dx (Wb:=w) (S:=S) (g:=A3 T (u'::us')) rfl (A:=λw'=>w'.heap=w.heap) (λw' d h=>h) (λgs w1 sl t q ak fg=>?_) _ gs w sl t q rfl ⟨h.g0,h.ey,h.pa,h.k4,h.shl,e7.refl w⟩ rfl;have mG:=aq.set 21 (by decide) (.inr Ic);have t52:(T.setIfInBounds 21 (.tuple #[]))[5]?=some (e6 C):=by grind
 have t162:(T.setIfInBounds 21 (.tuple #[]))[16]?=some (.bool false):=by grind
 have eo:stepG Tryz.prog true (A3 T (u'::us')) w1=.go (G ((base 58).at ⟨T.setIfInBounds 21 (.tuple #[]),[]⟩ [.code l2]) (u'::us')) w1 #[]:=by rfl
 obtain⟨ed,nq,bQ⟩:=ak.step (B:=λ_=>False) (RO:=λ_=>False) sl eo (Nat.le_refl _) (λe he=>by simp at he) (λb hb=>by grind) ak.db;obtain⟨lE,k1,bf,bP,s1,s2,eh,r2⟩:=aeD w1 fg;subst K9 tz;have mX:∀i,i<4->lE.cell? ⟨C,i,none⟩=some (.bool (bs i)):=λi hi=>bP _ _ _ Ug (by grind [World.cell?]) .bool;have s8:=ek ah eg bs lE (.agg hcs) (.agg pcs) (e6 C) oM lZ ⟨hcs.toList,rfl,eh⟩ ⟨pcs.toList,rfl,r2⟩ ⟨C,rfl,yh (by grind),⟨⟨_,mX 0 (by decide),rfl⟩,⟨_,mX 1 (by decide),rfl⟩,⟨_,mX 2 (by decide),rfl⟩,⟨_,mX 3 (by decide),rfl⟩,trivial⟩⟩
  (mM λv w'=>Je ((List.range 4).filter bs) lE w' v) dv [] (.inl rfl) λv w' ⟨v2,aO,ai⟩=>@Way.done jx _ _ _ _ _ λτ d=>⟨rfl,v,rfl,by
   injection aO with aO;subst aO;exact ai⟩
 have EV:=aas (λf w x=>by cases x.1) s8;refine⟨_,_,_,ed,eo,nq,YL (fn0:=58) (ro:=M) (W0:=w1) Ti Sn aeB (u':=u') (us':=us') EV ((base 58).at ⟨T.setIfInBounds 21 (.tuple #[]),[]⟩ [.code l2]) (u'::us') S (ef M) w1 ed sl _ q (.inl (.bot ⟨rfl,aeC s1 s2 Ug mG t52 t162,.cons (.code ab0) .nil,⟨[],.nil,rfl⟩,.run,rfl,λe=>(by cases e),.none,λ_=>rfl,λe=>(by cases e),λ_=>rfl,λx e=>(by cases e;rfl),λe=>(by cases e),λx e h=>(by rfl)⟩))
  ⟨bQ.g0,bQ.ey,bQ.pa,bQ.k4,λb hb a bL=>(ahY a bL.2).2 (bL.1▸hb),bQ.shl,k1,λb hb al3=>by grind,λa b bL _=>bL.1▸bL.2,e7.refl w1⟩ λσ v bg k3 bF hQ lr t1 cy cn hle ai hm=>?_⟩
 obtain⟨τ,d,cn⟩:=cn;refine re bg bF hQ lr t1 cy ?_ ⟨hm.g0,hm.ey,hm.pa,hm.k4,hm.shl,⟨by rw[←fg];exact hm.db.size,hm.db.os.trans ak.db.os,hm.db.out.trans ak.db.out,λb hb=>by rw[←fg]at hb⊢;exact hm.db.blk b hb⟩⟩;rcases adD (hm.wr.a8 τ d) cn ai with h|⟨U,b,c',e',bj,cap,ab,al,aJ,⟨a,al4,bm⟩,bI⟩
 ·exact .inl h
 ·refine .inr ⟨U,b,c',e',bj,cap,ab,al,aJ,?_,λiB=>hm.ma b iB a bm,bI⟩;rcases Nat.lt_or_ge b w1.heap.size with hb|hb
  ·have FZ:=hm.old a b bm hb;have:=hm.wr.ok.inj bm (hle b b ⟨rfl,FZ⟩);omega
  ·exact .inr (by rw[←fg];exact hb)
end
end
section
open Go Go.Conc Go.RowKit
open Go.ConcN (PayAt Has WgLive CTag Mode Vc pend OpenSt isOpen sumTo WD)
open Go.ConcR (KK wgBlock WgAt stA smA DC0 Payload)
def ag0:List FuncId:=[86,119,120,150,152,153,154,155,156,157,158,159,160,161,162,170,171,172,173,174,175]
def apO:FuncId->List FuncId->Prop:=λf L=>(f=86/\L=ag0)\/(f=87/\L=[87])
@[reducible]def my:cQ:=⟨adC,apO⟩
noncomputable def u4:Oper:=(xd[0]?).getD default
theorem afY:xd[0]?=some u4:=by kernel_rfl
theorem F0:u4.op=.alloc 151/\u4.dst=some 6/\u4.guard=none:=⟨by kernel_rfl,by kernel_rfl,by kernel_rfl⟩
theorem Qr{T:Array Value}{us:List Frame}{w:World}:stepG Tryz.prog true (yF T us) w=.go (wW (T.setIfInBounds 6 (e6 w.heap.size)) us) (w.alloc (wgBlock Tryz.link.tWg 0 0)) #[]:=by
 have ad:(execOp (⟨T,[]⟩:Act).eval u4).run Tryz.prog w=.ok (.value (e6 w.heap.size)) (w.alloc (wgBlock Tryz.link.tWg 0 0)):=by
  unfold execOp;simp only[F0.1];simp[go_sem,e6,wgBlock];try rfl
 have he:(execOp (⟨T,[]⟩:Act).eval u4).events Tryz.prog w #[]=#[]:=by
  unfold execOp;simp only[F0.1];simp[go_sem]
 have:=stepG_value (P:=Tryz.prog) (main:=true) (b:=base 58) (a:=⟨T,[]⟩) (k:=[.code Bz]) (cs:=us) (rest:=[]) afY (by simp[Region.wanted,F0.2.2]) (by decide) ad;unfold yF wW;unfold listed at this;rw[he,Go.Conc.seen_none,F0.2.1]at this;exact this
section
variable{ro S ba:Nat->Prop}{W0 V W bF:World}{ρ:bA}{g0 g1:Goroutine}{gs hQ:Array Goroutine}{t t1:Trace}{q cy:Nat->Nat}
theorem aat(hm:oP Tryz.prog Tryz.prog iC ro W0 S ρ V W g0 gs t q){tZ:World}(ak:l3 Tryz.prog ba tZ g1 hQ bF t1 cy)(ahZ:∀b,ba b->S b\/W.heap.size<=b)(aq:e7 W bF):oP Tryz.prog Tryz.prog iC ro W0 ba ρ V bF g1 hQ t1 cy:=by
 have gX:∀a b,ρ a b->b<W.heap.size:=λa b bL=>by
  obtain⟨_,_,_,k,_⟩:=hm.wr.obj _ _ bL;exact(Array.getElem?_eq_some_iff.1 k).1
 refine⟨ak.g0,ak.ey,ak.pa,ak.k4,λb hb a bL=>?_,ak.shl,hm.wr.keep aq.size λa b bL=>aq.blk b (gX a b bL),λb hb=>hm.og b (Nat.le_trans aq.size hb),hm.old,hm.db.trans aq⟩;rcases ahZ b hb with h|h
 ·exact hm.ma b h a bL
 ·exact absurd (gX a b bL) (by omega)
theorem ab1(hm:oP Tryz.prog Tryz.prog iC ro W0 ba ρ V bF g1 hQ t1 cy){tZ:World}(ah0:e7 W0 tZ)(gX:∀a b,ρ a b->b<tZ.heap.size)(dY:∀b,tZ.heap.size<=b->¬ro b)(vL:(bH Tryz.prog iC).G<=tZ.heap.size){b:Nat}{c:Array Value}{e:TypeId}{f:Nat×Nat}(hb:bF.heap[b]?=some (.cells c e f))(nt:tZ.heap.size<=b)(ah1:¬ba b):
  ∃(σ:bA)(k3:World)(dS:Array Value)(aK:TypeId)(f1:Nat×Nat),cN ρ σ/\σ V.heap.size b/\σ.c V.heap.size/\k3={ V with heap:=V.heap.push (.cells dS aK f1) }/\(∀(k:Nat)(i:Int),c[k]?=some (.int .i64 i)->dS[k]?=some (.int .i64 i))/\oP Tryz.prog Tryz.prog iC ro W0 ba σ k3 bF g1 hQ t1 cy:=by
 have ew:∀a x,ρ a x->a<V.heap.size:=λa x bL=>by
  obtain⟨_,_,k,_,_⟩:=hm.wr.obj _ _ bL;exact(Array.getElem?_eq_some_iff.1 k).1
 let σ:bA:=⟨λa x=>ρ a x\/(a=V.heap.size/\x=b),λa=>ρ.c a\/a=V.heap.size⟩;obtain⟨dS,U,ab⟩:=Sx (C:=bH Tryz.prog iC) (ρ:=σ) c;have hle:cN ρ σ:=⟨λ_ _ h=>.inl h,λ_ h=>.inl h⟩;refine⟨σ,_,dS,e,(0,max dS.size f.2),hle,.inr ⟨rfl,rfl⟩,.inr rfl,rfl,λk i aq=>ab k _ aq .int,⟨hm.g0,hm.ey,hm.pa,hm.k4,λx aj a bL=>?_,hm.shl,⟨⟨?_,?_,?_⟩,?_,hm.wr.ru,?_,?_,?_⟩,hm.og,?_,hm.db⟩⟩
 ·rcases bL with h|⟨_,rfl⟩
  ·exact hm.ma x aj a h
  ·exact ah1 aj
 ·rintro a x (h|⟨rfl,rfl⟩)
  ·exact hm.wr.ok.low h
  ·exact .inr ⟨hm.wr.hR,Nat.le_trans vL nt⟩
 ·rintro a x y (h|⟨rfl,rfl⟩) (k|⟨k1,rfl⟩)
  ·exact hm.wr.ok.fn h k
  ·exact absurd (ew _ _ h) (by omega)
  ·exact absurd (ew _ _ k) (by omega)
  ·rfl
 ·rintro a x y (h|⟨rfl,rfl⟩) (k|⟨rfl,bf⟩)
  ·exact hm.wr.ok.inj h k
  ·subst bf;exact absurd (gX _ _ h) (by omega)
  ·exact absurd (gX _ _ k) (by omega)
  ·rfl
 ·show _<=(V.heap.push _).size;rw[Array.size_push];exact Nat.le_succ_of_le hm.wr.hR
 ·rintro a x (h|⟨rfl,rfl⟩)
  ·obtain⟨o,o',k1,bf,bP⟩:=hm.wr.obj a x h;exact⟨o,o',by show(V.heap.push _)[a]?=_;rw[Array.getElem?_push_lt (ew a x h)];rw[←k1];simp[ew a x h],bf,bP.mono hle⟩
  ·exact⟨.cells dS e (0,max dS.size f.2),_,by show(V.heap.push _)[V.heap.size]?=_;simp,hb,.cells U λi _ rJ=>⟨Nat.zero_le _,Nat.lt_of_lt_of_le rJ (Nat.le_max_right _ _)⟩⟩
 ·rintro a x (h|⟨rfl,rfl⟩) aj
  ·obtain⟨c,e,n,k1,bf⟩:=hm.wr.bK a x h aj;exact⟨c,e,n,k1,by show(V.heap.push _)[a]?=_;rw[Array.getElem?_push_lt (ew a x h)];rw[←bf];simp[ew a x h]⟩
  ·exact absurd aj (dY _ nt)
 ·rintro a (h|rfl)
  ·obtain⟨o,k1,bf⟩:=hm.wr.row a h;have:=(Array.getElem?_eq_some_iff.1 k1).1;exact⟨o,by show(V.heap.push _)[a]?=_;rw[Array.getElem?_push_lt this];rw[←k1];simp[this],bf⟩
  ·exact⟨.cells dS e (0,max dS.size f.2),by show(V.heap.push _)[V.heap.size]?=_;simp,trivial⟩
 ·rintro a x (h|⟨_,rfl⟩) aj
  ·exact hm.old a x h aj
  ·exact absurd (Nat.lt_of_lt_of_le aj ah0.size) (by omega)
end
end
section
open Go Go.Conc Go.RowKit
open Go.ConcN (PayAt Has WgLive CTag Mode Vc pend OpenSt isOpen sumTo WD)
open Go.ConcR (KK wgBlock WgAt stA smA DC0 Payload)
section
variable{Wg C n:Nat}{bit:Nat->Bool}{S KSw:Nat->Prop}{W w:World}{hcs pcs:Array Value}{u':Frame}{us':List Frame}{Q:Machine->Outcome->World->Trace->Prop}
def zE(KSw:Nat->Prop)(W:World)(hcs pcs:Array Value)(hbI pbI:Nat)(w:World):Prop:=(∀b,KSw b->w.heap[b]?=W.heap[b]?)/\w.heap[hbI]?=some (.cells hcs 92)/\w.heap[pbI]?=some (.cells pcs 30)
def zF(KSw:Nat->Prop)(hbI pbI:Nat)(b:Nat):Prop:=KSw b\/b=hbI\/b=pbI
theorem Jf{hbI pbI:Nat}:fL (zF KSw hbI pbI) (zE KSw W hcs pcs hbI pbI):=λw w1 h ao hb=>⟨λb aq=>(hb b (.inl aq)).trans (h.1 b aq),(hb _ (.inr (.inl rfl))).trans h.2.1,(hb _ (.inr (.inr rfl))).trans h.2.2⟩
def Sy(bit:Nat->Bool)(i:Nat):Value:=.bool (bit i)
def JJ(i:Nat):Value:=.bool false
theorem Bf.mono{l:List Nat}{w w2 bF:World}{bg:Value}(h:Bf S C l w2 bF bg)(hle:w.heap.size<=w2.heap.size):Bf S C l w bF bg:=by
 rcases h with h|⟨U,b,c,e,f,cap,ab,al,aJ,bm,bI⟩
 ·exact .inl h
 ·exact .inr ⟨U,b,c,e,f,cap,ab,al,aJ,bm.imp id (Nat.le_trans hle),bI⟩
theorem YW{S:Nat->Prop}{B:Nat}{t:Trace}(h:kM S B t):NoRelease (stA B) t:=λi hi=>by
 obtain⟨op,ar,he⟩:=Option.map_eq_some_iff.1 hi;have:=h.rq.seen op (Array.mem_of_getElem? ar);rw[he]at this;exact Nat.lt_irrefl _ this
theorem aau(ek:EG){hbI pbI:Nat}{T:Array Value}{au pa:Value}(K9:au=.agg hcs)(tz:pa=.agg pcs){ah eg:List aa}(oM:bG ah=true)(lZ:bG eg=true)
  (mE:∀(w1:World)(M:Nat->Prop),(∀b,KSw b->w1.heap[b]?=W.heap[b]?)->W.heap.size<=w1.heap.size->(∀b,M b->∃c e f,w1.heap[b]?=some (.cells c e f))->(∀b,KSw b->(∃c e f,w1.heap[b]?=some (.cells c e f))->M b)->∃V,dN (bH cl fc) (ef M) M V w1/\V.heap.size=w1.heap.size/\(∀b o v,M b->w1.cell? ⟨b,o,none⟩=some v->aZ (bH cl fc) (ef M) v v->V.cell? ⟨b,o,none⟩=some v)/\aZ (bH cl fc) (ef M) (.agg hcs) (.agg hcs)/\aZ (bH cl fc) (ef M) (.agg pcs) (.agg pcs)/\bl n2 V ah hcs.toList/\bl n2 V eg pcs.toList)
  (F1:W.heap.size<=w.heap.size) (La:n<=4) (al5:W.heap.size<=hbI)
  (fM:∀(bM:Nat->Prop)(j dw:Nat)(w1:World),j<n->zE KSw W hcs pcs hbI pbI w1->(∀b,zF KSw hbI pbI b->bM b)->bM dw->(∀b,bM b->b<w1.heap.size)->w1.heap[dw]?=some (.cells #[.int .i64 (j:Int)] 3) ->
   ∃s,ku w.heap.size C bit j s (λ_=>False) bM (born Tryz.prog (call103 w.heap.size C (.pointer (some ⟨hbI,0,none⟩)) (.pointer (some ⟨dw,0,none⟩)) (.pointer (some ⟨pbI,0,none⟩)))) w1/\Acc oR s)
  {sa:Option Addr} {cap:Nat} (hA:hcs[1]?=some (.slice sa n cap)) (aW:zE KSw W hcs pcs hbI pbI w) (hC:w.heap[C]?=some (.cells #[.bool false,.bool false,.bool false,.bool false] 142)) (ah2:¬zF KSw hbI pbI C) (eP:∀b,zF KSw hbI pbI b->b<w.heap.size/\¬S b) (Uh:¬S C)
  (tU:nD au pa T) (t2:T[2]?=some (.pointer (some ⟨hbI,0,none⟩))) (t3:T[3]?=some (.pointer (some ⟨pbI,0,none⟩))) (t5:T[5]?=some (e6 C)) (t6:T[6]?=some (e6 w.heap.size))
  {tZ:World} {gs:Array Goroutine} {sl:Option (Nat×Nat)} {t:Trace} {q:Nat->Nat} (ak:l3 Tryz.prog S tZ (wW T (u'::us')) gs (w.alloc (wgBlock Tryz.link.tWg 0 0)) t q) (EW:kM S w.heap.size t) (Lb:∀b,S b->b<w.heap.size)
  (re:∀(bg:Value)(bF iA:World)(hQ:Array Goroutine)(lr:Option (Nat×Nat))(t1:Trace)(cy:Nat->Nat),Bf (λb=>S b\/b=w.heap.size) C (rN n bit) w bF bg->w.heap.size<=bF.heap.size->bF.os=w.os->bF.output=w.output->(∀b,b<W.heap.size->b≠C->bF.heap[b]?=w.heap[b]?)->l3 Tryz.prog (λb=>S b\/b=w.heap.size) iA (G (u'.finish bg) us') hQ bF t1 cy->Ends Tryz.prog Q (crowd hQ bF lr) t1):
  Ends Tryz.prog Q (crowd gs (w.alloc (wgBlock Tryz.link.tWg 0 0)) sl) t:=by
 have afZ:C<w.heap.size:=(Array.getElem?_eq_some_iff.1 hC).1;have hCW:C≠w.heap.size:=by omega
 have ao:(w.alloc (wgBlock Tryz.link.tWg 0 0)).heap.size=w.heap.size+1:=by simp
 have hold:∀b,b<w.heap.size->(w.alloc (wgBlock Tryz.link.tWg 0 0)).heap[b]?=w.heap[b]?:=λb hb=>Below.heap_alloc _ _ _ hb;have gA:WgAt Tryz.link.tWg w.heap.size (w.alloc (wgBlock Tryz.link.tWg 0 0)) 0 0:=heap_alloc_new w _;have Lc:(w.alloc (wgBlock Tryz.link.tWg 0 0)).heap[C]?=some (.cells #[.bool false,.bool false,.bool false,.bool false] 142):=(hold C afZ).trans hC;have Ui:zE KSw W hcs pcs hbI pbI (w.alloc (wgBlock Tryz.link.tWg 0 0)):=Jf (KSw:=KSw) w _ aW (by omega) λb hb=>hold b (eP b hb).1;obtain⟨Wp,Ld⟩:∃Wp,Wp=w.alloc (wgBlock Tryz.link.tWg 0 0):=⟨_,rfl⟩;rw[←Ld]at ak ao hold gA Lc Ui⊢;have tp:Wp.os=w.os:=by rw[Ld];rfl
 have rp:Wp.output=w.output:=by rw[Ld];rfl
 have rP:0<gs.size:=(Array.getElem?_eq_some_iff.1 ak.g0).1;obtain⟨F,aw⟩:∃F,F=n*2000+11000:=⟨_,rfl⟩;refine XC (ty:=Tryz.link.tWg) (val:=Sy bit) (ini:=JJ) (Fin:=wX w.heap.size C n au pa (u'::us') (zF KSw hbI pbI) (zE KSw W hcs pcs hbI pbI)) (S:=S) (j0:=gs.size-1) (Wp:=Wp) (ady (bit:=bit) hCW) (by decide) (λj bM A g gs w1 sl t q af0 fe=>?_) (F+50) .anch 0 0 0 (zF KSw hbI pbI) Wp.heap.size (zE KSw W hcs pcs hbI pbI) (wW T (u'::us')) ?_ (by simp) (wW T (u'::us')) .anch (λ_=>⟨0,0,0⟩) (λ_=>none) (λ_=>0) (λ_ _=>False) gs Wp sl t q 0 0 ?_
 ·obtain⟨rfl,al6,ah3,x2,ah4,ah5,af1,af2⟩:=af0;have ah6:=ah3 w1 fe.qF;refine aap (ty:=Tryz.link.tWg) (Wg:=w.heap.size) (Wb:=w1) (S:=λb=>S b\/b=w.heap.size) (g1:=A3 x2 (u'::us')) (λgs w2 sl t q qd bQ lV akT=>?_) 200 g af2 gs w1 sl t q ⟨fe.a0,fe.ey,fe.pa,fe.k4,λb hb=>?_,e7.refl w1⟩ fe.live rfl
  ·obtain⟨c,ah,Le⟩:=fe.pay;have ah7:C<w1.heap.size:=(Array.getElem?_eq_some_iff.1 ah).1;have oK:∀b,KSw b->w2.heap[b]?=W.heap[b]?:=λb hb=>(lV b (by have:=(eP b (.inl hb)).1;have:=fe.hR;omega)).trans (ah6.1 b hb);have Uj:=(lV C ah7).trans ah;refine YV (S:=λb=>S b\/b=w.heap.size) (bs:=λi=>decide (i<j)&&bit i) (M:=λb=>(KSw b\/b=C)/\∃c e f,w2.heap[b]?=some (.cells c e f)) ek ah4 ah5 af1 bQ ⟨.inr rfl,_,_,_,Uj⟩ (λb hb=>⟨?_,?_⟩) K9 tz oM lZ (λw3 qo=>mE w3 _ (λb hb=>by rw[qo];exact oK b hb) ?_ (λb hb=>by rw[qo];exact hb.2) λb hb ad=>⟨.inl hb,by rw[←qo];exact ad⟩) Uj (λi hi=>?_) λbg bF hQ lr t1 cy Kg dC=>re bg bF _ hQ lr t1 cy (Kg.mono ?_) ?_ ?_ ?_ ?_ dC
   ·obtain⟨_,c',e',bj,h⟩:=hb;exact(Array.getElem?_eq_some_iff.1 h).1
   ·rintro(h|h)
    ·rcases hb.1 with hb|rfl
     ·exact(eP b (.inl hb)).2 h
     ·exact Uh h
    ·rcases hb.1 with hb|rfl
     ·have:=(eP b (.inl hb)).1;omega
     ·exact hCW h
   ·rw[qo];have:=fe.hR;omega
   ·by_cases dL:i<j
    ·have:=fe.has i dL;simp only[dL,decide_true,Bool.true_and];simpa[Has,World.cell?,ah,Sy]using this
    ·have:=fe.rest i (by omega) hi;simp only[dL,decide_false,Bool.false_and];simpa[World.cell?,ah,JJ]using this
   ·have:=fe.hR;omega
   ·have:=dC.db.size;have:=fe.hR;omega
   ·exact dC.db.os.trans (bQ.db.os.trans (fe.os.trans tp))
   ·exact dC.db.out.trans (bQ.db.out.trans (fe.out.trans rp))
   ·intro b hb ah8;have:=fe.hR;exact(dC.db.blk b (by omega)).trans ((lV b (by omega)).trans ((fe.base b (by omega) (by omega) ah8).trans (hold b (by omega))))
  ·have:=fe.hR;rcases hb with hb|rfl
   ·have:=Lb b hb;omega
   ·omega
 ·refine abU (hb:=.pointer (some ⟨hbI,0,none⟩)) (pb:=.pointer (some ⟨pbI,0,none⟩)) (F:=F) (Jf (KSw:=KSw)) (Nat.le_refl _) (hbI:=hbI) (.inr (.inl rfl)) (sa:=sa) (cap:=cap) (λw1 fg=>?_) rfl (λT ek ab al bm bI nu ah9=>?_) tU t2 t3 t5 t6
  ·simp[World.cell?,fg.2.1,hA]
  ·rw[aw];exact aan La fM n 0 (by omega) _ _ _ T (Jf (KSw:=KSw)) (λ_ h=>h) (λ_ h=>h) ek ab al bm bI nu ah9
 ·have B8:=(hl.start EW (Nat.le_refl _) (j0:=gs.size-1) λop aE=>by have:=ak.k4 op aE;omega).mono (B':=Wp.heap.size) (by omega);refine⟨⟨by omega,λk g aq _ aN=>ak.ey.old k g aq aN,λi hi=>absurd hi (by omega),B8.grow (λk l _ _ h=>h.elim) (λk l _ aq h=>?_) (λk l _ aq=>⟨λ⟨b,_,h,_⟩=>absurd h (by omega),λh=>h.elim⟩),YW EW,ak.pa.rq.hears,λi hi=>absurd hi (by omega),λi hi=>absurd hi (by omega),λi hi=>absurd hi (by omega),⟨_,Lc,rfl⟩,λi _ hi=>?_,⟨0,0,gA⟩,⟨rfl,rfl,λ_ _=>rfl,λi b h=>h.elim,Uh,λh=>Nat.lt_irrefl _ (Lb _ h),hCW⟩,Nat.zero_le _,λ_ _=>rfl,λb h=>absurd rfl h,λi b h=>h.elim,λi b h=>h.elim,Nat.le_refl _,λb hb=>by have:=Lb b hb;omega,λb _ _ _=>rfl,rfl,rfl⟩,
   ak.g0,.inl ⟨rfl,rfl⟩,λh=>absurd rfl h,rfl,gA,?_,?_,Ui,λb hb=>⟨by have:=(eP b hb).1;omega,rfl,by have:=(eP b hb).1;omega,λe=>ah2 (e▸hb),(eP b hb).2⟩,λi b h=>h.elim,Nat.le_refl _,Nat.le_refl _,λi hi=>absurd hi (by omega)⟩
  ·rcases h with⟨b,_,h,al⟩|⟨i,h,_⟩
   ·omega
   ·omega
  ·have:i=0\/i=1\/i=2\/i=3:=by omega
   rcases this with rfl|rfl|rfl|rfl<;>simp[World.cell?,Lc,JJ]
  ·have:=Mode.opn (j:=0) (D:=λ_=>(⟨0,0,0⟩:WD)) (tag:=.anch) trivial (λi hi=>absurd hi (by omega)) (λaf e=>by cases e);simpa[Vc,pend,sumTo]using this
  ·simp[Vc,pend,sumTo]
end
end
section
open Go Go.Conc Go.RowKit
open Go.ConcN (PayAt Has WgLive sumTo)
open Go.ConcR (wgBlock WgAt Payload)
section
variable{ro:Nat->Prop}{W0:World}{Q:Machine->Outcome->World->Trace->Prop}
theorem Ph{C:ee}{ρ:bA}{a:Array Value}{v:Value}(h:aZ C ρ (.agg a) v):∃a',v=.agg a'/\cv C ρ a a':=by
 cases h with
 |agg U ab=>exact⟨_,rfl,U,ab⟩
theorem YX{C:ee}{ρ:bA}{φ:bo}{V:World}{q:aa}{n:Nat}(aH:Ke q n){v bg:Value}(ai:aY φ V q v)(h:aZ C ρ v bg):∃sa cap,bg=.slice sa n cap:=by
 rcases aH with⟨rfl,rfl⟩|⟨sz,off,cs,rfl⟩
 ·have ai:v=.slice none 0 0:=ai;subst ai;cases h;exact⟨_,_,rfl⟩
 ·obtain⟨_,a,cap,rfl,_⟩:=ai;cases h with
  |bC=>exact⟨_,_,rfl⟩
  |sl h=>exact⟨_,_,rfl⟩
  |jc=>exact⟨_,_,rfl⟩
theorem ab2(ek:EG):@IG my Tryz.prog Tryz.prog iC ro W0 Q:=by
 intro f a a' u' us' S ρ V W gs sl t q nE fM F2 aeE au akH hm re;obtain⟨rfl,bX,φ,ah,eg,cy,n,bit,xF,gE,jY,oM,lZ,tG,aI,La,Kf,JK⟩:=aeE V.tape V.drawn;rw[ab3]at xF JK;have Tq:=xF;obtain⟨mN,fI,aK,⟨BL,aO,k1⟩,qD,ei,bS,⟨xp,b8,bf⟩,en⟩:=xF;have en:ei=[]:=en;subst aO b8 en bS;have rz:=bE.toList au;rw[aK]at rz;obtain⟨aia⟩:=a';have bQ:∃hcs pcs,aia=[.agg hcs,.agg pcs]/\cv (bH Tryz.prog iC) ρ BL.toArray hcs:=by
  simp only at rz;cases rz with
  |cons U ab=>
   cases ab with
   |cons ab al=>
    cases al;obtain⟨hcs,rfl,k⟩:=Ph U;obtain⟨pcs,rfl,_⟩:=Ph ab;exact⟨hcs,pcs,rfl,k⟩
 obtain⟨hcs,pcs,rfl,aq⟩:=bQ;simp only at rz;obtain⟨sa,cap,hA⟩:∃sa cap,hcs[1]?=some (.slice sa n cap):=by
  obtain⟨v1,Uk,vz⟩:=o1 k1 tG;rcases aq.get 1 with⟨jh,_⟩|⟨x,y,jh,vK,mP⟩
  ·simp[Uk]at jh
  ·have:x=v1:=by simpa[Uk]using jh.symm
   subst this;obtain⟨sa,cap,rfl⟩:=YX aI vz mP;exact⟨sa,cap,vK⟩
 have gX:∀x b,ρ x b->b<W.heap.size:=λx b bL=>by
  obtain⟨_,_,_,k,_⟩:=hm.wr.obj _ _ bL;exact(Array.getElem?_eq_some_iff.1 k).1
 have mb:∀x b,ρ x b->b<W.heap.size/\¬S b:=λx b bL=>⟨gX x b bL,λh=>hm.ma b h x bL⟩;have vL:(bH cl fc).G<=W.heap.size:=by rw[Sw];exact hm.wr.ru
 refine aao (Wb:=W) (R:=W.heap.size) (S:=S) (Nat.le_refl _) (λbM A g gs w sl t q aib bh aW h8 ak=>?_) 12 (λb=>b<W.heap.size/\¬S b) _ _ (abX (W:=W) (hcs:=hcs) (pcs:=pcs) (us:=u'::us')) gs W sl t q ⟨hm.g0,hm.ey,hm.pa,hm.k4,hm.shl,e7.refl W⟩ (λb _=>rfl) (λb hb=>hb) (Nat.le_refl _);obtain⟨hbI,pbI,C,T,hn,k5,GB,d1,d2,eh,r2,nF,Ul,aic,rfl,tU,t2,t3,t5⟩:=aib;refine Dx (A:=λw=>A w/\∀b,bM b->b<w.heap.size/\¬S b) rfl (λw d aj=>⟨bh w _ aj.1 (Nat.le_refl _) (λ_ _=>rfl),aj.2⟩) (λgs w sl t q ak aj=>?_) _ gs w sl t q rfl ak ⟨aW,h8⟩;obtain⟨aW,h8⟩:=aj;have aQ:=aic w aW;have ao:(w.alloc (wgBlock Tryz.link.tWg 0 0)).heap.size=w.heap.size+1:=by simp
 have F1:W.heap.size<=w.heap.size:=ak.db.size;obtain⟨ed,nq,bQ⟩:=ak.step (B:=λ_=>False) (RO:=λ_=>False) sl Qr (by omega) (λe he=>by simp at he) (λb hb=>by rcases hb with h|h<;>exact h.elim) ⟨by omega,ak.db.os,ak.db.out,λb hb=>(Below.heap_alloc _ _ _ (Nat.lt_of_lt_of_le hb F1)).trans (ak.db.blk b hb)⟩;have EW:kM S w.heap.size (t++MemOp.ofEvents 0 (yF T (u'::us')).frame.fn (yF T (u'::us')).frame.place #[]):=ak.pa.own (σ:=ef λ_=>False) (ro:=λ_=>False) (λe he=>by simp at he) (λb _ a h=>h.2) λa b h=>h.2.elim;have aid:bM C:=(Ul C).2 (.inr (.inr (.inr rfl)));refine⟨_,_,_,ed,Qr,nq,aau (W:=W) (w:=w) (KSw:=λb=>b<W.heap.size/\¬S b) (hbI:=hbI) (pbI:=pbI) (C:=C) (n:=n) (bit:=bit) (hcs:=hcs) (pcs:=pcs) ek rfl rfl oM lZ (λw1 M U ab al aJ=>Rq hm.wr mb Tq gE jY (by rw[aK];exact rz) U ab al aJ) F1 La eh (λbM j dw w1 aC U ab al aJ bm=>?_) hA ⟨aQ.1,aQ.2.1,aQ.2.2.1⟩ aQ.2.2.2 ?_ (λb hb=>h8 b ((Ul b).2 ?_)) (h8 C aid).2 (tU.set 6 (by decide) (.inr sL)) (by rw[Array.getElem?_setIfInBounds_ne (by decide)];exact t2) (by rw[Array.getElem?_setIfInBounds_ne (by decide)];exact t3) (by rw[Array.getElem?_setIfInBounds_ne (by decide)];exact t5) (by rw[Array.getElem?_setIfInBounds_self_of_lt (by rw[tU.sz];decide)];rfl) bQ EW ak.shl λbg bF iA hQ lr t1 cy Kg fg kW qo aie dC=>?_⟩
 ·refine abY hm.wr mb Tq gE jY ?_ Kf aC U ?_ ab al aJ bm
  ·rw[aK];exact rz
  ·have:=(Array.getElem?_eq_some_iff.1 U.2.1).1;omega
 ·rintro(h|h|h)
  ·exact GB h
  ·exact d1 h
  ·exact d2 h
 ·rcases hb with h|h|h
  ·exact .inl h
  ·exact .inr (.inl h)
  ·exact .inr (.inr (.inl h))
 ·have FQ:W.heap.size<=C:=nF;have aq:e7 W bF:=⟨Nat.le_trans F1 fg,kW.trans ak.db.os,qo.trans ak.db.out,λb hb=>(aie b hb (by omega)).trans (ak.db.blk b hb)⟩;have Um:=aat hm dC (λb hb=>hb.imp id λe=>by omega) aq;rcases Kg with⟨fK,rfl⟩|⟨bU,b,c,e,f,Vd,g1,rfl,g3,g4,g5,g6⟩
  ·exact re ρ _ _ V bF _ hQ lr t1 cy (JK _ _ (.inl ⟨fK,rfl,rfl⟩)) (cN.refl ρ) .bC Um
  ·obtain⟨σ,k3,dS,e',f1,s1,s2,vM,rfl,ajq,ajr⟩:=ab1 Um hm.db gX hm.og hm.wr.ru g3 (by rcases g4 with rfl|h<;>omega) g5;exact re σ _ (.slice (some ⟨b,0,none⟩) (rN n bit).length Vd) _ bF _ hQ lr t1 cy (JK _ _ (.inr ⟨bU,dS,e',f1,Vd,g1,rfl,rfl,λk i tt=>ajq k _ (g6 k i tt)⟩)) s1 (.sl ⟨⟨s2,rfl,rfl⟩,vM⟩) ajr
end
end
section
open Go Go.RowKit
variable[cQ]
structure xQ(T:aa->aa):Prop where
 plain:∀q,q.plain=true->T q=q
 undef:T .undef=.undef
 agg:∀l,T (.agg l)=.agg (l.map T)
 bD:∀l,T (.bD l)=.bD (l.map T)
 fn:∀f l,T (.fn f l)=.fn f (l.map T)
 sl:∀sz off len l,T (.sl none sz off len l)=.sl none sz off len (l.map T)
 bJ:∀off l,T (.bJ none off l)=.bJ none off (l.map T)
 cq:∀l,T (.cq l)=.cq l
 one:∀q,q.one=true->(∀o,q=.bJ o 0 []->True)->(T q).one=true\/T q=.bad
theorem acW(id:Nat):xQ (aa.bK id) where
 plain:=λq h=>HT id q h
 undef:=by simp only[aa.bK]
 agg:=λl=>by simp only[aa.bK,sF]
 bD:=λl=>by simp only[aa.bK,sF]
 fn:=λf l=>by simp only[aa.bK,sF]
 sl:=λsz off len l=>by simp only[aa.bK,sF]
 bJ:=λoff l=>by simp only[aa.bK,sF]
 cq:=λl=>by simp only[aa.bK]
 one:=λq h _=>by
  cases q with
  |sl id _ _ _ _=>cases id<;>exact .inl (by simp[aa.bK,aa.one])
  |bJ id _ _=>cases id<;>exact .inl (by simp[aa.bK,aa.one])
  |mp _ id _ _=>cases id<;>exact .inl (by simp[aa.bK,aa.one])
  |undef=>simp[aa.one]at h
  |bad=>simp[aa.one]at h
  |agg _=>simp[aa.one]at h
  |bD _=>simp[aa.one]at h
  |_=>exact .inl (by simp[aa.bK,aa.one])
theorem aa6(e:b9)(q:aa)(h:q.one=true):(q.bW e).one=true\/q.bW e=.bad:=by
 cases q with
 |sl id _ _ _ _=>
  cases id with
  |none=>exact .inl (by simp[aa.bW,aa.one])
  |some i=>cases e<;>simp only[aa.bW]<;>split<;>exact .inl (by simp[aa.one])
 |bJ id _ _=>
  cases id with
  |none=>exact .inl (by simp[aa.bW,aa.one])
  |some i=>cases e<;>simp only[aa.bW]<;>split<;>first|exact .inr rfl|exact .inl rfl
 |mp it id sz cs=>
  cases id with
  |none=>exact .inl (by simp[aa.bW,aa.one])
  |some i=>
   cases e with
   |kill j=>simp only[aa.bW];split<;>first|exact .inr rfl|exact .inl rfl
   |wr j p v=>
    simp only[aa.bW];split
    ·split
     ·split<;>first|exact .inr rfl|exact .inl rfl
     ·exact .inr rfl
    ·exact .inl rfl
 |undef=>simp[aa.one]at h
 |bad=>simp[aa.one]at h
 |agg _=>simp[aa.one]at h
 |bD _=>simp[aa.one]at h
 |_=>exact .inl (by simp[aa.bW,aa.one])
theorem acX(E:List b9):aa.sub E .bad=.bad:=by
 induction E with
 |nil=>rfl
 |cons e E az=>simp only[aa.sub,aa.bW,az]
theorem QM(E:List b9):xQ (aa.sub E):=by
 induction E with
 |nil=>exact⟨λ_ _=>rfl,rfl,λl=>by simp[aa.sub],λl=>by simp[aa.sub],λf l=>by simp[aa.sub],λ_ _ _ l=>by simp[aa.sub],λ_ l=>by simp[aa.sub],λl=>rfl,λq h _=>.inl h⟩
 |cons e E az=>
  refine⟨λq h=>OJ _ h,?_,λl=>?_,λl=>?_,λf l=>?_,λ_ _ _ l=>?_,λ_ l=>?_,λl=>?_,λq h _=>?_⟩
  ·simp only[aa.sub,aa.bW,az.undef]
  ·simp only[aa.sub,aa.bW,pV,az.agg,List.map_map];rfl
  ·simp only[aa.sub,aa.bW,pV,az.bD,List.map_map];rfl
  ·simp only[aa.sub,aa.bW,pV,az.fn,List.map_map];rfl
  ·simp only[aa.sub,aa.bW,pV,az.sl,List.map_map];rfl
  ·simp only[aa.sub,aa.bW,pV,az.bJ,List.map_map];rfl
  ·simp only[aa.sub,aa.bW,az.cq]
  ·rcases aa6 e q h with U|U
   ·exact az.one _ U (λ_ _=>trivial)
   ·exact .inr (by simp only[aa.sub,U,acX])
structure j8(F:cP)(E E':Env)(f:aL->aL)(T:aa->aa):Prop where
 kx:xQ T
 ρ:E.ρ<+:E'.ρ
 e:∀x,f (.e x)=.e x
 undef:f .undef=.undef
 bT:f .bT=.bT
 c8:f .c8=.c8
 fQ:∀x sz fo,f (.fQ x sz fo)=.fQ x sz fo
 cq:∀y,f (.cq y)=.cq y
 fn:∀g l,f (.fn g l)=.fn g (l.map f)
 agg:∀l,f (.agg l)=.agg (l.map f)
 bD:∀l,f (.bD l)=.bD (l.map f)
 lit:∀a b l,f (.lit a b l)=.lit a b (l.map f)
 ft:∀l o,f (.ft l o)=.ft (l.map f) o
 ptr:∀i o q,bZ F E (.ptr i o) q->bZ F E' (f (.ptr i o)) (T q)/\(f (.ptr i o)=.bT\/(T q).one=true)
 S2:∀q,bZ F E .c8 q->T q=q
 own:∀k q,bZ F E (.own k) q->bZ F E' (f (.own k)) (T q)/\(f (.own k)=.bT\/(T q).one=true)
 fF:∀k x fo q,bZ F E (.fF k x fo) q->bZ F E' (f (.fF k x fo)) (T q)/\(f (.fF k x fo)=.bT\/(T q).one=true)
theorem Ah{T:aa->aa}(h:xQ T){l:List aa}(ak:bG l=true):l.map T=l:=by
 rw[hH]at ak
 conv=>rhs;rw[←List.map_id l]
 exact List.map_congr_left λq aH=>h.plain q (ak q aH).1
section
variable{F:cP}{E E':Env}{f:aL->aL}{T:aa->aa}
mutual
theorem j8.ow(t:j8 F E E' f T):∀{v:aL}{q:aa},bZ F E v q->bZ F E' (f v) (T q)
 |.e x,q,h=>by
  rw[t.e];simp only[bZ]at h⊢;obtain⟨aK,aO⟩:=aR.j9 t.ρ h.2;rw[t.kx.plain q (by rw[h.1];exact aR.jJ h.2),aK];exact⟨h.1,aO⟩
 |.undef,q,h=>by
  rw[t.undef];simp only[bZ]at h⊢;rw[h,t.kx.undef]
 |.bT,q,h=>by rw[t.bT];simp only[bZ]
 |.ptr i o,q,h=>(t.ptr i o q h).1
 |.c8,q,h=>by
  rw[t.c8,t.S2 q h];simpa only[bZ]using h
 |.cq _,q,h=>by
  rw[t.cq];simp only[bZ]at h⊢;obtain⟨l,U,rfl⟩:=h;exact⟨l,U,t.kx.cq l⟩
 |.own k,q,h=>(t.own k q h).1
 |.fF k x fo,q,h=>(t.fF k x fo q h).1
 |.fQ x sz fo,q,h=>by
  rw[t.fQ];simp only[bZ]at h⊢;obtain⟨cs,off,lI,U,ab,al,rfl⟩:=h;obtain⟨aK,aO⟩:=aR.j9 t.ρ ab;have ae:bG cs=true:=by have:=aR.jJ ab;rw[U]at this;simpa only[aa.plain]using this
  refine⟨cs,off,lI.map T,by rw[aK];exact U,aO,al,?_⟩;rw[t.kx.bJ,List.map_append];congr 2;have:=Ah t.kx ae;rw[List.map_drop,this]
 |.ft l fo,q,h=>by
  rw[t.ft];simp only[bZ]at h⊢;obtain⟨aG,U,ab,rfl⟩:=h;refine⟨aG,?_,ab,?_⟩
  ·have:=j8.nx t U;rwa[Ah t.kx ab]at this
  ·rw[t.kx.bJ,List.map_drop,Ah t.kx ab]
 |.fn g l,q,h=>by
  rw[t.fn];simp only[bZ]at h⊢;obtain⟨aG,rfl,ab⟩:=h;exact⟨_,t.kx.fn _ _,j8.nx t ab⟩
 |.agg l,q,h=>by
  rw[t.agg];simp only[bZ]at h⊢;obtain⟨aG,rfl,ab⟩:=h;exact⟨_,t.kx.agg _,j8.nx t ab⟩
 |.bD l,q,h=>by
  rw[t.bD];simp only[bZ]at h⊢;obtain⟨aG,rfl,ab⟩:=h;exact⟨_,t.kx.bD _,j8.Cy t ab⟩
 |.lit sz len l,q,h=>by
  rw[t.lit];simp only[bZ]at h⊢;obtain⟨aG,rfl,ab,al,aJ⟩:=h;have:=j8.nx t ab;rw[Ah t.kx al]at this;exact⟨aG,by rw[t.kx.sl,Ah t.kx al],this,al,aJ⟩
theorem j8.nx(t:j8 F E E' f T):∀{l:List aL}{aG:List aa},cJ F E l aG->cJ F E' (l.map f) (aG.map T)
 |[],aG,h=>by simp only[cJ]at h;subst h;simp[cJ]
 |v::af,aG,h=>by
  simp only[cJ]at h;obtain⟨q,r,rfl,ab,al,aJ⟩:=h;simp only[List.map_cons,cJ];refine⟨T q,r.map T,rfl,j8.ow t ab,?_,j8.nx t aJ⟩;rcases al with rfl|al
  ·exact .inl t.bT
  ·cases v with
   |ptr i o=>exact(t.ptr i o q ab).2
   |own k=>exact(t.own k q ab).2
   |fF k x fo=>exact(t.fF k x fo q ab).2
   |bT=>exact .inl t.bT
   |cq _=>
    simp only[bZ]at ab;obtain⟨l,_,rfl⟩:=ab;rw[t.kx.cq];exact .inr rfl
   |undef=>simp only[bZ]at ab;subst ab;simp[aa.one]at al
   |e x=>
    simp only[bZ]at ab;rw[t.kx.plain q (by rw[ab.1];exact aR.jJ ab.2)];exact .inr al
   |c8=>rw[t.S2 q ab];exact .inr al
   |fQ x sz fo=>
    simp only[bZ]at ab;obtain⟨cs,off,lI,_,_,_,rfl⟩:=ab;rw[t.kx.bJ];exact .inr rfl
   |ft l fo=>
    simp only[bZ]at ab;obtain⟨aG,_,_,rfl⟩:=ab;rw[t.kx.bJ];exact .inr rfl
   |fn g l=>
    simp only[bZ]at ab;obtain⟨aG,rfl,_⟩:=ab;rw[t.kx.fn];exact .inr rfl
   |agg l=>
    simp only[bZ]at ab;obtain⟨aG,rfl,_⟩:=ab;simp[aa.one]at al
   |bD l=>
    simp only[bZ]at ab;obtain⟨aG,rfl,_⟩:=ab;simp[aa.one]at al
   |lit a b l=>
    simp only[bZ]at ab;obtain⟨aG,rfl,_⟩:=ab;rw[t.kx.sl];exact .inr rfl
theorem j8.Cy(t:j8 F E E' f T):∀{l:List aL}{aG:List aa},hk F E l aG->hk F E' (l.map f) (aG.map T)
 |[],aG,h=>by simp only[hk]at h;subst h;simp[hk]
 |v::af,aG,h=>by
  simp only[hk]at h;obtain⟨q,r,rfl,ab,aJ⟩:=h;simp only[List.map_cons,hk];exact⟨T q,r.map T,rfl,j8.ow t ab,j8.Cy t aJ⟩
end
end
theorem AM(k:Nat)(x:aR)(l:List aL):u0 k x l=l.map (aL.bK k x):=by
 induction l with
 |nil=>rfl
 |cons v l az=>simp[u0,az]
theorem qQ(k:Nat)(a:Bool)(l:List aL):u1 k a l=l.map (aL.q2 k a):=by
 induction l with
 |nil=>rfl
 |cons v l az=>simp[u1,az]
theorem Aw(i:Nat)(c l:List aL):uO i c l=l.map (aL.cx i c):=by
 induction l with
 |nil=>rfl
 |cons v l az=>simp[uO,az]
end
section
open Go Go.RowKit
variable[cQ]
section
variable{F:cP}{S:Sym}{ρ:List aa}{ids:Nat->Option Nat}{s:aA}
@[simp]theorem acY(d:Option Tmp)(v:aL):(S.put d v).env ρ ids=S.env ρ ids:=by cases d<;>rfl
@[simp]theorem akz(d:Option Tmp)(v:aL):(S.put d v).cd=S.cd:=by cases d<;>rfl
@[simp]theorem akA(d:Option Tmp)(v:aL):(S.put d v).cU=S.cU:=by cases d<;>rfl
@[simp]theorem akB(d:Option Tmp)(v:aL):(S.put d v).bx=S.bx:=by cases d<;>rfl
@[simp]theorem akC(d:Option Tmp)(v:aL):(S.put d v).bd=S.bd:=by cases d<;>rfl
@[simp]theorem akf(d:Option Tmp)(v:aL):(S.put d v).bb=S.bb:=by cases d<;>rfl
@[simp]theorem akg(d:Option Tmp)(v:aL):(S.put d v).base=S.base:=by cases d<;>rfl
@[simp]theorem ajT(d:Option Tmp)(v:aL):(S.put d v).dO=S.dO:=by cases d<;>rfl
theorem get_put(d:Nat)(v:aL)(t:Nat):(S.put (some d) v).get t=if t=d/\d<S.g.length then v else S.get t:=by
 simp only[Sym.put,Sym.get,List.getD_eq_getElem?_getD,List.getElem?_set];by_cases h:d=t
 ·subst h;by_cases ak:d<S.g.length
  ·simp[ak]
  ·simp[ak]
 ·have bc:¬t=d:=λe=>h e.symm;simp[h,bc]
theorem Rel.put(h:Rel F S ρ ids s)(d:Option Tmp){v:aL}{q:aa}(ai:bZ F (S.env ρ ids) v q):Rel F (S.put d v) ρ ids (s.put d q):=by
 refine⟨by simpa using h.len,by simpa using h.cU,λt=>?_,by simpa using h.dt,by simpa using h.old,by simpa using h.box,by simpa using h.hO,h.mv,by simpa using h.arr,by simpa using h.a0,h.cV,by simpa using h.kY,by simpa using h.bb,by simpa using h.new,by simpa using h.keep,by simpa using h.dO,by simpa using h.lG,by simpa using h.mS,by simpa using h.an,h.kZ,by cases d<;>exact h.rc⟩;rw[acY];cases d with
 |none=>exact h.slot t
 |some d=>
  rw[get_put,aA.aef];by_cases a1:t=d
  ·subst a1;rw[if_pos rfl];by_cases ak:t<S.g.length
   ·simp[ak];exact ai
   ·have:S.get t=.bT:=by simp[Sym.get,List.getD_eq_getElem?_getD,List.getElem?_eq_none (by omega:S.g.length<=t)]
    simp only[ak,and_false,if_false,this,bZ]
  ·simp only[a1,false_and,if_false];exact h.slot t
def Sym.bind(S:Sym)(cU:Bool):Sym:={ S with cd:=S.cd+1,cU:=if cU then S.cd::S.cU else S.cU }
theorem Env.p0(S:Sym)(ρ:List aa)(ids:Nat->Option Nat)(v:aa)(cU:Bool):(S.env ρ ids).le ((S.bind cU).env (ρ++[v]) ids):=
 ⟨List.prefix_append _ _,λ_ _ h=>h,Nat.le_refl _,λ_ _ _=>rfl⟩
theorem Ex{E E':Env}(h:E.le E'){b:ga}{c:di}(hb:vQ F E b c):vQ F E' b c:=by
 cases b with
 |cells l=>
  obtain⟨aG,U,ab⟩:=hb;exact⟨aG,U,cJ.mono h ab⟩
 |c8=>exact hb
 |gone=>exact hb
theorem Rel.bind(h:Rel F S ρ ids s)(v:aa)(cU:Bool)(aq:cU=true->v.one=true):Rel F (S.bind cU) (ρ++[v]) ids s:=by
 have hle:=Env.p0 S ρ ids v cU;refine⟨by simp[Sym.bind,h.len],λi hi=>?_,λt=>bZ.mono hle (h.slot t),h.dt,h.old,λi b hb=>Ex hle (h.box i b hb),h.hO,h.mv,λk a au=>?_,h.a0,h.cV,h.kY,h.bb,h.new,h.keep,h.dO,h.lG,h.mS,h.an,h.kZ,h.rc.push⟩
 ·have old:∀i,i∈S.cU->((ρ++[v]).getD i .bad).one=true:=λi hi=>by
   have U:=h.cU i hi;have:i<ρ.length:=by
    rcases Nat.lt_or_ge i ρ.length with ab|ab
    ·exact ab
    ·simp[List.getD_eq_getElem?_getD,List.getElem?_eq_none ab,aa.one]at U
   simpa[List.getD_eq_getElem?_getD,List.getElem?_append_left this]using U
  cases cU with
  |false=>exact old i (by simpa[Sym.bind]using hi)
  |true=>
   simp only[Sym.bind,if_true,List.mem_cons]at hi;rcases hi with rfl|hi
   ·rw[←h.len];simpa[List.getD_eq_getElem?_getD]using aq rfl
   ·exact old i hi
 ·obtain⟨cs,ah⟩:=h.arr k a au;exact⟨cs,c6.rel.mono hle au ah⟩
theorem fO(h:Rel F S ρ ids s)(v:aa)(ai:v.plain=true):aR.ok (ρ++[v]) (.var S.cd)/\aR.den (ρ++[v]) (.var S.cd)=v:=by
 have e:aR.den (ρ++[v]) (.var S.cd)=v:=by simp[aR.den,←h.len,List.getD_eq_getElem?_getD]
 exact⟨by unfold aR.ok;unfold aR.den at e;rw[e];exact ai,e⟩
theorem acZ(E:Env)(v:aa):bZ F E (Ky v) v:=by
 unfold Ky;split
 ·simp only[bZ]
 ·simp only[bZ]
 ·split
  ·rename_i h;simp only[bZ];exact⟨rfl,h⟩
  ·simp only[bZ]
theorem Rel.ay(h:Rel F S ρ ids s)(x:Operand):bZ F (S.env ρ ids) (S.ay x) (s.ay x):=by
 cases x with
 |tmp t=>exact h.slot t
 |const v=>exact acZ _ _
 |func f=>simp only[Sym.ay,aA.ay,bZ];exact⟨[],rfl,rfl⟩
 |global g=>simp only[Sym.ay,bZ]
theorem Rel.cu(h:Rel F S ρ ids s){x:Operand}{p:aS}(ae:(S.ay x).cu=some p):s.ay x=p.den ρ/\(s.ay x).plain=true:=wJ ae (h.ay x)
theorem Rel.evs(h:Rel F S ρ ids s):∀l:List Operand,∀ps,hT (l.map S.ay)=some ps->l.map s.ay=ep ρ ps/\(∀q∈l.map s.ay,q.plain=true)
 |[],ps,ae=>by
  simp only[List.map_nil,hT,Option.some.injEq]at ae;subst ae;simp[ep]
 |x::l,ps,ae=>by
  simp only[List.map_cons,hT]at ae;split at ae
  ·rename_i p iv U ab;injection ae with ae;subst ae;obtain⟨aK,aO⟩:=h.cu U;obtain⟨bS,b8⟩:=Rel.evs h l iv ab;refine⟨by simp only[List.map_cons,ep,aK,bS],λq aH=>?_⟩;simp only[List.map_cons,List.mem_cons]at aH;rcases aH with rfl|aH
   ·exact aO
   ·exact b8 q aH
  ·cases ae
def bN(P:Program)(C:b2->FuncId->List aa->Option aa)(n:Nat)(t:Tree)(ρ:List aa)(R:Out->Prop):Prop:=∀ω,∃o,eval P C n t ω ρ=some o/\R o
def gP:b2:=λ_=>0
variable{P:Program}{C:b2->FuncId->List aa->Option aa}{n:Nat}{R:Out->Prop}
theorem bN.av{p:Prim}{t:Tree}(h:bN P C n (.av p t) ρ R):∃v,p.run P ρ=some v/\bN P C n t (ρ++[v]) R:=by
 obtain⟨o,ar,_⟩:=h gP;simp only[eval]at ar;split at ar
 ·rename_i v ai;refine⟨v,ai,λω=>?_⟩;obtain⟨o,ar,cn⟩:=h ω;simp only[eval,ai]at ar;exact⟨o,ar,cn⟩
 ·cases ar
theorem QZ(h:bN P C n .die ρ R):False:=by
 obtain⟨o,ar,_⟩:=h gP;simp[eval]at ar
theorem bN.ite{c:aR}{a b:Tree}(h:bN P C n (.ite c a b) ρ R):(c.den ρ=.bool true/\bN P C n a ρ R)\/(c.den ρ=.bool false/\bN P C n b ρ R):=by
 obtain⟨o,ar,_⟩:=h gP;simp only[eval]at ar;split at ar
 ·rename_i ah;refine .inl ⟨ah,λω=>?_⟩;obtain⟨o,ar,cn⟩:=h ω;simp only[eval,ah]at ar;exact⟨o,ar,cn⟩
 ·rename_i ah;refine .inr ⟨ah,λω=>?_⟩;obtain⟨o,ar,cn⟩:=h ω;simp only[eval,ah]at ar;exact⟨o,ar,cn⟩
 ·cases ar
theorem bN.call{g:FuncId}{args:List aS}{t:Tree}(h:bN P C n (.call g args t) ρ R):(∀ω,(C ω g (ep ρ args)).isSome)/\∀ω v,C ω g (ep ρ args)=some v->bN P C n t (ρ++[v]) R:=by
 refine⟨λω=>?_,λω v ai x5=>?_⟩
 ·obtain⟨o,ar,_⟩:=h (b2.mk ω ω);simp only[eval,b2.tf]at ar;split at ar
  ·rename_i ai;rw[ai];rfl
  ·cases ar
 ·obtain⟨o,ar,cn⟩:=h (b2.mk ω x5);simp only[eval,b2.tf,b2.BD,ai]at ar;exact⟨o,ar,cn⟩
theorem bN.pick{sz:Nat}{c:aR}{t:Tree}(h:bN P C n (.pick sz c t) ρ R):∃cs,c.den ρ=.agg cs/\∀i,bN P C n t (ρ++[y8 sz cs i]) R:=by
 obtain⟨o,ar,_⟩:=h gP;simp only[eval]at ar;split at ar
 ·rename_i cs ah;refine⟨cs,ah,λi ω=>?_⟩;obtain⟨o,ar,cn⟩:=h (b2.mk (λ_=>i) ω);simp only[eval,ah,b2.tf,b2.BD]at ar;exact⟨o,ar,cn⟩
 ·cases ar
theorem bN.kL{f:aR}{args:List aS}{t:Tree}(h:bN P C n (.kL f args t) ρ R):∃g caps,f.den ρ=.fn g caps/\(∀ω,(C ω g (ep ρ args++caps)).isSome)/\∀ω v,C ω g (ep ρ args++caps)=some v->bN P C n t (ρ++[v]) R:=by
 obtain⟨o,ar,_⟩:=h gP;simp only[eval]at ar;split at ar
 ·rename_i g caps aQ;refine⟨g,caps,aQ,λω=>?_,λω v ai x5=>?_⟩
  ·obtain⟨o,ar,_⟩:=h (b2.mk ω ω);simp only[eval,aQ,b2.tf]at ar;split at ar
   ·rename_i ai;rw[ai];rfl
   ·cases ar
  ·obtain⟨o,ar,cn⟩:=h (b2.mk ω x5);simp only[eval,aQ,b2.tf,b2.BD,ai]at ar;exact⟨o,ar,cn⟩
 ·cases ar
theorem ig{p:Prim}{cU:Bool}{k:aR->Sym->M}{t:Tree}(h:emit p cU S k=.ok t):∃bw,k (.var S.cd) (S.bind cU)=.ok bw/\t=.av p bw:=by
 simp only[emit,bind,Except.bind]at h;split at h
 ·cases h
 ·rename_i bw a1;injection h with h;exact⟨bw,a1,h.symm⟩
end
end
end Go.Proofs.YtlminnpaeaganaaGreat
