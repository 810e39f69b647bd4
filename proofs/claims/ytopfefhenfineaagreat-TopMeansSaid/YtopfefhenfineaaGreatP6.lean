import Derived.Test.YtopfefhenfineaaGreatP0
import Derived.Shelf.Abstract
import Derived.Shelf.RegionOpen
import Derived.TacticsInMore
import Derived.LoopNIn
import Derived.LoopIn
import Derived.Laws.EntriesVeiled
set_option linter.all false
set_option maxRecDepth 100000
set_option maxHeartbeats 2000000
namespace Go.Proofs.YtopfefhenfineaaGreat
open Go.Proofs.Tryz Go.RowKit Go.Shelf bh
attribute[local go_sem] Oper.semAt_some
variable{S:Prop}
def aoC(h:S:=by
 obtain⟨e4,fe,cU,dc⟩:=af 0 ae;simp only[eZ]at e;rw[e.1]at cU;obtain⟨rfl,rfl⟩:b=e4/\o=fe:=by simpa using cU
 exact gD _ _ dc):S:=h
def aoD(h:S:=by gi_wp2;refine cO (gq rfl _ _ _) rfl ?_;exact⟨⟨_,rfl⟩,.inr ⟨_,by rw[ur];exact⟨pc o (ns.drop (k+1)) (d3.drop (k+1)) (n+1),ay⟩,ams⟩⟩):S:=h
def aoE(h:S:=by
 obtain⟨h1,h2⟩:=h;refine⟨h1,?_⟩;rcases h2 with h2|⟨g,cap,bm,hv,hg,be,r⟩
 ·exact .inl h2
 ·exact .inr ⟨g,cap,bm,hv,hg,(D.block (dG.1 be).1).trans be,r⟩):S:=h
def aoF(h:S:=by
 go_in;go_wp2_with(first
  |(go_quiet (fail))
  |(at_builtin;refine wpList_append_own _ rfl _ _ 360 rfl base 420 hh (bg #[M 0,M 0,H 0]) 3 16 underlying360 hi nv pw hj rfl Y _ out (out.flatMap sO) rfl aHc _ 1 1 (sO ⟨lo,l',AW⟩) rfl rfl (Uz _ _ _ _ ay) (asq _) y9 aE dU ?_;intro d1 I DI pA _;obtain⟨jX,Ld,rfl⟩:=ownsRow_succ DI;have w3:Ext w _:=(((O w).alloc (J #[M lo,M l',H AW] 420)).drewN nq).alloc (J #[M lo,M l',H AW] 420);obtain⟨aab,aHd,aHe⟩:=aHf hB lE w3 S4.o CM.o pA;have at2:=aab.cell;have aPz:=aab.frozen;have aHg:=z DI;clear DI))
 go_end0;exact⟨rfl,_,aab.set _,ownsRow_setCell_below aHg.o hB _ |>λh=>by unfold Own;rw[Kx.o];simpa using h,aHd _,(aHe (((KeepsOthers.alloc _ _).trans (aoG _ _)).trans (KeepsOthers.alloc _ _)) (aoH (((A0.o.alloc _).drewN _).alloc _))).trans (KeepsOthers.setCell _ _ _)⟩):S:=h
def aHc(h:S:=by first|exact(A0.o.alloc _).alloc _|exact((A0.o.alloc _).drewN _).alloc _):S:=h
def TN(h:S:=by rw[ur];simp):S:=h
namespace Co
variable{du base CN k t:Nat}{W aa w F I:G}{ns:List Nat}{out A:List Span}{u v:K}
theorem aHh(v:K)(A:List Span)(X:A.length<=140737488351232)(cv:∀s∈A,Dz s)(w:G)(hv:aS w 3 sO v A):aM 293 #[v] w (av (whole A)):=by
 obtain⟨a,c,rfl,ep,bV⟩:=PW hv;clear hv;unfold aM;go_in;go_wp2;go_loopw [3,8] (λv i wr=>∃k nx:Nat,k<=A/\i=H k/\nx<=4294967296/\v=aA nx/\Ext w wr/\chain A 0=chain (A.drop k) nx) (λ_ i _=>A.length-(intOf i).toNat)
 case atStart=>exact⟨0,0,aE,rfl,aE,rfl,O _,rfl⟩
 case round=>
  obtain⟨k,nx,hk,rfl,dT,rfl,D,b4⟩:=hrel;have cI:=z b4;have aT:=z D;clear b4;by_cases ad:k<A
  ·obtain⟨b,o,rfl,h1,h2,T⟩:=bV k ad;replace h1:=D.cell h1;replace h2:=D.cell h2;replace T:=D.cell T;have ab:=asr ad nx;have bY:=z ab;obtain⟨aoI,aoJ,-,-⟩:=cv _ (eB ad);clear ab bV cv D;generalize A[k]=s at *;obtain⟨lo,hi,wy⟩:=s;dsimp only at *;by_cases ao:lo=nx/\lo<=hi
   ·obtain⟨rfl,ge⟩:=ao;go_wp2;go_roundw
    case rel=>exact⟨k+1,hi+1,aE,cZ,aE,cZ,aT.o.alloc _,by rw[cI.o,bY.o,aF ⟨rfl,ge⟩]⟩
    case measure=>exact eO
   ·have mN:whole A=false:=by unfold whole;rw[cI.o,bY.o,au ao];rfl
    have cD:=z mN;clear mN;by_cases af:lo=nx
    ·subst af;have aQ:hi<lo:=aE;go_wp2;go_ret;exact⟨by rw[cD.o];rfl,aT.o.alloc _⟩
    ·have a9:((lo:Int) !=(nx:Int))=true:=by rw[bne_iff_ne];omega
     go_wp2;go_ret;exact⟨by rw[cD.o];rfl,aT.o.alloc _⟩
  ·obtain rfl:k=A.length:=aE;have mN:whole A=((nx:Int)==4294967296):=by unfold whole;rw[cI.o,List.drop_eq_nil_of_le (aZ _),chain_nil,dW];simp;omega
   have cD:=z mN;clear mN;go_wp2;go_ret;exact⟨by rw[cD.o];rfl,aT.o⟩
theorem aHi:(Tryz.prog.info? 420).map (λi=>(i.zero,i.size,i.bytes))=some (some (bg #[M 0,M 0,H 0]),3,16):=aj
def Own(w:G)(base:Nat)(v:K)(A:List Span):Prop:=w.ownsRow base 420 3 v A (A.flatMap sO)
def Own.rd(h:Own w base v A):aS w 3 sO v A:=eD Kl h
def Own.alloc{w:G}{base:Nat}{v:K}{A:List Span}(h:Own w base v A)(o:Obj):Own (w.alloc o) base v A:=pG h o
def Own.drewN(h:Own w base v A)(n:Nat):Own (w.drewN n) base v A:=by obtain⟨h1,h2⟩:=h;exact⟨h1,by rw[heap_drewN];exact h2⟩
def aHf(hB:du<base)(lE:base<=w.heap.size)(cA:Ext w W)(hx:Boxed w du t v)(hZ:∀k,u.ownBlock=some k->base<=k/\k<w.heap.size)(hg:W.grownBy I u.ownBlock):Boxed I du t v/\(∀x,Keep (λk=>k<base/\k≠du) w (I.setCell du x))/\(KeepsOthers w W->(∀(j:Nat)(o:Obj),u.ownBlock=some j->W.heap[j]?=some o->o.isCells=true)->KeepsOthers w I):=by
 have ci:=cA.size;have bO:∀k,k<base->some k≠u.ownBlock:=λk hk e=>by have:=(hZ k e.symm).1;omega
 refine⟨(hg.block du aE (bO du hB)).trans ((cA.block aE).trans hx),λx=>⟨hg.os.trans cA.os,hg.tape.trans cA.tape,hg.output.trans cA.output,?_,λk hk=> ?_⟩,λh1 h2=>h1.trans (KeepsOthers.of_grownBy hg h2)⟩
 ·rw[zU];exact cB ci hg.size
 ·rw[fI _ _ _ _ hk.2];exact(hg.block k aE (bO k hk.1)).trans (cA.block aE)
def aoH(h:Own W base u out):∀(j:Nat)(o:Obj),u.ownBlock=some j->W.heap[j]?=some o->o.isCells=true:=ab4
def aoG(w:G)(n:Nat):KeepsOthers w (w.drewN n):=⟨aZ _,λ_ _ h _=>h⟩
theorem lC(du base:Nat)(u:K)(out:List Span)(s:Span)(X:out.length<=1000000)(w:G)(hB:du<base)(lE:base<=w.heap.size)(hx:Boxed w du 360 u)(cc:Own w base u out):Calls prog 370 #[bg #[M s.lo,M s.hi,H s.way],aB (some du)] w λe F=>e=aI (bH #[])/\∃d1,Boxed F du 360 d1/\Own F base d1 (put out s)/\Keep (λk=>k<base/\k≠du) w F/\KeepsOthers w F:=by
 obtain⟨hh,hi,nv,pw,hj⟩:=sJ aHi;have hZ:=cc.lt;obtain⟨IP,Gm,rfl,aPA,Dd⟩:=PW cc.rd;obtain⟨lo,l',AW⟩:=s;dsimp only;have wq:=hx.cell;have Sc:=hx.frozen;have S5:du<w.heap.size:=aE;by_cases ae:out.length=0
 ·have hd:decide ((0:Int)<out)=false:=dM aE;have t5:decide (0<out.length)=false:=dM aE;have rK:put out ⟨lo,l',AW⟩=out++[⟨lo,l',AW⟩]:=by rw[nN ae];rfl
  have Kx:=z rK;have n':=z ae;clear rK ae;have CM:=z hZ;have A0:=z cc;have S4:=z hx;clear hZ cc Dd;exact aoF
 ·have oX:0<out.length:=aE;obtain⟨q,aW⟩:∃q,q=out.length-1:=⟨_,rfl⟩;have aoK:q<out.length:=aE;have SW:((out:Int)-1)=(q:Int):=aE;obtain⟨g,aPB,rfl,dc,dv,g'⟩:=Dd q aoK;have hd:decide ((0:Int)<out)=true:=dH aE;have t5:decide (0<out.length)=true:=dH aE;obtain⟨jX,c',cU,Bk,Au,wn⟩:=zV cc oX;simp only[eZ,jB,pJ,and_true,true_and]at cU;obtain⟨⟨rfl,rfl⟩,rfl⟩:=cU;rw[gF]at dc dv g';have p4:=wn (q*3+1);clear Dd wn;by_cases bJ:out[q].way=AW
  ·have rK:put out ⟨lo,l',AW⟩=out.set q ⟨out[q].lo,l',out[q].way⟩:=by subst aW;exact asv oX bJ
   have Kx:=z rK;have JZ:=z aW;clear rK aW;have CM:=z hZ;have A0:=z cc;have S4:=z hx;clear hZ cc hx;generalize GM:out[q]=AI at *;have aHj:=z GM;clear GM;obtain⟨aoL,aHk,S6⟩:=AI;dsimp only at *;subst bJ;go_in;go_wp2_with(go_quiet (fail));have bU:=vD (e:=420) Kl (Own.drewN (A0.o.alloc (J #[M lo,M l',H S6] 420)) nq) q 1 (M l') ⟨aoL,l',S6⟩ aoK Y (by rw[aHj.o];rfl);have hT:Keep (λk=>k<base/\k≠du) w ((w.alloc (J #[M lo,M l',H S6] 420)).drewN nq):=Keep.of_below (((O w).alloc _).drewN _) (λk hk=>aE);refine cO (gq rfl _ _ _) rfl ⟨rfl,E (some g) out Gm,?_,?_,hT.trans (Keep.setCell _ rT _),((KeepsOthers.alloc _ _).trans (aoG _ _)).trans (KeepsOthers.setCell _ _ _)⟩
   ·unfold Boxed;rw[fI _ _ _ _ rT];exact(Ext.block (((O w).alloc _).drewN nq) aE).trans S4.o
   ·rw[Kx.o];unfold Own;rw[kD];exact bU.1
  ·have rK:put out ⟨lo,l',AW⟩=out++[⟨lo,l',AW⟩]:=by subst aW;exact asw oX bJ
   have Kx:=z rK;have JZ:=z aW;clear rK aW;have CM:=z hZ;have A0:=z cc;clear hZ cc;have S4:=z hx;have bO:(out[q].way==AW)=false:=by simp[bJ]
   have WR:=z bJ;clear bJ;generalize out[q]=AI at *;obtain⟨aoL,aHk,S6⟩:=AI;dsimp only at *;exact aoF
def aoM{row:Option Nat}(h:Own W base u A)(hg:W.grownBy aa row)(hr:∀r,row=some r->∃o:Obj,W.heap[r]?=some o/\o.isCells=false):Own aa base u A:=by
 refine World.ownsRow.kept h hg ?_;cases a6:u.ownBlock with
 |none=>exact xI
 |some k=>
  refine .inr λe=> ?_
  obtain⟨o,ho,ao⟩:=hr k e.symm;rw[aoH h k o a6 ho]at ao;cases ao
def kU(h:Own W base u A)(V:CN<=base):Own W CN u A:=Px
theorem aHl(gf:Nat)(lb:Array K)(lk cy:Nat)(A:List Span)(eV:A.length<=cy)(rg:cy<=1000000)(w:G)(OT:lk<=w.heap.size)(Ac:∀args w,(callFunc gf args).run prog w= .ok (.enter gf args) w)(FA:SeqStopsK Fence.wide 3 prog gf lb (λx:Span=> #[bg #[M x.lo,M x.hi,H x.way]]) (Below lk) (λys=>ys=A) (λpre=>pre <+: A) cy w):Calls prog 291 #[.func (.func gf) #[] lb] w λe F=>∃u,e=aI u/\Ext w F/\Own F w u (merge A):=by
 refine(eP (n:=4)).1 ?_;refine callsIn_of_wp_marks func291 rfl trivial ?_ rfl;simp only[ntmps291,ku,dJ,fu,Nat.reduceAdd,Nat.reduceSub,oD,oC,oH,oG,iq,gZ];gi_wp2;have h1:1<=4:=aE;have FV:=Boxed.new w 360 (E none 0 0);have aap:=Boxed.new (w.alloc (J #[E none 0 0] 360)) 475 (.func (.func 370) #[] #[aB (some w)]);rw[dR]at aap;have pM:Ext w ((w.alloc (J #[E none 0 0] 360)).alloc (J #[.func (.func 370) #[] #[aB (some w)]] 475)):=((O w).alloc _).alloc _;have vh:((w.alloc (J #[E none 0 0] 360)).alloc (J #[.func (.func 370) #[] #[aB (some w)]] 475)).heap.size=w.heap.size+2:=ay;replace FV:=FV.alloc (J #[.func (.func 370) #[] #[aB (some w)]] 475);obtain⟨bX,gh⟩:∃bX,((w.alloc (J #[E none 0 0] 360)).alloc (J #[.func (.func 370) #[] #[aB (some w)]] 475))=bX:=⟨_,rfl⟩;rw[gh]at FV aap pM vh⊢;clear gh;refine wpIn_rangeFunc_ownH (w0:=w) rfl h1 (gf:=gf) (lb:=lb) rfl trivial Ac FA belowK_t (belowK_b aE) pM (λ_=>rfl)
  (λpre W=>((∃u,Boxed W w 360 u/\Own W (w+2) u (merge pre))/\Boxed W (w+1) 475 (.func (.func 370) #[] #[aB (some w)]))/\Below w w W)
  (λ_ _ _=>False)
  (OwnFrom.and (OwnFrom.and (Own.from (λs aq B row ab hg hr=> ?se) _) (Own.from (boxed_own _ _ _) _)) (ownFrom_below (aZ _) aE))
  (λ_ _ _ _ _ ab _ _=>ab)
  ⟨⟨⟨_,FV,jR _ _ _ _⟩,aap⟩,pM⟩
  (λx bu W=>∃Bx,w.heap.size+1<Bx/\W.heap[Bx]?=some (J #[M x.lo,M x.hi,H x.way] 420 (0,0))/\
   bu= {tmps:= #[.func (.func gf) #[] lb,undef,E none 0 0,aB (some w),aB (some ⟨w+1,0,none⟩),aB (some Bx),.func (.func 370) #[] #[aB (some w)],.func (.func gf) #[] lb,bg #[M x.lo,M x.hi,H x.way],undef,undef,undef,undef],defers:= []})
  (λx bu _ aP Ad row ab hg hr=> ?sk)
  ?assign ?body ?done ?stop
 case se=>obtain⟨u,V,ho⟩:=ab;exact⟨u,boxed_own _ _ (λ(_:Unit)=>u) () aq B row V hg hr,aoM ho hg hr⟩
 case sk=>exact ab3
 case assign=>rintro l pre x W aX ⟨⟨⟨u,rr,x5⟩,jj⟩,hB⟩ am;gi_wp2;exact am _ _ ((KeepsOthers.alloc _ _).from _) ((Below.refl _ W).alloc (cB OT hB.size) _) ⟨⟨⟨u,rr.alloc _,x5.alloc _⟩,jj.alloc _⟩,hB.alloc hB.size _⟩ ⟨W.heap.size,jj.lt,bA W _,rfl⟩
 case body=>
  rintro l pre x bu W X ⟨r,hr⟩ ⟨⟨⟨u,rr,x5⟩,jj⟩,hB⟩ ⟨Bx,FW,h3,rfl⟩ ad;have Qo:=jj.cell;have n1:1<=4-1-1:=aE;have pk:=Nc pre;have ly:W.cell? Bx=some (M x.lo):=by simp[World.cell?,h3]
  have g2:W.cell? ⟨Bx,1,none⟩=some (M x.hi):=by simp[World.cell?,h3]
  have ov:W.cell? ⟨Bx,2,none⟩=some (H x.way):=by simp[World.cell?,h3]
  have rK:=lC w (w+2) u (merge pre) x aE W aE (by have:=jj.lt;omega) rr x5;have Kx:=z rK;clear rK;have s6:merge (pre++[x])=put (merge pre) x:=by unfold merge;rw[uF];rfl
  have aHm:=z s6;clear s6;gi_wp2_with(refine⟨trivial,?_⟩;gi_at_call 370;refine iN (CallsIn.inRound l (eP.2 Kx.o)) ?_;rintro F ⟨d1,aHn,aHo,hT,aHp⟩);exact⟨aHp.from _,hT.below (λk hk=>⟨aE,aE⟩),⟨⟨⟨d1,aHn,by rw[aHm.o];exact aHo⟩,(hT.block _ ⟨aE,aE⟩).trans jj⟩,hB.trans (hT.below (λk hk=>⟨aE,aE⟩))⟩⟩
 case done=>rintro ax ys W cE rfl ⟨⟨⟨u,rr,x5⟩,jj⟩,hB⟩ am;have bp:=rr.cell;gi_wp2;refine⟨ay,.inl ⟨_,_,rfl,run_takeDeferred am,?_⟩⟩;refine⟨_,results_tmp rfl _ _ _,u,rfl,hB.trans (belowK_b (w:=w) (aZ _) W ax _ _ aE am rfl rfl),kU (aoM x5 (grownBy_putObj' _ ax (.deferred none)) (λr e=>by cases e;exact⟨_,am,rfl⟩)) aE⟩
 case stop=>exact FJ
def fV(n:Nat):List K:= [M n]
def pO(i:Int):List K:= [H i]
def aar{A:List Nat}(h:aS w 1 fV v A):∃a c,v=E a A c/\A.length<=c/\∀i,(hi:i<A.length)->∃b o,a=some ⟨b,o,none⟩/\w.cell? ⟨b,o+i,none⟩=some (M (A[i]:Int)):=by obtain⟨a,c,h1,h2,T,af⟩:=h;refine⟨a,c,h1,h2,λi hi=> ?_⟩;obtain⟨b,o,e,k⟩:=af i hi;have:=k 0 UK;rw[qA]at this;exact⟨b,o,e,this⟩
def tQ{A:List Int}(h:aS w 1 pO v A):∃a c,v=E a A c/\A.length<=c/\∀i,(hi:i<A.length)->∃b o,a=some ⟨b,o,none⟩/\w.cell? ⟨b,o+i,none⟩=some (H A[i]):=by obtain⟨a,c,h1,h2,T,af⟩:=h;refine⟨a,c,h1,h2,λi hi=> ?_⟩;obtain⟨b,o,e,k⟩:=af i hi;have:=k 0 (by simp[pO]);rw[qA]at this;exact⟨b,o,e,this⟩
def gap(o:Int)(next n:Nat):List Span:=if next<n then [⟨next,n-1,o⟩]else []
def pc(o:Int):List Nat->List Int->Nat->List Span
 |n::r,w::q,next=>gap o next n++⟨n,n,w⟩::pc o r q (n+1)
 | [],_,next=>gap o next 4294967296
 |_::_,[],next=>gap o next 4294967296
def aHq{o:Int}{d3:List Int}(h:k<ns)(gm:k<d3)(next:Nat):pc o (ns.drop k) (d3.drop k) next=gap o next ns[k]++⟨ns[k],ns[k],d3[k]⟩::pc o (ns.drop (k+1)) (d3.drop (k+1)) (ns[k]+1):=by rw[kQ h,kQ gm];rfl
def aHr(o:Int)(ns:List Nat)(d3:List Int)(next:Nat):pc o (ns.drop ns) d3 next=gap o next 4294967296:=by rw[qy];rfl
def VJ(o:Int):∀(ns:List Nat)(d3:List Int)(next:Nat),(pc o ns d3 next).length<=2*ns.length+1
 |n::r,w::q,next=>by have:=VJ o r q (n+1);unfold pc gap;split<;>simp<;>omega
 | [],_,next=>by unfold pc gap;split<;>simp
 |_::_,[],next=>by unfold pc gap;split<;>simp
abbrev aoN(x:Span):Array K:= #[bg #[M x.lo,M x.hi,H x.way]]
theorem aHs(l b1 b2 cV lk:Nat)(A1 A2:K)(ns:List Nat)(d3:List Int)(o:Int)(X:ns.length<=1000000)(A3:ns.length=d3)(jm:∀n∈ns,n<4294967296)(cm g8:List Span->G->Prop)(w W:G)(cA:Ext w W)(aHt:lk<=w.heap.size)(A:List Span)(r':A=pc o ns d3 0)(CT:aS w 1 fV A1 ns)(yv:aS w 1 pO A2 d3)(aHu:∀b o c,A1=E (some ⟨b,o,none⟩) ns c->0<ns.length->b<lk)(aHv:∀b o c,A2=E (some ⟨b,o,none⟩) d3 c->0<d3.length->b<lk)(h1:b1<lk)(h2:b2<lk)(T:cV<lk)(c1:w.cell? b1=some A1)(c2:w.cell? b2=some (H o))(c3:w.cell? cV=some A2)(hu:∀(pre:List Span)(x:Span) W,cm pre W->pre.length<A->YieldAt Fence.wide (3-1) prog l (aoN x) W λe aa=>(e=aI (av true)/\cm (pre++[x]) aa/\Below lk W aa)\/(e=aI (av false)/\g8 (pre++[x]) aa))(ae:cm [] W):CallsIn Fence.wide 3 prog 371 #[.func (.yield l) #[] #[],aB (some b1),aB (some b2),aB (some cV)] W λe aa=>(∃v,e=aI v)/\((∃ys,ys=A/\cm ys aa)\/(∃pre,pre <+: A/\g8 pre aa)):=by
 obtain⟨ry,Qr,rfl,aHw,zE⟩:=aar CT;obtain⟨aoO,cw,rfl,at4,Ky⟩:=tQ yv;clear CT yv;replace c1:=cA.cell c1;replace c2:=cA.cell c2;replace c3:=cA.cell c3;refine y8 func371 rfl trivial ?_ rfl;simp only[ntmps371,ku,dJ,fu,Nat.reduceAdd,Nat.reduceSub,oD,oC,oH,oG,iq,gZ];gi_wp2;gi_loopw [5,10] (λnx i wr=>∃(k:Nat) (next:Nat) (pre:List Span),k<=ns/\next<=4294967296/\i=H k/\nx=aA next/\cm pre wr/\Below lk W wr/\A=pre++pc o (ns.drop k) (d3.drop k) next) (λ_ i _=>ns.length-(intOf i).toNat)
 case atStart=>exact⟨0,0,[],eG _,aE,rfl,rfl,ae,Below.refl _ _,by simpa using r'⟩
 case round=>
  obtain⟨k,next,pre,hk,wj,rfl,rfl,lx,hB,ur⟩:=hrel;have cs:=(hB.cell (p:=⟨b1,0,none⟩) h1).trans c1;have eg:=(hB.cell (p:=⟨b2,0,none⟩) h2).trans c2;have h6:=(hB.cell (p:=⟨cV,0,none⟩) T).trans c3;by_cases ad:k<ns
  ·obtain⟨b,q,rfl,dc⟩:=zE k ad;obtain⟨e4,tE,rfl,dv⟩:=Ky k aE;have V:=aHu b q Qr rfl aE;have OV:=aHv e4 tE cw rfl aE;replace dc:=(hB.cell (p:=⟨b,q+k,none⟩) V).trans (cA.cell dc);replace dv:=(hB.cell (p:=⟨e4,tE+k,none⟩) OV).trans (cA.cell dv);rw[aHq ad aE]at ur;have BB:=jm _ (eB ad);clear zE Ky;generalize ns[k]=n at *;generalize d3[k]' aE=wy at *;have HG:k<d3:=aE;generalize d3.length=aPC at *;by_cases hn:next<n
   ·have hd:decide (next<n)=true:=dH hn;have HH:decide ((next:Int)<n)=true:=dH aE;obtain⟨j,so⟩:∃j,j=n-1:=⟨n-1,aE⟩;have Z:((n:Int)-1)=(j:Int):=aE;have nw:j<4294967296:=aE;have hy:next<4294967296:=aE;have hg:gap o next n=[⟨next,j,o⟩]:=by unfold gap;rw[aF hn,so]
    rw[hg]at ur;obtain⟨fn,tmps,assign,body,bN,bd⟩:=hu pre ⟨next,j,o⟩ wr lx TN;have aPD:=z so;clear so;gi_wp2;refine bd.mono ?_;rintro e cd (⟨rfl,vf,hI⟩|⟨rfl,hJx3⟩)
    ·obtain⟨fn',aHx,aHy,aHz,aHA,aas⟩:=hu (pre++[⟨next,j,o⟩]) ⟨n,n,wy⟩ cd vf TN;replace eg:=(hI.cell (p:=⟨b2,0,none⟩) h2).trans eg;replace h6:=(hI.cell (p:=⟨cV,0,none⟩) T).trans h6;replace dv:=(hI.cell (p:=⟨e4,tE+k,none⟩) OV).trans dv;gi_wp2;refine aas.mono ?_;rintro e dj (⟨rfl,hJ4,h0⟩|⟨rfl,ams⟩)
     ·gi_wp2;go_roundw
      case rel=>exact⟨k+1,n+1,_,aE,aE,cZ,cZ,hJ4,(hB.trans hI).trans h0,by rw[ur];simp⟩
      case measure=>exact eO
     ·exact aoD
    ·gi_wp2;refine cO (gq rfl _ _ _) rfl ?_;exact⟨⟨_,rfl⟩,.inr ⟨_,by rw[ur];exact⟨_,by rw[gJ]⟩,hJx3⟩⟩
   ·have hd:decide (next<n)=false:=dM hn;have HH:decide ((next:Int)<n)=false:=dM aE;have hg:gap o next n=[]:=by unfold gap;rw[au hn]
    rw[hg,iq]at ur;obtain⟨fn',aHx,aHy,aHz,aHA,aas⟩:=hu pre ⟨n,n,wy⟩ wr lx TN;gi_wp2;refine⟨(λ_ h=>by cases h),?_⟩;gi_wp2;refine aas.mono ?_;rintro e dj (⟨rfl,hJ4,h0⟩|⟨rfl,ams⟩)
    ·gi_wp2;go_roundw
     case rel=>exact⟨k+1,n+1,_,aE,aE,cZ,cZ,hJ4,hB.trans h0,by rw[ur];simp⟩
     case measure=>exact eO
    ·exact aoD
  ·obtain rfl:k=ns.length:=aE;rw[aHr]at ur;by_cases hn:next<4294967296
   ·have hg:gap o next 4294967296=[⟨next,4294967295,o⟩]:=by unfold gap;rw[aF hn]
    rw[hg]at ur;have hd:decide (next<4294967296)=true:=dH hn;have HH:decide ((next:Int)<4294967296)=true:=dH aE;obtain⟨fn,tmps,assign,body,bN,bd⟩:=hu pre ⟨next,4294967295,o⟩ wr lx TN;clear zE Ky;have Eo:((4294967295:Nat):Int)=4294967295:=rfl;simp only[aoN,Eo]at bN;gi_wp2;refine bd.mono ?_;rintro e cd (⟨rfl,vf,hI⟩|⟨rfl,hJx3⟩)
    ·gi_wp2;go_end0;exact⟨⟨_,rfl⟩,.inl ⟨_,ur.symm,vf⟩⟩
    ·gi_wp2;go_end0;exact⟨⟨_,rfl⟩,.inr ⟨A,List.prefix_refl _,by rw[ur];exact hJx3⟩⟩
   ·have hd:decide (next<4294967296)=false:=dM hn;have HH:decide ((next:Int)<4294967296)=false:=dM aE;have hg:gap o next 4294967296=[]:=by unfold gap;rw[au hn]
    rw[hg,qz]at ur;have St:=z hn;have aPE:=z wj;clear hn wj zE Ky;gi_wp2;go_end0;exact⟨⟨_,rfl⟩,.inl ⟨_,rfl,by rw[ur];exact lx⟩⟩
theorem aHB(a1 a2:Option Addr)(n1 n2 bk bW:Nat)(o:Int)(w:G):Calls prog 292 #[E a1 n1 bk,E a2 n2 bW,H o] w λe F=>e=aI (.func (.func 371) #[] #[aB (some w),aB (some ⟨w+2,0,none⟩),aB (some ⟨w+1,0,none⟩)])/\Ext w F/\F.heap.size=w+3/\F.cell? w=some (E a1 n1 bk)/\F.cell? ⟨w+2,0,none⟩=some (H o)/\F.cell? ⟨w+1,0,none⟩=some (E a2 n2 bW):=by go_in;go_wp2;go_ret;have h1:=Boxed.new w 33 (E a1 n1 bk);have h2:=Boxed.new (w.alloc (J #[E a1 n1 bk] 33)) 28 (E a2 n2 bW);rw[dR]at h2;have T:=Boxed.new ((w.alloc (J #[E a1 n1 bk] 33)).alloc (J #[E a2 n2 bW] 28)) 3 (H o);rw[dR,dR]at T;exact⟨rfl,(((O w).alloc _).alloc _).alloc _,ay,((h1.alloc _).alloc _).cell,T.cell,(h2.alloc _).cell⟩
def aHC{A:List Nat}(h:aS w 1 fV v A):∀b o c,v=E (some ⟨b,o,none⟩) A c->0<A.length->b<w.heap.size:=by intro b o c e ae;obtain⟨a,c',rfl,-,af⟩:=aar h;exact aoC
def aHD{A:List Int}(h:aS w 1 pO v A):∀b o c,v=E (some ⟨b,o,none⟩) A c->0<A.length->b<w.heap.size:=by intro b o c e ae;obtain⟨a,c',rfl,-,af⟩:=tQ h;exact aoC
theorem aHE(b1 b2 cV:Nat)(A1 A2:K)(ns:List Nat)(d3:List Int)(o:Int)(X:ns.length<=1000000)(A3:ns.length=d3)(jm:∀n∈ns,n<4294967296)(w:G)(CT:aS w 1 fV A1 ns)(yv:aS w 1 pO A2 d3)(c1:w.cell? b1=some A1)(c2:w.cell? b2=some (H o))(c3:w.cell? cV=some A2):SeqStopsK Fence.wide 3 prog 371 #[aB (some b1),aB (some b2),aB (some cV)] (λx:Span=> #[bg #[M x.lo,M x.hi,H x.way]]) (Below w) (λys=>ys=pc o ns d3 0) (λpre=>pre <+: pc o ns d3 0) (pc o ns d3 0).length w:=λl cm g8 W cJ _ _ hu ae=>by have cA:Ext w W:=cJ;exact aHs l b1 b2 cV w A1 A2 ns d3 o X A3 jm cm g8 w W cA (aZ _) _ rfl CT yv (aHC CT) (aHD yv) (gD _ _ c1) (gD _ _ c2) (gD _ _ c3) c1 c2 c3 hu ae
def nJ:List Nat->Nat->Bool
 | [],_=>true
 |n::r,next=>decide (next<=n)&&nJ r (n+1)
def aHF(h:k<ns)(next:Nat):nJ (ns.drop k) next=(decide (next<=ns[k])&&nJ (ns.drop (k+1)) (ns[k]+1)):=by rw[kQ h];rfl
def KA(ns:List Nat)(k:Nat):Nat:=if 0<k then(ns[k-1]?.getD 0)+1 else 0
def uV(ns:List Nat)(d3:List Int)(o:Int):List Span×Int:=if ns.length=d3/\nJ ns 0=true then(merge (pc o ns d3 0),0)else([],2)
def aat(h:k<ns):KA ns (k+1)=ns[k]+1:=by unfold KA;simp[h]
theorem jT(A1 A2:K)(ns:List Nat)(d3:List Int)(o:Int)(X:ns.length<=300000)(jm:∀n∈ns,n<4294967296)(w:G)(CT:aS w 1 fV A1 ns)(yv:aS w 1 pO A2 d3):Calls prog 243 #[A1,A2,H o] w λe F=>∃u,e=aI (bH #[u,H (uV ns d3 o).2])/\Ext w F/\Own F w u (uV ns d3 o).1:=by
 have aoP:=CT;have aoQ:=yv;obtain⟨ry,Qr,rfl,aHw,zE⟩:=aar CT;obtain⟨aoO,cw,rfl,at4,Ky⟩:=tQ yv;clear CT yv Ky;have aHG:=z aoP;have aHH:=z aoQ;clear aoP aoQ;by_cases A3:ns.length=d3
 ·have hd:((ns:Int) !=(d3:Int))=false:=by rw[A3];simp
  have HH:(ns.length !=d3.length)=false:=by rw[A3];simp
  have aau:=z A3;clear A3;go_in;go_wp2;go_loopw [16] (λi wr=>∃k:Nat,k<=ns/\i=H k/\Ext w wr/\nJ ns 0=nJ (ns.drop k) (KA ns k)) (λi _=>ns.length-(intOf i).toNat)
  case atStart=>exact qO
  case round=>
   obtain⟨k,hk,rfl,D,gd⟩:=hrel;have aT:=z D;by_cases ad:k<ns
   ·obtain⟨b,q,rfl,dc⟩:=zE k ad;rw[aHF ad]at gd;replace dc:=D.cell dc;by_cases ae:0<k
    ·obtain⟨j,Z⟩:∃j,j=k-1:=⟨_,rfl⟩;obtain⟨e4,tE,cU,dv⟩:=zE j aE;obtain⟨rfl,rfl⟩:b=e4/\q=tE:=by simpa using cU
     replace dv:=D.cell dv;have lw:((k:Int)-1)=(j:Int):=aE;have Hw:decide (0<k)=true:=dH ae;have aHI:decide ((0:Int)<k)=true:=dH aE;have hn:KA ns k=ns[j]' aE+1:=by
      have:=aat (ns:=ns) (k:=j) aE
      rwa [show j+1=k from aE]at this
     have dT:=aat ad;rw[hn]at gd;have BB:=jm _ (eB ad);have nw:j<ns:=aE;clear zE hn;generalize ns[j]' aE=m at *;generalize ns[k]=n at *;have sd:=z dT;have n':=z ae;have aoR:=z Z;clear dT ae Z;by_cases x0:m+1<=n
     ·have hd1:decide (n<=m)=false:=dM aE;have aHJ:decide ((n:Int)<=m)=false:=dM aE;rw[dH x0,jc]at gd;have Q8:=z gd;clear gd;go_wp2_with(go_quiet (fail));go_roundw
      case rel=>exact⟨k+1,aE,cZ,K9,by rw[sd.o];exact Q8.o⟩
      case measure=>exact eO
     ·have hd1:decide (n<=m)=true:=dH aE;have aHJ:decide ((n:Int)<=m)=true:=dH aE;rw[dM x0,Bool.false_and]at gd;have bl:uV ns d3 o=([],2):=by unfold uV;rw[au (λh=>by rw[gd]at h;exact absurd h.2 Y)]
      have Q8:=z gd;have ee:=z bl;clear gd bl;go_wp2_with(go_quiet (fail));go_ret2;exact⟨_,(by rw[ee.o];rfl),K9,by rw[ee.o];exact jR _ _ _ _⟩
    ·have dT:=aat ad;have aoS:nJ ns 0=nJ (ns.drop (k+1)) (KA ns (k+1)):=by rw[dT,gd];simp[KA,ae]
     have Hw:decide (0<k)=false:=dM ae;have aHI:decide ((0:Int)<k)=false:=dM aE;have aHK:=z aoS;have n':=z ae;clear aoS ae zE gd dT;go_wp2_with(go_quiet (fail));go_roundw
     case rel=>exact⟨k+1,aE,cZ,K9,aHK.o⟩
     case measure=>exact eO
   ·obtain rfl:k=ns.length:=aE;have bl:uV ns d3 o=(merge (pc o ns d3 0),0):=by unfold uV;rw[aF ⟨aau.o,by rw[gd,qy];rfl⟩]
    have Q8:=z gd;have ee:=z bl;clear gd bl;have ey:=VJ o ns d3 0;clear zE;go_wp2_with(first
     |(go_at_call 292;refine ak (aHB _ _ _ _ _ _ _ _) ?_;rintro I ⟨Q,dp,bk,bW,d7⟩)
     |(go_at_call 291;refine(aHl 371 _ I (pc o ns d3 0).length (pc o ns d3 0) (aZ _) aE _ (aZ _) (enters_of func371 aj rfl) (aHE _ _ _ _ _ ns d3 o aE aau.o jm _ (aHG.o.ext (aT.o.trans Q)) (aHH.o.ext (aT.o.trans Q)) bk bW d7)).mono ?_;rintro e aO ⟨u,rfl,ag,cc⟩))
    go_ret2;exact⟨u,(by rw[ee.o];rfl),(aT.o.trans Q).trans ag,by rw[ee.o];exact kU cc (by have:=aT.o.size;omega)⟩
 ·have hd:((ns:Int) !=(d3:Int))=true:=by simp;omega
  have HH:(ns.length !=d3.length)=true:=by simp;omega
  have bl:uV ns d3 o=([],2):=by unfold uV;rw[au (λh=>A3 h.1)]
  rw[bl];have aau:=z A3;have ee:=z bl;clear A3 bl zE;go_in;go_wp2;go_ret2;exact⟨_,rfl,O _,jR _ _ _ _⟩
def Own.ext(h:Own w base v A)(D:Ext w F):Own F base v A:=aoE
end Co
end Go.Proofs.YtopfefhenfineaaGreat
