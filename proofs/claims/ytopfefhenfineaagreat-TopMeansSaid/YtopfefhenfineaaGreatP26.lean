import Derived.Test.YtopfefhenfineaaGreatP25
set_option linter.all false
set_option maxRecDepth 100000
set_option maxHeartbeats 8000000
namespace Go.Proofs.YtopfefhenfineaaGreat
open Go.Proofs.Tryz Go.RowKit Go.Shelf bh
attribute[local go_sem] Oper.semAt_some
namespace LT
open j7
variable{aq B W aa w0:G}{bz:Nat->Bool}{d n0:Nat}
def p8(p:bP)(d:Nat)(a:Int):Bool:=(decide (0<d)&&d5.inA p.ar a)&&Sr p d
def NQ(p:bP)(d:Nat)(a:Int)(f:Filter)(u:K)(W:G):Prop:=f.i6=a/\f.dflt=yx p d/\mU W 3 (EU W) u f.rules/\f.rules.Perm (xg p a d)/\f.rules.Pairwise (λx y=>x.nr<=y.nr)
def alj(p:bP)(d:Nat)(a:Int)(w:G)(e:Ending)(F:G):Prop:=Ext w F/\∃(f:Filter)(b:Option Addr)(n c:Nat),e=aI (bH #[bg #[H f.i6,E b n c,M f.dflt],av (p8 p d a)])/\
 (p8 p d a=true->NQ p d a f (E b n c) F)
theorem aB7(p:bP)(s:dS)(d:Nat)(hd:d<8)(a:Int)(bT:0<=a/\a<6)(h:iW p)(w:G)(hr:rD w p s):Calls prog 23 #[iX p s,H d,H a] w λe F=>alj p d a w e F:=by
 have ie:=h.la;have pZ:=h.lf;have eV:=λW=>d5.KJ a W
 have bO:(d5.xX a).toList.isEmpty=false:=by unfold d5.xX;rw[aF bT];exact ak9
 have em:=λW (D:Ext w W)=>YK p s h W (hr.ext D) aE aE
 have bS:=λW (D:Ext w W)=>d5.agj _ p.ar a aE W (hr.ar.ext D)
 generalize aB8:d5.inA p.ar a=act at *;obtain⟨nm,vi⟩:∃nm,d5.xX a=nm:=⟨_,rfl⟩;rw[vi]at bO eV;have ed:(0:Int)<=d:=aE;have eq:(d:Int)<8:=aE;have ev:=z eV;have cW:=z em;have cg:=z bS;have cD:=z (ah h hr);have nj:=z aB8;have b:=bA w (J (cK p s).toArray 36);unfold iX cK at *;obtain⟨y0,y1,y2,tn,xe,xf,E2,Hk,Hi,NO,NR,NS,NT⟩:=pY b;have ce:=z b;have aB0:decide ((d:Int)<0)=false:=dM aE;have aB1:decide ((8:Int)<=d)=false:=dM aE;have pp:=bA (w.alloc (J (cK p s).toArray 36)) (J #[H 0,E none 0 0,M 0] 73);unfold cK at pp;rw[dR]at pp;have Hp:=z pp;cases act
 ·go_in;go_wp2_with(first
   |(go_at_call 41;refine ak (ev.o _) ?_;intro I Q;have bF:=z (ah ((((O w).alloc _).alloc _).trans Q) (aJ Hp.o Q));obtain⟨c0,c1,c2,c3,c4,c5,c6,c7,c8,vc,DE,DF,DH⟩:=pY (aJ ce.o (((O _).alloc _).trans Q)))
   |(go_at_call 30;refine ak (cW.o _ bF.o.1) ?_;intro aO ag;have ca:=z (ah (bF.o.1.trans ag) (aJ bF.o.2 ag));replace c0:=ag.cell c0)
   |(go_at_call 12;refine ak (cg.o _ ca.o.1) ?_;intro bj a';have cL:=z (ah (ca.o.1.trans a') (aJ ca.o.2 a'));obtain⟨⟨hs,dc,dv⟩,gf⟩:=tL cL.o.2;have EQ:=gf 0;have ES:=gf 1;have YQ:=gf 2))
  have be:=fH (fH (fH cL.o.2 0 (H 0)) 1 (E none 0 0)) 2 (M 0);refine cO (v:=bH #[bg #[H 0,E none 0 0,M 0],av false]) (tJ results23 _ _ (w+1) _ #[H 0,E none 0 0,M 0] (0,0) _ rfl be underlying73 rfl aj) rfl ?_;have cG:p8 p d a=false:=by unfold p8;rw[nj.o];simp
  refine⟨((cL.o.1.setCell uH _).setCell uH _).setCell uH _,⟨0,[],0⟩,none,0,0,by rw[cG];rfl,λh=>by rw[cG]at h;cases h⟩
 ·go_in;go_upto_region 4 with(first
   |(go_at_call 41;refine ak (ev.o _) ?_;intro I Q;have bF:=z (ah ((((O w).alloc _).alloc _).trans Q) (aJ Hp.o Q));obtain⟨c0,c1,c2,c3,c4,c5,c6,c7,c8,vc,DE,DF,DH⟩:=pY (aJ ce.o (((O _).alloc _).trans Q)))
   |(go_at_call 30;refine ak (cW.o _ bF.o.1) ?_;intro aO ag;have ca:=z (ah (bF.o.1.trans ag) (aJ bF.o.2 ag));replace c0:=ag.cell c0;replace c1:=ag.cell c1;replace c2:=ag.cell c2;replace c3:=ag.cell c3;replace c4:=ag.cell c4;replace c5:=ag.cell c5;replace c6:=ag.cell c6;replace c7:=ag.cell c7;replace c8:=ag.cell c8;replace vc:=ag.cell vc;replace DE:=ag.cell DE;replace DF:=ag.cell DF;replace DH:=ag.cell DH)
   |(go_at_call 12;refine ak (cg.o _ ca.o.1) ?_;intro bj a';have cL:=z (ah (ca.o.1.trans a') (aJ ca.o.2 a'));obtain⟨⟨hs,dc,dv⟩,gf⟩:=tL cL.o.2;replace c0:=a'.cell c0;replace c1:=a'.cell c1;replace c2:=a'.cell c2;replace c3:=a'.cell c3;replace c4:=a'.cell c4;replace c5:=a'.cell c5;replace c6:=a'.cell c6;replace c7:=a'.cell c7;replace c8:=a'.cell c8;replace vc:=a'.cell vc;replace DE:=a'.cell DE;replace DF:=a'.cell DF;replace DH:=a'.cell DH))
  obtain⟨dj,fw⟩:∃dj,dj=bj.alloc (J (tC p s a (E none 0 0) 2147418112) 103):=⟨_,rfl⟩;have cN:Ext bj dj:=by rw[fw];exact(O _).alloc _
  have lz:ng bj bj p s a (E none 0 0) 2147418112 [] dj:=by rw[fw];exact⟨aZ _,bA _ _,⟨rfl,.inl ay⟩,λ_ h=>by cases h⟩
  have mN:=aJ cL.o.2 cN;have gi:=cL.o.1.trans cN;unfold tC at fw;rw[show((2147418112:Nat):Int)=2147418112 from rfl]at fw;rw[<-fw];have dE:=z (ah lz (ah mN gi));have ci:w.heap.size+2<=bj.heap.size:=by have:=(dG.1 cL.o.2).1;omega
  clear fw lz mN gi cN hs dc dv c0 c1 c2 c3 c4 c5 c6 c7 c8 vc DE DF DH;rcases Nat.eq_zero_or_pos d with rfl|h1
  ·have oe:∀W,(Instr.index 105 (bg NN) (H 0)).run prog W= .ok .nilFunc W:=λW=>rfl
   have b4:∀W,(binOp .eql 104 .nilFunc .nilFunc).run prog W= .ok (av true) W:=λW=>rfl
   go_wp2_with(refine ak (YM _) ?_;intro bQ bR;have c9:=z (ah (dE.o.2.2.trans bR) (aJ dE.o.2.1 bR));obtain⟨⟨hs,dc,dv⟩,gf⟩:=tL c9.o.2;have EQ:=gf 0;have ES:=gf 1;have YQ:=gf 2;clear bR gf);have be:=fH (fH (fH c9.o.2 0 (H 0)) 1 (E none 0 0)) 2 (M 0);refine cO (v:=bH #[bg #[H 0,E none 0 0,M 0],av false]) (tJ results23 _ _ (w+1) _ #[H 0,E none 0 0,M 0] (0,0) _ rfl be underlying73 rfl aj) rfl ?_;have cG:p8 p 0 a=false:=rfl;exact⟨((c9.o.1.setCell uH _).setCell uH _).setCell uH _,⟨0,[],0⟩,none,0,0,by rw[cG];rfl,λh=>by rw[cG]at h;cases h⟩
  ·have oe:=λW=>abs d h1 hd W
   have b4:∀W,(binOp .eql 104 (.func (.func (w9 d)) #[] #[]) .nilFunc).run prog W= .ok (av false) W:=λW=>rfl
   have g1:=aB3 d h1 hd;have aW:p8 p d a=Sr p d:=by unfold p8;rw[nj.o,dH h1];rfl
   have R:=λW (D:Ext dj W)=>aB4 d h1 hd cD.o.1 pZ (dE.o.1.ext' D) w (dE.o.2.2.trans D) aE (cB (Nat.le_of_lt dE.o.1.lt) D.size) cD.o.2
   have By:=z R;have t6:=z aW;clear R aW;obtain⟨aY,co⟩:∃aY,aY=w9 d:=⟨_,rfl⟩;rw[<-co]at oe b4 g1 By;clear co;unfold Cx at By;generalize Sr p d=b at *;cases b
   ·go_wp2_with(first
     |(refine ak (YM _) ?_;intro bQ bR;have c9:=z bR;clear bR)
     |(refine ak (By.o _ c9.o) ?_;rintro cT ⟨-,n7⟩;have v0:=n7.blk (aJ dE.o.2.1 c9.o) (.inr rfl);have f':=z (ah (n7.lX (dE.o.2.2.trans c9.o) aE) v0);obtain⟨⟨hs,dc,dv⟩,gf⟩:=tL v0;have EQ:=gf 0;have ES:=gf 1;have YQ:=gf 2;clear n7 v0 gf))
    have be:=fH (fH (fH f'.o.2 0 (H 0)) 1 (E none 0 0)) 2 (M 0);refine cO (v:=bH #[bg #[H 0,E none 0 0,M 0],av false]) (tJ results23 _ _ (w+1) _ #[H 0,E none 0 0,M 0] (0,0) _ rfl be underlying73 rfl aj) rfl ?_;exact⟨((f'.o.1.setCell uH _).setCell uH _).setCell uH _,⟨0,[],0⟩,none,0,0,by rw[t6.o];rfl,λh=>by rw[t6.o]at h;cases h⟩
   ·go_wp2_with(first
     |(refine ak (YM _) ?_;intro bQ bR;have c9:=z bR;clear bR)
     |(refine ak (By.o _ c9.o) ?_;rintro cT ⟨⟨ui,NU,alm,GF⟩,n7⟩;have v0:=n7.blk (aJ dE.o.2.1 c9.o) (.inr rfl);have f':=z (ah (n7.lX (dE.o.2.2.trans c9.o) aE) v0);have z5:cT.cell? ⟨bj,14,none⟩=some ui:=aG GF.b 14;obtain⟨bv,bp,rfl⟩:=dP GF.own;have NW:=z (ah alm GF);clear n7 v0 alm GF)
     |(refine(aBT _ NU bj.heap.size _ (by have:=(YP cD.o.1 a d).1;rw[<-NW.o.1,dL]at this;omega) NW.o.2.own).mono ?_;rintro e dy ⟨rfl,ys,ac,aln,hM,qn⟩
       have Hq:=qn.blk f'.o.2 (.inr rfl);have e6:=qn.blk NW.o.2.b (.inr rfl);have nS:=ac.length_eq;have mx:=z (ah (qn.lX f'.o.1 aE) (ah Hq (ah ac (ah aln (ah hM (λr hr=>qn.own (NW.o.2.ts r hr) rfl))))));have wv:dy.cell? ⟨bj,13,none⟩=_:=aG e6 13;have aB9:dy.cell? ⟨bj,14,none⟩=_:=aG e6 14;have LB:dy.cell? ⟨bj,15,none⟩=_:=aG e6 15;obtain⟨⟨hs,dc,dv⟩,gf⟩:=tL Hq;have EQ:=gf 0;have ES:=gf 1;have YQ:=gf 2;simp only[tC]at wv aB9 LB;clear ac aln hM qn Hq e6 gf))
    have be:=fH (fH (fH mx.o.2.1 0 (H a)) 1 (E bv NU bp)) 2 (M (yx p d:Int));refine cO (v:=bH #[bg #[H a,E bv NU bp,M (yx p d:Int)],av true]) (tJ results23 _ _ (w+1) _ #[H a,E bv NU bp,M (yx p d:Int)] (0,0) _ rfl be underlying73 rfl aj) rfl ?_;obtain⟨bk,-,d7,g3,hV,pS⟩:=mx.o;have cb:∀ {b e n k:Nat} {v:K} {b3:List K} {W:G} (j:Nat) (u:K),W.ownsRow b e n v k b3->bj.heap.size<=b->(W.setCell ⟨w+1,j,none⟩ u).ownsRow b e n v k b3:=λj u h V=>nT h Iw u
    refine⟨((bk.setCell uH _).setCell uH _).setCell uH _,⟨a,ys.map PR.r,yx p d⟩,bv,NU.length,bp,by rw[t6.o],λ_=>⟨rfl,rfl,?_,?_,?_⟩⟩
    ·refine Ow (eD yw (cb _ _ (cb _ _ (cb _ _ hV (aZ _)) (aZ _)) (aZ _))) (λr hr=> ?_);exact eD rX (cb _ _ (cb _ _ (cb _ _ (pS r (d7.mem_iff.1 hr)) (aZ _)) (aZ _)) (aZ _))
    ·rw[<-NW.o.1];exact d7.map _
    ·exact List.pairwise_map.2 g3
def NQ.ext{p:bP}{a:Int}{f:Filter}{u:K}(h:NQ p d a f u W)(D:Ext W aa):NQ p d a f u aa:=⟨h.1,h.2.1,lD D h.2.2.1,h.2.2.2⟩
def p9(p:bP)(d k:Nat):List (Nat×Nat):=((List.range d).flatMap λe=>((List.range 6).filter λa:Nat=>p8 p e (a:Int)).map λa=>(e,a))++((List.range k).filter λa:Nat=>p8 p d (a:Int)).map λa=>(d,a)
def aCa(p:bP)(d k:Nat):p9 p d (k+1)=p9 p d k++if p8 p d (k:Int)=true then [(d,k)]else []:=by
 unfold p9;rw[show List.range (k+1)=List.range k++[k]from List.range_succ,yZ,fQ,gJ]
 congr 2
 cases h:p8 p d (k:Int)<;>simp[h]
def Sw(p:bP)(d:Nat):p9 p (d+1) 0=p9 p d 6:=by unfold p9;rw[show List.range (d+1)=List.range d++[d]from List.range_succ,FD];simp
def YR(p:bP)(k:Nat):∀d,(p9 p d k).length<=6*d+k
 |0=>by unfold p9;rw[List.range_zero,List.flatMap_nil,iq,dL];exact cB (BH _ _) ay
 |d+1=>by have h:=YR p k d;have h1:((List.range k).filter λa:Nat=>p8 p (d+1) (a:Int)).length<=k:=cB (BH _ _) ay;have h2:=YR p 6 d;rw[<-Sw]at h2;unfold p9 at h2⊢;simp only[List.range_zero,List.filter_nil,kE,qz]at h2;rw[dA,dL];omega
open j7 (Rule Filter)
structure fP where
 d:Nat
 a:Nat
 f:Filter
 b:Option Addr
 n:Nat
 c:Nat
def NY(x:fP):K:=bg #[H x.d,H x.a,H x.f.i6,E x.b x.n x.c,M x.f.dflt]
def yA(p:bP)(x:fP)(W:G):Prop:=(x=⟨0,6,⟨0,[],0⟩,none,0,0⟩/\0<p.ar.length)\/(p8 p x.d (x.a:Int)=true/\x.d<8/\x.a<6/\NQ p x.d (x.a:Int) x.f (E x.b x.n x.c) W)
def fP.at(x:fP):Nat×Nat:=(x.d,x.a)
def xk(p:bP):List (Nat×Nat):=if 0<p.ar.length then [(0,6)]else []
def pq(p:bP):List (Nat×Nat):=xk p++p9 p 8 0
def gT.lX(D:Ext w0 aq)(h:gT n0 bz aq B)(hn:w0.heap.size<=n0):Ext w0 B:=
 ⟨h.os.trans D.os,h.tape.trans D.tape,h.output.trans D.output,cB D.size h.size,λk hk=>by have oY:k<w0:=hk;rw[h.low k aE (vw oY D.size)];exact D.block hk⟩
def gT.ext(h:Ext aq B):gT n0 bz aq B:=gT.of (.ext h)
def NZ(h:Ext aq B):aq.grownBy B none:=⟨h.os,h.tape,h.output,h.size,λ_ hk _=>h.block hk⟩
theorem aCb(l vu:Nat)(p:bP)(s:dS)(cv:iW p)(w0:G)(hr:rD w0 p s)(bz:Nat->Bool)(bE:bz 3=false/\bz 36=false)(cm g8:List fP->G->Prop)(W:G)(V:W.heap[vu]?=some (J (cK p s).toArray 36 (0,0)))(d6:Ext w0 W)(lx:AbidesFrom W cm)(hu:∀(pre:List fP)(y:fP) az,cm pre az->yA p y az->pre.length<60->YieldAt Fence.wide (3-1) prog l #[NY y] az λe aa=>(e=aI (av true)/\cm (pre++[y]) aa/\gT w0 bz az aa)\/(e=aI (av false)/\g8 (pre++[y]) aa))(ae:cm [] W):CallsIn Fence.wide 3 prog 61 #[.func (.yield l) #[] #[],aB (some vu)] W λe aa=>(∃v,e=aI v)/\((∃ys:List fP,ys.map fP.at=pq p/\cm ys aa)\/(∃pre:List fP,True/\g8 pre aa)):=by
 have da:=λ(d:Nat) (hd:d<8) (k:Nat) (hk:k<6) W (D:Ext w0 W)=>aB7 p s d hd (k:Int) aE cv W (hr.ext D)
 unfold alj at da;unfold iX cK at *;have ec:=z da;have ce:=z V;have h7:=z (ah lx hu);have tg:=z d6;have bl:∀d k,d<=8->k<=6->(p9 p d k).length<=48+6:=λd k h1 h2=>by have:=YR p k d;omega
 have nj:=z bl;obtain⟨y0,-⟩:=pY V;have aCc:(∃y,0<p.ar.length/\xk p=[(0,6)]/\y=(⟨0,6,⟨0,[],0⟩,none,0,0⟩:fP))\/(p.ar.length=0/\xk p=[]):=by
  unfold xk;by_cases bL:0<p.ar.length
  ·exact .inl ⟨_,bL,aF bL,rfl⟩
  ·exact .inr ⟨aE,au bL⟩
 have nS:pq p=xk p++p9 p 8 0:=rfl;generalize pq p=aNM at *;have Gn:=z nS;clear da V hr lx d6 bl nS;refine y8 func61 rfl trivial ?_ rfl;simp only[ntmps61,ku,dJ,fu,Nat.reduceAdd,Nat.reduceSub,oD,oC,oH,oG,iq,gZ];have gz:=z bE;clear bE hu;have zZ:∀(aq B:G) (pre:List fP),cm pre aq->Ext aq B->cm pre B:=λ_ _ _ Z D=>h7.o.1 _ _ _ none Z (NZ D) (λr e=>by cases e)
 have g4:=z zZ;clear zZ;rcases aCc with⟨y,bL,yq,EX⟩|⟨bL,yq⟩
 case' inl=>
  obtain⟨fn,tmps,assign,body,bN,bd⟩:=h7.o.2 [] y W ae (.inl ⟨EX,bL⟩) Y;subst EX;unfold NY at bN;dsimp only at bN;rw[show((0:Nat):Int)=0 from rfl,show((6:Nat):Int)=6 from rfl]at bN;have YS:(0:Int)<p.ar:=aE;have cD:=z bd;clear bd ae;gi_wp2;refine cD.o.mono ?_;rintro e cd (⟨rfl,hJ0,rl⟩|⟨rfl,hJx3⟩)
  case' inr=>gi_wp2;refine cO (gq rfl _ _ _) rfl ?_;exact⟨⟨_,rfl⟩,.inr ⟨_,trivial,hJx3⟩⟩
  have H0:=z (show(∃pre:List fP,pre.map fP.at=xk p/\cm pre cd)/\Ext w0 cd/\cd.heap[vu]?=some (J (cK p s).toArray 36 (0,0))from⟨⟨_,by rw[yq];rfl,hJ0⟩,rl.lX tg.o (aZ _),rl.kept _ _ _ _ ce.o gz.o.2⟩);clear hJ0 rl bN y0 YS yq bL
 case' inr=>have YS:¬(0:Int)<p.ar:=aE;gi_wp2;refine⟨(λf h=>by cases h),?_⟩;have H0:=z (show(∃pre:List fP,pre.map fP.at=xk p/\cm pre W)/\Ext w0 W/\W.heap[vu]?=some (J (cK p s).toArray 36 (0,0))from⟨⟨_,by rw[yq];rfl,ae⟩,tg.o,ce.o⟩);clear y0 YS yq bL ae
 all_goals
  obtain⟨⟨aCd,jx,C7⟩,d6,fN⟩:=H0.o;gi_wp2;gi_loopw [19] (λi wr=>∃(d:Nat) (pre:List fP),d<=8/\i=H d/\cm pre wr/\(Ext w0 wr/\wr.heap[vu]?=some (J (cK p s).toArray 36 (0,0)))/\pre.map fP.at=xk p++p9 p d 0) (λi _=>8-(intOf i).toNat)
  case atStart=>exact⟨0,aCd,aE,rfl,C7,⟨d6,fN⟩,by rw[jx];unfold p9;simp⟩
  case round=>
   obtain⟨d,pre,hd,rfl,ll,r',E3⟩:=hrel;by_cases ad:d<8
   ·have pL:(d:Int)<8:=aE;have bY:=z (ah ll (ah r' E3));clear ll r' E3 C7 d6 jx fN;gi_wp2_with(refine⟨trivial,?_⟩;refine(eP.2 (acC.NV _)).mono ?_;rintro e aO ⟨g,c,rfl,ag,⟨bm,Bk⟩,hg⟩;have z4:=z (ah ag (ah Bk hg));clear ag Bk hg);gi_loopw [24] (λi wr=>∃(k:Nat) (pre:List fP),k<=6/\i=H k/\cm pre wr/\(Ext w0 wr/\wr.heap[vu]?=some (J (cK p s).toArray 36 (0,0)))/\wr.heap[g]?=some (J bm 3 (0,0))/\pre.map fP.at=xk p++p9 p d k) (λi _=>6-(intOf i).toNat)
    case atStart=>exact⟨0,pre,aE,rfl,g4.o _ _ _ bY.o.1 z4.o.1,⟨bY.o.2.1.1.trans z4.o.1,aJ bY.o.2.1.2 z4.o.1⟩,z4.o.2.1,bY.o.2.2⟩
    case round=>
     obtain⟨k,pre,hk,rfl,ll,r',Au,E3⟩:=hrel;by_cases Ay:k<6
     ·have nc:(k:Int)<6:=aE;have c0:wr.cell? ⟨g,k,none⟩=some (H k):=by rw[aG Au,<-aG z4.o.2.1];exact z4.o.2.2 k Ay
      obtain⟨y0,y1,y2,tn,xe,xf,E2,Hk,Hi,NO,NR,NS,NT⟩:=pY r'.2;have rL:=ec.o d ad k Ay wr r'.1;have bU:=aCa p d k;have ey:pre.length<60:=by
       have h1:=nj.o d k aE aE;have h2:(xk p).length<=1:=by unfold xk;split<;>simp
       rw[<-dL (f:=fP.at),E3,dA];omega
      obtain⟨aq,bl⟩:∃aq,p8 p d (k:Int)=aq:=⟨_,rfl⟩;rw[bl]at rL bU;have IR:=z rL;have gg:=z bU;have cg:=z (ah ll (ah r' (ah Au (ah E3 bl))));clear rL bU ll r' Au E3 bl;cases aq
      ·gi_wp2_with(refine⟨trivial,?_⟩;refine(eP.2 IR.o).mono ?_;rintro e bj ⟨a',f,cV,n3,c3,rfl,-⟩;have cL:=z a';clear a')
       first|refine⟨(λf h=>by cases h),?_⟩|skip
       gi_wp2;have cN:=cL.o.alloc (J #[H f.i6,E cV n3 c3,M f.dflt] 73);go_roundw
       case rel=>exact⟨k+1,pre,aE,cZ,g4.o _ _ _ cg.o.1 cN,⟨cg.o.2.1.1.trans cN,aJ cg.o.2.1.2 cN⟩,aJ cg.o.2.2.1 cN,by rw[gg.o,cg.o.2.2.2.1];simp⟩
       case measure=>simp[intOf];omega
      ·gi_wp2_with(refine⟨trivial,?_⟩;refine(eP.2 IR.o).mono ?_;rintro e bj ⟨a',f,cV,n3,c3,rfl,ai⟩
                   have cN:=a'.alloc (J #[H f.i6,E cV n3 c3,M f.dflt] 73);obtain⟨fn,tmps,assign,body,bN,bd⟩:=h7.o.2 pre ⟨d,k,f,cV,n3,c3⟩ _ (g4.o _ _ _ cg.o.1 cN) (.inr ⟨cg.o.2.2.2.2,ad,Ay,(ai rfl).ext ((O _).alloc _)⟩) ey;unfold NY at bN;dsimp only at bN;have cD:=z bd;have hK:=z cN;clear bd cN a' ai)
       refine cD.o.mono ?_;rintro e eL (⟨rfl,hJ5,CC⟩|⟨rfl,aue⟩)
       ·have m':=z (ah hJ5 CC);clear hJ5 CC bN;gi_wp2;go_roundw
        case rel=>exact⟨k+1,_,aE,cZ,m'.o.1,⟨m'.o.2.lX (cg.o.2.1.1.trans hK.o) (aZ _),m'.o.2.kept _ _ _ _ (aJ cg.o.2.1.2 hK.o) gz.o.2⟩,m'.o.2.kept _ _ _ _ (aJ cg.o.2.2.1 hK.o) gz.o.1,by rw[gg.o,fQ,cg.o.2.2.2.1,gJ];rfl⟩
        case measure=>simp[intOf];omega
       ·gi_wp2
        first|go_end0|refine cO (gq rfl _ _ _) rfl ?_
        exact⟨⟨_,rfl⟩,.inr ⟨_,trivial,aue⟩⟩
     ·obtain rfl:k=6:=aE;gi_wp2;go_roundw
      case rel=>exact⟨d+1,pre,aE,cZ,ll,r',by rw[Sw];exact E3⟩
      case measure=>simp[intOf];omega
   ·obtain rfl:d=8:=aE;gi_wp2
    first|go_end0|refine cO (gq rfl _ _ _) rfl ?_
    exact⟨⟨_,rfl⟩,.inl ⟨_,by rw[Gn.o];exact E3,ll⟩⟩
end LT
end Go.Proofs.YtopfefhenfineaaGreat
