import Derived.Test.YtopfefhenfineaaGreatP15
import Derived.Test.YtopfefhenfineaaGreatP16
set_option linter.all false
set_option maxRecDepth 100000
set_option maxHeartbeats 8000000
namespace Go.Proofs.YtopfefhenfineaaGreat
open Go.Proofs.Tryz Go.RowKit Go.Shelf bh
attribute[local go_sem] Oper.semAt_some bh.Oper.idle bh.Oper.lV bh.Oper.jF
namespace LT
variable{L:List Ix}{W w:G}{base c e g i k n0:Nat}
def WT(h:w.ownsRow base e 4 (E (some g) L c) L (L.flatMap iD))(hk:k<L):w.cell? ⟨g,k*4,none⟩=some (bf (L[k].c:Int))/\w.cell? ⟨g,k*4+1,none⟩=some (aC (L[k].jt:Int))/\w.cell? ⟨g,k*4+2,none⟩=some (aC (L[k].jf:Int))/\w.cell? ⟨g,k*4+3,none⟩=some (M (L[k].k:Int))/\∀j,w.frozen? ⟨g,j,none⟩=false:=by obtain⟨a,c',h1,h2,T,af⟩:=eD Ee h;simp only[eZ]at h1;obtain⟨rfl,-,rfl⟩:=h1;obtain⟨b,o,cU,g3⟩:=af k hk;simp only[jB,pJ,and_true]at cU;obtain⟨rfl,rfl⟩:=cU;have r0:=g3 0 tX;have dq:=g3 1 tX;have ei:=g3 2 tX;have eM:=g3 3 tX;simp only[gF,nO,iD,BG,yV]at r0 dq ei eM;exact aeO
def afT(h:w.ownsRow base e 4 (E (some g) L c) L (L.flatMap iD))(hi:i<L)(y:Ix):((((w.setCell ⟨g,i*4,none⟩ (bf y.c)).setCell ⟨g,i*4+1,none⟩ (aC y.jt)).setCell ⟨g,i*4+2,none⟩ (aC y.jf)).setCell ⟨g,i*4+3,none⟩ (M y.k)).ownsRow base e 4 (E (some g) L c) L ((L.set i y).flatMap iD):=by
 have t2:∀aR:Ix,(L.set i aR).length=L.length:=λaR=>kD
 have h1:=(vD Ee h i 0 (bf y.c) ⟨y.c,L[i].jt,L[i].jf,L[i].k⟩ hi Y rfl).1;have step:∀ {W:G} {aR:Ix} (j:Nat) (u:K) (B1:Ix),W.ownsRow base e 4 (E (some g) L c) L ((L.set i aR).flatMap iD)->j<4->iD B1=(iD aR).set j u->
  (W.setCell ⟨g,i*4+j,none⟩ u).ownsRow base e 4 (E (some g) L c) L ((L.set i B1).flatMap iD):=λ{W aR} j u B1 h Z bx=>by
  rw[<-t2 aR]at h;have:=(vD Ee h i j u B1 (by rw[t2];exact hi) Z (by rw[List.getElem_set_self];exact bx)).1;rw[List.set_set,t2]at this;exact this
 rw[nO]at h1;exact step 3 (M y.k) y (step 2 (aC y.jf) ⟨y.c,y.jt,y.jf,L[i].k⟩ (step 1 (aC y.jt) ⟨y.c,y.jt,L[i].jf,L[i].k⟩ h1 Y rfl) Y rfl) Y rfl
def bq.Vw{bz:Nat->Bool}{t:dD}{U:Array K}(V:W.heap[g]?=some (J U t (0,0)))(bE:bz t=true)(hn:n0<=g)(a b c d:K):bq n0 bz W ((((W.setCell ⟨g,i*4,none⟩ a).setCell ⟨g,i*4+1,none⟩ b).setCell ⟨g,i*4+2,none⟩ c).setCell ⟨g,i*4+3,none⟩ d):=
 (((bq.set (p:=⟨g,i*4,none⟩) V bE hn a).trans (bq.set (p:=⟨g,i*4+1,none⟩) (fH V _ a) bE hn b)).trans (bq.set (p:=⟨g,i*4+2,none⟩) (fH (fH V _ a) _ b) bE hn c)).trans (bq.set (p:=⟨g,i*4+3,none⟩) (fH (fH (fH V _ a) _ b) _ c) bE hn d)
def wS(A:List Ix)(k:Nat):List Ix:=List.ofFn λm:Fin A.length=>if m.1<k\/A.length-1-m.1<k then A[A.length-1-m.1]' aE else A[m.1]
def Eh(A:List Ix)(k:Nat):(wS A k).length=A.length:=by simp[wS]
def I4(A:List Ix)(k m:Nat)(h:m<A):(wS A k)[m]'(by rw[Eh];exact h)=if m<k\/A.length-1-m<k then A[A.length-1-m]' aE else A[m]:=by simp[wS]
def awD(A:List Ix):wS A 0=A:=by
 apply List.ext_getElem
 ·rw[Eh]
 ·intro m h1 h2;rw[I4 A 0 m h2,au aE]
def awE(A:List Ix)(k:Nat)(h:A.length<=2*k+1):wS A k=A.reverse:=by
 apply List.ext_getElem
 ·rw[Eh,List.length_reverse]
 ·intro m h1 h2;rw[List.length_reverse]at h2;rw[I4 A k m h2,List.getElem_reverse];split
  ·rfl
  ·congr 1;omega
def awF(A:List Ix)(k:Nat)(h:2*k+1<A.length):((wS A k).set k ((wS A k)[A.length-1-k]'(by rw[Eh];omega))).set (A-1-k) ((wS A k)[k]'(by rw[Eh];omega))=wS A (k+1):=by
 apply List.ext_getElem
 ·simp[Eh]
 ·intro m h1 h2;rw[Eh]at h2;rw[I4 A (k+1) m h2,List.getElem_set];split
  ·rename_i e;subst e;rw[I4 A k k aE,au aE,aF aE]
   congr 1;omega
  ·rw[List.getElem_set];split
   ·rename_i aK e;subst e;rw[I4 A k _ aE,au aE,aF aE]
   ·rename_i aK aV;rw[I4 A k m h2];by_cases aQ:m<k\/A.length-1-m<k
    ·rw[aF aQ,aF aE]
    ·rw[au aQ,au aE]
theorem awG(base:Nat)(v:K)(A:List Ix)(X:A.length<=10000000)(w:G)(ho:w.ownsRow base 173 4 v A (A.flatMap iD)):Calls prog 238 #[v] w λe F=>e=aI (bH #[])/\F.ownsRow base 173 4 v A (A.reverse.flatMap iD)/\bq base (lT 173) w F:=by
 obtain⟨a,c,rfl⟩:=dP ho;have cx:=z ho;clear ho;go_in;go_wp;go_loopw [2,3] (λi j wr=>∃k:Nat,k<=A/\i=H k/\j=H ((A:Int)-1-k)/\wr.ownsRow base 173 4 (E a A c) A ((wS A k).flatMap iD)/\bq base (lT 173) w wr) (λi _ _=>A.length-(intOf i).toNat)
 case atStart=>exact⟨0,aE,rfl,ay,by rw[awD];exact cx.o,bq.refl _ _ _⟩
 case round=>
  obtain⟨k,hk,rfl,rfl,ho,an⟩:=hrel;by_cases ad:2*k+1<A.length
  ·have bU:=awF A k ad;obtain⟨L,da⟩:∃L,L=wS A k:=⟨_,rfl⟩;have hX:L.length=A.length:=by rw[da,Eh]
   obtain⟨q,aW⟩:∃q,q=A.length-1-k:=⟨_,rfl⟩;have yn:(A:Int)-1-k=(q:Int):=aE;have afU:k<L:=aE;have Q2:q<L.length:=aE;have afV:(L.set k L[q]).set q L[k]=wS A (k+1):=by subst da;subst aW;exact bU
   rw[<-da]at ho;rw[<-hX]at ho yn⊢;obtain⟨g,c1,aK,Gh,tS,ai⟩:=zV ho aE;simp only[eZ,true_and]at aK;obtain⟨rfl,rfl⟩:=aK;obtain⟨a0,a1,a2,a3,-⟩:=WT ho afU;obtain⟨b0,b1,b2,cV,-⟩:=WT ho Q2;obtain⟨-,bm,hc⟩:=Le ho g rfl;have h1:=afT ho afU L[q];have f3:=bq.Vw (n0:=base) (bz:=lT 173) (i:=k) hc rfl Gh (bf (L[q].c:Int)) (aC (L[q].jt:Int)) (aC (L[q].jf:Int)) (M (L[q].k:Int));obtain⟨az,b7⟩:∃az,az=((((wr.setCell ⟨g,k*4,none⟩ (bf (L[q].c:Int))).setCell ⟨g,k*4+1,none⟩ (aC (L[q].jt:Int))).setCell ⟨g,k*4+2,none⟩ (aC (L[q].jf:Int))).setCell ⟨g,k*4+3,none⟩ (M (L[q].k:Int))):=⟨_,rfl⟩;have t2:(L.set k L[q]).length=L.length:=kD;rw[<-b7,<-t2]at h1;rw[<-b7]at f3;obtain⟨-,awA,afW⟩:=Le h1 g rfl;obtain⟨dm,cs,eg,h6,-⟩:=WT h1 (k:=q) (by rw[t2];exact Q2);have afX:(L.set k L[q])[q]'(by rw[t2];exact Q2)=L[q]:=by rw[List.getElem_set,au aE]
   rw[afX,b7]at dm cs eg h6;have h2:=afT h1 (by rw[t2];exact Q2) L[k];have e0:=bq.Vw (n0:=base) (bz:=lT 173) (i:=q) afW rfl Gh (bf (L[k].c:Int)) (aC (L[k].jt:Int)) (aC (L[k].jf:Int)) (M (L[k].k:Int));rw[afV]at h2;rw[t2,b7]at h2;rw[b7]at e0 f3;have gz:=z (an.trans (f3.trans e0));have bK:=z h2;have t6:=z (ah aW yn);have nc:(k:Int)<L:=aE;have xT:(q:Int)<L:=aE;have dg:=λj=>dw hc j
   have aMF:(k:Int)<q:=aE;rw[yn];have Av:=z hX;have GA:L.length<=10000000:=aE;clear afX h1 h2 f3 e0 b7 hc afW bU afV da t2 ho an aW hX ai;obtain⟨x,D⟩:∃x,x=L[k]:=⟨_,rfl⟩;obtain⟨y,bN⟩:∃y,y=L[q]:=⟨_,rfl⟩;rw[<-D]at a0 a1 a2 a3 bK gz;rw[<-bN]at b0 b1 b2 cV bK gz dm cs eg h6;clear D bN;have AB:=dg (k*4);have va:=dg (k*4+1);have Ls:=dg (k*4+2);have Q3:=dg (k*4+3);have H3:=dg (q*4);have vb:=dg (q*4+1);have m4:=dg (q*4+2);have t7:=dg (q*4+3);clear dg;go_upto_region 3 with fail;have aMG:=dh a0;have aMH:=dh a1;have aMI:=dh a2;have aMJ:=dh a3;have Gs:=dh b0;have Gt:=dh b1;have IS:=dh b2;have Mm:=dh cV;refine Ms (n:=1) [13,14,15] (λaP=>∃x:fG wr,aP=x.w) aj ?_;have eQ:∃x:fG wr,wr.drew=x.w:=⟨⟨wr.drew,(O wr).drew⟩,rfl⟩;refine mq 0 rfl ?_;refine mq 1 rfl ?_;refine mq 2 rfl ?_;refine mq 3 rfl ?_;refine mq 4 rfl ?_;refine mq 5 rfl ?_;refine jK 6 rfl (λaX am=> ?_);go_simp;refine am _ ?_;refine jK 8 rfl (λaX am=> ?_);go_simp;refine am _ ?_;refine jK 9 rfl (λaX am=> ?_);go_simp;refine am _ ?_;refine jK 10 rfl (λaX am=> ?_);go_simp;refine am _ ?_;refine I5 (λ_=>trivial) 7 rfl aj aj aj aj aj eQ (λaX am=> ?_);go_simp;refine am _ ?_;refine I5 (λ_=>trivial) 11 rfl aj aj aj aj aj eQ (λaX am=> ?_);go_simp;refine am _ ?_;refine jK 12 rfl (λaX am=> ?_);go_simp;refine am _ ?_;refine nZ 13 aj rfl aj (λaX am=> ?_);go_simp;refine am _ _ ?_;refine nZ 14 aj rfl aj (λaX am=> ?_);go_simp;refine am _ _ ?_;refine nZ 15 aj rfl aj (λaX am=> ?_);go_simp;refine am _ _ ?_;refine AJ aj ?_;dsimp only[bh.Calm,Exit.then];go_wp;go_roundw
   case rel=>exact⟨k+1,aE,cZ,by have:=t6.o.2;have:=Av.o;(first|(simp;done)|(simp;omega)),wQ bK.o (O _).drew,gz.o.trans (bq.drew _)⟩
   case measure=>exact eO
  ·have bx:=awE A k aE;rw[bx]at ho;have hn:¬((k:Int)<A-1-k):=aE;have bC:=z (ah ho an);go_wp
   first|go_end0|refine cO (gq rfl _ _ _) rfl ?_
   exact⟨rfl,bC.o.1,bC.o.2⟩
end LT
end Go.Proofs.YtopfefhenfineaaGreat
namespace Go.Proofs.YtopfefhenfineaaGreat
open Go.Proofs.Tryz Go.RowKit Go.Shelf bh
attribute[local go_sem] Oper.semAt_some
namespace LT
open jG (aD sP dI gQ mR dx eU gK ig)
theorem afY(v:K)(A:List aD)(X:A.length<=1000000)(w:G)(hv:aS w 4 dI v A):Calls prog 283 #[v] w λe F=>e=aI (av (dx A))/\Ext w F:=jG.pK (λs i len W=>jG.yU s i len W) v A X w hv
def AL:Array K:= #[.func (.func 286) #[] #[],.func (.func 287) #[] #[],.func (.func 288) #[] #[]]
theorem awH(w:G):aM 239 #[] w (bg AL):=by
 unfold aM;go_in;go_upto_region 1 with fail;apply wp_region_lit;refine wpList_buildTo rfl 353 _ rfl (some 1) rfl AL jU ?_;refine wpList_store_rowTo rfl 353 _ _ rfl rfl w.heap.size AL jU jU 353 _ (heap_alloc_last w _) aj aj aj ?_;rw[World.setRow_alloc_new];apply wpList_nil;rename_i am;refine am _ _ ?_;have key:∀aq:Act,aq.tmps.getD 0 undef=aB (some w)->aq.defers=[]->Code.wp prog Code.ret (bodyPost prog Tryz.f239 λe F=>e=aI (bg AL)/\Ext w F) aq (w.alloc (J AL 353)):=by intro aq ae hd;go_wp;exact cO (v:=bg AL) (lQ results239 _ _ _ _ _ _ _ ae (heap_alloc_last w _) underlying353 rfl aj) hd ⟨rfl,(O _).alloc _⟩
 exact Du
def GD(l:List aD):Nat->List aD
 |0=>l
 |1=>tV l
 |2=>lu (tV l)
 |_=>qX l
def awI{l:List aD}(h:dx l=true)(k:Nat):(GD l k).length<=l.length:=by
 match k with
 |0=>exact aZ _
 |1=>exact Nat.le_of_eq (uN _ _)
 |2=>exact Nat.le_of_eq (((Ca (Cb h)).1).trans (uN _ _))
 |_+3=>exact afZ h
def af0(k:Nat):K:=match k with
 |0=> .func (.func 286) #[] #[]
 |1=> .func (.func 287) #[] #[]
 |_=> .func (.func 288) #[] #[]
theorem awJ(v:K)(A:List aD)(X:A.length<=1000000)(R:dx A=true)(hk:∀s∈A,s.k<4294967296)(B:Nat)(w:G)(hv:aS w 4 dI v A)(hB:w.heap[B]?=some (J AL 353 (0,0))):Calls prog 240 #[v,E (some B) 3 3] w λe F=>∃a c,e=aI (bH #[E a (qX A).length c,H 0])/\Ext w F/\aS F 4 dI (E a (qX A).length c) (qX A):=by
 have em:=λW (h:Ext w W)=>afY v A X W (hv.ext h)
 rw[R]at em;have WU:∀k,k<3->∀(u:K) W,aS W 4 dI u (GD A k)->Calls prog (match k with|0=>286|1=>287|_=>288) #[u] W λe F=>∃a c,e=aI (E a (GD A (k+1)).length c)/\Ext W F/\aS F 4 dI (E a (GD A (k+1)).length c) (GD A (k+1)):=by
  intro k hI u W hr;have ge:=awI R k
  match k,hI with
  |0,_=>refine(avF u A X R hk W hr).mono ?_;rintro e F ⟨a,c,rfl,D,ho⟩;have aK:(tV A).length=A.length:=uN _ _;rw[<-aK]at ho;exact⟨a,c,by rw[<-aK];rfl,D,eD gQ ho⟩
  |1,_=>have aK:(tV A).length=A.length:=uN _ _;refine(av5 u (tV A) aE (Cb R) W hr).mono ?_;rintro e F ⟨a,c,rfl,D,ho⟩;have aV:(lu (tV A)).length=(tV A).length:=(Ca (Cb R)).1;rw[<-aV]at ho;exact⟨a,c,by rw[<-aV];rfl,D,eD gQ ho⟩
  |2,_=>have aK:(tV A).length=A.length:=uN _ _;have aV:(lu (tV A)).length=(tV A).length:=(Ca (Cb R)).1;refine(avX u (lu (tV A)) aE (Q6 (Cb R)) W hr).mono ?_;rintro e F ⟨a,c,rfl,D,ho⟩;exact⟨a,c,rfl,D,eD gQ ho⟩
 have cz:=z WU;have ce:=z hB;have k1:=z hv;have cW:=z em;obtain⟨a0,c0,rfl,-,-⟩:=ig hv;go_in;go_wp2_with fail;refine ak (cW.o _ (O _)) ?_;intro I Q;have bF:=z Q;go_wp2_with fail;go_loopw [0,13] (λu i wr=>∃k:Nat,k<=3/\i=H k/\Ext w wr/\∃a c,u=E a (GD A k).length c/\aS wr 4 dI u (GD A k)) (λ_ i _=>3-(intOf i).toNat)
 case atStart=>exact⟨0,aE,rfl,bF.o,a0,c0,rfl,k1.o.ext bF.o⟩
 case round=>
  obtain⟨k,hk,rfl,D,a,c,rfl,hr⟩:=hrel;by_cases ad:k<3
  ·have awB:=cz.o k ad _ wr hr;have ao:wr.cell? ⟨B,k,none⟩=some (af0 k):=by
    rw[aG (aJ ce.o D)]
    match k,ad with
    |0,_=>rfl
    |1,_=>rfl
    |2,_=>rfl
   have Mu:=z awB;have aT:=z D
   match k,ad with
   |0,_|1,_|2,_=>
    unfold af0 at ao
    try dsimp only at ao Mu
    go_wp2_with fail;refine Mu.o.mono ?_;rintro e bQ ⟨a5,c5,rfl,bR,t8⟩;have m':=z (ah bR t8);go_wp2_with fail;go_roundw
    case rel=>exact⟨_,aE,cZ,aT.o.trans m'.o.1,a5,c5,rfl,m'.o.2⟩
    case measure=>simp[intOf]
  ·obtain rfl:k=3:=aE;have bC:=z (ah D hr);go_wp2_with fail;go_ret2;exact⟨a,c,rfl,bC.o⟩
theorem awK(v:K)(A:List aD)(X:A.length<=1000000)(R:dx A=true)(hk:∀s∈A,s.k<4294967296)(w:G)(hv:aS w 4 dI v A):Calls prog 177 #[v] w λe F=>∃a c,e=aI (bH #[E a (qX A).length c,H 0])/\Ext w F/\aS F 4 dI (E a (qX A).length c) (qX A):=by
 have e1:=λW=>awH W
 have cE:=λB W (D:Ext w W) hB=>awJ v A X R hk B W (hv.ext D) hB
 have tM:=z e1;have I2:=z cE;go_in;go_wp2_with fail;refine ak (tM.o _) ?_;intro I Q;have bF:=z Q;go_wp2_with(refine wpList_store_rowTo rfl 353 _ _ rfl rfl I.heap.size AL jU jU 353 _ (heap_alloc_last I _) aj aj aj ?_;rw[World.setRow_alloc_new]);have V:=bA I (J AL 353);have awL:=I2.o I _ (bF.o.alloc (J AL 353)) V;have D':=z awL;refine D'.o.mono ?_;rintro e aO ⟨a,c,rfl,ag,cQ⟩;have bK:=z (ah ag cQ);go_wp2_with fail;go_ret2;exact⟨a,c,rfl,(bF.o.alloc _).trans bK.o.1,bK.o.2⟩
end LT
end Go.Proofs.YtopfefhenfineaaGreat
namespace Go.Proofs.YtopfefhenfineaaGreat
open Go.Proofs.Tryz Go.RowKit Go.Shelf bh
attribute[local go_sem] Oper.semAt_some bh.Oper.idle bh.Oper.lV bh.Oper.jF
namespace LT
open jG (aD sP dI gQ mR dx eU gK ig)
variable{aq C W w0:G}{B g i len n n0:Nat}{pl:List Nat}
def wU(l:List aD)(aw:List Ix×List Nat)(x:Fin l):List Ix×List Nat:=
 (aw.1++(fJ (lU aw.1.length aw.2) l[x.1]).reverse,aw.2.set x.1 (aw.1++(fJ (lU aw.1.length aw.2) l[x.1]).reverse).length)
def sW(l:List aD)(e5:List (Fin l)):List Ix×List Nat:=e5.foldl (wU l) ([],List.replicate l 0)
def af2(l:List aD)(e5:List (Fin l))(x:Fin l):sW l (e5++[x])=wU l (sW l e5) x:=by simp[sW]
def awM(l:List aD)(e5:List (Fin l)):(sW l e5).2.length=l.length/\(sW l e5).1.length<=3*e5.length/\∀t,(sW l e5).2.getD t 0<=(sW l e5).1.length:=by
 suffices h:∀(e5:List (Fin l)) (aw:List Ix×List Nat) (k:Nat),aw.2.length=l.length->aw.1.length<=3*k->(∀t,aw.2.getD t 0<=aw.1.length)->
  (e5.foldl (wU l) aw).2.length=l.length/\(e5.foldl (wU l) aw).1.length<=3*(k+e5.length)/\∀t,(e5.foldl (wU l) aw).2.getD t 0<=(e5.foldl (wU l) aw).1.length by
  have:=h e5 ([],List.replicate l 0) 0 ay ay (λt=>by simp[kR,List.getElem?_replicate];split<;>simp);rw[gF]at this;exact this
 intro e5
 induction e5 with
 |nil=>intro aw k h1 h2 T;exact⟨h1,h2,T⟩
 |cons x e5 b9=>
  intro aw k h1 h2 T;have ac:=WV (lU aw.1.length aw.2) l[x.1];have ge:aw.1.length<=(wU l aw x).1.length:=by simp[wU]
  have:=b9 (wU l aw x) (k+1) (by simp[wU,h1]) (by simp[wU];omega) (λt=>by
   show(aw.2.set x.1 _).getD t 0<=_;rw[kR,List.getElem?_set];have af3:=T t;rw[kR]at af3;split
   ·split
    ·exact aZ _
    ·exact eG _
   ·exact cB af3 ge)
  rw[xH,show k+(x::e5).length=k+1+e5.length by simp;omega];exact this
def af4{l:List aD}(h:dx l=true):∀(k:Nat)(hk:k<=l),sW l (kH l k hk)=((iV l (l-k)).reverse,List.replicate (l-k) 0++wV l (l-k))
 |0,hk=>by rw[Nat.sub_zero,Q7,awN];have e:kH l 0 hk=[]:=rfl;rw[e];simp[sW]
 |k+1,hk=>by
  have b9:=af4 h k aE;rw[QN _ _ aE,af2,b9];have hi:l.length-1-k<l.length:=aE;obtain⟨i,GB⟩:∃i,i=l.length-1-k:=⟨_,rfl⟩;have aK:l.length-k=i+1:=aE;have aV:l.length-(k+1)=i:=aE;have rn:i<l:=aE;rw[aK,aV];have D:(⟨l.length-1-k,hi⟩:Fin l)=⟨i,rn⟩:=Fin.ext GB.symm;rw[D];unfold wU;dsimp only;rw[List.length_reverse];have hd:fJ (lU (iV l (i+1)).length (List.replicate (i+1) 0++wV l (i+1))) l[i]=fJ (dst l (i+1)) l[i]:=by
   refine af5 (jG.jy h rn) (λt h1 h2=> ?_);unfold lU dst;rw[<-af6 l (i:=i+1) h1 h2]
   congr 1
   simp only[kR];rw[Dl (by rw[zQ];omega),zQ]
  rw[hd,<-List.reverse_append,<-I6 h rn,List.length_reverse,awO rn]
  congr 1
  rw[List.replicate_succ',gJ,List.set_append_right _ _ ay];simp
def Mv(t:Nat):Bool:=vR t||t==3
def awP(h:bq n0 vR aq C):bq n0 Mv aq C:=h.mono (aZ _) (λt an=>by unfold Mv at an;simp at an;exact an.1)
def bq.keep{bz:Nat->Bool}(h:bq n0 bz aq C){a7:Nat->Prop}(hS:∀k,a7 k->∃o,aq.heap[k]?=some o/\(k<n0\/∀U t fr,o=J U t fr->bz t=false)):bh.Keep a7 aq C:=
 ⟨h.os,h.tape,h.output,h.size,λk hk=>by obtain⟨o,h1,h2⟩:=hS k hk;exact(h.kept k o h1 h2).trans h1.symm⟩
def kJ.placed{v:K}{de:List Ix}{far:Int}(h:kJ w0 B v g de pl far W)(x n:Nat):kJ w0 B v g de (pl.set x n) far (W.setCell ⟨g,x,none⟩ (H n))/\bq w0 Mv W (W.setCell ⟨g,x,none⟩ (H n)):=by
 have bk:bq w0 (lT 3) W (W.setCell ⟨g,x,none⟩ (H n)):=bq.set (p:=⟨g,x,none⟩) h.pls rfl h.hg _;refine⟨⟨bk.lX h.ext (aZ _),h.hB,?_,bk.own h.own rfl,h.hg,?_⟩,bk.mono (aZ _) (λt an=>by unfold Mv at an;unfold lT;simp at an⊢;exact an.2)⟩
 ·rw[kD];exact bk.blk h.box (.inr rfl)
 ·have:=fH h.pls x (H n);rw[ae2]at this;exact this
def awQ{s:aD}(h:eU len i s=true)(X:pl.length=len)(ac:∀t,pl.getD t 0<=n):(s.c≠5/\iy s.c=false/\gK s.c=false)\/(s.c=5/\acx n pl s.th)\/(s.c≠5/\iy s.c=true/\gK s.c=true/\acx n pl s.th/\acx n pl s.el):=by
 obtain⟨bk,bW⟩:=QC h;rcases sV h with⟨h1,h2,T,af⟩|⟨h1,h2,T⟩|⟨h1,h2,T,af,aQ⟩|⟨h1,n1,n2,n3,n4,⟨af,aQ⟩,a9,cF⟩
 ·exact .inl ⟨aE,by rw[bk];exact D8 (.inl h1),by rw[h1];rfl⟩
 ·refine .inl ⟨aE,by rw[bk];exact D8 (.inr h1),?_⟩;rcases h1 with h1|h1<;>rw[h1]<;>rfl
 ·exact .inr (.inl ⟨h1,aE,aE,ac _⟩)
 ·exact .inr (.inr ⟨n4,by rw[bk];simp[nV,h1],h1,⟨aE,aE,ac _⟩,aE,aE,ac _⟩)
theorem awR(v:K)(A:List aD)(R:dx A=true)(w:G)(hv:aS w 4 dI v A):Calls prog 237 #[v] w λe F=>∃B u g pl far,e=aI (bH #[aB (some ⟨B,0,none⟩),av true])/\kJ w B u g (nE A).reverse pl far F:=by
 have ey:=GH R;have WW:=afY v A aE w hv;rw[R]at WW;obtain⟨a,c,rfl,ep,bV⟩:=ig hv;have rL:∀b o c',Value.slice a A c=E (some ⟨b,o,none⟩) A c'->0<A.length->b<w.heap.size:=afl
 have dt:=z WW;have k1:=z hv;have cW:=z R;have IR:=z rL;clear WW hv bV rL R;refine(eP (n:=4)).1 ?_;refine callsIn_of_wp_marks func237 rfl trivial ?_ rfl;simp only[ntmps237,ku,dJ,fu,Nat.reduceAdd,Nat.reduceSub,oD,oC,oH,oG,iq,gZ];gi_wp2_with(refine⟨trivial,?_⟩;gi_at_call 283;refine iN (eP.2 dt.o) ?_;intro I Q;have bF:=z Q;have lz:=ae4 A aE I;have n2:=bA I (J (isA (List.replicate A 0)) 3);obtain⟨a8,b'⟩:∃a8,a8=I.alloc (J (isA (List.replicate A 0)) 3):=⟨_,rfl⟩;rw[<-b']at n2 lz;have h':=z b';have x3:=z n2;clear b' n2 Q);have ag:Ext w a8:=by rw[h'.o];exact bF.o.alloc _
 have n3:=bA a8 (J #[E none 0 0,E (some I) A A.length,H 0] 349);obtain⟨cd,fh⟩:∃cd,cd=a8.alloc (J #[E none 0 0,E (some I) A A.length,H 0] 349):=⟨_,rfl⟩;rw[<-fh]at n3;have a':Ext a8 cd:=by rw[fh];exact(O _).alloc _
 have gj:cd.heap.size=a8+1:=by rw[fh];simp
 have af7:kJ w a8 (E none 0 0) I (sW A []).1 (sW A []).2 0 cd:=by have nS:(sW A []).2=List.replicate A 0:=rfl;have k6:(sW A []).1=[]:=rfl;rw[nS,k6];refine⟨ag.trans a',ag.size,?_,jR _ _ _ _,bF.o.size,aJ x3.o a'⟩;rw[zQ];exact n3
 have n4:=bA cd (J #[aB (some a8)] 345);rw[gj]at n4;have Ei:(a8.alloc (J #[E none 0 0,E (some I) A A.length,H 0] 349))=cd:=fh.symm;rw[Ei];clear Ei;obtain⟨dj,fw⟩:∃dj,dj=cd.alloc (J #[aB (some a8)] 345):=⟨_,rfl⟩;rw[<-fw]at n4⊢;have cN:Ext cd dj:=by rw[fw];exact(O _).alloc _
 have vx:dj.heap.size=a8+2:=by rw[fw,dR,gj]
 have hB:=ae9 a A c dj;have n5:=bA dj (J #[E a A c] 215);obtain⟨eL,ib⟩:∃eL,eL=dj.alloc (J #[E a A c] 215):=⟨_,rfl⟩;rw[<-ib]at hB n5;rw[vx]at hB n5;have bR:Ext dj eL:=by rw[ib];exact(O _).alloc _
 have i1:eL.heap.size=a8+3:=by rw[ib,dR,vx]
 have ce:=z hB;have awS:=z ((af7.ext' cN).ext' bR);have ev:=z (ah (aJ n4 bR) n5);have ia:=z i1;have c9:=z (((ag.trans a').trans cN).trans bR);have aMK:w.heap.size<=I:=bF.o.size;have p2:w.heap.size<=a8:=ag.size;clear hB n3 n4 n5 af7 a' cN bR fh fw ib gj vx i1 ag;refine⟨trivial,?_⟩;refine iN (eP.2 ce.o) ?_;rintro F rfl;gi_wp2;have h1:1<=4:=aE;refine wpIn_rangeFunc_ownH (w0:=eL) rfl h1 (gf:=357) (lb:= #[aB (some ⟨a8+2,0,none⟩)]) rfl trivial (enters_of func357 aj rfl)
  (afb (a8+2) _ A aE eL (λk=>k<w.heap.size\/k=a8.heap.size+2) (by rw[ia.o];omega) (.inr rfl) (aG ev.o.2 0) (k1.o.ext c9.o) (λb o c' e ae=> .inl (IR.o b o c' e ae)))
  Po (λW l o fe X _ _ _=>⟨rfl,rfl,rfl,ay,λk hk=>World.putObj_heap_other (λe=>by have:=ia.o;omega)⟩) (Below.refl _ _) (λ_=>rfl)
  (λpre W=>(∃u far,kJ w a8 u I (sW A pre).1 (sW A pre).2 far W/\0<=far/\far<=pre.length)/\W.heap[a8.heap.size+1]?=some (J #[aB (some a8)] 345 (0,0))/\W.heap[a8.heap.size+2]?=some (J #[E a A c] 215 (0,0)))
  (λ_ _ _=>False)
  (λs aq B row ab hg hr=> ?se)
  (λ_ _ _ _ _ ab _ _=>ab)
  ⟨⟨_,0,awS.o,Int.le_refl _,ay⟩,ev.o.1,ev.o.2⟩
  (λx bu W=>∃Bx,a8.heap.size+3<=Bx/\W.heap[Bx]?=some (J #[bf (A[x].c:Int),M (A[x].k:Int),H A[x].th,H A[x].el] 407 (0,0))/\
   bu= {tmps:= #[E a A c,undef,aB none,av false,aB (some ⟨a8+1,0,none⟩),H ((x:Nat):Int),aB (some Bx),E a A c,av true,av false,E a A c,H A.length,
    E (some I) A A.length,bg #[E none 0 0,E (some I) A A.length,H 0],aB (some a8),E a A c,
    .func (.func 357) #[] #[aB (some ⟨a8+2,0,none⟩)],H ((x:Nat):Int),sS A[x],undef,undef,undef,undef,undef,undef,undef,undef,undef,undef,undef,undef,undef,undef,undef],defers:= []})
  (λx bu _ aP Ad row ab hg hr=> ?sk)
  ?assign ?body ?done ?stop
 case se=>
  obtain⟨⟨u,far,h1,h2,T⟩,af,aQ⟩:=ab;have cQ:=λr e=>(hr r e).2
  exact⟨⟨u,far,h1.row hg cQ (λk e=>by have:=(hr k e).1;have:=ia.o;omega),h2,T⟩,jl af hg cQ,jl aQ hg cQ⟩
 case sk=>exact afk
 case assign=>rintro l pre x W aX ⟨⟨u,far,h1,h2,T⟩,af,aQ⟩ am;have ci:=(dG.1 aQ).1;have P0:=h1.ext.size;unfold sS;gi_wp2;have bU:=(dG.1 aQ).1;exact am _ _ ((KeepsOthers.alloc _ _).from _) (Keep.of_below ((Below.refl W W).alloc (aZ _) _) (λk hk=>by rcases hk with hk|hk<;>omega)) ⟨⟨u,far,h1.ext' ((O _).alloc _),h2,T⟩,aJ af ((O _).alloc _),aJ aQ ((O _).alloc _)⟩ ⟨W.heap.size,aE,bA W _,rfl⟩
 case body=>
  rintro l pre x bu W X ⟨r,hr⟩ ⟨⟨u,far,h1,h2,T⟩,af,aQ⟩ ⟨Bx,FW,h3,rfl⟩ ad;obtain⟨q,aW⟩:=x;simp only[Fin.getElem_fin]at h3⊢;obtain⟨I3,p3,wl⟩:=awM A pre;have g0:=af2 A pre ⟨q,aW⟩;have fL:=awx h1 A[q] aE h2 aE (awQ (jG.jy cW.o aW) I3 wl);obtain⟨⟨b0,b1,b2,cV⟩,-⟩:=jY h3;have WX:=aG af 0
  change W.cell? ⟨a8+1,0,none⟩=some _ at WX
  unfold wU at g0;dsimp only at g0;obtain⟨de,k6⟩:∃de,de=(sW A pre).1:=⟨_,rfl⟩;obtain⟨pl,nS⟩:∃pl,pl=(sW A pre).2:=⟨_,rfl⟩;rw[<-k6]at h1 fL g0 p3 wl;rw[<-nS]at h1 fL g0 I3 wl;obtain⟨aR,bL⟩:∃aR,aR=A[q]:=⟨_,rfl⟩;simp only[<-bL]at h3 b0 b1 b2 cV fL g0⊢;clear bL k6 nS;have af8:=z fL;have Al:=z g0;have H0:=z (ah af (ah aQ h1));have af9:=WV (lU de.length pl) aR;have aga:=z (ah h2 T);clear fL g0 h1 h2 T af aQ h3 wl hr;unfold sS at af8;unfold sS;gi_wp2_with(refine⟨trivial,?_⟩;refine iN (CallsIn.inRound l (eP.2 af8.o)) ?_;rintro aO ⟨e7,Mr,i0,fi,va,Ls⟩;have sx:=z (ah i0 fi);have agb:=aG (fi.blk H0.o.1 (.inr rfl)) 0;change aO.cell? ⟨a8+1,0,none⟩=some _ at agb;clear i0 fi);obtain⟨bv,bp,rfl⟩:=dP sx.o.1.own;have c0:aO.cell? a8=some (E bv (de++(fJ (lU de.length pl) aR).reverse).length bp):=aG sx.o.1.box 0;have c1:aO.cell? ⟨a8,1,none⟩=some (E (some I) pl.length pl.length):=aG sx.o.1.box 1;have c2:=QI sx.o.1.pls (show q<pl.length from aE);have fg:=dw sx.o.1.pls q;have ws:=sx.o.1.placed q (de++(fJ (lU de.length pl) aR).reverse).length;obtain⟨bk2,WY⟩:∃bk2,bk2=de++(fJ (lU de.length pl) aR).reverse:=⟨_,rfl⟩;rw[<-WY]at c0 ws Al sx;have Q4:=z ws;have at3:bk2.length<=1000000:=by rw[WY];simp;omega
  clear ws WY;have WM:=dh c0;have Mo:=dh c1;have aML:=dh agb;have xT:(q:Int)<pl:=aE;refine U9 11 (λaP=>∃x:fG aO,aP=x.w) aj ?_;have eQ:∃x:fG aO,aO.drew=x.w:=⟨⟨aO.drew,(O aO).drew⟩,rfl⟩;refine z8 0 rfl eQ ?_;refine z8 1 rfl eQ ?_;refine zh 2 rfl eQ (λaX am=> ?_);go_simp;refine am _ ?_;refine zh 3 rfl eQ (λaX am=> ?_);go_simp;refine am _ ?_;refine zh 4 rfl eQ (λaX am=> ?_);go_simp;refine am _ ?_;refine zh 5 rfl eQ (λaX am=> ?_);go_simp;refine am _ ?_;refine zh 6 rfl eQ (λaX am=> ?_);go_simp;refine am _ ?_;refine zh 7 rfl eQ (λaX am=> ?_);go_simp;refine am _ ?_;refine zh 8 rfl eQ (λaX am=> ?_);go_simp;refine am _ ?_;refine zh 9 rfl eQ (λaX am=> ?_);go_simp;refine am _ ?_;refine zh 10 rfl eQ (λaX am=> ?_);go_simp;refine am _ ?_;refine xR 11 aj rfl (λaX am=> ?_);go_simp;refine am _ _ (λh=>absurd rfl h) ?_;refine U8 aj ?_;dsimp only[bh.Calm,Exit.then];have f3:bq w Mv W ((aO.setCell ⟨I,q,none⟩ (H bk2)).drew):=(awP sx.o.2).trans (Q4.o.2.trans (bq.drew _));have vj:=H0.o.2.2.ext.size;have aMM:=(dG.1 H0.o.2.1).1;refine⟨f3.ko.from _,f3.keep (λk hk=> ?_),⟨_,Mr,by rw[Al.o];exact Q4.o.1.ext' (O _).drew,by have:=aga.o.1;omega,by have:=aga.o.2;simp;omega⟩,f3.blk H0.o.1 (.inr rfl),f3.blk H0.o.2.1 (.inr rfl)⟩;rcases hk with hk|hk
  ·have qT:k<W:=aE;exact⟨_,sG qT,.inl hk⟩
  ·subst hk;exact⟨_,H0.o.2.1,.inr (λU t fr e=>by cases e;rfl)⟩
 case done=>
  rintro ax ys W cE rfl ⟨⟨u,far,h1,h2,T⟩,af,aQ⟩ am;rw[af4 cW.o A (aZ _),Nat.sub_self]at h1;have WX:=aG af 0
  change W.cell? ⟨a8+1,0,none⟩=some _ at WX
  have H1:=z h1;gi_wp2;refine⟨ay,.inl ⟨_,_,rfl,run_takeDeferred am,?_⟩⟩;refine⟨_,BF (t:=2) (u:=3) rfl _ _ _,?_⟩;refine⟨a8.heap.size,rfl,u,I.heap.size,List.replicate 0 0++wV A 0,far,?_⟩;exact H1.o.row (grownBy_putObj' _ ax (.deferred none)) (λr e=>by cases e;exact⟨_,am,rfl⟩) (λr e=>by cases e;have:=ia.o;omega)
 case stop=>exact FJ
end LT
end Go.Proofs.YtopfefhenfineaaGreat
