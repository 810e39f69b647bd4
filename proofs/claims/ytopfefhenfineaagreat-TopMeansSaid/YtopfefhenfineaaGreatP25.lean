import Derived.Test.YtopfefhenfineaaGreatP23
import Derived.Test.YtopfefhenfineaaGreatP24
set_option linter.all false
set_option maxRecDepth 100000
set_option maxHeartbeats 8000000
namespace Go.Proofs.YtopfefhenfineaaGreat
open Go.Proofs.Tryz Go.RowKit Go.Shelf bh
attribute[local go_sem] Oper.semAt_some
variable{S:Prop}
def akJ(h:S:=by
 go_wp2_with fail;go_roundw
 case rel=>exact⟨k+1,aE,cZ,bF.o⟩
 case measure=>exact eO):S:=h
namespace LT
open yK (i3)
theorem aA4(v:K)(A:List Ix)(X:A.length<=4096)(cv:oV A=true)(w:G)(hv:aS w 4 iD v A):aM 188 #[v] w (E none 0 0):=by
 obtain⟨a8,b'⟩:∃a8,a8=(w.alloc (J #[v] 51)).alloc (J #[E none 0 0] 28):=⟨_,rfl⟩;have ag:Ext w a8:=by rw[b'];exact((O _).alloc _).alloc _
 have b1:a8.heap[w.heap.size]?=some (J #[v] 51 (0,0)):=by rw[b'];exact aJ (bA w _) ((O _).alloc _)
 have b2:=bA (w.alloc (J #[v] 51)) (J #[E none 0 0] 28);rw[<-b',dR]at b2;have e1:∀x∈A,x.c≠96/\x.c≠97:=λx D=>by obtain⟨i,hi,rfl⟩:=uD D;have:=AV (JE cv hi);exact⟨this.2.2.2.2.2.1,this.2.2.2.2.2.2.1⟩
 have RR:∀(i:Nat) (s:Int) W,i<A->Ext a8 W->Calls prog 253 (#[H i,bf s]++ #[aB (some w),aB (some ⟨w+1,0,none⟩)]) W λe F=>e=aI (bH #[])/\Ext W F:=
  λi s W hi D=>azN w v A e1 i s hi _ W (hv.ext (ag.trans D)) (aG (aJ b1 D) 0)
 have bJ:=azZ v A X 253 #[aB (some w),aB (some ⟨w+1,0,none⟩)] (enters_of func253 aj rfl) cv a8 (hv.ext ag) RR;obtain⟨a,c,rfl,-,-⟩:=G6 hv;have c1:a8.cell? w=some (E a A c):=aG b1 0;have eo:=z bJ;have aA5:=z b';have aT:=z (ah ag b2);unfold aM;go_in;go_wp2_with fail;rw[<-aA5.o];refine ak eo.o ?_;intro I Q;have c2:I.cell? ⟨w+1,0,none⟩=some (E none 0 0):=aG (aJ aT.o.2 Q) 0;have bF:=z (aT.o.1.trans Q);go_wp2_with fail;go_ret;exact⟨rfl,bF.o⟩
theorem aA6(v:K)(p:List Ix)(X:p.length<=4096)(cv:uW p=true)(w:G)(hv:aS w 4 iD v p):aM 146 #[v] w (bH #[H 0,H 0]):=by
 unfold uW at cv;rw[dV]at cv;obtain⟨ab,ie⟩:=cv;have ac:0<p.length:=by
  rcases p with _|⟨x,r⟩
  ·cases ie
  ·simp
 have Nr:(p[p.length-1]' aE).c=6:=by rw[List.getLast?_eq_getElem?,dK (show p.length-1<p.length from aE)]at ie;simpa using ie
 have z1:=λW (D:Ext w W)=>aA4 v p X ab W (hv.ext D)
 obtain⟨a,c,rfl,-,bV⟩:=G6 hv;have pd:=z z1;have gt:=z bV;have aA7:=z Nr;have bY:=z ab;have ed:(1:Int)<=p:=aE;have eq:((p:Int)<=4096):=aE;have q2:(p:Int)-1=((p.length-1:Nat):Int):=aE;clear z1 bV Nr ab ie hv;obtain⟨m,R⟩:∃m,m=p.length-1:=⟨_,rfl⟩;rw[<-R]at q2;have cW:=z R;clear R;unfold aM;go_in;go_wp2_with fail;go_loopw [23] (λi wr=>∃k:Nat,k<=p/\i=H k/\Ext w wr) (λi _=>p.length-(intOf i).toNat)
 case atStart=>exact Ni
 case round=>
  obtain⟨k,hk,rfl,D⟩:=hrel;by_cases ad:k<p
  ·obtain⟨b,o,rfl,r0,dq,ei,eM⟩:=gt.o k ad;replace r0:=D.cell r0;replace dq:=D.cell dq;replace ei:=D.cell ei;replace eM:=D.cell eM;have cn:=λW=>azG p[k] (p-1-k) aE (JE bY.o ad) W
   unfold iO at cn;generalize p[k]=x at *;have cx:=z cn;have aT:=z D;have nc:(k:Int)<p:=aE;have DD:(m:Int)-k=((p.length-1-k:Nat):Int):=by have:=cW.o;omega
   generalize p.length-1-k=q at *;clear cn D;go_wp2_with fail;refine ak (cx.o _) ?_;intro I Q;have bF:=z ((aT.o.alloc _).trans Q);clear Q DD r0 dq ei eM;exact akJ
  ·obtain rfl:k=p.length:=aE;obtain⟨b,o,rfl,r0,-⟩:=gt.o m (by rw[cW.o];omega);replace r0:=D.cell r0;have kh:(p[m]'(by rw[cW.o];omega)).c=6:=by have:=cW.o;subst this;exact aA7.o
   rw[kh]at r0;have aT:=z D;have akK:∀W,Calls prog 92 #[bf 6] W λe F=>e=aI (aC 5)/\Ext W F:=λW=>by have h:=yK.jT 6 W;rw[show i3 6=5 from jE]at h;exact h
   have cx:=z akK;have aks:(m:Int)<p:=by have:=cW.o;omega
   clear D kh akK;go_wp2_with fail;refine ak (cx.o _) ?_;intro I Q;have bF:=z (aT.o.trans Q);clear Q;go_wp2_with fail;refine ak (pd.o _ bF.o) ?_;intro aO ag;have ca:=z (bF.o.trans ag);clear ag;go_wp2_with fail;go_loopw [49] (λi wr=>i=H 0/\Ext w wr) (λ_ _=>0)
   case atStart=>exact⟨rfl,ca.o⟩
   case round=>obtain⟨rfl,D⟩:=hrel;have aT:=z D;clear D;go_wp2_with fail;go_ret2;exact wL
theorem aA8(v:K)(p:List Ix)(X:p.length<=4096)(cv:uW p=true)(w:G)(hv:aS w 4 iD v p):aM 89 #[v] w (H 0):=by have nj:=z (aA6 v p X cv w hv);obtain⟨a,c,rfl,-,-⟩:=G6 hv;unfold aM;go_in;go_wp2_with fail;refine ak nj.o ?_;intro I Q;go_wp2_with fail;exact K7
end LT
def Yo(h:S:=by have kf:=PI p A 0;obtain⟨a,c,rfl,-,-⟩:=id hv;generalize gM p A 0=i at *;generalize A.any p=r at *;exact aeL):S:=h
def JI(h:S:=by simp[iP]):S:=h
namespace LT
variable{v:K}{w:G}
structure jq where
 dr:Nat
 ar:Nat
 p:List Ix
 a:Option Addr
 c:Nat
def wh(x:jq):List K:= [H x.dr,H x.ar,E x.a x.p x.c]
def Hf(x:jq):K:=bg #[H x.dr,H x.ar,E x.a x.p x.c]
def Ns(x:jq):(wh x).length=3:=rfl
def aA9(x:jq):∀u∈wh x,u.oneCell'=true:=by intro u a6;simp[wh]at a6;rcases a6 with rfl|rfl|rfl<;>rfl
def Nt(n:dB):K:=bg #[N (str n.fl),H n.ln,H n.er,N (str n.tx)]
def Yq{A:List jq}(h:aS w 3 wh v A):∃a c,v=E a A c/\A.length<=c/\∀i,(hi:i<A.length)->∃b o,a=some ⟨b,o,none⟩/\w.cell? ⟨b,o+i*3,none⟩=some (H (A[i].dr:Int))/\w.cell? ⟨b,o+i*3+1,none⟩=some (H (A[i].ar:Int))/\w.cell? ⟨b,o+i*3+2,none⟩=some (E A[i].a A[i].p.length A[i].c):=by obtain⟨a,c,h1,h2,T,af⟩:=h;refine⟨a,c,h1,h2,λi hi=> ?_⟩;obtain⟨b,o,e,k⟩:=af i hi;exact⟨b,o,e,k 0 (by simp[wh]),k 1 (by simp[wh]),k 2 (by simp[wh])⟩
def aBa{A:List dB}(h:aS w 4 iP v A):∃a c,v=E a A c/\A.length<=c/\∀i,(hi:i<A.length)->∃b o,a=some ⟨b,o,none⟩/\w.cell? ⟨b,o+i*4,none⟩=some (N (str A[i].fl))/\w.cell? ⟨b,o+i*4+1,none⟩=some (H (A[i].ln:Int))/\w.cell? ⟨b,o+i*4+2,none⟩=some (H (A[i].er:Int))/\w.cell? ⟨b,o+i*4+3,none⟩=some (N (str A[i].tx)):=by obtain⟨a,c,h1,h2,T,af⟩:=h;refine⟨a,c,h1,h2,λi hi=> ?_⟩;obtain⟨b,o,e,k⟩:=af i hi;exact⟨b,o,e,k 0 JI,k 1 JI,k 2 JI,k 3 JI⟩
theorem aBb(g:Nat)(g1:∀args w,(callFunc g args).run prog w= .ok (.enter g args) w)(p:jq->Bool)(v:K)(A:List jq)(X:A.length<=1000000)(w:G)(hv:aS w 3 wh v A)(f2:∀x∈A,∀W,Ext w W->Calls prog g #[Hf x] W λr F=>r=aI (av (p x))/\Ext W F):aM 88 #[v,.func (.func g) #[] #[]] w (H (gM p A 0)):=by
 obtain⟨a,c,rfl,ep,bV⟩:=Yq hv;unfold Hf at f2;have oB:=z f2;have gt:=z bV;unfold aM;go_in;go_wp2_with fail;go_loopw [5,8] (λ_ i wr=>∃k:Nat,k<=A/\i=H k/\Ext w wr/\gM p A 0=gM p (A.drop k) k) (λ_ i _=>A.length-(intOf i).toNat)
 case atStart=>exact qO
 case round=>
  obtain⟨k,hk,rfl,D,b4⟩:=hrel;have aT:=z D;have cI:=z b4;by_cases ad:k<A
  ·obtain⟨b,o,rfl,ae,h1,h2⟩:=gt.o k ad;replace ae:=D.cell ae;replace h1:=D.cell h1;replace h2:=D.cell h2;exact Qx
  ·exact Qv
theorem aBd(g:Nat)(g1:∀args w,(callFunc g args).run prog w= .ok (.enter g args) w)(p:dB->Bool)(v:K)(A:List dB)(X:A.length<=9223372036854775807)(w:G)(hv:aS w 4 iP v A)(f2:∀x∈A,∀W,Ext w W->Calls prog g #[Nt x] W λr F=>r=aI (av (p x))/\Ext W F):aM 76 #[v,.func (.func g) #[] #[]] w (H (gM p A 0)):=by
 obtain⟨a,c,rfl,ep,bV⟩:=aBa hv;unfold Nt at f2;have oB:=z f2;have gt:=z bV;unfold aM;go_in;go_wp2_with fail;go_loopw [5,8] (λ_ i wr=>∃k:Nat,k<=A/\i=H k/\Ext w wr/\gM p A 0=gM p (A.drop k) k) (λ_ i _=>A.length-(intOf i).toNat)
 case atStart=>exact qO
 case round=>
  obtain⟨k,hk,rfl,D,b4⟩:=hrel;have aT:=z D;have cI:=z b4;by_cases ad:k<A
  ·obtain⟨b,o,rfl,ae,h1,h2,T⟩:=gt.o k ad;replace ae:=D.cell ae;replace h1:=D.cell h1;replace h2:=D.cell h2;replace T:=D.cell T;exact Qx
  ·exact Qv
theorem aBe(g:Nat)(g1:∀args w,(callFunc g args).run prog w= .ok (.enter g args) w)(p:jq->Bool)(v:K)(A:List jq)(X:A.length<=1000000)(w:G)(hv:aS w 3 wh v A)(f2:∀x∈A,∀W,Ext w W->Calls prog g #[Hf x] W λr F=>r=aI (av (p x))/\Ext W F):aM 47 #[v,.func (.func g) #[] #[]] w (av (A.any p)):=by have bS:=aBb g g1 p v A X w hv f2;exact Yo
theorem aBf(g:Nat)(g1:∀args w,(callFunc g args).run prog w= .ok (.enter g args) w)(p:dB->Bool)(v:K)(A:List dB)(X:A.length<=9223372036854775807)(w:G)(hv:aS w 4 iP v A)(f2:∀x∈A,∀W,Ext w W->Calls prog g #[Nt x] W λr F=>r=aI (av (p x))/\Ext W F):aM 39 #[v,.func (.func g) #[] #[]] w (av (A.any p)):=by have bS:=aBd g g1 p v A X w hv f2;exact Yo
theorem aBg(g:Nat)(g1:∀args w,(callFunc g args).run prog w= .ok (.enter g args) w)(p:dQ->Bool)(v:K)(A:List dQ)(X:A.length<=1000000)(w:G)(hv:aS w 2 dY v A)(f2:∀x∈A,∀W,Ext w W->Calls prog g #[vO x] W λr F=>r=aI (av (p x))/\Ext W F):aM 96 #[v,.func (.func g) #[] #[]] w (H (gM p A 0)):=by
 obtain⟨a,c,rfl,ep,bV⟩:=Aq hv;unfold vO at f2;have oB:=z f2;have gt:=z bV;unfold aM;go_in;go_wp2_with fail;go_loopw [5,8] (λ_ i wr=>∃k:Nat,k<=A/\i=H k/\Ext w wr/\gM p A 0=gM p (A.drop k) k) (λ_ i _=>A.length-(intOf i).toNat)
 case atStart=>exact qO
 case round=>
  obtain⟨k,hk,rfl,D,b4⟩:=hrel;have aT:=z D;have cI:=z b4;by_cases ad:k<A
  ·obtain⟨b,o,rfl,ae,h1⟩:=gt.o k ad;replace ae:=D.cell ae;replace h1:=D.cell h1;exact Qx
  ·exact Qv
theorem aBh(g:Nat)(g1:∀args w,(callFunc g args).run prog w= .ok (.enter g args) w)(p:dQ->Bool)(v:K)(A:List dQ)(X:A.length<=1000000)(w:G)(hv:aS w 2 dY v A)(f2:∀x∈A,∀W,Ext w W->Calls prog g #[vO x] W λr F=>r=aI (av (p x))/\Ext W F):aM 52 #[v,.func (.func g) #[] #[]] w (av (A.any p)):=by have bS:=aBg g g1 p v A X w hv f2;exact Yo
end LT
def Yr(h:S:=by exact⟨0,aE,rfl,O _,⟨ay,.inl ay⟩⟩):S:=h
def akL(h:S:=by unfold aM;go_in;go_wp2_with(refine ak dt.o ?_;intro I Q;have aT:=z Q);go_ret;exact wL):S:=h
def Yt(h:S:=by
 go_roundw
 case rel=>exact⟨L.length+1,aE,cZ,f'.o,by rw[cx.o.2];exact kq.o⟩
 case measure=>exact eO):S:=h
def Yu(h:S:=by unfold aM;go_in;go_wp2_with(refine ak (dt.o _ ((O _).alloc _)) ?_;intro I Q;have aT:=z (((O w).alloc _).trans Q));go_ret;exact wL):S:=h
namespace LT
open jG (Dat gW fT)
open KL (fV comb akM)
structure Sd(x:jq):Prop where
 ok:uW x.p=true
 len:x.p.length<=4096
 pl:(x.dr=0/\x.ar=6)\/(0<x.dr/\x.dr<8/\x.ar<6)
def Yv(w:G)(x:jq):Prop:=aS w 4 iD (E x.a x.p x.c) x.p
def Cv(w:G)(v:K)(l:List jq):Prop:=aS w 3 wh v l/\l.length<=48/\∀x∈l,Sd x/\Yv w x
def Cv.ext{w F:G}{v:K}{l:List jq}(h:Cv w v l)(D:Ext w F):Cv F v l:=⟨h.1.ext D,h.2.1,λx R=>⟨(h.2.2 x R).1,(h.2.2 x R).2.ext D⟩⟩
theorem yU(x:jq)(h:Sd x)(w:G)(hg:Yv w x):aM 49 #[Hf x] w (av true):=by
 have cq:=λW (D:Ext w W)=>aA8 _ x.p h.len h.ok W (hg.ext D)
 obtain⟨dr,ar,p,a,c⟩:=x;have nS:=h.pl;unfold Hf;dsimp only at cq nS⊢;obtain⟨⟨c0,c1,c2⟩,-⟩:=tL (bA w (J #[H dr,H ar,E a p c] 53));have dt:=z cq;rcases nS with⟨rfl,rfl⟩|⟨h1,h2,T⟩
 ·exact Yu
 ·have e3:((dr:Int)==0)=false:=iH.2 aE;have ef:(0:Int)<=dr:=aE;have cY:(dr:Int)<8:=aE;have eh:(0:Int)<=ar:=aE;have hL:(ar:Int)<6:=aE;exact Yu
theorem aBi(x:jq)(h:Sd x)(w:G)(hg:Yv w x):aM 48 #[Hf x] w (av false):=by
 have cq:=λW (D:Ext w W)=>yU x h W (hg.ext D)
 unfold Hf at cq⊢;obtain⟨⟨c0,c1,c2⟩,-⟩:=tL (bA w (J #[H x.dr,H x.ar,E x.a x.p x.c] 53));have dt:=z cq;exact Yu
theorem aBj(v:K)(l:List jq)(w:G)(h:Cv w v l):aM 27 #[v] w (av true):=by
 have cq:=λW (D:Ext w W)=>aBe 48 (enters_of func48 aj rfl) (λ_=>false) v l (by have:=h.2.1;omega) W (h.1.ext D) (λx ag a8 a'=>aBi x (h.2.2 x ag).1 a8 ((h.2.2 x ag).2.ext (D.trans a')))
 have e:l.any (λ_=>false)=false:=ay;rw[e]at cq;have X:=h.2.1;have aR:(l:Int)<=48:=aE;obtain⟨a,c,rfl,-,-⟩:=Yq h.1;have dt:=z cq;unfold aM;go_in;go_wp2_with(refine ak (dt.o _ (O _)) ?_;intro I Q;have aT:=z Q);go_ret;exact wL
theorem akN(v:K)(A:List Nat)(hn:A.length<=1000)(D:∀x∈A,x<4294967296)(w:G)(bS:aS w 1 fV v A):aM 29 #[v] w (M (comb A:Nat)):=by have dt:=z (akM v A aE D w bS);obtain⟨a,c,rfl,-⟩:=bS;exact akL
def Hg{W:G}{B:Nat}{a b c d e f g h i:K}{t:dD}(V:W.heap[B]?=some (J #[a,b,c,d,e,f,g,h,i] t (0,0))):W.cell? B=some a/\W.cell? ⟨B,1,none⟩=some b/\W.cell? ⟨B,2,none⟩=some c/\W.cell? ⟨B,3,none⟩=some d/\W.cell? ⟨B,4,none⟩=some e/\W.cell? ⟨B,5,none⟩=some f/\W.cell? ⟨B,6,none⟩=some g/\W.cell? ⟨B,7,none⟩=some h/\W.cell? ⟨B,8,none⟩=some i:=
 ⟨aG V 0,aG V 1,aG V 2,aG V 3,aG V 4,aG V 5,aG V 6,aG V 7,aG V 8⟩
def Yw(d:Dat):∀(f:Nat)(p:List Ix)(a:Nat),(∀x∈p,x.k<4294967296)->kV d f p a<4294967296
 |0,_,_,_=>by simp[kV]
 |_+1,[],_,_=>by simp[kV]
 |f+1,x::r,a,h=>by
  have hr:∀y∈r,y.k<4294967296:=λy bN=>h y (by simp[bN])
  have hd:∀n,∀y∈r.drop n,y.k<4294967296:=λn y bN=>hr y (List.mem_of_mem_drop bN)
  unfold kV;(repeat' split)
  ·exact h x ay
  all_goals first|exact Yw d f _ _ hr|exact Yw d f _ _ (hd _)
def aBk(d:Dat){p:List Ix}(h:uW p=true):rC d p<4294967296:=Yw d _ _ _ λx D=>by obtain⟨i,hi,rfl⟩:=uD D;unfold uW at h;rw[dV]at h;exact(AV (JE h.1 hi)).2.2.2.1
theorem akO(v:K)(l:List jq)(d:Dat)(hd:fT d)(w:G)(h:Cv w v l):aM 14 #[v,gW d] w (bH #[M (comb (l.map λx=>rC d x.p):Nat),H 0]):=by
 have em:=λW (D:Ext w W)=>aBj v l W (h.ext D)
 have X:=h.2.1;obtain⟨a,c,rfl,-,bV⟩:=Yq h.1;have cW:=z em;have sr:=z h.2.2;have gt:=z bV;unfold gW;have akP:=bA w (J #[M d.nr,M d.ar,aA (d.ip:Int),aA (d.a0:Int),aA (d.a1:Int),aA (d.a2:Int),aA (d.a3:Int),aA (d.a4:Int),aA (d.a5:Int)] 57);have ce:=z akP;clear em bV h akP;unfold aM;go_in;go_wp2_with fail;refine ak (cW.o _ ((O _).alloc _)) ?_;intro I Q;have ot:=z (aJ ce.o Q);have bF:=z (((O w).alloc _).trans Q);have p1:=Q.size;rw[dR]at p1;clear Q;go_wp2_with fail;go_loopw [6,17] (λG2 Ys wr=>∃k:Nat,k<=l/\Ys=H k/\Ext I wr/\wr.ownsRow I 32 1 G2 k (((l.take k).map λx=>rC d x.p).flatMap fV)) (λ_ Ys _=>l.length-(intOf Ys).toNat)
 case atStart=>exact Yr
 case round=>
  obtain⟨k,hk,rfl,D,ho⟩:=hrel;by_cases ad:k<l
  ·obtain⟨b,o,rfl,r0,dq,ei⟩:=gt.o k ad;have f1:=bF.o.trans D;replace r0:=f1.cell r0;replace dq:=f1.cell dq;replace ei:=f1.cell ei;obtain⟨ac,hg⟩:=sr.o _ (eB ad);have bd:=λW (cJ:Ext w W)=>aAM _ l[k].p ac.len ac.ok d hd W (hg.ext cJ)
   have an:=mh ad;obtain⟨x,AH⟩:∃x,l[k]=x:=⟨_,rfl⟩;simp only[AH]at bd r0 dq ei an;obtain⟨L,da⟩:∃L,L=(l.take k).map λx=>rC d x.p:=⟨_,rfl⟩
   have jI:L.length=k:=by rw[da];simp;omega
   rw[<-da]at ho;obtain⟨y,bN⟩:∃y,rC d x.p=y:=⟨_,rfl⟩;have bE:(l.take (k+1)).map (λx=>rC d x.p)=L++[y]:=by rw[an,fQ,<-da,<-bN];rfl
   simp only[bN]at bd;have JJ:=aJ ot.o D;obtain⟨dm,cs,eg,h6,v7,ra,Cp,Se,d8⟩:=Hg (aJ JJ ((O wr).alloc (J #[H x.dr,H x.ar,E x.a x.p x.c] 53)));obtain⟨⟨cG,aK,aV⟩,-⟩:=tL (bA wr (J #[H x.dr,H x.ar,E x.a x.p x.c] 53));obtain⟨bv,bp,rfl⟩:=dP ho;subst jI;have cD:=z bd;have cx:=z (ah ho bE);have jL:=z (ah D f1);have ci:=D.size;have nc:(L:Int)<l:=aE;unfold gW at cD;clear bd ho bE f1 D ac hg AH bN an JJ da;go_wp2_with fail;refine(cD.o _ (jL.o.2.alloc _)).mono ?_;rintro e bQ ⟨bR,aw,rfl⟩;have c9:=z (((O wr).alloc _).trans bR)
   go_wp2_with(at_builtin;refine vG rfl (.tmp 29) (.tmp 31) 33 rfl underlying33 D5 rfl Y sQ DZ I.heap.size (E bv L.length bp) _ L [y] rfl rfl (pG ((bq.ext (n0:=0) (bz:=λ_=>false) c9.o).own cx.o.1 rfl) _) (jh sQ bQ [y] 32 _ rfl) dU Y (by have:=c9.o.size;simp;omega) ?_;intro LQ LR cT gC im
               have kq:=z gC;have f':=z (((jL.o.1.trans c9.o).alloc _).grown im (λr e=>(cx.o.1.lt r e).1));clear gC im)
   exact Yt
  ·obtain rfl:k=l.length:=aE;rw[iR]at ho;obtain⟨L,da⟩:∃L,L=l.map λx=>rC d x.p:=⟨_,rfl⟩
   have jI:L.length=l:=by rw[da];simp
   have GA:∀y∈L,y<4294967296:=λy bN=>by rw[da]at bN;obtain⟨x,D,rfl⟩:=iJ.1 bN;exact aBk d (sr.o x D).1.ok
   rw[<-da]at ho;have ec:=z da;rw[<-jI]at ho;have ao:=akN _ L aE GA wr (eD (λ_=>rfl) ho);obtain⟨bv,bp,rfl⟩:=dP ho;rw[jI]at ao;have dt:=z ao;have jL:=z (bF.o.trans D);go_wp2_with fail;refine ak dt.o ?_;intro bQ bR;have c9:=z (jL.o.trans bR);go_wp2_with fail;go_ret2;exact⟨by rw[<-ec.o];rfl,c9.o⟩
end LT
end Go.Proofs.YtopfefhenfineaaGreat
namespace Go.Proofs.YtopfefhenfineaaGreat
open Go.Proofs.Tryz Go.RowKit Go.Shelf bh
attribute[local go_sem] Oper.semAt_some bh.Oper.idle bh.Oper.lV bh.Oper.jF
namespace LT
open j7 (Test Rule Filter PR kX yw Nu kW rX yu Yx)
structure bP where
 ar:List Int
 fm:Nat
 fc:List dQ
 dn:Nat
 lm:Nat
 lc:List dQ
 fa:List Nat
 fd:Nat
 sp:Nat
 we:Bool
 pe:Bool
 rt:Bool
 np:Bool
structure dS where
 a:Option Addr
 c:Nat
 fa:Option Addr
 fc:Nat
 la:Option Addr
 lc:Nat
 ga:Option Addr
 gc:Nat
def cK(p:bP)(s:dS):List K:= [E s.a p.ar s.c,aC p.fm,E s.fa p.fc s.fc,M p.dn,aC p.lm,E s.la p.lc s.lc,E s.ga p.fa s.gc,aC p.fd,aA (p.sp:Int),av p.we,av p.pe,av p.rt,av p.np]
structure rD(w:G)(p:bP)(s:dS):Prop where
 ar:aS w 1 iB (E s.a p.ar s.c) p.ar
 fc:aS w 2 dY (E s.fa p.fc s.fc) p.fc
 lc:aS w 2 dY (E s.la p.lc s.lc) p.lc
 fa:aS w 1 iC (E s.ga p.fa s.gc) p.fa
def rD.ext{w F:G}{p:bP}{s:dS}(h:rD w p s)(D:Ext w F):rD F p s:=⟨h.ar.ext D,h.fc.ext D,h.lc.ext D,h.fa.ext D⟩
def tC(p:bP)(s:dS)(ar:Int)(u:K)(b5:Nat):Array K:= #[E s.a p.ar s.c,aC p.fm,E s.fa p.fc s.fc,M p.dn,aC p.lm,E s.la p.lc s.lc,E s.ga p.fa s.gc,aC p.fd,aA (p.sp:Int),av p.we,av p.pe,av p.rt,av p.np,H ar,u,M b5]
def rE(t:Nat):Bool:=t==110||t==103
structure ng(n0 bb:Nat)(p:bP)(s:dS)(ar:Int)(u:K)(b5:Nat)(aN:List PR)(W:G):Prop where
 hB:n0<=bb
 b:W.heap[bb]?=some (J (tC p s ar u b5) 103 (0,0))
 own:W.ownsRow n0 110 3 u aN (aN.flatMap kX)
 ts:∀r∈aN,W.ownsRow n0 137 4 r.v r.r.tests.length (r.r.tests.flatMap kW)
section
variable {n0 bb:Nat} {p:bP} {s:dS} {ar:Int} {u:K} {b5:Nat} {aN:List PR} {W aa:G}
def rY{base e n k:Nat}{v:K}{b3:List K}(h:W.ownsRow base e n v k b3)(D:Ext W aa):aa.ownsRow base e n v k b3:=(bq.ext (n0:=0) (bz:=λ_=>false) D).own h rfl
def ng.ext'(h:ng n0 bb p s ar u b5 aN W)(D:Ext W aa):ng n0 bb p s ar u b5 aN aa:=⟨h.hB,aJ h.b D,rY h.own D,λr hr=>rY (h.ts r hr) D⟩
def ng.lt(h:ng n0 bb p s ar u b5 aN W):bb<W.heap.size:=(dG.1 h.b).1
def ng.put(h:ng n0 bb p s ar u b5 aN W){d1:K}{zd:List PR}(hg:W.grownBy aa u.ownBlock)(ho:aa.ownsRow n0 110 3 d1 zd (zd.flatMap kX))(an:∀r∈zd,W.ownsRow n0 137 4 r.v r.r.tests.length (r.r.tests.flatMap kW)):aa.heap[bb]?=some (J (tC p s ar u b5) 103 (0,0))/\ng n0 bb p s ar d1 b5 zd (aa.setCell ⟨bb,14,none⟩ d1)/\bq n0 rE W (aa.setCell ⟨bb,14,none⟩ d1):=by
 have bk:bq n0 (lT 110) W aa:=bq.grown h.own hg rfl (aZ _);have V:=bk.blk h.b (.inr rfl);have bW:bq n0 (lT 103) aa (aa.setCell ⟨bb,14,none⟩ d1):=bq.set (p:=⟨bb,14,none⟩) V rfl h.hB _;refine⟨V,⟨h.hB,fH V 14 d1,bW.own ho rfl,λr hr=>bW.own (bk.own (an r hr) rfl) rfl⟩,(bk.mono (aZ _) λt an=> ?_).trans (bW.mono (aZ _) λt an=> ?_)⟩<;>
  (unfold rE at an;unfold lT;simp at an⊢;first|exact an.1|exact an.2)
end
def aBl(a:Int)(s:List aL):(wM a s).2=0\/(wM a s).2=90:=by unfold wM;exact FE
def lH(ar:Int)(cP:Nat)(ts:List Test)(aN:List Rule)(n:List aL):List Rule:=if (wM ar n).2=0 then aN++[⟨(wM ar n).1,ts,cP⟩]else aN
theorem uP{n0 bb:Nat}{p:bP}{s:dS}{ar:Int}{u:K}{b5:Nat}{aN:List PR}{W:G}(h:ng n0 bb p s ar u b5 aN W)(gs:n0<=W)(yo:aN.length<=100000)(cP:Nat)(ts:List Test)(akQ:K)(e':ts.length<=1000)(bt:Nat)(wg:W.ownsRow bt 137 4 akQ ts (ts.flatMap kW))(ns:List (List aL))(zg:K)(hy:ns.length<=1000)(aBc:Nat)(jm:W.ownsRow aBc 9 1 zg ns (ns.flatMap encStr)):Calls prog 130 #[aB (some bb),M cP,akQ,zg] W λe F=>e=aI (bH #[])/\(∃d1 zd,zd.map PR.r=ns.foldl (lH ar cP ts) (aN.map PR.r)/\ng n0 bb p s ar d1 b5 zd F)/\bq n0 rE W F:=by
 obtain⟨atj,aNz,rfl⟩:=dP wg;obtain⟨na,akI,rfl⟩:=dP jm;have gz:=z (ah h (ah wg jm));go_in;go_wp;go_loopw [14] (λi wr=>∃(k:Nat) (u:K) (kB:List PR),k<=ns/\i=H k/\kB.map PR.r=(ns.take k).foldl (lH ar cP ts) (aN.map PR.r)/\kB.length<=aN+k/\ng n0 bb p s ar u b5 kB wr/\bq n0 rE W wr) (λi _=>ns.length-(intOf i).toNat)
 case atStart=>exact⟨0,u,aN,aE,rfl,rfl,aE,gz.o.1,bq.refl _ _ _⟩
 case round=>
  obtain⟨k,u,kB,hk,rfl,li,ge,R,an⟩:=hrel;by_cases ad:k<ns
  ·obtain⟨a3,c3,cC,-,T⟩:=Rc (eD q8 (an.own gz.o.2.2 rfl));simp only[eZ,true_and]at cC;obtain⟨rfl,rfl⟩:=cC;obtain⟨b,o,rfl,r0⟩:=T k ad;have gp:(ns.take (k+1)).foldl (lH ar cP ts) (aN.map PR.r)=if (wM ar ns[k]).2=0 then kB.map PR.r++[⟨(wM ar ns[k]).1,ts,cP⟩]else kB.map PR.r:=by rw[mh ad,uF,<-li];rfl
   have eV:=λW=>avg ar (str ns[k]) W
   rw[nP]at eV;generalize ns[k]=nm at *;have aW:=aBl ar nm;have wv:wr.cell? ⟨bb,13,none⟩=some (H ar):=aG R.b 13;generalize wM ar nm=aBm at *;obtain⟨nr,er⟩:=aBm;dsimp only at aW gp eV;have nc:(k:Int)<ns:=aE;have ev:=z eV;have cW:=z (ah R an);have ec:=z (ah li ge);rcases aW with rfl|rfl
   ·rw[aF rfl]at gp;have eb:=z gp;go_wp2_with(refine ak (ev.o _) ?_;intro I Q;have aT:=z Q);have kz:=cW.o.1.ext' aT.o;have aBn:=rY (cW.o.2.own gz.o.2.1 rfl) aT.o;have aBo:=kz.lt;obtain⟨bv,bp,rfl⟩:=dP kz.own;have z5:I.cell? ⟨bb,14,none⟩=some (E bv kB bp):=aG kz.b 14;have aBp:=dh z5;have H1:=z (ah kz aBn);have d6:n0<=I:=cB gs (cB cW.o.2.size aT.o.size);refine Ms (n:=1) [12,13,14,15,16] (λaP=>∃x:fG I,aP=x.w) aj ?_;have eQ:∃x:fG I,I.drew=x.w:=⟨⟨I.drew,(O I).drew⟩,rfl⟩;refine jK 0 rfl (λaX am=> ?_);go_simp;refine am _ ?_;refine jK 1 rfl (λaX am=> ?_);go_simp;refine am _ ?_;refine jK 2 rfl (λaX am=> ?_);go_simp;refine am _ ?_;refine jK 3 rfl (λaX am=> ?_);go_simp;refine am _ ?_;refine jK 4 rfl (λaX am=> ?_);go_simp;refine am _ ?_;refine Sg 5 rfl eQ (λaX am=> ?_);go_simp;refine am _ ?_;refine jK 6 rfl (λaX am=> ?_);go_simp;refine am _ ?_;refine jK 7 rfl (λaX am=> ?_);go_simp;refine am _ ?_;refine jK 9 rfl (λaX am=> ?_);go_simp;refine am _ ?_;refine wY 8 aj rfl (λaX am=> ?_);go_simp;refine⟨trivial,?_⟩;refine(eP.2 (j7.wT _ ts aE _ (eD rX (rY H1.o.2 (O _).drew)))).mono ?_;rintro e dy ⟨X2,rfl,hM,en⟩;obtain⟨h5,c7,rfl⟩:=dP hM;have Cq:Ext I dy:=(O I).drew.trans en;have Nn:∃x:fG I,dy=x.w:=⟨⟨dy,Cq⟩,rfl⟩;refine am _ _ (λ_=>Nn) ?_;refine wY 10 aj rfl (λaX am=> ?_);go_simp;refine am _ _ (λ_=>Nn) ?_;refine wY 11 aj rfl (λaX am=> ?_);go_simp;refine am _ _ (λ_=>⟨⟨_,Cq.alloc _⟩,rfl⟩) ?_;obtain⟨q,Yy⟩:∃q:PR,q=⟨⟨nr,ts,cP⟩,h5,c7⟩:=⟨_,rfl⟩;have cX:aS (dy.alloc (J #[M nr,E h5 ts c7,M cP] 110)) 3 kX (E (some dy) 1 1) [q]:=by have:=jh yw dy [q] 110 _ rfl;rw[Yy]at this⊢;exact this
    have EO:=(H1.o.1.ext' Cq).ext' ((O dy).alloc (J #[M nr,E h5 ts c7,M cP] 110));have aBq:=rY hM ((O dy).alloc (J #[M nr,E h5 ts c7,M cP] 110));have aBr:Ext I (dy.alloc (J #[M nr,E h5 ts c7,M cP] 110)):=Cq.alloc _;refine nZ 12 aj rfl aj (λaX am=> ?_);refine Lj rfl (.tmp 35) (.tmp 41) 71 rfl underlying71 Yx rfl Y yw Nu n0 (E bv kB bp) _ kB [q] (by rfl) (by rfl) EO.own cX (by have:=ec.o.2;simp;omega) Y (by have:=Cq.size;rw[dR];omega) ?_;intro Nv vc gn rv Ag;refine am _ _ ?_;obtain⟨w5,aBs,An⟩:=EO.put (zd:=kB++[q]) Ag (by rw[dA];exact rv) (λr hr=>by
     rcases iZ.1 hr with h|h
     ·exact EO.ts r h
     ·rw[pI.1 h,Yy];have V:n0<=I.drew:=d6;exact aBq.mono V)
    have aNA:gn.cell? ⟨bb,14,none⟩=some (E bv kB bp):=aG w5 14;have Sf:=dw w5 14;have d2:=z (ah aBs (An));have v5:=z aBr;refine nZ 13 aj rfl aj (λaX am=> ?_);go_simp;refine am _ _ ?_;refine nZ 14 aj rfl aj (λaX am=> ?_);go_simp;refine am _ _ ?_;refine nZ 15 aj rfl aj (λaX am=> ?_);go_simp;refine am _ _ ?_;refine nZ 16 aj rfl aj (λaX am=> ?_);go_simp;refine am _ _ ?_;refine AJ aj ?_;dsimp only[bh.Calm,Exit.then];go_wp;go_roundw
    case rel=>refine⟨k+1,_,kB++[q],aE,cZ,?_,by have:=ec.o.2;simp;omega,by simpa using d2.o.1,(cW.o.2.trans (.ext (aT.o.trans v5.o))).trans (by simpa using d2.o.2)⟩;rw[eb.o,fQ,Yy];rfl
    case measure=>exact eO
   ·rw[au Y]at gp;have eb:=z gp;go_wp2_with(refine ak (ev.o _) ?_;intro I Q;have aT:=z Q);go_roundw
    case rel=>exact⟨k+1,u,kB,aE,cZ,eb.o.symm,by have:=ec.o.2;omega,cW.o.1.ext' aT.o,cW.o.2.trans (.ext aT.o)⟩
    case measure=>exact eO
  ·obtain rfl:k=ns.length:=aE;rw[iR]at li;have bC:=z (ah li (ah R an));go_wp
   first|go_end0|refine cO (gq rfl _ _ _) rfl ?_
   exact⟨rfl,⟨_,_,bC.o.1,bC.o.2.1⟩,bC.o.2.2⟩
end LT
end Go.Proofs.YtopfefhenfineaaGreat
namespace Go.Proofs.YtopfefhenfineaaGreat
open Go.Proofs.Tryz Go.RowKit Go.Shelf bh
attribute[local go_sem] Oper.semAt_some
variable{S:Prop}
def akR(h:S:=by obtain rfl:k=l.length:=aE;rw[iR]at ho;have bC:=z (ah ho D);go_wp;go_ret;exact⟨_,rfl,bC.o.2,bC.o.1⟩):S:=h
namespace LT
open j7 (Test kW rX yu JM)
open jG (fV qD)
def akS{w:G}{v:K}{A:List Nat}(h:aS w 1 fV v A):∃a c,v=E a A c/\A.length<=c/\∀i,(hi:i<A.length)->∃b o,a=some ⟨b,o,none⟩/\w.cell? ⟨b,o+i,none⟩=some (aA (A[i]:Int)):=by obtain⟨a,c,h1,h2,T,af⟩:=h;refine⟨a,c,h1,h2,λi hi=> ?_⟩;obtain⟨b,o,e,k⟩:=af i hi;have eK:=k 0 UK;exact⟨b,o,e,by simpa[fV]using eK⟩
theorem Sj(ar:Int)(mk cP:Nat)(l:List Nat)(v:K)(X:l.length<=900)(w:G)(hv:aS w 1 fV v l):Calls prog 133 #[H ar,aA (mk:Int),M cP,v] w λe F=>∃u,e=aI u/\Ext w F/\F.ownsRow w 137 4 u l ((l.map λx=>(⟨ar,mk,x,cP⟩:Test)).flatMap kW):=by
 obtain⟨a,c,rfl,-,bV⟩:=akS hv;have gt:=z bV;go_in;go_wp;go_loopw [9,14] (λYz Hd wr=>∃k:Nat,k<=l/\Hd=H k/\Ext w wr/\wr.ownsRow w 137 4 Yz k (((l.take k).map λx=>(⟨ar,mk,x,cP⟩:Test)).flatMap kW)) (λ_ Hd _=>l.length-(intOf Hd).toNat)
 case atStart=>exact Yr
 case round=>
  obtain⟨k,hk,rfl,D,ho⟩:=hrel;by_cases ad:k<l
  ·obtain⟨b,o,rfl,r0⟩:=gt.o k ad;replace r0:=D.cell r0;have bE:(l.take (k+1)).map (λx=>(⟨ar,mk,x,cP⟩:Test))=(l.take k).map (λx=>(⟨ar,mk,x,cP⟩:Test))++[(λx=>(⟨ar,mk,x,cP⟩:Test)) l[k]]:=by rw[mh ad,fQ];rfl
   have jI:((l.take k).map (λx=>(⟨ar,mk,x,cP⟩:Test))).length=k:=by simp;omega
   generalize(l.take k).map (λx=>(⟨ar,mk,x,cP⟩:Test))=L at *;generalize l[k]=x at *;obtain⟨bv,bp,rfl⟩:=dP ho;subst jI;have cx:=z (ah ho bE);have aT:=z D;have ci:=D.size;have nc:(L:Int)<l:=aE
   go_wp2_with(at_builtin;refine vG rfl (.tmp 18) (.tmp 24) 108 rfl underlying108 JM rfl Y rX yu w.heap.size (E bv L.length bp) _ L [(⟨ar,mk,x,cP⟩:Test)] rfl rfl (pG cx.o.1 _) (jh rX wr [(⟨ar,mk,x,cP⟩:Test)] 137 _ rfl) dU Y dU ?_;intro LQ LR cT gC im
               have kq:=z gC;have f':=z ((aT.o.alloc _).grown im (λr e=>(cx.o.1.lt r e).1));clear gC im)
   exact Yt
  ·exact akR
theorem Nw(ar:Int)(cP:Nat)(l:List Nat)(v:K)(X:l.length<=900)(w:G)(hv:aS w 1 fV v l):Calls prog 135 #[H ar,M cP,v] w λe F=>∃u,e=aI u/\Ext w F/\F.ownsRow w 137 4 u l ((l.map λx=>(⟨ar,x,x,cP⟩:Test)).flatMap kW):=by
 obtain⟨a,c,rfl,-,bV⟩:=akS hv;have gt:=z bV;go_in;go_wp;go_loopw [7,12] (λYz Hd wr=>∃k:Nat,k<=l/\Hd=H k/\Ext w wr/\wr.ownsRow w 137 4 Yz k (((l.take k).map λx=>(⟨ar,x,x,cP⟩:Test)).flatMap kW)) (λ_ Hd _=>l.length-(intOf Hd).toNat)
 case atStart=>exact Yr
 case round=>
  obtain⟨k,hk,rfl,D,ho⟩:=hrel;by_cases ad:k<l
  ·obtain⟨b,o,rfl,r0⟩:=gt.o k ad;replace r0:=D.cell r0;have bE:(l.take (k+1)).map (λx=>(⟨ar,x,x,cP⟩:Test))=(l.take k).map (λx=>(⟨ar,x,x,cP⟩:Test))++[(λx=>(⟨ar,x,x,cP⟩:Test)) l[k]]:=by rw[mh ad,fQ];rfl
   have jI:((l.take k).map (λx=>(⟨ar,x,x,cP⟩:Test))).length=k:=by simp;omega
   generalize(l.take k).map (λx=>(⟨ar,x,x,cP⟩:Test))=L at *;generalize l[k]=x at *;obtain⟨bv,bp,rfl⟩:=dP ho;subst jI;have cx:=z (ah ho bE);have aT:=z D;have ci:=D.size;have nc:(L:Int)<l:=aE
   go_wp2_with(at_builtin;refine vG rfl (.tmp 16) (.tmp 22) 108 rfl underlying108 JM rfl Y rX yu w.heap.size (E bv L.length bp) _ L [(⟨ar,x,x,cP⟩:Test)] rfl rfl (pG cx.o.1 _) (jh rX wr [(⟨ar,x,x,cP⟩:Test)] 137 _ rfl) dU Y dU ?_;intro LQ LR cT gC im
               have kq:=z gC;have f':=z ((aT.o.alloc _).grown im (λr e=>(cx.o.1.lt r e).1));clear gC im)
   exact Yt
  ·exact akR
def Cw(m n:Nat)(al dn:Bool):Bool:=if m=1 then al||decide (0<n)else if m=2 then dn||decide (0<n)else false
theorem YA(m n:Nat)(al dn:Bool)(w:G):Calls prog 132 #[aC m,H n,av al,av dn] w λe F=>e=aI (av (Cw m n al dn))/\F=w:=by
 obtain⟨aH,bd⟩:∃aH,Cw m n al dn=aH:=⟨_,rfl⟩;have cD:=z bd;rw[bd];unfold Cw at bd;have aR:decide ((0:Int)<n)=decide (0<n):=ay;by_cases h1:m=1
 ·subst h1;rw[aF rfl]at bd;subst bd;cases al
  ·go_in;go_wp;exact FM
  ·go_in;go_wp;exact FM
 ·have ef:((m:Int)==1)=false:=iH.2 aE;rw[au h1]at bd;by_cases h2:m=2
  ·subst h2;rw[aF rfl]at bd;subst bd;cases dn
   ·go_in;go_wp;exact FM
   ·go_in;go_wp;exact FM
  ·have cY:((m:Int)==2)=false:=iH.2 aE;rw[au h2]at bd;subst bd;go_in;go_wp;exact vE
end LT
def akT(h:S:=by go_wp2_with fail;go_ret;exact⟨rfl,⟨_,_,es.o.1,es.o.2.1⟩,es.o.2.2⟩):S:=h
def akU(h:S:=by go_wp2_with fail;go_ret;exact⟨rfl,⟨_,_,H1.o.1,H1.o.2.1⟩,H1.o.2.2⟩):S:=h
def Sk(h:S:=by rw[JK H0.o.1];decide):S:=h
def akV(h:S:=by rw[JK H1.o.1];exact cB (wm _ _ _ _ _) (by decide)):S:=h
namespace LT
open j7 (Test Rule PR kW rX)
open jG (fV qD)
variable{W:G}{ar:Int}{b5 bb n n0:Nat}{u:K}{α:Type}{enc:α->List K}
def JL(cp:∀x,(enc x).length=n)(W:G)(A:List α)(t:dD)(U:Array K)(e:U=(A.flatMap enc).toArray):aS (W.alloc (J U t)) n enc (E (some W) A A) A:=by subst e;exact jh cp W A t _ rfl
def Bb(cp:∀x,(enc x).length=n)(W:G)(A:List α)(t:dD)(U:Array K)(e:U=(A.flatMap enc).toArray)(R:A.length<=1000):(W.alloc (J U t)).ownsRow 0 t n (E (some W) A A) A (A.flatMap enc):=by subst e;exact qQ cp W A t _ _ rfl (eG _) y9
def wm(ar:Int)(cP:Nat)(ts:List Test):∀(ns:List (List aL)) (aN:List Rule),(ns.foldl (lH ar cP ts) aN).length<=aN.length+ns
 | [],_=>ay
 |n::ns,aN=>by
  have h:=wm ar cP ts ns (lH ar cP ts aN n);have:(lH ar cP ts aN n).length<=aN.length+1:=by unfold lH;split<;>simp
  simp only[xH,dJ];omega
def JK{ap:List PR}{aN:List Rule}(h:ap.map PR.r=aN):ap.length=aN:=by rw[<-h,dL]
def r9(ar:Int)(mk cP:Nat)(l:List Nat):List Test:=l.map λx=>⟨ar,mk,x,cP⟩
def ni(ar:Int)(cP:Nat)(l:List Nat):List Test:=l.map λx=>⟨ar,x,x,cP⟩
def Cx(n0 bb:Nat)(p:bP)(s:dS)(ar:Int)(b5:Nat)(aH:List Rule)(b:Bool)(W:G)(e:Ending)(F:G):Prop:=e=aI (av b)/\(∃d1 zd,zd.map PR.r=aH/\ng n0 bb p s ar d1 b5 zd F)/\bq n0 rE W F
def akW(ar:Int):List Rule:=([[112,101,114,115,111,110,97,108,105,116,121]].foldl (lH ar 327681 (r9 0 4294967295 2147418112 [0,4294967295])) [])
theorem aBt{p:bP}{s:dS}(h:ng n0 bb p s ar u b5 [] W)(gs:n0<=W):Calls prog 83 #[aB (some bb)] W λe F=>Cx n0 bb p s ar b5 (akW ar) p.pe W e F:=by have sc:List.map PR.r ([]:List PR)=([]:List Rule):=rfl;have H0:=z (ah sc (ah h (bq.refl n0 rE W)));go_in;go_wp2_with fail;refine(Sj 0 4294967295 2147418112 [0,4294967295] _ Y _ (JL qD W [0,4294967295] 34 #[aA 0,aA 4294967295] rfl)).mono ?_;rintro e ly ⟨mj,rfl,EX,DO⟩;have EY:=z (ah EX DO);go_wp2_with fail;have d6:Ext W (ly.alloc (J #[N ⟨#[112,101,114,115,111,110,97,108,105,116,121]⟩] 9)):=(((O W).alloc _).trans EY.o.1).alloc _;refine ak (uP (H0.o.2.1.ext' d6) (cB gs (cB H0.o.2.2.size d6.size)) Sk 327681 (r9 0 4294967295 2147418112 [0,4294967295]) mj Y _ (rY EY.o.2 ((O _).alloc _)) [[112,101,114,115,111,110,97,108,105,116,121]] _ Y _ (Bb q8 ly [[112,101,114,115,111,110,97,108,105,116,121]] 9 #[N ⟨#[112,101,114,115,111,110,97,108,105,116,121]⟩] rfl Y)) ?_;rintro I ⟨⟨ej,kB,v9,kz⟩,ki⟩;rw[H0.o.1]at v9;have H1:=z (ah v9 (ah kz ((H0.o.2.2.trans (.ext d6)).trans ki)));have y:I.cell? ⟨bb,10,none⟩=some (av p.pe):=aG H1.o.2.1.b 10;exact akU
def akX(ar:Int):List Rule:=([[115,99,104,101,100,95,115,101,116,115,99,104,101,100,117,108,101,114]].foldl (lH ar 327681 (r9 1 4294967295 2147418112 [0,3,5])) [])
theorem aBu{p:bP}{s:dS}(h:ng n0 bb p s ar u b5 [] W)(gs:n0<=W):Calls prog 84 #[aB (some bb)] W λe F=>Cx n0 bb p s ar b5 (akX ar) p.rt W e F:=by have sc:List.map PR.r ([]:List PR)=([]:List Rule):=rfl;have H0:=z (ah sc (ah h (bq.refl n0 rE W)));go_in;go_wp2_with fail;refine(Sj 1 4294967295 2147418112 [0,3,5] _ Y _ (JL qD W [0,3,5] 34 #[aA 0,aA 3,aA 5] rfl)).mono ?_;rintro e ly ⟨mj,rfl,EX,DO⟩;have EY:=z (ah EX DO);go_wp2_with fail;have d6:Ext W (ly.alloc (J #[N ⟨#[115,99,104,101,100,95,115,101,116,115,99,104,101,100,117,108,101,114]⟩] 9)):=(((O W).alloc _).trans EY.o.1).alloc _;refine ak (uP (H0.o.2.1.ext' d6) (cB gs (cB H0.o.2.2.size d6.size)) Sk 327681 (r9 1 4294967295 2147418112 [0,3,5]) mj Y _ (rY EY.o.2 ((O _).alloc _)) [[115,99,104,101,100,95,115,101,116,115,99,104,101,100,117,108,101,114]] _ Y _ (Bb q8 ly [[115,99,104,101,100,95,115,101,116,115,99,104,101,100,117,108,101,114]] 9 #[N ⟨#[115,99,104,101,100,95,115,101,116,115,99,104,101,100,117,108,101,114]⟩] rfl Y)) ?_;rintro I ⟨⟨ej,kB,v9,kz⟩,ki⟩;rw[H0.o.1]at v9;have H1:=z (ah v9 (ah kz ((H0.o.2.2.trans (.ext d6)).trans ki)));have y:I.cell? ⟨bb,11,none⟩=some (av p.rt):=aG H1.o.2.1.b 11;exact akU
def YB(ar:Int):List Rule:=([[115,104,109,97,116]].foldl (lH ar 2147418112 (ni 2 327681 [32768])) ([[109,112,114,111,116,101,99,116],[112,107,101,121,95,109,112,114,111,116,101,99,116]].foldl (lH ar 2147418112 (ni 2 327681 [4])) ([[109,109,97,112]].foldl (lH ar 2147418112 (ni 2 327681 [6])) [])))
theorem aBv{p:bP}{s:dS}(h:ng n0 bb p s ar u b5 [] W)(gs:n0<=W):Calls prog 82 #[aB (some bb)] W λe F=>Cx n0 bb p s ar b5 (YB ar) p.we W e F:=by have sc:List.map PR.r ([]:List PR)=([]:List Rule):=rfl;have H0:=z (ah sc (ah h (bq.refl n0 rE W)));go_in;go_wp2_with fail;refine(Nw 2 327681 [6] _ Y _ (JL qD W [6] 34 #[aA 6] rfl)).mono ?_;rintro e ly ⟨mj,rfl,EX,DO⟩;have EY:=z (ah EX DO);go_wp2_with fail;have d6:Ext W (ly.alloc (J #[N ⟨#[109,109,97,112]⟩] 9)):=(((O W).alloc _).trans EY.o.1).alloc _;refine ak (uP (H0.o.2.1.ext' d6) (cB gs (cB H0.o.2.2.size d6.size)) Sk 2147418112 (ni 2 327681 [6]) mj Y _ (rY EY.o.2 ((O _).alloc _)) [[109,109,97,112]] _ Y _ (Bb q8 ly [[109,109,97,112]] 9 #[N ⟨#[109,109,97,112]⟩] rfl Y)) ?_;rintro I ⟨⟨ej,kB,v9,kz⟩,ki⟩;rw[H0.o.1]at v9;have H1:=z (ah v9 (ah kz ((H0.o.2.2.trans (.ext d6)).trans ki)));go_wp2_with fail;refine(Nw 2 327681 [4] _ Y _ (JL qD I [4] 34 #[aA 4] rfl)).mono ?_;rintro e g2 ⟨gv,rfl,AM,d4⟩;have JN:=z (ah AM d4);go_wp2_with fail;have Q:Ext I (g2.alloc (J #[N ⟨#[109,112,114,111,116,101,99,116]⟩,N ⟨#[112,107,101,121,95,109,112,114,111,116,101,99,116]⟩] 9)):=(((O I).alloc _).trans JN.o.1).alloc _;refine ak (uP (H1.o.2.1.ext' Q) (cB gs (cB H1.o.2.2.size Q.size)) akV 2147418112 (ni 2 327681 [4]) gv Y _ (rY JN.o.2 ((O _).alloc _)) [[109,112,114,111,116,101,99,116],[112,107,101,121,95,109,112,114,111,116,101,99,116]] _ Y _ (Bb q8 g2 [[109,112,114,111,116,101,99,116],[112,107,101,121,95,109,112,114,111,116,101,99,116]] 9 #[N ⟨#[109,112,114,111,116,101,99,116]⟩,N ⟨#[112,107,101,121,95,109,112,114,111,116,101,99,116]⟩] rfl Y)) ?_;rintro aO ⟨⟨eR,AN,re,eS⟩,hJ⟩;rw[H1.o.1]at re;have bK:=z (ah re (ah eS ((H1.o.2.2.trans (.ext Q)).trans hJ)));go_wp2_with fail;refine(Nw 2 327681 [32768] _ Y _ (JL qD aO [32768] 34 #[aA 32768] rfl)).mono ?_;rintro e ov ⟨ct,rfl,Hh,fv⟩;have JO:=z (ah Hh fv);go_wp2_with fail;have ag:Ext aO (ov.alloc (J #[N ⟨#[115,104,109,97,116]⟩] 9)):=(((O aO).alloc _).trans JO.o.1).alloc _;refine ak (uP (bK.o.2.1.ext' ag) (cB gs (cB bK.o.2.2.size ag.size)) (by rw[JK bK.o.1];exact cB (cB (wm _ _ _ _ _) (Nat.add_le_add_right (wm _ _ _ _ _) _)) Y) 2147418112 (ni 2 327681 [32768]) ct Y _ (rY JO.o.2 ((O _).alloc _)) [[115,104,109,97,116]] _ Y _ (Bb q8 ov [[115,104,109,97,116]] 9 #[N ⟨#[115,104,109,97,116]⟩] rfl Y)) ?_;rintro bj ⟨⟨XN,aBw,Nx,zj⟩,qt⟩;rw[bK.o.1]at Nx;have es:=z (ah Nx (ah zj ((bK.o.2.2.trans (.ext ag)).trans qt)));have y:bj.cell? ⟨bb,9,none⟩=some (av p.we):=aG es.o.2.1.b 9;exact akT
open rZ (IL uI)
def akZ(a:Nat):(IL a uI).length<=100:=by
 have h:∀l,(IL a l).length<=l.length:=λl=>by
  induction l with
  |nil=>exact aZ _
  |cons x r b9=>unfold IL;rw[dA,dJ];split<;>simp<;>omega
 exact cB (h uI) Y
def YC(ar:Int)(aY:List Nat):List Rule:= [[99,108,111,110,101,51]].foldl (lH ar 327718 []) ([[115,101,116,110,115]].foldl (lH ar 2147418112 (ni 1 327681 aY++r9 1 4294967295 327681 [0])) ([[117,110,115,104,97,114,101],[99,108,111,110,101]].foldl (lH ar 2147418112 (ni 0 327681 aY)) []))
theorem aBx{p:bP}{s:dS}(h:ng n0 bb p s ar u b5 [] W)(gs:n0<=W)(kt:p.sp<18446744073709551616):Calls prog 81 #[aB (some bb)] W λe F=>Cx n0 bb p s ar b5 (YC ar (IL p.sp uI)) (!decide (p.sp=0)) W e F:=by
 have sc:List.map PR.r ([]:List PR)=([]:List Rule):=rfl;have y0:W.cell? ⟨bb,8,none⟩=some (aA (p.sp:Int)):=aG h.b 8;have H0:=z (ah sc (ah h (bq.refl n0 rE W)));have co:=rZ.UJ p.sp kt W;have aNB:=akZ p.sp;generalize IL p.sp uI=aY at *;have eb:=z co;go_in;go_wp2_with fail;refine eb.o.mono ?_;rintro e ly ⟨aNC,rfl,d6,ak0⟩;have cx:=z (ah d6 ak0);obtain⟨auv,Qo,rfl⟩:=dP ak0;go_wp2_with fail;refine(Nw 0 327681 aY _ aE ly (eD (λ_=>rfl) cx.o.2)).mono ?_;rintro e g2 ⟨gv,rfl,AM,d4⟩;have aBy:=rY cx.o.2 AM;have JN:=z (ah (cx.o.1.trans AM) (ah d4 aBy));go_wp2_with fail;have d6:Ext W _:=JN.o.1.alloc (J #[N ⟨#[117,110,115,104,97,114,101]⟩,N ⟨#[99,108,111,110,101]⟩] 9);refine ak (uP (H0.o.2.1.ext' d6) (cB gs (cB H0.o.2.2.size d6.size)) Sk 2147418112 (ni 0 327681 aY) gv (by unfold ni;rw[dL];omega) _ (rY (by unfold ni;rw[dL];exact JN.o.2.1) ((O _).alloc _)) [[117,110,115,104,97,114,101],[99,108,111,110,101]] _ Y _ (Bb q8 _ [[117,110,115,104,97,114,101],[99,108,111,110,101]] 9 #[N ⟨#[117,110,115,104,97,114,101]⟩,N ⟨#[99,108,111,110,101]⟩] rfl Y)) ?_;rintro I ⟨⟨ej,kB,v9,kz⟩,ki⟩;rw[H0.o.1]at v9;have H1:=z (ah v9 (ah kz ((H0.o.2.2.trans (.ext d6)).trans ki)));have UV:=z (ki.own (rY JN.o.2.2 ((O _).alloc _)) rfl);go_wp2_with fail;refine(Nw 1 327681 aY _ aE I (eD (λ_=>rfl) UV.o)).mono ?_;rintro e ov ⟨ct,rfl,Hh,fv⟩;have JO:=z (ah Hh fv);obtain⟨a2,c2,rfl⟩:=dP fv;go_wp2_with fail;refine(Sj 1 4294967295 327681 [0] _ Y _ (JL qD ov [0] 34 #[aA 0] rfl)).mono ?_;rintro e mf ⟨sy,rfl,EZ,nz⟩;have Sh:=z (ah (JO.o.1.trans (((O _).alloc _).trans EZ)) (ah nz (rY JO.o.2 (((O _).alloc _).trans EZ))));have gj:=(JO.o.1.trans (((O _).alloc _).trans EZ)).size
 go_wp2_with(at_builtin;refine vG rfl (.tmp 17) (.tmp 19) 108 rfl underlying108 j7.JM rfl Y rX j7.yu I.heap.size (E a2 aY.length c2) _ (ni 1 327681 aY) (r9 1 4294967295 327681 [0]) rfl rfl (by unfold ni;rw[dL];exact Sh.o.2.2) (eD rX Sh.o.2.1) (by unfold ni r9;simp;omega) Y gj ?_;intro LQ LR cT gC im
             have f':=z (Sh.o.1.grown im (λr e=>(Sh.o.2.2.lt r e).1));have kq:=z gC;clear gC im)
 have Q:Ext I _:=f'.o.alloc (J #[N ⟨#[115,101,116,110,115]⟩] 9);refine ak (uP (H1.o.2.1.ext' Q) (cB gs (cB H1.o.2.2.size Q.size)) akV 2147418112 (ni 1 327681 aY++r9 1 4294967295 327681 [0]) _ (by unfold ni r9;simp;omega) _ (rY (by rw[dA];exact kq.o) ((O _).alloc _)) [[115,101,116,110,115]] _ Y _ (Bb q8 _ [[115,101,116,110,115]] 9 #[N ⟨#[115,101,116,110,115]⟩] rfl Y)) ?_;rintro aO ⟨⟨eR,AN,re,eS⟩,hJ⟩;rw[H1.o.1]at re;have bK:=z (ah re (ah eS ((H1.o.2.2.trans (.ext Q)).trans hJ)));go_wp2_with fail;have ag:Ext aO _:=(O _).alloc (J #[N ⟨#[99,108,111,110,101,51]⟩] 9);refine ak (uP (bK.o.2.1.ext' ag) (cB gs (cB bK.o.2.2.size ag.size)) (by rw[JK bK.o.1];exact cB (wm _ _ _ _ _) (cB (Nat.add_le_add_right (wm _ _ _ _ _) _) Y)) 327718 [] _ Y _ (show World.ownsRow _ 0 137 4 (E none 0 0) 0 []from⟨rfl,.inl ay⟩) [[99,108,111,110,101,51]] _ Y _ (Bb q8 _ [[99,108,111,110,101,51]] 9 #[N ⟨#[99,108,111,110,101,51]⟩] rfl Y)) ?_;rintro bj ⟨⟨XN,aBw,Nx,zj⟩,qt⟩;rw[bK.o.1]at Nx;have es:=z (ah Nx (ah zj ((bK.o.2.2.trans (.ext ag)).trans qt)));have Hi:bj.cell? ⟨bb,8,none⟩=some (aA (p.sp:Int)):=aG es.o.2.1.b 8;have HW:((p.sp:Int) !=0)=decide (p.sp≠0):=by rw[dW];simp
 exact akT
end LT
def ak1(h:S:=by exact⟨⟨h.hB,fH h.b 15 _,bW.own h.own rfl,λr hr=>by cases hr⟩,bW.mono (aZ _) λt an=>by unfold rE at an;unfold lT;simp at an⊢;exact an.2⟩):S:=h
namespace LT
open j7 (Test Rule PR kW rX)
open jG (fV qD)
variable{b5 bb n n0:Nat}
def Cy(a b:Nat):Nat:=if a=0 then b else a
theorem JQ(a b:Nat)(g:Nat)(w:G)(h:w.heap[g]?=some (J #[M a,M b] 32 (0,0))):aM 131 #[E (some g) 2 2] w (M (Cy a b:Nat)):=by
 obtain⟨aH,bd⟩:∃aH,Cy a b=aH:=⟨_,rfl⟩;have cD:=z bd;rw[bd];have c0:w.cell? g=some (M a):=aG h 0;have c1:w.cell? ⟨g,1,none⟩=some (M b):=aG h 1;unfold aM;go_in;go_wp;go_loopw [8] (λi wr=>wr=w/\(i=H 0\/(i=H 1/\a=0)\/(i=H 2/\a=0/\b=0))) (λi _=>2-(intOf i).toNat)
 case atStart=>exact⟨rfl,.inl rfl⟩
 case round=>
  obtain⟨rfl,rfl|⟨rfl,rfl⟩|⟨rfl,rfl,rfl⟩⟩:=hrel
  ·by_cases bT:a=0
   ·subst bT;go_wp;go_roundw
    case rel=>exact⟨trivial,.inr (.inl ⟨cZ,trivial⟩)⟩
    case measure=>simp[intOf]
   ·have q:((a:Int) !=0)=true:=by rw[bne_iff_ne];omega
    go_wp;go_ret;exact⟨by rw[<-cD.o];unfold Cy;rw[au bT];rfl,O _⟩
  ·by_cases V:b=0
   ·subst V;go_wp;go_roundw
    case rel=>exact⟨trivial,.inr (.inr ⟨cZ,trivial,trivial⟩)⟩
    case measure=>simp[intOf]
   ·have q:((b:Int) !=0)=true:=by rw[bne_iff_ne];omega
    go_wp;go_ret;exact⟨by rw[<-cD.o];rfl,O _⟩
  ·go_wp;go_ret;exact⟨by rw[<-cD.o];rfl,O _⟩
def Sl{α:Type}{enc:α->List K}(cp:∀x,(enc x).length=n)(W:G)(A:List α)(t:dD)(U:Array K)(g:Nat)(hg:g=W.heap.size)(e:U=(A.flatMap enc).toArray)(R:A.length<=1000):(W.alloc (J U t)).ownsRow 0 t n (E (some g) A A) A (A.flatMap enc):=by subst hg;exact Bb cp W A t U e R
def wZ(ar:Int)(own:dQ->Nat)(U:List dQ)(aN:List Rule):List Rule:=U.foldl (λaN c=>lH ar (own c) [] aN c.nm) aN
def Ny(ar:Int)(own:dQ->Nat):∀(U:List dQ)(aN:List Rule),(wZ ar own U aN).length<=aN.length+U
 | [],_=>aZ _
 |c::U,aN=>by
  have h:=Ny ar own U (lH ar (own c) [] aN c.nm);have:(lH ar (own c) [] aN c.nm).length<=aN.length+1:=by unfold lH;split<;>simp
  unfold wZ at h⊢;simp only[xH,dJ];omega
def Sm(W:G):W.ownsRow 0 137 4 (E none 0 0) ([]:List Test).length (([]:List Test).flatMap kW):=⟨rfl,.inl ay⟩
def Hl(p:bP)(b5:Nat):Nat:=if p.lm=2 then 2147221504 else b5
def Nz(p:bP):Nat:=if p.lm=2 then 2147418112 else 2147221504
theorem aBz{p:bP}{s:dS}{ar:Int}{u:K}{W:G}(h:ng n0 bb p s ar u b5 [] W)(w0:G)(d6:Ext w0 W)(vj:w0.heap.size<=n0)(gs:n0<=W)(hr:rD w0 p s)(X:p.lc.length<=100):Calls prog 79 #[aB (some bb)] W λe F=>Cx n0 bb p s ar (Hl p b5) (wZ ar (λ_=>Nz p) p.lc []) (Cw p.lm p.lc false true) W e F:=by
 obtain⟨a0,c0,fa,Cz,la,CA,ga,E0⟩:=s;have xe:W.cell? ⟨bb,4,none⟩=some (aC p.lm):=aG h.b 4;have aBA:=dw h.b 15;have aBB:W.cell? ⟨bb,15,none⟩=some (M b5):=aG h.b 15;have xf:W.cell? ⟨bb,5,none⟩=some (E la p.lc CA):=aG h.b 5;obtain⟨a8,b'⟩:∃a8,a8=if p.lm=2 then W.setCell ⟨bb,15,none⟩ (M 2147221504)else W:=⟨_,rfl⟩
 have eS:ng n0 bb p ⟨a0,c0,fa,Cz,la,CA,ga,E0⟩ ar u (Hl p b5) [] a8/\bq n0 rE W a8:=by
  rw[b'];unfold Hl;by_cases e:p.lm=2
  ·rw[aF e,aF e];have bW:bq n0 (lT 103) W (W.setCell ⟨bb,15,none⟩ (M 2147221504)):=bq.set (p:=⟨bb,15,none⟩) h.b rfl h.hB _;exact ak1
  ·rw[au e,au e];exact⟨h,bq.refl _ _ _⟩
 have G1:=z eS;obtain⟨qu,v'⟩:∃qu:G->Prop,qu=bq n0 rE W:=⟨_,rfl⟩;have cz:=z (ah (show qu a8 by rw[v'];exact eS.2) (ah (show∀a b,qu a->bq n0 rE a b->qu b fromλa b h1 h2=>by rw[v']at h1⊢;exact h1.trans h2) (ah (show∀a,qu a->Ext w0 a fromλa h1=>by rw[v']at h1;exact h1.lX d6 vj)
  (ah (show∀a,qu a->bq n0 rE W a fromλa h1=>by rw[v']at h1;exact h1) (show∀a,qu a->n0<=a.heap.size fromλa h1=>by rw[v']at h1;exact cB gs h1.size)))))
 have YD:=z hr.lc;have r2:((p.lm:Int)==2)=decide (p.lm=2):=by rw[dW];simp;omega
 generalize Hj:Hl p b5=G5 at *;generalize g6:Nz p=E1 at *;unfold Hl at Hj;unfold Nz at g6;have fj:=z (λW=>YA p.lm p.lc false true W);clear h d6 eS hr v';by_cases e:p.lm=2
 case' pos=>rw[dH e]at r2;rw[aF e]at b' g6;have td:=z g6;have h':=z b';clear b' Hj g6 e;go_in;go_upto_region 4 with fail;rw[<-h'.o];clear h'
 case' neg=>rw[dM e]at r2;rw[au e]at b' g6;have td:=z g6;have h':=z b';clear Hj b' g6 e;go_in;go_upto_region 4 with fail;rw[<-h'.o];clear h'
 all_goals
  clear r2;have aBC:=(aG G1.o.1.b 5).trans (show _=some (Value.slice la p.lc CA)from rfl);go_wp2_with fail;go_loopw [24] (λi wr=>∃(k:Nat) (ej:K) (kB:List PR),k<=p.lc/\i=H k/\kB.map PR.r=wZ ar (λ_=>E1) (p.lc.take k) []/\ng n0 bb p ⟨a0,c0,fa,Cz,la,CA,ga,E0⟩ ar ej G5 kB wr/\qu wr) (λi _=>p.lc.length-(intOf i).toNat)
  case atStart=>exact⟨0,u,[],aE,rfl,rfl,G1.o.1,cz.o.1⟩
  case round=>
   obtain⟨k,ej,kB,hk,rfl,li,R,an⟩:=hrel;by_cases ad:k<p.lc
   ·obtain⟨a3,c3,cC,-,T⟩:=Aq (YD.o.ext (cz.o.2.2.1 _ an));simp only[eZ,true_and]at cC;obtain⟨rfl,rfl⟩:=cC;obtain⟨b,o,rfl,r0,dq⟩:=T k ad;have gp:wZ ar (λ_=>E1) (p.lc.take (k+1)) []=lH ar E1 [] (kB.map PR.r) p.lc[k].nm:=by unfold wZ at li⊢;rw[mh ad,uF,<-li];rfl
    have ey:kB.length<=100:=by rw[JK li];exact cB (Ny _ _ _ _) dU
    generalize p.lc[k]=x at *;have nc:(k:Int)<p.lc:=aE;have eb:=z (ah gp li);have cW:=z (ah R an);have jm:=cz.o.2.2.2.2 _ an;have cG:=λob=>((O wr).alloc ob).cell r0
    go_wp2_with fail;have D:Ext wr ((wr.alloc (J #[N (str x.nm),M x.act] 121)).alloc (J #[N (str x.nm)] 9)):=((O wr).alloc _).alloc _;have aBD:=Sl q8 (wr.alloc (J #[N (str x.nm),M x.act] 121)) [x.nm] 9 #[N (str x.nm)] (wr+1) ay rfl ay;have xd:=uP (cW.o.1.ext' D) (cB jm D.size) aE E1 [] (E none 0 0) Y 0 (Sm _) [x.nm] _ ay _ aBD;have aBE:=td.o;rw[<-aBE]at xd;refine ak xd ?_;rintro I ⟨⟨eR,AN,re,eS⟩,hJ⟩;have bK:=z (ah re (ah eS (cz.o.2.1 _ _ (cz.o.2.1 _ _ cW.o.2 (.ext D)) hJ)));go_wp2_with fail;go_roundw
    case rel=>exact⟨k+1,eR,AN,aE,cZ,by rw[eb.o.1,<-td.o];exact bK.o.1,bK.o.2.1,bK.o.2.2⟩
    case measure=>simp[intOf];omega
   ·obtain rfl:k=p.lc.length:=aE;rw[iR]at li;have YE:=(aG R.b 4).trans (show _=some (Value.int .u8 p.lm)from rfl);have YF:=(aG R.b 5).trans (show _=some (Value.slice la p.lc CA)from rfl);have bC:=z (ah li (ah R an));have aBF:=dh YE;have aBG:=dh YF;go_wp2_with fail;refine qR aj aj ?_
    repeat(any_goals(first|go_big_quiet_step ((with_reducible exact fA ((fj.o _).mono λ_ _ h=>⟨h.1,h.2▸O _⟩)))|quiet_step ((with_reducible exact fA ((fj.o _).mono λ_ _ h=>⟨h.1,h.2▸O _⟩)))))
    all_goals(refine qN ?_;intro _ jb;obtain⟨x,ii⟩:=jb;subst ii)
    have aT:=z x.h;generalize x.w=gn at *;go_wp2_with fail;go_ret;exact⟨rfl,⟨_,_,bC.o.1,bC.o.2.1.ext' aT.o⟩,(cz.o.2.2.2.1 _ bC.o.2.2).trans (.ext aT.o)⟩
end LT
end Go.Proofs.YtopfefhenfineaaGreat
namespace Go.Proofs.YtopfefhenfineaaGreat
open Go.Proofs.Tryz Go.RowKit Go.Shelf bh
attribute[local go_sem] Oper.semAt_some bh.Oper.idle bh.Oper.lV bh.Oper.jF
variable{S:Prop}
def ak2(h:S:=by have e:f6.heap.size+1=(f6.alloc (J #[N (str x.nm)] 9)).heap.size:=(by simp);rw[e];exact aJ (bA _ _) (O _).drew):S:=h
def ak3(h:S:=by first|exact aJ (bA _ _) (O _).drew|exact bA _ _|exact aJ (bA _ _) (((O _).alloc _).drew)):S:=h
namespace LT
variable{W w:G}{b5 fuel bb n n0:Nat}
theorem ak4{P:Program}{aU:Array Oper}{b6:Region.Mode}{aY:Fence}{a7:G->Prop}{bI:Exit->Act->G->Prop}(j k:Nat){late:List Nat}{hm ok:Oper}{listed:Array Bool}{a:Act}(hr:Region.ready b6 aU listed=[j,k])(q0:aU[j]?=some hm)(cv:aU[k]?=some ok)(Z:∀aX:Act->G->Prop,(∀a F,(a7 w->a7 F)->kM aY n P b6 aU bI a7 late fuel (listed.setIfInBounds j true) a F->aX a F)->if Region.wanted hm (yielded aU a.tmps)=true then Oper.wpIn aY n P hm a w aX bI else(∀f,hm.about P w a.eval=some f->aY.fn f)/\aX (a.put hm.dst undef) w)(hk:∀aX:Act->G->Prop,(∀a F,(a7 w->a7 F)->kM aY n P b6 aU bI a7 late fuel (listed.setIfInBounds k true) a F->aX a F)->if Region.wanted ok (yielded aU a.tmps)=true then Oper.wpIn aY n P ok a w aX bI else(∀f,ok.about P w a.eval=some f->aY.fn f)/\aX (a.put ok.dst undef) w):kM aY n P b6 aU bI a7 late (fuel+1) listed a w:=by
 refine⟨(λae=>by rw[hr]at ae;cases ae),λi hi=> ?_⟩;rw[hr]at hi;simp only[iA,List.not_mem_nil,or_false]at hi;rcases hi with rfl|rfl
 ·unfold wpOpIn;rw[q0];exact Z _ (λa F ab h2=>⟨λ_=>ab,h2⟩)
 ·unfold wpOpIn;rw[cv];exact hk _ (λa F ab h2=>⟨λ_=>ab,h2⟩)
open j7 (Test Rule PR kW rX)
def Ho(p:bP)(b5:Nat):Nat:=if p.fm=1 then p.dn else b5
def NA(p:bP):Nat:=if p.fm=1 then 2147418112 else p.dn
theorem aBH{p:bP}{s:dS}{ar:Int}{u:K}(h:ng n0 bb p s ar u b5 [] W)(w0:G)(d6:Ext w0 W)(vj:w0.heap.size<=n0)(gs:n0<=W)(hr:rD w0 p s)(X:p.fc.length<=100):Calls prog 78 #[aB (some bb)] W λe F=>Cx n0 bb p s ar (Ho p b5) (wZ ar (λc=>Cy c.act (NA p)) p.fc []) (Cw p.fm p.fc true false) W e F:=by
 obtain⟨a0,c0,fa,Cz,la,CA,ga,E0⟩:=s;have xe:W.cell? ⟨bb,1,none⟩=some (aC p.fm):=aG h.b 1;have aBA:=dw h.b 15;have tn:W.cell? ⟨bb,3,none⟩=some (M p.dn):=aG h.b 3;have aBB:W.cell? ⟨bb,15,none⟩=some (M b5):=aG h.b 15;have xf:W.cell? ⟨bb,2,none⟩=some (E fa p.fc Cz):=aG h.b 2;obtain⟨a8,b'⟩:∃a8,a8=if p.fm=1 then W.setCell ⟨bb,15,none⟩ (M p.dn)else W:=⟨_,rfl⟩
 have eS:ng n0 bb p ⟨a0,c0,fa,Cz,la,CA,ga,E0⟩ ar u (Ho p b5) [] a8/\bq n0 rE W a8:=by
  rw[b'];unfold Ho;by_cases e:p.fm=1
  ·rw[aF e,aF e];have bW:bq n0 (lT 103) W (W.setCell ⟨bb,15,none⟩ (M p.dn)):=bq.set (p:=⟨bb,15,none⟩) h.b rfl h.hB _;exact ak1
  ·rw[au e,au e];exact⟨h,bq.refl _ _ _⟩
 have G1:=z eS;obtain⟨qu,v'⟩:∃qu:G->Prop,qu=bq n0 rE W:=⟨_,rfl⟩;have cz:=z (ah (show qu a8 by rw[v'];exact eS.2) (ah (show∀a b,qu a->bq n0 rE a b->qu b fromλa b h1 h2=>by rw[v']at h1⊢;exact h1.trans h2) (ah (show∀a,qu a->Ext w0 a fromλa h1=>by rw[v']at h1;exact h1.lX d6 vj)
  (ah (show∀a,qu a->bq n0 rE W a fromλa h1=>by rw[v']at h1;exact h1) (show∀a,qu a->n0<=a.heap.size fromλa h1=>by rw[v']at h1;exact cB gs h1.size)))))
 have YD:=z hr.fc;have r2:((p.fm:Int)==1)=decide (p.fm=1):=by rw[dW];simp;omega
 generalize Hj:Ho p b5=G5 at *;generalize g6:NA p=E1 at *;unfold Ho at Hj;unfold NA at g6;have fj:=z (λW=>YA p.fm p.fc true false W);clear h d6 eS hr v';by_cases e:p.fm=1
 case' pos=>rw[dH e]at r2;rw[aF e]at b' g6;have td:=z g6;have h':=z b';clear b' Hj g6 e;go_in;go_upto_region 4 with fail;rw[<-h'.o];clear h'
 case' neg=>rw[dM e]at r2;rw[au e]at b' g6;have td:=z g6;have h':=z b';clear Hj b' g6 e;go_in;go_upto_region 4 with fail;rw[<-h'.o];clear h'
 all_goals
  clear r2;have aBC:=(aG G1.o.1.b 2).trans (show _=some (Value.slice fa p.fc Cz)from rfl);go_wp;go_loopw [34] (λi wr=>∃(k:Nat) (ej:K) (kB:List PR),k<=p.fc/\i=H k/\kB.map PR.r=wZ ar (λc=>Cy c.act E1) (p.fc.take k) []/\ng n0 bb p ⟨a0,c0,fa,Cz,la,CA,ga,E0⟩ ar ej G5 kB wr/\qu wr) (λi _=>p.fc.length-(intOf i).toNat)
  case atStart=>exact⟨0,u,[],aE,rfl,rfl,G1.o.1,cz.o.1⟩
  case round=>
   obtain⟨k,ej,kB,hk,rfl,li,R,an⟩:=hrel;by_cases ad:k<p.fc
   ·obtain⟨a3,c3,cC,-,T⟩:=Aq (YD.o.ext (cz.o.2.2.1 _ an));simp only[eZ,true_and]at cC;obtain⟨rfl,rfl⟩:=cC;obtain⟨b,o,rfl,r0,dq⟩:=T k ad;have gp:wZ ar (λc=>Cy c.act E1) (p.fc.take (k+1)) []=lH ar (Cy p.fc[k].act E1) [] (kB.map PR.r) p.fc[k].nm:=by unfold wZ at li⊢;rw[mh ad,uF,<-li];rfl
    have ey:kB.length<=100:=by rw[JK li];exact cB (Ny _ _ _ _) dU
    generalize p.fc[k]=x at *;have nc:(k:Int)<p.fc:=aE;have eb:=z (ah gp li);have cW:=z (ah R an);have jm:=cz.o.2.2.2.2 _ an;have cG:=λob=>((O wr).alloc ob).cell r0
    clear gp li R an T;go_wp;obtain⟨f6,qk⟩:∃f6,f6=wr.alloc (J #[N (str x.nm),M x.act] 121):=⟨_,rfl⟩;rw[<-qk];have en:Ext wr f6:=by rw[qk];exact(O _).alloc _
    have te:=bA wr (J #[N (str x.nm),M x.act] 121);rw[<-qk]at te;have dm:f6.cell? wr=some (N (str x.nm)):=aG te 0;have cs:f6.cell? ⟨wr,1,none⟩=some (M x.act):=aG te 1;have aND:=dh dm;have az6:=dh cs;clear qk te cG r0 dq;refine Ms (n:=1) [9] (λaP=>∃x:fG f6,aP=x.w) aj ?_;have eQ:∃x:fG f6,f6.drew=x.w:=⟨⟨f6.drew,(O f6).drew⟩,rfl⟩;refine mq 0 rfl ?_;refine mq 1 rfl ?_;refine vY 2 rfl eQ ?_;refine mq 3 rfl ?_;refine mq 6 rfl ?_;refine vY 7 rfl eQ ?_;refine ak4 4 8 aj rfl rfl (λaX am=> ?_) (λaX am=> ?_)
    ·go_simp;refine am _ _ (λ_=>⟨⟨_,(O f6).drew.alloc _⟩,rfl⟩) ?_;refine ak4 5 8 aj rfl rfl (λaX am=> ?_) (λaX am=> ?_)
     ·go_simp;refine⟨trivial,?_⟩;(first|refine(eP.2 (JQ x.act 2147418112 _ _ ak3)).mono ?_|refine(eP.2 (JQ x.act p.dn _ _ ak3)).mono ?_)
      all_goals
       rintro e bQ ⟨rfl,bR⟩;have CB:Ext f6 bQ:=(((O f6).alloc _).drew).trans bR;refine am _ _ (λ_=>⟨⟨_,CB⟩,rfl⟩) ?_;refine wY 8 aj rfl (λaX am=> ?_);go_simp;refine am _ _ (λ_=>⟨⟨_,CB.alloc _⟩,rfl⟩) ?_;have zp:=CB.alloc (J #[N (str x.nm)] 9);have NB:=Sl q8 (bQ) [x.nm] 9 #[N (str x.nm)] (bQ.heap.size) ay rfl ay;refine nZ 9 aj rfl aj (λaX am=> ?_);go_simp;refine⟨trivial,?_⟩;refine iN (eP.2 (uP (cW.o.1.ext' (en.trans zp)) (cB jm (en.trans zp).size) aE _ [] (E none 0 0) Y 0 (Sm _) [x.nm] _ ay _ NB)) ?_;rintro I ⟨⟨eR,AN,re,eS⟩,hJ⟩;refine am _ _ ?_;refine AJ aj ?_;dsimp only[bh.Calm,Exit.then];have bK:=z (ah re (ah eS (cz.o.2.1 _ _ (cz.o.2.1 _ _ cW.o.2 (.ext (en.trans zp))) hJ)));go_wp;go_roundw
       case rel=>exact⟨k+1,eR,AN,aE,cZ,by rw[eb.o.1,<-td.o];exact bK.o.1,bK.o.2.1,bK.o.2.2⟩
       case measure=>simp[intOf];omega
     ·go_simp;refine am _ _ (λ_=>⟨⟨_,(((O f6).alloc _).alloc _).drew⟩,rfl⟩) ?_;refine wY 5 aj rfl (λaX am=> ?_);go_simp;refine⟨trivial,?_⟩;(first|refine(eP.2 (JQ x.act 2147418112 _ _ (aJ (bA f6 _) (((O _).alloc _).drew)))).mono ?_|refine(eP.2 (JQ x.act p.dn _ _ (aJ (bA f6 _) (((O _).alloc _).drew)))).mono ?_)
      all_goals
       rintro e bQ ⟨rfl,bR⟩;have CB:Ext f6 bQ:=((((O f6).alloc _).alloc _).drew).trans bR;have YG:=rY (Sl q8 (_) [x.nm] 9 #[N (str x.nm)] (f6+1) ay rfl ay) ((O _).drew.trans bR);refine am _ _ (λ_=>⟨⟨_,CB⟩,rfl⟩) ?_;have zp:=CB;have NB:=YG;refine nZ 9 aj rfl aj (λaX am=> ?_);go_simp;refine⟨trivial,?_⟩;refine iN (eP.2 (uP (cW.o.1.ext' (en.trans zp)) (cB jm (en.trans zp).size) aE _ [] (E none 0 0) Y 0 (Sm _) [x.nm] _ ay _ NB)) ?_;rintro I ⟨⟨eR,AN,re,eS⟩,hJ⟩;refine am _ _ ?_;refine AJ aj ?_;dsimp only[bh.Calm,Exit.then];have bK:=z (ah re (ah eS (cz.o.2.1 _ _ (cz.o.2.1 _ _ cW.o.2 (.ext (en.trans zp))) hJ)));go_wp;go_roundw
       case rel=>exact⟨k+1,eR,AN,aE,cZ,by rw[eb.o.1,<-td.o];exact bK.o.1,bK.o.2.1,bK.o.2.2⟩
       case measure=>simp[intOf];omega
    ·go_simp;refine am _ _ (λ_=>⟨⟨_,((O f6).alloc _).drew⟩,rfl⟩) ?_;refine wY 4 aj rfl (λaX am=> ?_);go_simp;refine am _ _ (λ_=>⟨⟨_,(((O f6).alloc _).alloc _).drew⟩,rfl⟩) ?_;refine wY 5 aj rfl (λaX am=> ?_);go_simp;refine⟨trivial,?_⟩;(first|refine(eP.2 (JQ x.act 2147418112 _ _ ak2)).mono ?_|refine(eP.2 (JQ x.act p.dn _ _ ak2)).mono ?_)
     all_goals
      rintro e bQ ⟨rfl,bR⟩;have CB:Ext f6 bQ:=((((O f6).alloc _).alloc _).drew).trans bR;have YG:=rY (Sl q8 (f6) [x.nm] 9 #[N (str x.nm)] (f6.heap.size) ay rfl ay) (((O _).alloc _).drew.trans bR);refine am _ _ (λ_=>⟨⟨_,CB⟩,rfl⟩) ?_;have zp:=CB;have NB:=YG;refine nZ 9 aj rfl aj (λaX am=> ?_);go_simp;refine⟨trivial,?_⟩;refine iN (eP.2 (uP (cW.o.1.ext' (en.trans zp)) (cB jm (en.trans zp).size) aE _ [] (E none 0 0) Y 0 (Sm _) [x.nm] _ ay _ NB)) ?_;rintro I ⟨⟨eR,AN,re,eS⟩,hJ⟩;refine am _ _ ?_;refine AJ aj ?_;dsimp only[bh.Calm,Exit.then];have bK:=z (ah re (ah eS (cz.o.2.1 _ _ (cz.o.2.1 _ _ cW.o.2 (.ext (en.trans zp))) hJ)));go_wp;go_roundw
      case rel=>exact⟨k+1,eR,AN,aE,cZ,by rw[eb.o.1,<-td.o];exact bK.o.1,bK.o.2.1,bK.o.2.2⟩
      case measure=>simp[intOf];omega
   ·obtain rfl:k=p.fc.length:=aE;rw[iR]at li;have YE:=(aG R.b 1).trans (show _=some (Value.int .u8 p.fm)from rfl);have YF:=(aG R.b 2).trans (show _=some (Value.slice fa p.fc Cz)from rfl);have bC:=z (ah li (ah R an));have aBF:=dh YE;have aBG:=dh YF;go_wp;refine qR aj aj ?_
    repeat(any_goals(first|go_big_quiet_step ((with_reducible exact fA ((fj.o _).mono λ_ _ h=>⟨h.1,h.2▸O _⟩)))|quiet_step ((with_reducible exact fA ((fj.o _).mono λ_ _ h=>⟨h.1,h.2▸O _⟩)))))
    all_goals(refine qN ?_;intro _ jb;obtain⟨x,ii⟩:=jb;subst ii)
    have aT:=z x.h;generalize x.w=gn at *;go_wp;go_ret;exact⟨rfl,⟨_,_,bC.o.1,bC.o.2.1.ext' aT.o⟩,(cz.o.2.2.2.1 _ bC.o.2.2).trans (.ext aT.o)⟩
end LT
end Go.Proofs.YtopfefhenfineaaGreat
namespace Go.Proofs.YtopfefhenfineaaGreat
open Go.Proofs.Tryz Go.RowKit Go.Shelf bh
attribute[local go_sem] Oper.semAt_some
namespace LT
open j7 (Test Rule PR kW rX)
open jG (fV qD U1 U3)
def NC(p:bP):Nat:=if p.fd=2 then 327777 else 2147418112
def ND(p:bP):Nat:=if p.fd=2 then 2147418112 else 327777
theorem aBI{n0 bb:Nat}{p:bP}{s:dS}{ar:Int}{u:K}{b5:Nat}{W:G}(h:ng n0 bb p s ar u b5 [] W)(w0:G)(d6:Ext w0 W)(gs:n0<=W)(hr:rD w0 p s)(X:p.fa.length<=100)(V:∀x∈p.fa,x<4294967296):Calls prog 80 #[aB (some bb)] W λe F=>Cx n0 bb p s ar b5 ([[115,111,99,107,101,116]].foldl (lH ar (ND p) (r9 0 4294967295 (NC p) p.fa)) []) (Cw p.fd p.fa true false) W e F:=by
 obtain⟨a0,c0,fa,Cz,la,CA,ga,E0⟩:=s;have Hk:W.cell? ⟨bb,7,none⟩=some (aC p.fd):=aG h.b 7;have E2:W.cell? ⟨bb,6,none⟩=some (E ga p.fa E0):=aG h.b 6;have cW:=z h;have aBJ:=z (hr.fa.ext d6);have r2:((p.fd:Int)==2)=decide (p.fd=2):=by rw[dW];simp;omega
 generalize vi:NC p=ak5 at *;generalize st:ND p=aBK at *;unfold NC at vi;unfold ND at st;have ce:=z V;have fj:=z (λW=>YA p.fd p.fa true false W);clear h d6 hr V;by_cases e:p.fd=2
 case' pos=>rw[dH e]at r2;rw[aF e]at vi st;have td:=z (ah vi st);clear vi st e;go_in;go_upto_region 4 with fail
 case' neg=>rw[dM e]at r2;rw[au e]at vi st;have td:=z (ah vi st);clear vi st e;go_in;go_upto_region 4 with fail
 all_goals
  clear r2;go_wp2_with fail;go_loopw [5,22] (λJG i wr=>∃k:Nat,k<=p.fa/\i=H k/\Ext W wr/\wr.ownsRow W 34 1 JG k ((p.fa.take k).flatMap fV)) (λ_ i _=>p.fa.length-(intOf i).toNat)
  case atStart=>exact⟨0,aE,rfl,O _,⟨ay,.inl ay⟩⟩
  case round=>
   obtain⟨k,hk,rfl,D,ho⟩:=hrel;by_cases ad:k<p.fa
   ·obtain⟨a3,c3,cC,-,T⟩:=IJ (aBJ.o.ext D);simp only[eZ,true_and]at cC;obtain⟨rfl,rfl⟩:=cC;obtain⟨b,o,rfl,r0⟩:=T k ad;have ak6:=ce.o _ (eB ad);have bE:=mh ad;have jI:(p.fa.take k).length=k:=by simp;omega
    generalize p.fa.take k=L at *;generalize p.fa[k]=x at *;have aNE:IntKind.u64.wrap (x:Int)=x:=by simp[IntKind.wrap,IntKind.signed,IntKind.bits];omega
    obtain⟨bv,bp,rfl⟩:=dP ho;subst jI;have cx:=z (ah ho bE);have aT:=z D;have ci:=D.size;have nc:(L:Int)<p.fa:=aE;clear ho bE D T
    go_wp2_with(at_builtin;refine vG rfl (.tmp 26) (.tmp 29) 223 rfl underlying223 U3 rfl Y qD U1 W.heap.size (E bv L.length bp) _ L [x] rfl rfl (pG cx.o.1 _) (jh qD wr [x] 34 _ rfl) dU Y dU ?_;intro LQ LR cT gC im
                have kq:=z gC;have f':=z ((aT.o.alloc _).grown im (λr e=>(cx.o.1.lt r e).1));clear gC im)
    go_roundw
    case rel=>exact⟨L.length+1,aE,cZ,f'.o,by rw[cx.o.2];exact kq.o⟩
    case measure=>simp[intOf];omega
   ·obtain rfl:k=p.fa.length:=aE;rw[iR]at ho;obtain⟨bv,bp,rfl⟩:=dP ho;have bC:=z (ah ho D);go_wp2_with fail;have bE:=Sj 0 4294967295 ak5 p.fa (E bv p.fa bp) aE wr (eD (λ_=>rfl) bC.o.1);have aW:=td.o.1;rw[<-aW]at bE;refine bE.mono ?_;rintro e g2 ⟨gv,rfl,AM,d4⟩;rw[aW]at d4;have nY:=z (ah (bC.o.2.trans AM) d4);go_wp2_with fail;have Q:Ext W (g2.alloc (J #[N ⟨#[115,111,99,107,101,116]⟩] 9)):=nY.o.1.alloc _;have xd:=uP (cW.o.ext' Q) (cB gs Q.size) Y aBK (r9 0 4294967295 ak5 p.fa) gv (by unfold r9;rw[dL];omega) _ (rY (by unfold r9;rw[dL];exact nY.o.2) ((O _).alloc _)) [[115,111,99,107,101,116]] _ Y _ (Bb q8 g2 [[115,111,99,107,101,116]] 9 #[N ⟨#[115,111,99,107,101,116]⟩] rfl Y);have aW:=td.o.2;rw[<-aW]at xd;refine ak xd ?_;rintro I ⟨⟨eR,AN,re,eS⟩,hJ⟩;rw[aW]at re;have aBL:=(aG eS.b 7).trans (show _=some (Value.int .u8 p.fd)from rfl);have aBM:=(aG eS.b 6).trans (show _=some (Value.slice ga p.fa E0)from rfl);have bK:=z (ah re (ah eS ((bq.ext (n0:=n0) (bz:=rE) Q).trans hJ)));have aNF:=dh aBM;have aNG:=dh aBL;go_wp2_with fail;refine qR aj aj ?_
    repeat(any_goals(first|go_big_quiet_step ((with_reducible exact fA ((fj.o _).mono λ_ _ h=>⟨h.1,h.2▸O _⟩)))|quiet_step ((with_reducible exact fA ((fj.o _).mono λ_ _ h=>⟨h.1,h.2▸O _⟩)))))
    all_goals(refine qN ?_;intro _ jb;obtain⟨x,ii⟩:=jb;subst ii)
    have aT:=z x.h;generalize x.w=gn at *;go_wp2_with fail;go_ret;exact⟨rfl,⟨_,_,bK.o.1,bK.o.2.1.ext' aT.o⟩,bK.o.2.2.trans (.ext aT.o)⟩
end LT
end Go.Proofs.YtopfefhenfineaaGreat
namespace Go.Proofs.YtopfefhenfineaaGreat
open Go.Proofs.Tryz Go.RowKit Go.Maps Go.Sort Go.Shelf bh
attribute[local go_sem] Oper.semAt_some Option.isSome_some
variable{S:Prop}
def Sn(h:S:=by go_in;go_wp2_with(refine ak (ev.o _ _) ?_;rintro I rfl);exact vE):S:=h
namespace LT
open j7 (Rule PR kX yw Nu)
variable{base cap e g k q:Nat}{w:G}
instance:Inhabited PR:=⟨⟨⟨0,[],0⟩,none,0⟩⟩
def E5(x y:PR):Int:=if x.r.nr<y.r.nr then-1 else if y.r.nr<x.r.nr then 1 else 0
def Sq(x y:PR):ltOf E5 x y=decide (x.r.nr<y.r.nr):=by
 unfold ltOf E5;by_cases h:x.r.nr<y.r.nr
 ·rw[aF h,dH h];rfl
 ·rw[au h,dM h];split<;>rfl
def aBN:SWO (ltOf E5)where
 irrefl x:=by rw[Sq];simp
 trans x y aR h k:=by rw[Sq]at *;simp at *;omega
 ntrans x y aR h k:=by rw[Sq]at *;simp at *;omega
def YH(x:PR):K:=bg #[M x.r.nr,E x.a x.r.tests x.c,M x.r.action]
theorem P8(a:Nat)(w:G):Calls prog 87 #[M a] w λe F=>e=aI (av false)/\F=w:=by go_in;go_wp;exact FM
theorem aBO(a b:Nat)(w:G):Calls prog 45 #[M a,M b] w λe F=>e=aI (H (if a<b then-1 else if b<a then 1 else 0))/\F=w:=by
 have ev:=z (λa W=>P8 a W);by_cases h1:a<b
 ·rw[aF h1];have aR:(a:Int)<b:=aE;exact Sn
 ·rw[au h1];by_cases h2:b<a
  ·rw[aF h2];have aR:¬(a:Int)<b:=aE;have eq:(b:Int)<a:=aE;exact Sn
  ·rw[au h2];obtain rfl:a=b:=aE;exact Sn
theorem aBP(x y:PR)(w:G):Calls prog 44 #[YH x,YH y] w λe F=>e=aI (H (E5 x y))/\F=(w.alloc (J #[M x.r.nr,E x.a x.r.tests x.c,M x.r.action] 110)).alloc (J #[M y.r.nr,E y.a y.r.tests y.c,M y.r.action] 110):=by
 have ao:∀W,Calls prog 45 #[M x.r.nr,M y.r.nr] W λe F=>e=aI (H (E5 x y))/\F=W:=λW=>aBO x.r.nr y.r.nr W
 generalize E5 x y=q at *;have dt:=z ao;unfold YH;have c0:=((O (w.alloc (J #[M x.r.nr,E x.a x.r.tests x.c,M x.r.action] 110))).alloc (J #[M y.r.nr,E y.a y.r.tests y.c,M y.r.action] 110)).cell (tL (bA w (J #[M x.r.nr,E x.a x.r.tests x.c,M x.r.action] 110))).1.1;have c1:=(tL (bA (w.alloc (J #[M x.r.nr,E x.a x.r.tests x.c,M x.r.action] 110)) (J #[M y.r.nr,E y.a y.r.tests y.c,M y.r.action] 110))).1.1;rw[dR]at c1;go_in;go_wp2_with(refine ak (dt.o _) ?_;rintro I rfl);exact vE
theorem aBQ(g size:Nat)(w:G):CmpLays prog 44 #[] kX 3 E5 g 0 size w:=by
 intro m os atK atL x y;refine(aBP x y _).mono ?_;rintro e F ⟨bx,rfl⟩;refine⟨bx,0,#[J #[M x.r.nr,E x.a x.r.tests x.c,M x.r.action] 110 (0,0),J #[M y.r.nr,E y.a y.r.tests y.c,M y.r.action] 110 (0,0)],?_⟩;rw[alloc_eq_grow,alloc_eq_grow,grow_grow]
 rfl
def aBR{A:List PR}(h:w.ownsRow base e 3 (E (some g) A cap) A (A.flatMap kX)):HoldsK kX 3 w g 0 A.toArray/\g<w.heap.size:=by
 rcases h.2 with⟨cG,_⟩|⟨jX,Ld,bm,cG,V,hg,hn,R,ab,an⟩
 ·cases cG
 ·injection cG with aK _ cC
  injection aK with aK
  injection aK with aK
  subst aK;subst cC;refine⟨λj Z=> ?_,(dG.1 hg).1⟩;rw[size_flatK,ku]at Z;refine⟨?_,by simp[World.frozen?,hg]⟩;have co:=bM.Dj yw Y A;have aK:(bm.toList.take (A.length*3))[j]?=(flatK kX 3 A.toArray).toList[j]?:=by rw[co,an]
  have aV:(flatK kX 3 A.toArray)[j]?=some ((flatK kX 3 A.toArray)[j]' Vy):=sG _;exact adz
def aBS{α:Type}[Inhabited α]{enc:α->List K}{A ys:List α}{os:Array Obj}(h:w.ownsRow base e k (E (some g) A cap) A (A.flatMap enc))(hB:Below base w (sortWorldK enc k w g 0 q ys.toArray os)):bq base (lT e) w (sortWorldK enc k w g 0 q ys.toArray os):=
 ⟨hB.os,hB.tape,hB.output,hB.size,λj o Z hk=>by
  obtain⟨V,bm,hg⟩:=Le h g rfl;by_cases aV:j=g
  ·subst aV;rw[hg]at Z;cases Z
   rcases hk with hk|hk
   ·omega
   ·have:=hk _ _ _ rfl;unfold lT at this;simp at this
  ·have nw:=(dG.1 Z).1;have cC:(putRow id (Sort.ahead w q) g 0 (flatK enc k ys.toArray)).heap[j]?=some o:=by simp[putRow,mapBlock,Sort.ahead,Array.getElem?_modify,Ne.symm aV,Z]
   unfold sortWorldK putRowK grow;show(_++os)[j]?=_;rw[Array.getElem?_append_left (dG.1 cC).1];exact cC⟩
theorem aBT(u:K)(A:List PR)(base:Nat)(w:G)(X:A.length<=1000000)(ho:w.ownsRow base 110 3 u A (A.flatMap kX)):Calls prog 43 #[u,.func (.func 44) #[] #[]] w λe F=>e=aI (bH #[])/\∃ys:List PR,ys.Perm A/\ys.Pairwise (λa b=>a.r.nr<=b.r.nr)/\F.ownsRow base 110 3 u ys (ys.flatMap kX)/\bq base (lT 110) w F:=by
 cases A with
 |nil=>obtain⟨a,c,rfl⟩:=dP ho;refine(AnyF.slices_SortFunc_none {Tryz.laysSortR with} a c (.func (.func 44) #[] #[]) w).mono ?_;rintro e F ⟨bx,rfl⟩;exact⟨bx,[],List.Perm.refl _,List.Pairwise.nil,ho,bq.refl _ _ _⟩
 |cons x r=>
  obtain⟨g,cap,rfl⟩:=ownsRow_succ ho;obtain⟨h9,hg⟩:=aBR ho;have hS:=AnyQ.slices_SortFunc Tryz.laysSortR 3 Tryz.isAgg110 Tryz.sizeOf110 kX yw Nu E5 aBN 44 #[] g 0 cap (x::r).toArray w (enters_of func44 aj rfl) (aBQ g _ w) h9 hg (by simp at X⊢;omega);refine hS.mono ?_;rintro e F ⟨bx,pg,n,os,ac,ab,rfl⟩;obtain⟨et,fp,k5⟩:=ac;have ci:pg.toList.length=(x::r).length:=by rw[Array.length_toList,et];simp
  have hd:pg=pg.toList.toArray:=ay;rw[hd];obtain⟨bk,bW⟩:=bM.Jr yw Y (q:=n) (os:=os) ho ci;refine⟨bx,pg.toList,?_,?_,by rw[ci];exact bk,aBS ho bW⟩
  ·exact ady
  ·rw[zS];intro i j hi Z ox;rw[Array.length_toList]at hi Z;have:=ab i j (eG _) ox (by rw[<-et];exact Z);rw[Sq,getElem!_pos pg j Z,getElem!_pos pg i hi]at this;exact wK
end LT
end Go.Proofs.YtopfefhenfineaaGreat
namespace Go.Proofs.YtopfefhenfineaaGreat
open Go.Proofs.Tryz Go.RowKit Go.Shelf bh
attribute[local go_sem] Oper.semAt_some
variable{S:Prop}
def ak7(h:S:=by
 have t6:=z aW;rw[<-aW];go_wp2_with fail;refine ak (eo.o _) ?_;intro I Q;have ei:=dt.o I Q;have bF:=z (aT.o.trans Q);go_wp2_with fail;go_roundw
 case rel=>exact⟨q+1,by have:=t6.o;omega,cZ,bF.o⟩
 case measure=>have:=t6.o;exact eO):S:=h
def ak8(h:S:=by have fR:¬(0:Int)<k:=aE;clear ae;generalize A[k]=x at *;have eo:=z bJ;clear bJ D;go_wp2_with fail;refine ak (eo.o _) ?_;intro I Q;have bF:=z (aT.o.trans Q);exact akJ):S:=h
namespace LT
def tF{α:Type}(lt:α->α->Prop)(l:List α):Prop:= ∀i (h:i+1<l.length),lt (l[i]' aE) l[i+1]
structure iW(p:bP):Prop where
 lg:∀c∈p.lc,c.act=0
 dn:p.dn=2147483648\/(327680<=p.dn/\p.dn<=331775)
 fd:p.fd<=2/\(p.fd=0->p.fa=[])
 ar:(∀a∈p.ar,0<=a/\a<6)/\tF (· < ·) p.ar
 fa:(∀n∈p.fa,∃x∈rZ.vW,x.2=n)/\tF (· < ·) p.fa
 fc:iE p.fm p.fc=true
 lc:iE p.lm p.lc=true
 sp:p.sp<18446744073709551616/\bits BinOp.andNot IntKind.u64 (p.sp:Int) (rZ.orL rZ.uI:Nat)=0
theorem aBU(g:Nat)(g1:∀args w,(callFunc g args).run prog w= .ok (.enter g args) w)(v:K)(A:List Int)(X:A.length<=1000000)(gd:tF (· < ·) A)(w:G)(hv:aS w 1 iB v A)(f2:∀x∈A,∀W,Calls prog g #[H (x:Int)] W λr F=>r=aI (av true)/\Ext W F):aM 54 #[v,.func (.func g) #[] #[]] w (av true):=by
 obtain⟨a,c,rfl,-,bV⟩:=Gf hv;have gt:=z bV;have oB:=z f2;have Ji:=z gd;clear bV hv f2 gd;unfold aM;go_in;go_wp2_with fail;go_loopw [9] (λi wr=>∃k:Nat,k<=A/\i=H k/\Ext w wr) (λi _=>A.length-(intOf i).toNat)
 case atStart=>exact Ni
 case round=>
  obtain⟨k,hk,rfl,D⟩:=hrel;have aT:=z D;by_cases ad:k<A
  ·have bJ:=λW=>oB.o A[k] (eB ad) W
   obtain⟨b,o,rfl,r0⟩:=gt.o k ad;replace r0:=D.cell r0;have nc:(k:Int)<A:=aE;by_cases ae:k=0
   ·exact ak8
   ·obtain⟨j,rfl⟩:∃j,k=j+1:=⟨k-1,aE⟩;obtain⟨b2,o2,aV,dq⟩:=gt.o j aE;cases aV
    replace dq:=D.cell dq;have a6:=Ji.o j ad;obtain⟨x,AH⟩:∃x,A[j+1]=x:=⟨_,rfl⟩;obtain⟨y,YI⟩:∃y,A[j]' aE=y:=⟨_,rfl⟩;simp only[AH,YI]at a6 bJ r0 dq;have vj:∀W,Ext wr W->W.cell? ⟨b,o+j,none⟩=some (H (y:Int)):=λW h=>h.cell dq
    have RK:¬((x:Int)<=y):=aE;have YJ:((j+1:Nat):Int)-1=(j:Int):=aE;have akw:(j:Int)<A:=aE;have fR:(0:Int)<((j+1:Nat):Int):=aE;have eo:=z bJ;have dt:=z vj;obtain⟨q,aW⟩:∃q:Nat,q=j+1:=⟨_,rfl⟩;rw[<-aW]at YJ fR nc;have aBV:wr.cell? ⟨b,o+q,none⟩=some (H x):=by rw[aW];exact r0
    exact ak7
  ·obtain rfl:k=A.length:=aE;exact FH
theorem aBW(g:Nat)(g1:∀args w,(callFunc g args).run prog w= .ok (.enter g args) w)(v:K)(A:List Nat)(X:A.length<=1000000)(gd:tF (· < ·) A)(w:G)(hv:aS w 1 iC v A)(f2:∀x∈A,∀W,Calls prog g #[M (x:Int)] W λr F=>r=aI (av true)/\Ext W F):aM 56 #[v,.func (.func g) #[] #[]] w (av true):=by
 obtain⟨a,c,rfl,-,bV⟩:=IJ hv;have gt:=z bV;have oB:=z f2;have Ji:=z gd;clear bV hv f2 gd;unfold aM;go_in;go_wp2_with fail;go_loopw [9] (λi wr=>∃k:Nat,k<=A/\i=H k/\Ext w wr) (λi _=>A.length-(intOf i).toNat)
 case atStart=>exact Ni
 case round=>
  obtain⟨k,hk,rfl,D⟩:=hrel;have aT:=z D;by_cases ad:k<A
  ·have bJ:=λW=>oB.o A[k] (eB ad) W
   obtain⟨b,o,rfl,r0⟩:=gt.o k ad;replace r0:=D.cell r0;have nc:(k:Int)<A:=aE;by_cases ae:k=0
   ·exact ak8
   ·obtain⟨j,rfl⟩:∃j,k=j+1:=⟨k-1,aE⟩;obtain⟨b2,o2,aV,dq⟩:=gt.o j aE;cases aV
    replace dq:=D.cell dq;have a6:=Ji.o j ad;obtain⟨x,AH⟩:∃x,A[j+1]=x:=⟨_,rfl⟩;obtain⟨y,YI⟩:∃y,A[j]' aE=y:=⟨_,rfl⟩;simp only[AH,YI]at a6 bJ r0 dq;have vj:∀W,Ext wr W->W.cell? ⟨b,o+j,none⟩=some (M (y:Int)):=λW h=>h.cell dq
    have RK:¬((x:Int)<=y):=aE;have YJ:((j+1:Nat):Int)-1=(j:Int):=aE;have akw:(j:Int)<A:=aE;have fR:(0:Int)<((j+1:Nat):Int):=aE;have eo:=z bJ;have dt:=z vj;obtain⟨q,aW⟩:∃q:Nat,q=j+1:=⟨_,rfl⟩;rw[<-aW]at YJ fR nc;have aBV:wr.cell? ⟨b,o+q,none⟩=some (M x):=by rw[aW];exact r0
    exact ak7
  ·obtain rfl:k=A.length:=aE;exact FH
end LT
def ak9(h:S:=by have:∀i,i<6->(d5.U2 i).toList.isEmpty=false:=jE;exact this _ aE):S:=h
def ala(h:S:=by have ev:=z eV;unfold aM;go_in;go_wp2_with(refine ak (ev.o _) ?_;intro I Q);go_ret;exact⟨ay,Q⟩):S:=h
namespace LT
variable{B bb n0:Nat}{W:G}{a b c d e f g h i j k l m u:K}
theorem aBX(c:dQ)(h:c.act=0)(w:G):aM 53 #[vO c] w (av false):=by unfold vO;rw[h];have b:=bA w (J #[N (str c.nm),M ((0:Nat):Int)] 121);have c1:=aG b 1;unfold aM;go_in;go_wp;go_ret;exact Dn
theorem aBY(a:Int)(h:0<=a/\a<6)(w:G):aM 55 #[H a] w (av true):=by
 have eV:=λW=>d5.KJ a W
 have bO:(d5.xX a).toList.isEmpty=false:=by unfold d5.xX;rw[aF h];exact ak9
 generalize d5.xX a=s at *;exact ala
theorem aBZ(n:Nat)(h:∃x∈rZ.vW,x.2=n)(w:G):aM 57 #[M n] w (av true):=by
 have eV:=λW=>rZ.Gl n W
 have bO:(rZ.str (rZ.ofL rZ.vW n)).toList.isEmpty=false:=by obtain⟨x,D,rfl⟩:=h;have:∀x∈rZ.vW,(rZ.str (rZ.ofL rZ.vW x.2)).toList.isEmpty=false:=jE;exact this x D
 generalize rZ.ofL rZ.vW n=s at *;exact ala
def iX(p:bP)(s:dS):K:=bg (cK p s).toArray
def pY{t:dD}(V:W.heap[B]?=some (J #[a,b,c,d,e,f,g,h,i,j,k,l,m] t (0,0))):W.cell? B=some a/\W.cell? ⟨B,1,none⟩=some b/\W.cell? ⟨B,2,none⟩=some c/\W.cell? ⟨B,3,none⟩=some d/\W.cell? ⟨B,4,none⟩=some e/\W.cell? ⟨B,5,none⟩=some f/\W.cell? ⟨B,6,none⟩=some g/\W.cell? ⟨B,7,none⟩=some h/\W.cell? ⟨B,8,none⟩=some i/\W.cell? ⟨B,9,none⟩=some j/\W.cell? ⟨B,10,none⟩=some k/\W.cell? ⟨B,11,none⟩=some l/\W.cell? ⟨B,12,none⟩=some m:=
 ⟨aG V 0,aG V 1,aG V 2,aG V 3,aG V 4,aG V 5,aG V 6,aG V 7,aG V 8,aG V 9,aG V 10,aG V 11,aG V 12⟩
theorem YK(p:bP)(s:dS)(h:iW p)(w:G)(hr:rD w p s)(ie:p.ar.length<=1000)(pZ:p.fa.length<=1000):aM 30 #[iX p s] w (av true):=by
 have Ep:=xZ h.lc;have alb:=xZ h.fc;have cq:=λW (D:Ext w W)=>aBh 53 (enters_of func53 aj rfl) (λ_=>false) _ p.lc aE W (hr.lc.ext D) (λx ag a8 _=>aBX x (h.lg x ag) a8)
 have w1:p.lc.any (λ_=>false)=false:=ay;rw[w1]at cq;have bS:=λW (D:Ext w W)=>aBU 55 (enters_of func55 aj rfl) _ p.ar aE h.ar.2 W (hr.ar.ext D) (λx ag a8=>aBY x (h.ar.1 x ag) a8)
 have z1:=λW (D:Ext w W)=>aBW 57 (enters_of func57 aj rfl) _ p.fa aE h.fa.2 W (hr.fa.ext D) (λx ag a8=>aBZ x (h.fa.1 x ag) a8)
 have co:=λW (D:Ext w W)=>MK p.fm _ p.fc aE W (hr.fc.ext D)
 have da:=λW (D:Ext w W)=>MK p.lm _ p.lc aE W (hr.lc.ext D)
 rw[h.fc]at co;rw[h.lc]at da;obtain⟨dp,eC⟩:=h.sp;have w7:=h.dn;have zr:=h.fd;obtain⟨ar,fm,fc,dn,lm,lc,fa,fd,sp,we,pe,rt,np⟩:=p;obtain⟨a0,c0,JP,JR,Hm,Hn,NE,NF⟩:=s;unfold iX cK;unfold q9 at co da;dsimp only at *;have b:=bA w (J #[E a0 ar c0,aC fm,E JP fc JR,M dn,aC lm,E Hm lc Hn,E NE fa NF,aC fd,aA (sp:Int),av we,av pe,av rt,av np] 36);obtain⟨y0,y1,y2,tn,xe,xf,E2,Hk,Hi,-⟩:=pY b;have ce:=z b;have bC:=z (ah cq (ah bS (ah z1 (ah co da))));have NG:=z (λW=>rZ.ER W);generalize rZ.orL rZ.uI=OR at *;have aAZ:(fd:Int)<=2:=aE;have YL:((fd:Int) !=0)=true\/(((fd:Int) !=0)=false/\fa=[]):=by
  by_cases e:fd=0
  ·right;subst e;exact⟨rfl,zr.2 rfl⟩
  ·left;rw[bne_iff_ne];omega
 have pL:((dn:Int)==2147483648)=true\/(((dn:Int)==2147483648)=false/\(327680:Int)<=dn/\(dn:Int)<=331775):=by
  rcases w7 with e|e
  ·left;subst e;rfl
  ·right;exact⟨iH.2 aE,aE,aE⟩
 rcases pL with pL|⟨pL,aB0,aB1⟩<;>rcases YL with YL|⟨YL,aB2⟩
 all_goals
  (try subst aB2)
  (try simp only[fu]at bC ce E2⊢);unfold aM;go_in;go_upto_region 6 with(first
   |(go_at_call 52;refine ak (bC.o.1 _ ((O _).alloc _)) ?_;intro I Q;have bF:=z (((O w).alloc _).trans Q);obtain⟨aNH,NH,NI,alc,NJ,NK,ald,aNI,NL,-⟩:=pY (aJ ce.o Q))
   |(go_at_call 54;refine ak (bC.o.2.1 _ bF.o) ?_;intro aO ag;have ca:=z (bF.o.trans ag);replace NH:=ag.cell NH;replace NI:=ag.cell NI;replace NJ:=ag.cell NJ;replace NK:=ag.cell NK;replace ald:=ag.cell ald;replace NL:=ag.cell NL)
   |(go_at_call 56;refine ak (bC.o.2.2.1 _ ca.o) ?_;intro bj a';have cL:=z (ca.o.trans a');replace NH:=a'.cell NH;replace NI:=a'.cell NI;replace NJ:=a'.cell NJ;replace NK:=a'.cell NK;replace NL:=a'.cell NL))
  have NM:=z (λx:fG bj=>cL.o.trans x.h);have Gt:=dh NH;have IS:=dh NI;have aNJ:=dh NJ;have aNK:=dh NK;have aNL:=dh NL;refine qR aj aj ?_
  repeat(any_goals(first|go_big_quiet_step ((first|(go_at_call 59;with_reducible exact fA (bC.o.2.2.2.1 _ (NM.o _)))|(go_at_call 59;with_reducible exact fA (bC.o.2.2.2.2 _ (NM.o _)))|(go_at_call 60;with_reducible exact fA (NG.o _))))|quiet_step ((first|(go_at_call 59;with_reducible exact fA (bC.o.2.2.2.1 _ (NM.o _)))|(go_at_call 59;with_reducible exact fA (bC.o.2.2.2.2 _ (NM.o _)))|(go_at_call 60;with_reducible exact fA (NG.o _))))))
  all_goals(refine qN ?_;intro _ jb;obtain⟨x,ii⟩:=jb;subst ii)
  have aT:=z (NM.o x);generalize x.w=gn at *;go_wp;go_ret;exact⟨by first|rfl|simp,aT.o⟩
open j7 (Test Rule PR Filter kX yw kW rX)
def w9:Nat->Nat
 |1=>78
 |2=>79
 |3=>80
 |4=>81
 |5=>82
 |6=>83
 |_=>84
def NN:Array K:= #[.nilFunc,.func (.func (w9 1)) #[] #[],.func (.func (w9 2)) #[] #[],.func (.func (w9 3)) #[] #[],.func (.func (w9 4)) #[] #[],.func (.func (w9 5)) #[] #[],.func (.func (w9 6)) #[] #[],.func (.func (w9 7)) #[] #[]]
theorem YM(w:G):aM 42 #[] w (bg NN):=by unfold aM;go_in;go_wp2_with(refine wpList_store_rowTo rfl 105 (.tmp 0) (.tmp 1) rfl rfl w.heap.size NN rfl rfl 105 _ (bA w _) aj rfl rfl ?_;rw[World.setRow_alloc_new]);exact cO (v:=bg NN) (lQ results42 _ _ _ _ _ _ _ rfl (bA w _) underlying105 rfl aj) rfl ⟨rfl,(O _).alloc _⟩
theorem abs(d:Nat)(h1:0<d)(h2:d<8)(W:G):(Instr.index 105 (bg NN) (H d)).run prog W= .ok (.func (.func (w9 d)) #[] #[]) W:=by
 match d,h1,h2 with
 |1,_,_|2,_,_|3,_,_|4,_,_|5,_,_|6,_,_|7,_,_=>rfl
 |n+8,_,h=>exact absurd h aE
theorem aB3(d:Nat)(h1:0<d)(h2:d<8):∀args w,(callFunc (w9 d) args).run prog w= .ok (.enter (w9 d) args) w:=by
 match d,h1,h2 with
 |1,_,_=>exact enters_of func78 aj rfl
 |2,_,_=>exact enters_of func79 aj rfl
 |3,_,_=>exact enters_of func80 aj rfl
 |4,_,_=>exact enters_of func81 aj rfl
 |5,_,_=>exact enters_of func82 aj rfl
 |6,_,_=>exact enters_of func83 aj rfl
 |7,_,_=>exact enters_of func84 aj rfl
 |n+8,_,h=>exact absurd h aE
def xg(p:bP)(ar:Int):Nat->List Rule
 |1=>wZ ar (λc=>Cy c.act (NA p)) p.fc []
 |2=>wZ ar (λ_=>Nz p) p.lc []
 |3=>[[115,111,99,107,101,116]].foldl (lH ar (ND p) (r9 0 4294967295 (NC p) p.fa)) []
 |4=>YC ar (rZ.IL p.sp rZ.uI)
 |5=>YB ar
 |6=>akW ar
 |_=>akX ar
def yx(p:bP):Nat->Nat
 |1=>Ho p 2147418112
 |2=>Hl p 2147418112
 |_=>2147418112
def Sr(p:bP):Nat->Bool
 |1=>Cw p.fm p.fc true false
 |2=>Cw p.lm p.lc false true
 |3=>Cw p.fd p.fa true false
 |4=> !decide (p.sp=0)
 |5=>p.we
 |6=>p.pe
 |_=>p.rt
def ale{p:bP}(h:iW p):∀x∈p.fa,x<4294967296:=λx D=>by obtain⟨y,bN,rfl⟩:=h.fa.1 x D;have:∀y∈rZ.vW,y.2<4294967296:=Y;exact this y bN
theorem aB4{p:bP}{s:dS}{ar:Int}(d:Nat)(h1:0<d)(h2:d<8)(ac:iW p)(pZ:p.fa.length<=100)(h:ng n0 bb p s ar u 2147418112 [] W)(w0:G)(d6:Ext w0 W)(vj:w0.heap.size<=n0)(gs:n0<=W)(hr:rD w0 p s):Calls prog (w9 d) #[aB (some bb)] W λe F=>Cx n0 bb p s ar (yx p d) (xg p ar d) (Sr p d) W e F:=by
 have Ep:=xZ ac.lc;have alb:=xZ ac.fc
 match d,h1,h2 with
 |1,_,_=>exact aBH h w0 d6 vj gs hr aE
 |2,_,_=>exact aBz h w0 d6 vj gs hr aE
 |3,_,_=>exact aBI h w0 d6 gs hr pZ (ale ac)
 |4,_,_=>exact aBx h gs ac.sp.1
 |5,_,_=>exact aBv h gs
 |6,_,_=>exact aBt h gs
 |7,_,_=>exact aBu h gs
 |n+8,_,h=>exact absurd h aE
end LT
end Go.Proofs.YtopfefhenfineaaGreat
namespace Go.Proofs.YtopfefhenfineaaGreat
open Go.Proofs.Tryz Go.RowKit bh
namespace LT
def alf:∀(l:List Nat),tF (· < ·) l->∀i (h:i<l.length),i<=l[i]
 |l,a6,0,_=>eG _
 |l,a6,i+1,h=>by have h1:=alf l a6 i aE;have h2:l[i]<l[i+1]:=a6 i h;omega
def Sv{l:List Nat}(a6:tF (· < ·) l){n:Nat}(h:∀x∈l,x<n):l.length<=n:=by
 by_cases e:l.length=0
 ·omega
 ·have h1:=alf l a6 (l-1) aE;have h2:=h _ (eB (show l.length-1<l.length from aE));omega
def iW.la{p:bP}(h:iW p):p.ar.length<=6:=by
 have a6:tF (· < ·) (p.ar.map Int.toNat):=λi hi=>by rw[dL]at hi;have h1:=h.ar.2 i hi;have h2:=h.ar.1 _ (eB (show i<p.ar.length from aE));simp only[rQ];show Int.toNat _<Int.toNat _;have T:p.ar[i]<p.ar[i+1]:=h1;omega
 have:=Sv a6 (n:=6) (λx D=>by obtain⟨y,bN,rfl⟩:=iJ.1 D;have:=h.ar.1 y bN;omega)
 rwa [dL]at this
def iW.lf{p:bP}(h:iW p):p.fa.length<=100:=Sv h.fa.2 λx D=>by obtain⟨y,bN,rfl⟩:=h.fa.1 x D;have:∀y∈rZ.vW,y.2<100:=Y;exact this y bN
end LT
variable{S:Prop}
def alg(h:S:=by exact⟨cB (wm _ _ _ _ _) Y,CF Y (YN Y Y Y (c1 _ rfl)) Y _ nil⟩):S:=h
namespace LT
open j7 (Test Rule sZ Ce)
variable{cP mk:Nat}{ar:Int}{l:List Nat}
def aB5(a:Int)(s:List aL):(wM a s).1<4294967296:=by
 unfold wM;split
 ·decide
 rename_i e bx;have h:=acn e (List.mem_of_find?_eq_some bx);have hn:(e.nr a).toNat<1073741824:=by unfold tK.nr;(repeat' split)<;>omega
 have bL:(vI e a).1<4294967296:=by
  unfold vI;split
  ·decide
  show(if a=2 then _ else _)<_;split
  ·exact Nat.or_lt_two_pow (n:=32) aE Y
  ·omega
 split
 ·exact bL
 ·decide
def CG(r:Rule):Prop:=sZ r/\r.tests.length<=300
def alh{ts:List Test}{aN:List Rule}(n:List aL)(ep:cP<4294967296)(an:∀t∈ts,Ce t)(X:ts.length<=300)(h:∀r∈aN,CG r):∀r∈lH ar cP ts aN n,CG r:=by
 unfold lH;split
 ·intro r hr;rcases iZ.1 hr with h1|h1
  ·exact h r h1
  ·rw[pI.1 h1];exact⟨⟨aB5 _ _,ep,cB X Y,an⟩,X⟩
 ·exact h
def CF{ar:Int}{cP:Nat}{ts:List Test}(ep:cP<4294967296)(an:∀t∈ts,Ce t)(X:ts.length<=300):∀(ns:List (List aL)) {aN:List Rule},(∀r∈aN,CG r)->∀r∈ns.foldl (lH ar cP ts) aN,CG r
 | [],_,h=>h
 |n::ns,_,h=>CF ep an X ns (alh n ep an X h)
def YO{ar:Int}{own:dQ->Nat}:∀(U:List dQ) {aN:List Rule},(∀c∈U,own c<4294967296)->(∀r∈aN,CG r)->∀r∈wZ ar own U aN,CG r
 | [],_,_,h=>h
 |c::U,_,ao,h=>YO U (λx D=>ao x Ip) (alh c.nm (ao c ay) (λ_ h=>by cases h) ay h)
def YN(bT:0<=ar/\ar<6)(R:mk<18446744073709551616)(ep:cP<4294967296)(X:∀x∈l,x<18446744073709551616):∀t∈r9 ar mk cP l,Ce t:=λt an=>by obtain⟨x,D,rfl⟩:=iJ.1 an;exact⟨by show _<=ar;omega,by show ar<=_;omega,R,X x D,ep⟩
def NP(bT:0<=ar/\ar<6)(ep:cP<4294967296)(X:∀x∈l,x<18446744073709551616):∀t∈ni ar cP l,Ce t:=λt an=>by obtain⟨x,D,rfl⟩:=iJ.1 an;exact⟨by show _<=ar;omega,by show ar<=_;omega,X x D,X x D,ep⟩
def aB6(a:Nat):∀x∈rZ.IL a rZ.uI,x<18446744073709551616:=by
 have h:∀l:List rZ.Nm,(∀y∈l,y.2<18446744073709551616)->∀x∈rZ.IL a l,x<18446744073709551616:=λl=>by
  induction l with
  |nil=>intro _ x D;cases D
  |cons y r b9=>
   intro X x D;rcases iZ.1 D with h1|h1
   ·split at h1
    ·rw[pI.1 h1];exact X y ay
    ·cases h1
   ·exact b9 (λaR bL=>X aR (by simp[bL])) x h1
 exact h _ Y
def YP{p:bP}(ac:iW p)(a:Int)(d:Nat):(xg p a d).length<=300/\∀r∈xg p a d,CG r:=by
 have w7:p.dn<4294967296:=by rcases ac.dn with h|h<;>omega
 have alb:p.fc.length<=40:=xZ ac.fc;have Ep:p.lc.length<=40:=xZ ac.lc;have pZ:=ac.lf;have ep:∀c∈p.fc,c.act<4294967296:=λc ao=>by have h1:=ac.fc;unfold iE at h1;simp only[dV]at h1;have h2:=((M5 _).1 h1.2.2).1 c ao;unfold GN wP at h2;simp only[dV,qM,jC,iM]at h2;omega
 have nil:∀r∈([]:List Rule),CG r:=λ_ h=>by cases h
 have c1:∀l:List Nat,l.all (· <18446744073709551616)=true->∀x∈l,x<18446744073709551616:=λl X x D=>by simpa using List.all_eq_true.1 X x D
 unfold xg;split
 ·refine⟨cB (Ny _ _ _ _) dU,YO _ (λc ao=> ?_) nil⟩;have:=ep c ao;unfold Cy NA;(repeat' split)<;>omega
 ·refine⟨cB (Ny _ _ _ _) dU,YO _ (λc ao=> ?_) nil⟩;unfold Nz;split<;>decide
 ·refine⟨cB (wm _ _ _ _ _) Y,CF ?_ (YN Y Y ?_ (λx D=>by have:=ale ac x D;omega)) (by unfold r9;rw[dL];omega) _ nil⟩
  ·unfold ND;split<;>decide
  ·unfold NC;split<;>decide
 ·have co:=akZ p.sp;have da:=aB6 p.sp;unfold YC;refine⟨cB (wm _ _ _ _ _) ?_,CF Y (λ_ h=>by cases h) ay _ (CF Y (λt an=> ?_) ?_ _ (CF Y (NP Y Y da) (by unfold ni;rw[dL];omega) _ nil))⟩
  ·have h1:=wm a 2147418112 (ni 1 327681 (rZ.IL p.sp rZ.uI)++r9 1 4294967295 327681 [0]) [[115,101,116,110,115]] ([[117,110,115,104,97,114,101],[99,108,111,110,101]].foldl (lH a 2147418112 (ni 0 327681 (rZ.IL p.sp rZ.uI))) []);have h2:=wm a 2147418112 (ni 0 327681 (rZ.IL p.sp rZ.uI)) [[117,110,115,104,97,114,101],[99,108,111,110,101]] [];simp only[dJ,fu]at h1 h2⊢;omega
  ·rcases iZ.1 an with h|h
   ·exact NP Y Y da t h
   ·exact YN Y Y Y (c1 _ rfl) t h
  ·unfold ni r9;rw[dA,dL,dL];simp only[dJ,fu];omega
 ·unfold YB;refine⟨cB (wm _ _ _ _ _) ?_,CF Y (NP Y Y (c1 _ rfl)) Y _ (CF Y (NP Y Y (c1 _ rfl)) Y _ (CF Y (NP Y Y (c1 _ rfl)) Y _ nil))⟩;have h1:=wm a 2147418112 (ni 2 327681 [4]) [[109,112,114,111,116,101,99,116],[112,107,101,121,95,109,112,114,111,116,101,99,116]] ([[109,109,97,112]].foldl (lH a 2147418112 (ni 2 327681 [6])) []);have h2:=wm a 2147418112 (ni 2 327681 [6]) [[109,109,97,112]] [];simp only[dJ,fu]at h1 h2⊢;omega
 ·exact alg
 ·exact alg
def ali{p:bP}(ac:iW p)(d:Nat):yx p d<4294967296:=by
 have w7:p.dn<4294967296:=by rcases ac.dn with h|h<;>omega
 unfold yx Ho Hl;(repeat' split)<;>omega
end LT
end Go.Proofs.YtopfefhenfineaaGreat
