import Derived.Test.YtopfefhenfineaaGreatP13
import Derived.Laws.EntriesVeiled
import Derived.RegionIn
import Derived.Stop.RegionWithIn
import Derived.Sort.CutIn
import Derived.Sort.QuietIn
set_option linter.all false
set_option maxRecDepth 100000
set_option maxHeartbeats 8000000
namespace Go.Proofs.YtopfefhenfineaaGreat
open Go.Proofs.Tryz Go.RowKit Go.Shelf bh
attribute[local go_sem] Oper.semAt_some bh.Oper.idle bh.Oper.lV bh.Oper.jF
variable{S:Prop}
def afk(h:S:=by obtain⟨Bx,bk,bW,d7⟩:=ab;exact⟨Bx,bk,jl bW hg (λr e=>(hr r e).2),d7⟩):S:=h
def afl(h:S:=by
 intro b o c' e ae;obtain⟨e4,fe,cU,r0,-⟩:=bV 0 ae;simp only[eZ]at e;rw[e.1]at cU;obtain⟨rfl,rfl⟩:b=e4/\o=fe:=by simpa using cU
 exact gD _ _ r0):S:=h
def WB(h:S:=by exact(fI _ _ _ k hk).trans ((fI _ _ _ k hk).trans ((fI _ _ _ k hk).trans (fI _ _ _ k hk)))):S:=h
def afm(h:S:=by
 have hj:=(dG.1 bK.o).1;exact⟨(k9.o.2.2.2.2.2.2.2.trans (⟨Ext.size j2.o,λk o hk _=>aJ hk j2.o⟩:KeepsOthers f6 hz)).from _,
  ((k9.o.2.2.2.2.2.2.1.mono (λk hk=>by rcases hk with hk|hk<;>exact⟨aE,aE,aE⟩):bh.Keep (λk=>k<w.heap.size\/k=I.heap.size+2) W f6)).trans (bh.Keep.of_below j2.o (λk hk=>by have:=k9.o.2.2.2.2.2.2.1.size;rcases hk with hk|hk<;>omega)),
  eb.o hz y cI.o (gP k9.o.2.1 j2.o) (aJ k9.o.2.2.2.1 j2.o) (aJ k9.o.2.2.2.2.1 j2.o) (aJ k9.o.2.2.2.2.2.1 j2.o) (wQ k9.o.1 j2.o)⟩):S:=h
namespace LT
open jG (aD sP dI gQ mR dx eU gK ig)
variable{aq B W aa w:G}{L l o A:List aD}{b base c e g i n q:Nat}{row:Option Nat}
def jl{k:Nat}{U:Array K}{t:dD}{fr:Nat×Nat}(V:aq.heap[k]?=some (J U t fr))(hg:aq.grownBy B row)(hr:∀r,row=some r->∃o:Obj,aq.heap[r]?=some o/\o.isCells=false):B.heap[k]?=some (J U t fr):=by
 refine(hg.block k (dG.1 V).1 (λe=> ?_)).trans V;obtain⟨o,ho,ao⟩:=hr k e.symm;rw[V]at ho;cases ho
 cases ao
def WC{k:Nat}{v:K}{b3:List K}(h:aq.ownsRow base e n v k b3)(hg:aq.grownBy B row)(hr:∀r,row=some r->∃o:Obj,aq.heap[r]?=some o/\o.isCells=false):B.ownsRow base e n v k b3:=by
 refine⟨h.1,?_⟩;rcases h.2 with h2|⟨g,cap,bm,rfl,T,af,r⟩
 ·exact .inl h2
 ·exact .inr ⟨g,cap,bm,rfl,T,jl af hg hr,r⟩
theorem av0(B g c:Nat)(out:List aD)(W:G)(fO:W.cell? B=some (E (some g) out c))(hr:aS W 4 dI (E (some g) out c) out)(R:∀i (h:i<out.length),∃n,eU n i out[i]=true)(j:Nat)(Z:j<out):Calls prog 363 #[H j,aB (some B)] W λr F=>r=aI (H (nD out j:Int))/\Ext W F:=by
 obtain⟨bu,c',e,-,bV⟩:=ig hr;simp only[eZ]at e;obtain⟨rfl,-,rfl⟩:=e;obtain⟨jX,o,aV,r0,-,ei,-⟩:=bV j Z;simp only[jB,pJ,and_true]at aV;obtain⟨rfl,rfl⟩:=aV;rw[gF]at r0 ei;have nX:=QS Z;obtain⟨n,afn⟩:=R j Z;have bL:(j:Int)<out:=aE;have aQ:out[j].c=5->(out[j].th.toNat:Int)=out[j].th:=λh=>by rcases sV afn with⟨bk,-⟩|⟨bk,-⟩|⟨-,-,-,g3,hV⟩|⟨-,-,-,-,bk,-⟩<;>omega
 clear bV hr R afn;generalize nD out j=aY at *;generalize out[j]=s at *;obtain⟨go,g5,pi,pP⟩:=s;dsimp only at *;have s4:((go:Int)==5)=decide (go=5):=by rw[dW];simp;omega
 by_cases h:go=5
 ·rw[aF h]at nX;have aW:=aQ h;rw[dH h]at s4;rw[nX,aW];clear aQ nX aW h;go_in;exact FN
 ·rw[au h]at nX;rw[dM h]at s4;subst nX;clear aQ h ei;go_in;exact FN
def Gq(l:List aD)(o:List aD)(x:Fin l):List aD:=o.set x.1 (kI o (l[x.1]'x.2))
def N5(l:List aD)(e5:List (Fin l)):List aD:=e5.foldl (Gq l) l
def afo(l:List aD)(e5:List (Fin l))(x:Fin l):N5 l (e5++[x])=(N5 l e5).set x.1 (kI (N5 l e5) (l[x.1]'x.2)):=by simp[N5,Gq]
def av1(l:List aD)(e5:List (Fin l)):(N5 l e5).length=l.length:=by
 unfold N5
 suffices h:∀(e5:List (Fin l)) (o:List aD),o.length=l->(e5.foldl (Gq l) o).length=l.length from h e5 l rfl
 intro e5
 induction e5 with
 |nil=>intro o h;exact h
 |cons x e5 b9=>intro o h;exact b9 _ (by unfold Gq;rw[kD];exact h)
def afq{l:List aD}:∀(n k:Nat)(h:n+k=l.length),wR l n (N5 l (kH l k aE))=N5 l (kH l l (aZ _))
 |0,k,h=>by have:k=l.length:=aE;subst this;rfl
 |n+1,k,h=>by have hn:n<l:=aE;show(match l[n]? with|some s=>wR l n ((N5 l (kH l k _)).set n (kI (N5 l (kH l k _)) s))|none=>wR l n (N5 l (kH l k _)))=_;rw[dK hn];dsimp only;rw[<-afq n (k+1) aE,QN _ _ aE,afo];have e:l.length-1-k=n:=aE;simp only[e]
def av2(l:List aD):lu l=N5 l (kH l l (aZ _)):=by
 have:=afq (l:=l) l 0 aE;rw[<-this];have e:N5 l (kH l 0 (eG _))=l:=by unfold kH N5;rfl
 rw[e];rfl
def av3(h:dx l=true)(X:o.length=l)(ho:∀i (hi:i<o.length),eU l i o[i]=true)(aW:q<l.length):eU l q (kI o l[q])=true:=by
 have rI:eU l q (gX (nD o) l[q])=true:=WE (jG.jy h aW) (λt h1 h2=>by
  have st:t<o:=aE;have WD:=ho t st;rw[QS st];split
  ·rename_i aQ;rcases sV WD with⟨bk,-⟩|⟨bk,-⟩|⟨-,-,-,g3,hV⟩|⟨-,-,-,-,bk,-⟩<;>omega
  ·omega)
 unfold kI;split
 ·rename_i V;simp only[dV]at V;rcases sV rI with⟨bk,-⟩|⟨bk,-⟩|⟨bk,-⟩|⟨-,-,-,-,-,⟨g3,hV⟩,-⟩
  ·rw[rW]at bk;exact absurd bk (vQ V.1).1
  ·rw[rW]at bk;have:=vQ V.1;omega
  ·rw[rW]at bk;have:=vQ V.1;omega
  ·exact QT rfl rfl rfl g3 hV
 ·exact rI
def av4(h:dx l=true)(e5:List (Fin l)):∀i (hi:i<(N5 l e5).length),eU l i (N5 l e5)[i]=true:=by
 unfold N5
 suffices be:∀(e5:List (Fin l)) (o:List aD),o.length=l->(∀i (hi:i<o.length),eU l i o[i]=true)->∀i (hi:i<(e5.foldl (Gq l) o).length),eU l i (e5.foldl (Gq l) o)[i]=true from
  be e5 l rfl (λi hi=>jG.jy h hi)
 intro e5
 induction e5 with
 |nil=>intro o _ ho;exact ho
 |cons x e5 b9=>
  intro o X ho;refine b9 _ (by unfold Gq;rw[kD];exact X) (λi hi=> ?_);have R:=av3 h X ho x.2;have p3:i<(o.set x.1 (kI o (l[x.1]'x.2))).length:=hi;show eU l i ((o.set x.1 (kI o (l[x.1]'x.2)))[i]'p3)=true;rw[List.getElem_set];split
  ·rename_i e;subst e;exact R
  ·exact ho i _
def afr(h:w.ownsRow base 407 4 (E (some g) L c) L (L.flatMap dI))(hi:i<L)(y:aD):((((w.setCell ⟨g,i*4,none⟩ (bf y.c)).setCell ⟨g,i*4+1,none⟩ (M y.k)).setCell ⟨g,i*4+2,none⟩ (H y.th)).setCell ⟨g,i*4+3,none⟩ (H y.el)).ownsRow base 407 4 (E (some g) L c) L ((L.set i y).flatMap dI):=by
 have t2:∀aR:aD,(L.set i aR).length=L.length:=λaR=>kD
 have h1:=(vD gQ h i 0 (bf y.c) ⟨y.c,L[i].k,L[i].th,L[i].el⟩ hi Y rfl).1;have step:∀ {W:G} {aR:aD} (j:Nat) (u:K) (B1:aD),W.ownsRow base 407 4 (E (some g) L c) L ((L.set i aR).flatMap dI)->j<4->dI B1=(dI aR).set j u->
  (W.setCell ⟨g,i*4+j,none⟩ u).ownsRow base 407 4 (E (some g) L c) L ((L.set i B1).flatMap dI):=λ{W aR} j u B1 h Z bx=>by
  rw[<-t2 aR]at h;have:=(vD gQ h i j u B1 (by rw[t2];exact hi) Z (by rw[List.getElem_set_self];exact bx)).1;rw[List.set_set,t2]at this;exact this
 rw[nO]at h1;exact step 3 (H y.el) y (step 2 (H y.th) ⟨y.c,y.k,y.th,L[i].el⟩ (step 1 (M y.k) ⟨y.c,y.k,L[i].th,L[i].el⟩ h1 Y rfl) Y rfl) Y rfl
abbrev Aw(b:Nat):K:= .func (.func 363) #[] #[aB (some b)]
structure Ed(w:G)(A:List aD)(b g c:Nat)(k:List (Fin A))(W:G):Prop where
 ext:Ext w W
 bo:Boxed W b 215 (E (some g) A c)
 bc:Boxed W (b+1) 439 (Aw b)
 own:W.ownsRow w 407 4 (E (some g) A c) A ((N5 A k).flatMap dI)
def Ed.ext'{k:List (Fin A)}(h:Ed w A b g c k W)(D:Ext W aa):Ed w A b g c k aa:=⟨h.ext.trans D,aJ h.bo D,aJ h.bc D,wQ h.own D⟩
theorem av5(v:K)(A:List aD)(X:A.length<=1000000)(R:dx A=true)(w:G)(hv:aS w 4 dI v A):Calls prog 287 #[v] w λe F=>∃a c,e=aI (E a A c)/\Ext w F/\F.ownsRow w 407 4 (E a A c) A ((lu A).flatMap dI):=by
 have cq:=aeS v A X w hv;have oX:=jG.mV R;obtain⟨a,c,rfl,ep,bV⟩:=ig hv;have rL:∀b o c',Value.slice a A c=E (some ⟨b,o,none⟩) A c'->0<A.length->b<w.heap.size:=afl
 have dt:=z cq;have k1:=z hv;have cW:=z R;have IR:=z rL;clear cq hv bV rL R;refine(eP (n:=4)).1 ?_;refine callsIn_of_wp_marks func287 rfl trivial ?_ rfl;simp only[ntmps287,ku,dJ,fu,Nat.reduceAdd,Nat.reduceSub,oD,oC,oH,oG,iq,gZ];gi_wp2_with(refine⟨trivial,?_⟩;gi_at_call 362;refine(eP.2 dt.o).mono ?_;rintro e I ⟨a1,c1,rfl,Q,d4⟩;have H1:=z (ah Q d4);clear Q d4);have aMx:=oX;obtain⟨g,c2,aV,Gh,tS,-⟩:=zV H1.o.2 oX;simp only[eZ,true_and]at aV;obtain⟨rfl,rfl⟩:=aV;have WF:Ed w A I g c1 [] ((I.alloc (J #[E (some g) A c1] 215)).alloc (J #[Aw I.heap.size] 439)):=by have b2:=Boxed.new (I.alloc (J #[E (some g) A c1] 215)) 439 (Aw I);rw[dR]at b2;exact⟨(H1.o.1.alloc _).alloc _,(Boxed.new I 215 _).alloc _,b2,(H1.o.2.alloc _).alloc _⟩
 have dp:w.heap.size<I:=aE;obtain⟨a8,b'⟩:∃a8,a8=(I.alloc (J #[E (some g) A c1] 215)).alloc (J #[Aw I.heap.size] 439):=⟨_,rfl⟩;have eC:a8.heap.size=I.heap.size+2:=by rw[b'];simp
 rw[<-b']at WF⊢;have hB:=ae9 a A c a8;have n3:=bA a8 (J #[E a A c] 215);obtain⟨cd,fh⟩:∃cd,cd=a8.alloc (J #[E a A c] 215):=⟨_,rfl⟩;rw[<-fh]at hB n3;have WG:Ed w A I g c1 [] cd:=by rw[fh];exact WF.ext' ((O _).alloc _)
 have gj:cd.heap.size=I+3:=by rw[fh];simp[eC]
 rw[eC]at hB n3;have ce:=z hB;have cL:=z WG;have hC:=z gj;have s3:=z n3;have a':Ext w cd:=WG.ext;have av6:=z a';clear hB b' fh WF WG eC gj n3 a' H1;refine⟨trivial,?_⟩;refine iN (eP.2 ce.o) ?_;rintro F rfl;gi_wp2;have h1:1<=4:=aE;refine wpIn_rangeFunc_ownH (w0:=cd) rfl h1 (gf:=357) (lb:= #[aB (some ⟨I+2,0,none⟩)]) rfl trivial (enters_of func357 aj rfl)
  (afb (I+2) _ A aE cd (λk=>k<w.heap.size\/k=I.heap.size+2) (by rw[hC.o];omega) (.inr rfl) (aG s3.o 0) (k1.o.ext av6.o) (λb o c' e ae=> .inl (IR.o b o c' e ae)))
  Po (λW l o fe X _ _ _=>⟨rfl,rfl,rfl,ay,λk hk=>World.putObj_heap_other (λe=>by have:=hC.o;omega)⟩) (Below.refl _ _) (λ_=>rfl)
  (λpre W=>Ed w A I g c1 pre W/\W.heap[I.heap.size+2]?=some (J #[E a A c] 215 (0,0)))
  (λ_ _ _=>False)
  (λs aq B row ab hg hr=> ?se)
  (λ_ _ _ _ _ ab _ _=>ab)
  ⟨cL.o,s3.o⟩
  (λx bu W=>∃Bx,I.heap.size+3<=Bx/\W.heap[Bx]?=some (J #[bf (A[x].c:Int),M (A[x].k:Int),H A[x].th,H A[x].el] 407 (0,0))/\
   bu= {tmps:= #[E a A c,undef,E none 0 0,
    aB (some I),
    aB (some ⟨I+1,0,none⟩),H ((x:Nat):Int),aB (some Bx),E a A c,
    E (some g) A c1,Aw I.heap.size,
    E a A c,.func (.func 357) #[] #[aB (some ⟨I+2,0,none⟩)],H ((x:Nat):Int),sS A[x],undef,undef,undef,undef,undef,undef,undef,
    undef,undef,undef,undef,undef,undef,undef,undef,undef,undef,undef,undef,undef,undef,
    undef,undef,undef,undef,undef,undef,undef,undef],defers:= []})
  (λx bu _ aP Ad row ab hg hr=> ?sk)
  ?assign ?body ?done ?stop
 case se=>
  obtain⟨h1,h2⟩:=ab;have cQ:=λr e=>(hr r e).2
  exact⟨⟨h1.ext.grown hg (λk e=>by have:=(hr k e).1;have:=hC.o;omega),jl h1.bo hg cQ,jl h1.bc hg cQ,WC h1.own hg cQ⟩,jl h2 hg cQ⟩
 case sk=>exact afk
 case assign=>rintro l pre x W aX ⟨h1,h2⟩ am;have ge:=h1.bc.lt;have ci:=(dG.1 h2).1;unfold sS;gi_wp2;exact am _ _ ((KeepsOthers.alloc _ _).from _) (Keep.of_below ((Below.refl W W).alloc (aZ _) _) (λk hk=>by rcases hk with hk|hk<;>omega)) ⟨h1.ext' ((O _).alloc _),aJ h2 ((O _).alloc _)⟩ ⟨W.heap.size,aE,bA W _,rfl⟩
 case body=>
  rintro l pre x bu W X ⟨r,hr⟩ ⟨h1,h2⟩ ⟨Bx,FW,h3,rfl⟩ ad;obtain⟨q,aW⟩:=x;simp only[Fin.getElem_fin]at h3⊢;have g0:=afo A pre ⟨q,aW⟩;dsimp only at g0;have ey:=av1 A pre;have Ax:=av4 cW.o pre;have QP:=jG.jy cW.o aW;have cc:=h1.own;obtain⟨out,g0,ey,Ax,cc⟩:∃out:List aD,N5 A (pre++[⟨q,aW⟩])=out.set q (kI out A[q])/\out.length=A/\(∀i (hi:i<out.length),eU A i out[i]=true)/\W.ownsRow w 407 4 (E (some g) A c1) A (out.flatMap dI):=⟨_,g0,ey,Ax,cc⟩;rw[<-ey]at cc;have Gr:q<out.length:=aE;have m5:=h1.bc.lt;have aMy:g<W.heap.size:=(cc.lt g rfl).2;have hx:=(dG.1 h3).1;have Bk:g≠Bx:=aE;have am:∀aP,Ext W aP->aP.heap[W.heap.size]?=some (J #[bf (A[q].c:Int),M (A[q].k:Int),H A[q].th,H A[q].el] 407 (0,0))->
   Calls prog 360 #[E (some W) 1 1,Aw I.heap.size] aP λe bQ=>∃mb c5,e=aI (E (some ⟨mb,0,none⟩) 1 c5)/\Hid (Ext aP bQ)/\
    (bQ.cell? mb=some (bf ((gX (nD out) A[q]).c:Int))/\bQ.cell? ⟨mb,1,none⟩=some (M ((gX (nD out) A[q]).k:Int))/\bQ.cell? ⟨mb,2,none⟩=some (H (gX (nD out) A[q]).th)/\bQ.cell? ⟨mb,3,none⟩=some (H (gX (nD out) A[q]).el))/\
    (bQ.cell? ⟨g,q*4,none⟩=some (bf (out[q].c:Int))/\bQ.cell? ⟨g,q*4+1,none⟩=some (M (out[q].k:Int))/\bQ.cell? ⟨g,q*4+2,none⟩=some (H out[q].th)/\bQ.cell? ⟨g,q*4+3,none⟩=some (H out[q].el))/\
    (bQ.frozen? ⟨g,q*4,none⟩=false/\bQ.frozen? ⟨g,q*4+1,none⟩=false/\bQ.frozen? ⟨g,q*4+2,none⟩=false/\bQ.frozen? ⟨g,q*4+3,none⟩=false)/\bQ.cell? I=some (E (some g) A c1):=by
   intro aP g9 V;refine(Ww 363 #[aB (some I)] (enters_of func363 aj rfl) (nD out) A (E (some W) 1 1) [A[q]] ay aP
    (UQ gQ [A[q]] (by simpa[dI]using V)) (λs ab=>by rw[pI.1 ab];exact⟨q,QP⟩) (λt an Ad hu=> ?_)).mono ?_
   ·have afs:=(h1.ext' (g9.trans hu)).bo.cell;rw[<-ey]at afs;exact av0 I g c1 out Ad afs ((eD gQ cc).ext (g9.trans hu)) (λi hi=>⟨_,Ax i hi⟩) t aE
   ·rintro e bQ ⟨a5,c5,rfl,bR,d0⟩;obtain⟨mb,c6,kh,-⟩:=zV (A:=oO (nD out) [A[q]]) d0 (by show 0<1;decide);simp only[oO,fK,kE,xG,eZ,true_and]at kh;obtain⟨rfl,rfl⟩:=kh;obtain⟨r0,dq,ei,eM,-⟩:=Ar (L:=oO (nD out) [A[q]]) d0 (k:=0) (by show 0<1;decide);obtain⟨e9,et,fp,k5,QQ⟩:=Ar (wQ cc (g9.trans bR)) Gr;exact⟨mb,c5,rfl,bR,⟨by simpa[oO]using r0,by simpa[oO]using dq,by simpa[oO]using ei,by simpa[oO]using eM⟩,⟨e9,et,fp,k5⟩,⟨QQ _,QQ _,QQ _,QQ _⟩,(h1.ext' (g9.trans bR)).bo.cell⟩
  obtain⟨aR,bL⟩:∃aR,aR=A[q]:=⟨_,rfl⟩;simp only[<-bL]at h3 g0 QP am⊢;clear bL;obtain⟨y,bN⟩:∃y,y=gX (nD out) aR:=⟨_,rfl⟩;rw[<-bN]at am;have nY:=z bN;have d2:=z am;have gz:=z h1;have bK:=z h2;have h4:=z h3;have LO:=z cc;have Al:=z g0;have av7:=z QP;have IM:=z ey;have aMz:=z Ax;obtain⟨⟨b0,b1,b2,cV⟩,jj⟩:=jY h3;have Wr:=z jj;have fO:=h1.bo.cell;have QR:=h1.bc.cell;have av8:=λo=>(((O W).drew).alloc o).cell fO
  have av9:=λo=>(((O W).drew).alloc o).cell QR
  have awa:=λo=>((O W).alloc o).cell fO
  have awb:=λo=>((O W).alloc o).cell QR
  obtain⟨-,-,-,-,of⟩:=Ar cc Gr;obtain⟨o0,o1,o2,o3,-⟩:=Ar cc Gr;have ad5:=z of;have xT:(q:Int)<A:=aE;clear am h1 h2 h3 cc g0 QP ey Ax bN hr jj of;unfold sS Aw;gi_wp2;have awc:=dh fO;have awd:=dh QR;have Gs:=dh b0;have Gt:=dh b1;have IS:=dh b2;have Mm:=dh cV;refine U9 9 (λaP=>∃x:fG W,aP=x.w) aj ?_;have eQ:∃x:fG W,W.drew=x.w:=⟨⟨W.drew,(O W).drew⟩,rfl⟩;refine z8 0 rfl eQ ?_;refine z8 1 rfl eQ ?_;refine z8 2 rfl eQ ?_;refine z8 4 rfl eQ ?_;refine xR 3 aj rfl (λaX am=> ?_);go_simp;refine am _ _ (λ_=>⟨⟨_,((O W).drew).alloc _⟩,rfl⟩) ?_;clear am aX;refine xR 5 aj rfl (λaX am=> ?_);go_simp;refine⟨trivial,?_⟩;refine(CallsIn.inRound l (eP.2 (d2.o _ (((O W).drew).alloc _) (bA _ _)))).mono ?_;rintro e bQ ⟨mb,c5,rfl,bR,⟨dm,cs,eg,h6⟩,⟨e9,et,fp,k5⟩,⟨f0,dg,fg,mw⟩,awe⟩;have c9:Hid (Ext W bQ):=z (gP (((O W).drew).alloc _) bR.o);clear bR;refine am _ _ (λ_=>⟨⟨_,c9.o⟩,rfl⟩) ?_;clear am aX;refine xR 6 aj rfl (λaX am=> ?_);go_simp;refine am _ _ (λ_=>⟨⟨_,c9.o⟩,rfl⟩) ?_;clear am aX;refine xR 7 aj rfl (λaX am=> ?_);go_simp;refine am _ _ (λ_=>⟨⟨_,c9.o⟩,rfl⟩) ?_;clear am aX;refine xR 8 aj rfl (λaX am=> ?_);go_simp;refine am _ _ (λ_=>⟨⟨_,c9.o⟩,rfl⟩) ?_;clear am aX;refine xR 9 aj rfl (λaX am=> ?_);go_simp;refine am _ _ (λh=>absurd rfl h) ?_;clear am aX;refine U8 aj ?_;dsimp only[bh.Calm,Exit.then];have QU:=gz.o.ext' c9.o;have e8:=aJ h4.o c9.o;have aft:=aJ bK.o c9.o;have d0:=afr (wQ LO.o c9.o) Gr y;obtain⟨q7,t3⟩:∃q7,q7=((((bQ.setCell ⟨g,q*4,none⟩ (bf y.c)).setCell ⟨g,q*4+1,none⟩ (M y.k)).setCell ⟨g,q*4+2,none⟩ (H y.th)).setCell ⟨g,q*4+3,none⟩ (H y.el)):=⟨_,rfl⟩;rw[<-t3]at d0⊢;have IT:∀k,k≠g->q7.heap[k]?=bQ.heap[k]?:=λk hk=>by rw[t3];exact WB
  have dX:Ext w q7:=by rw[t3];exact(((QU.ext.setCell Gg _).setCell Gg _).setCell Gg _).setCell Gg _
  have Ay:bh.Keep (λk=>k≠g) bQ q7:=⟨by rw[t3];rfl,by rw[t3];rfl,by rw[t3];rfl,by rw[t3];simp[World.setCell],IT⟩;have s7:=(IT Bx (λe=>Bk e.symm)).trans e8;have WH:Boxed q7 I 215 (E (some g) A c1):=(IT I aE).trans QU.bo;have afu:Boxed q7 (I+1) 439 (Aw I):=(IT (I+1) aE).trans QU.bc;have afv:=(IT (I+2) aE).trans aft;have afw:bh.Keep (λk=>k<W.heap.size/\k≠g) W q7:=(bh.Keep.of_below c9.o (λk hk=>hk.1)).trans (Ay.mono (λk hk=>hk.2));have afx:KeepsOthers W q7:=(⟨(Ext.size c9.o),λk o hk _=>aJ hk c9.o⟩:KeepsOthers W bQ).trans (by rw[t3];exact(((KeepsOthers.setCell _ _ _).trans (KeepsOthers.setCell _ _ _)).trans (KeepsOthers.setCell _ _ _)).trans (KeepsOthers.setCell _ _ _));have QV:(out.set q y).length=out.length:=kD;rw[<-QV]at d0;obtain⟨r0,dq,ei,eM,rf⟩:=Ar d0 (show q<(out.set q y).length by rw[QV];exact Gr);rw[List.getElem_set_self]at r0 dq ei eM;rw[QV]at d0;have gb:=z (ah d0 (ah dX (ah s7 (ah WH (ah afu (ah afv (ah afw afx)))))));clear dm cs eg h6 e9 et fp k5 f0 dg fg mw awe fO QR av8 av9 awa awb awc awd b0 b1 b2 cV Gs Gt IS Mm o0 o1 o2 o3;have fO:=WH.cell;obtain⟨⟨b0,b1,b2,cV⟩,jj⟩:=jY s7;have awf:=jj 0;have Gj:=jj 1;have awg:=jj 2;have awh:=jj 3;clear QU e8 aft d0 t3 IT dX Ay s7 WH afu afv afw afx QV rf jj;gi_upto_region 8 with(fail)
  obtain⟨f6,qk⟩:∃f6,f6=((((q7.setCell Bx (bf y.c)).setCell ⟨Bx,1,none⟩ (M y.k)).setCell ⟨Bx,2,none⟩ (H y.th)).setCell ⟨Bx,3,none⟩ (H y.el)):=⟨_,rfl⟩;rw[<-qk];have e6:f6.heap[Bx]?=some (J #[bf y.c,M y.k,H y.th,H y.el] 407 (0,0)):=by rw[qk];exact fH (fH (fH (fH gb.o.2.2.1 0 _) 1 _) 2 _) 3 _
  have Mn:∀k,k≠Bx->f6.heap[k]?=q7.heap[k]?:=λk hk=>by rw[qk];exact WB
  have D3:bh.Keep (λk=>k≠Bx) q7 f6:=⟨by rw[qk];rfl,by rw[qk];rfl,by rw[qk];rfl,by rw[qk];simp[World.setCell],Mn⟩;have WI:Boxed f6 I 215 (E (some g) A c1):=(Mn _ aE).trans gb.o.2.2.2.1;have afy:Boxed f6 (I+1) 439 (Aw I):=(Mn _ aE).trans gb.o.2.2.2.2.1;have afz:=(Mn (I+2) aE).trans gb.o.2.2.2.2.2.1
  have hM:=qB gb.o.1 D3 (λb e=>by have aV:g=b:=by simpa[Value.ownBlock]using e
                                  omega)
  have en:Ext w f6:=Below.trans gb.o.2.1 (D3.below (λk hk=>aE));have afA:bh.Keep (λk=>k<W.heap.size/\k≠g/\k≠Bx) W f6:=(gb.o.2.2.2.2.2.2.1.mono (λk hk=>⟨hk.1,hk.2.1⟩)).trans (D3.mono (λk hk=>hk.2.2));have afB:KeepsOthers W f6:=gb.o.2.2.2.2.2.2.2.trans (by rw[qk];exact(((KeepsOthers.setCell _ _ _).trans (KeepsOthers.setCell _ _ _)).trans (KeepsOthers.setCell _ _ _)).trans (KeepsOthers.setCell _ _ _));have k9:=z (ah hM (ah en (ah e6 (ah WI (ah afy (ah afz (ah afA afB)))))));clear b0 b1 b2 cV awf Gj awg awh r0 dq ei eM fO;have fO:=WI.cell;obtain⟨⟨b0,b1,b2,cV⟩,-⟩:=jY e6;clear qk e6 Mn D3 WI afy afz hM en afA afB;have bl:=λW=>Mf y W
  unfold sS at bl;have WJ:kI out aR=if (gK aR.c&&(y.th==y.el))=true then⟨5,0,y.th,0⟩else y:=by unfold kI;rw[<-nY.o]
  have afC:y.c=aR.c:=by rw[nY.o,rW]
  have lw:=(QC av7.o).2;rw[<-afC]at lw WJ;have afD:=z WJ;have ee:=z bl;clear bl WJ afC;have afE:∀(hN:G) (Gu:aD),kI out aR=Gu->Ext w hN->Boxed hN I 215 (E (some g) A c1)->Boxed hN (I+1) 439 (Aw I)->
   hN.heap[I.heap.size+2]?=some (J #[E a A c] 215 (0,0))->hN.ownsRow w 407 4 (E (some g) out c1) out ((out.set q Gu).flatMap dI)->
   (Ed w A I g c1 (pre++[⟨q,aW⟩]) hN/\hN.heap[I.heap.size+2]?=some (J #[E a A c] 215 (0,0))):=λhN Gu e h1 h2 T af aQ=>by
   refine⟨⟨h1,h2,T,?_⟩,af⟩;rw[Al.o,e,<-IM.o];exact aQ
  have eb:=z afE;clear afE;by_cases V:(gK y.c&&(y.th==y.el))=true
  ·have cI:=z (by have:=afD.o;rw[aF V]at this;exact this);simp only[dV]at V;rw[V.1]at lw;rw[lw]at ee;have IX:=V.2;clear V lw;gi_wp2_with(refine⟨trivial,?_⟩;refine iN (CallsIn.inRound l (eP.2 (ee.o _))) ?_;intro hz j0;have j2:=z j0;have aMA:=j0.cell fO;have awi:=j0.cell b2;have awj:=j0.cell cV;obtain⟨o0,o1,o2,o3,of⟩:=Ar (by rw[<-kD (i:=q) (a:=y)]at k9;exact wQ k9.o.1 j0) (show q<(out.set q y).length by rw[kD];exact Gr);have hs:=of (q*4);have dc:=of (q*4+1);have dv:=of (q*4+2);have g':=of (q*4+3);clear j0 of);have WK:(out.set q y).length=out.length:=kD;have qa:=wQ k9.o.1 j2.o;rw[<-WK]at qa;have rv:=afr qa (show q<(out.set q y).length by rw[WK];exact Gr) ⟨5,0,y.th,0⟩;rw[List.set_set,WK]at rv;dsimp only at rv;have hj:=(dG.1 bK.o).1;refine(λ(hN:G) (w4:hN=((((hz.setCell ⟨g,q*4,none⟩ (bf ((5:Nat):Int))).setCell ⟨g,q*4+1,none⟩ (M ((0:Nat):Int))).setCell ⟨g,q*4+2,none⟩ (H y.th)).setCell ⟨g,q*4+3,none⟩ (H 0)))=> ?_:∀hN,hN=((((hz.setCell ⟨g,q*4,none⟩ (bf ((5:Nat):Int))).setCell ⟨g,q*4+1,none⟩ (M ((0:Nat):Int))).setCell ⟨g,q*4+2,none⟩ (H y.th)).setCell ⟨g,q*4+3,none⟩ (H 0))->ownPostG cd (bh.Keep λk=>k<w.heap.size\/k=I.heap.size+2) (λpre W=>Ed w A I g c1 pre W/\W.heap[I.heap.size+2]?=some (J #[E a A c] 215 (0,0))) (λ_ _ _=>False) (pre++[⟨q,aW⟩]) W Exit.normal _ hN) _ rfl;rw[<-w4]at rv;have QW:∀k,k≠g->hN.heap[k]?=hz.heap[k]?:=λk hk=>by rw[w4];exact WB
   have F6:bh.Keep (λk=>k≠g) hz hN:=⟨by rw[w4];rfl,by rw[w4];rfl,by rw[w4];rfl,by rw[w4];simp[World.setCell],QW⟩;have atR:KeepsOthers hz hN:=by rw[w4];exact(((KeepsOthers.setCell _ _ _).trans (KeepsOthers.setCell _ _ _)).trans (KeepsOthers.setCell _ _ _)).trans (KeepsOthers.setCell _ _ _)
   have rx:Ext w hN:=Below.trans (gP k9.o.2.1 j2.o) (F6.below (λk hk=>aE));exact⟨((k9.o.2.2.2.2.2.2.2.trans (⟨Ext.size j2.o,λk o hk _=>aJ hk j2.o⟩:KeepsOthers f6 hz)).trans atR).from _,
    (((k9.o.2.2.2.2.2.2.1.mono (λk hk=>by rcases hk with hk|hk<;>exact⟨aE,aE,aE⟩):bh.Keep (λk=>k<w.heap.size\/k=I.heap.size+2) W f6)).trans (bh.Keep.of_below j2.o (λk hk=>by have:=k9.o.2.2.2.2.2.2.1.size;rcases hk with hk|hk<;>omega))).trans (F6.mono (λk hk=>by rcases hk with hk|hk<;>omega)),
    eb.o hN _ cI.o rx ((QW _ aE).trans (aJ k9.o.2.2.2.1 j2.o)) ((QW _ aE).trans (aJ k9.o.2.2.2.2.1 j2.o)) ((QW _ aE).trans (aJ k9.o.2.2.2.2.2.1 j2.o)) rv⟩
  ·have jW:(gK y.c&&(y.th==y.el))=false:=by simpa using V
   have cI:=z (by have:=afD.o;rw[au V]at this;exact this);cases bT:gK y.c
   ·rw[bT]at lw;rw[lw]at ee;clear V jW lw;gi_wp2_with(refine⟨trivial,?_⟩;refine iN (CallsIn.inRound l (eP.2 (ee.o _))) ?_;intro hz j0;have j2:=z j0;clear j0);exact afm
   ·rw[bT]at lw jW;rw[lw]at ee;have IX:(y.th==y.el)=false:=by simpa using jW
    clear V jW lw;gi_wp2_with(refine⟨trivial,?_⟩;refine iN (CallsIn.inRound l (eP.2 (ee.o _))) ?_;intro hz j0;have j2:=z j0;have awi:=j0.cell b2;have awj:=j0.cell cV;clear j0);exact afm
 case done=>rintro ax ys W cE rfl ⟨h1,h2⟩ am;have bp:=h1.bo.cell;have H1:=z h1;clear h1;gi_wp2;refine⟨ay,.inl ⟨_,_,rfl,run_takeDeferred am,?_⟩⟩;refine⟨_,results_tmp rfl _ _ _,_,_,rfl,(show Below w w W from H1.o.ext).trans (belowK_b (w:=w) (aZ _) W ax _ _ (by have:=hC.o;omega) am rfl rfl),?_⟩;rw[av2];exact WC H1.o.own (grownBy_putObj' _ ax (.deferred none)) (λr e=>by cases e;exact⟨_,am,rfl⟩)
 case stop=>exact FJ
end LT
end Go.Proofs.YtopfefhenfineaaGreat
