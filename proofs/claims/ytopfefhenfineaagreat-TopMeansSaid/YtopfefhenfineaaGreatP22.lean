import Derived.Test.YtopfefhenfineaaGreatP17
import Derived.Test.YtopfefhenfineaaGreatP18
import Derived.Test.YtopfefhenfineaaGreatP11
import Derived.Test.YtopfefhenfineaaGreatP21
set_option linter.all false
set_option maxRecDepth 100000
set_option maxHeartbeats 8000000
namespace Go.Proofs.YtopfefhenfineaaGreat
open Go.Proofs.Tryz Go.RowKit Go.Shelf bh
attribute[local go_sem] Oper.semAt_some
namespace LT
open jG (aD sP dI gQ mR dx eU gK ig)
theorem ay1(v:K)(A:List aD)(R:dx A=true)(w:G)(hv:aS w 4 dI v A):Calls prog 176 #[v] w λe F=>Ext w F/\if (nE A).length<=4096 then∃u,e=aI (bH #[u,H 0])/\F.ownsRow w 173 4 u (nE A).length ((nE A).flatMap iD)else e=aI (bH #[E none 0 0,H 270]):=by
 have ey:=GH R;have hX:=ahT R;have da:=awR v A R w hv;obtain⟨aH,bd⟩:∃aH,aH=(nE A).reverse:=⟨_,rfl⟩;have tj:aH.length=(nE A).length:=by rw[bd,List.length_reverse]
 have ahU:aH.reverse=nE A:=by rw[bd,List.reverse_reverse]
 rw[<-bd]at da;rw[<-tj,<-ahU];rw[<-tj]at hX;clear bd tj ahU;obtain⟨a,c,rfl,-,-⟩:=ig hv;have ec:=z da;clear da hv R;by_cases V:aH.length<=4096
 ·simp only[aF V];go_in;go_wp2_with fail;refine ec.o.mono ?_;rintro e I ⟨B,u,g,pl,far,rfl,i0⟩;obtain⟨bv,bp,rfl⟩:=dP i0.own;have c0:I.cell? B=some (E bv aH bp):=aG i0.box 0;have bL:¬((4096:Int)<aH):=aE;have i7:=awG w _ aH aE I i0.own;have d2:=z i0;have tG:=z i7;clear i0 i7;go_wp2_with fail;refine ak tG.o ?_;rintro aO ⟨ho,an⟩;have aNe:aO.cell? B=some (E bv aH bp):=aG (an.blk d2.o.box (.inr rfl)) 0;have cx:=z (ah ho (an.lX d2.o.ext (aZ _)));clear ho an;go_wp2_with fail;refine cO (BF rfl _ _ _) rfl ?_;refine⟨cx.o.2,_,rfl,?_⟩;exact cx.o.1
 ·simp only[au V];go_in;go_wp2_with fail;refine ec.o.mono ?_;rintro e I ⟨B,u,g,pl,far,rfl,i0⟩;obtain⟨bv,bp,rfl⟩:=dP i0.own;have c0:I.cell? B=some (E bv aH bp):=aG i0.box 0;have bL:(4096:Int)<aH:=aE;have d2:=z i0;clear i0;go_wp2_with fail;refine cO (BF rfl _ _ _) rfl ?_;exact⟨d2.o.ext,rfl⟩
end LT
variable{S:Prop}
def RL(h:S:=by go_in;go_wp2_with fail;refine cO (BF rfl _ _ _) rfl ?_;exact K8):S:=h
def RN(h:S:=by
 have ce:=z V;have a0:=aG V 0;have a1:=aG V 1;have a2:=aG V 2;have a3:=aG V 3;have a4:=aG V 4;have a5:=aG V 5
 change W.cell? br=some c0 at a0
 change W.cell? ⟨br,1,none⟩=some c1 at a1
 change W.cell? ⟨br,2,none⟩=some c2 at a2
 change W.cell? ⟨br,3,none⟩=some c3 at a3
 change W.cell? ⟨br,4,none⟩=some c4 at a4
 change W.cell? ⟨br,5,none⟩=some c5 at a5
 have X0:=z ih;clear V ih;go_in;go_wp2_with fail;refine X0.o.mono ?_;rintro e I ⟨a,n,c,er,rfl,D,ac⟩;have cH:=ce.o.ext D;have f0:=λj=>dw cH j
 have dg:=f0 0;have fg:=f0 1;have mw:=f0 2;have f4:=f0 3;have v6:=f0 4;have r7:=f0 5;have b0:=D.cell a0;have b1:=D.cell a1;have b2:=D.cell a2;have cV:=D.cell a3;have ky:=D.cell a4;have mB:=D.cell a5;have aT:=z D;have cz:=z ac;clear D ac f0 cH;go_wp2_with fail;go_ret;exact⟨a,n,c,er,I,rfl,aT.o,cz.o,rfl⟩):S:=h
namespace LT
variable{W aa:G}{c0 c1 c2 c3 c4 c5:K}{br:Nat}
def uT(W:G)(br:Nat)(c0 c1 c2 c3 c4 c5:K):Prop:=W.heap[br]?=some (J #[c0,c1,c2,c3,c4,c5] 217 (0,0))
def uT.ext(h:uT W br c0 c1 c2 c3 c4 c5)(D:Ext W aa):uT aa br c0 c1 c2 c3 c4 c5:=aJ h D
theorem ay2(V:uT W br c0 c1 c2 c3 c4 c5)(ub:K->Int->G->Prop)(ih:Calls prog 176 #[c4] W λe F=>∃a n c er,e=aI (bH #[E a n c,H er])/\Ext W F/\ub (E a n c) er F):Calls prog 125 #[aB (some br)] W λe oT=>∃a n c er F,e=aI (H er)/\Ext W F/\ub (E a n c) er F/\oT=F.setCell ⟨br,5,none⟩ (E a n c):=by exact RN
theorem ay3(V:uT W br c0 c1 c2 c3 c4 c5)(ub:K->Int->G->Prop)(ih:Calls prog 177 #[c4] W λe F=>∃a n c er,e=aI (bH #[E a n c,H er])/\Ext W F/\ub (E a n c) er F):Calls prog 126 #[aB (some br)] W λe oT=>∃a n c er F,e=aI (H er)/\Ext W F/\ub (E a n c) er F/\oT=F.setCell ⟨br,4,none⟩ (E a n c):=by exact RN
theorem ay4(V:uT W br c0 c1 c2 c3 c4 c5)(ub:K->Int->G->Prop)(ih:Calls prog 175 #[c3] W λe F=>∃a n c er,e=aI (bH #[E a n c,H er])/\Ext W F/\ub (E a n c) er F):Calls prog 124 #[aB (some br)] W λe oT=>∃a n c er F,e=aI (H er)/\Ext W F/\ub (E a n c) er F/\oT=F.setCell ⟨br,4,none⟩ (E a n c):=by exact RN
theorem ahV(V:uT W br c0 c1 c2 c3 c4 c5)(ub:K->Int->G->Prop)(ih:Calls prog 178 #[bg #[c0,c1,c2]] W λe F=>∃a n c er,e=aI (bH #[E a n c,H er])/\Ext W F/\ub (E a n c) er F):Calls prog 128 #[aB (some br)] W λe oT=>∃a n c er F,e=aI (H er)/\Ext W F/\ub (E a n c) er F/\oT=F.setCell ⟨br,4,none⟩ (E a n c):=by exact RN
theorem ahX(V:uT W br c0 c1 c2 c3 c4 c5)(ub:Int->K->Int->Int->G->Prop)(ih:Calls prog 179 #[bg #[c0,c1,c2]] W λe F=>∃x a n c aR er,e=aI (bH #[bg #[H x,E a n c,M aR],H er])/\Ext W F/\ub x (E a n c) aR er F):Calls prog 129 #[aB (some br)] W λe oT=>∃x a n c aR er F,e=aI (H er)/\Ext W F/\ub x (E a n c) aR er F/\oT=((F.setCell br (H x)).setCell ⟨br,1,none⟩ (E a n c)).setCell ⟨br,2,none⟩ (M aR):=by
 have ce:=z V;have a0:=aG V 0;have a1:=aG V 1;have a2:=aG V 2;have a3:=aG V 3;have a4:=aG V 4;have a5:=aG V 5
 change W.cell? br=some c0 at a0
 change W.cell? ⟨br,1,none⟩=some c1 at a1
 change W.cell? ⟨br,2,none⟩=some c2 at a2
 change W.cell? ⟨br,3,none⟩=some c3 at a3
 change W.cell? ⟨br,4,none⟩=some c4 at a4
 change W.cell? ⟨br,5,none⟩=some c5 at a5
 have X0:=z ih;clear V ih;go_in;go_wp2_with fail;refine X0.o.mono ?_;rintro e I ⟨x,a,n,c,aR,er,rfl,D,ac⟩;have cH:=ce.o.ext D;have f0:=λj=>dw cH j
 have dg:=f0 0;have fg:=f0 1;have mw:=f0 2;have f4:=f0 3;have v6:=f0 4;have r7:=f0 5;have b0:=D.cell a0;have b1:=D.cell a1;have b2:=D.cell a2;have cV:=D.cell a3;have ky:=D.cell a4;have mB:=D.cell a5;have aT:=z D;have cz:=z ac;clear D ac f0 cH;go_wp2_with fail;go_ret;exact⟨x,a,n,c,aR,er,I,rfl,aT.o,cz.o,rfl⟩
theorem RO(br B n:Nat)(fs:Nat->Nat)(hn:n<=10)(cm:Nat->G->Prop)(ahY:Int->G->Prop)(g1:∀k<n,∀args w,(callFunc (fs k) args).run prog w= .ok (.enter (fs k) args) w)(lx:∀k W,cm k W->∀j<n,W.cell? ⟨B,j,none⟩=some (.func (.func (fs j)) #[aB (some br)] #[]))(sA:∀W,cm n W->∃p,W.cell? ⟨br,5,none⟩=some p)(bU:∀k W,k<n->cm k W->Calls prog (fs k) #[aB (some br)] W λe aa=>(∃er,er≠0/\e=aI (H er)/\ahY er aa)\/(e=aI (H 0)/\cm (k+1) aa))(w:G)(ae:cm 0 w):Calls prog 123 #[aB (some br),E (some B) n n] w λe F=>(∃er,er≠0/\e=aI (bH #[E none 0 0,H er])/\ahY er F)\/(∃p,e=aI (bH #[p,H 0])/\cm n F/\F.cell? ⟨br,5,none⟩=some p):=by
 have ay5:=z g1;have h7:=z lx;have ay6:=z sA;have gg:=z bU;have H0:=z ae;clear g1 lx sA bU ae;go_in;go_wp2_with fail;go_loopw [11] (λi wr=>∃k:Nat,k<=n/\i=H k/\cm k wr) (λi _=>n-(intOf i).toNat)
 case atStart=>exact⟨0,aE,rfl,H0.o⟩
 case round=>
  obtain⟨k,hk,rfl,Z⟩:=hrel;by_cases ad:k<n
  ·have c0:=h7.o k wr Z k ad;have ab:=gg.o k wr ad Z;have g1:=ay5.o k ad;have bY:=z ab;clear ab Z;generalize fs k=g at *;go_wp2_with fail;refine bY.o.mono ?_;rintro e bQ (⟨er,bO,rfl,hbad⟩|⟨rfl,hj5⟩)
   ·have bL:(er !=0)=true:=by simpa using bO
    have ce:=z (ah bO hbad);clear bO hbad;go_wp2_with fail;refine cO (BF rfl _ _ _) rfl ?_;exact .inl ⟨er,ce.o.1,rfl,ce.o.2⟩
   ·have m':=z hj5;clear hj5;go_wp2_with fail;go_roundw
    case rel=>exact⟨k+1,aE,cZ,m'.o⟩
    case measure=>exact eO
  ·obtain rfl:k=n:=aE;obtain⟨p,ac⟩:=ay6.o wr Z;have bC:=z Z;clear Z;go_wp2_with fail;refine cO (BF rfl _ _ _) rfl ?_;exact .inr ⟨p,rfl,bC.o,ac⟩
theorem ay7(a b:Option Addr)(m n c d:Nat)(e f:Int)(w:G):Calls prog 127 #[E a m c,H e,E b n d,H f] w λr F=>r=aI (if f≠0\/(e=0/\m<n)then bH #[E a m c,H e]else bH #[E b n d,H f])/\Ext w F:=by
 by_cases ai:f=0
 ·subst ai;by_cases bx:e=0
  ·subst bx;by_cases x0:m<n
   ·have h1:(m:Int)<n:=aE;rw[aF (.inr ⟨rfl,x0⟩)];exact RL
   ·have h1:¬(m:Int)<n:=aE;rw[au aE];exact RL
  ·have bL:(e==0)=false:=by rw[iH];exact bx
   rw[au (by simp[bx])];exact RL
 ·have bL:(f !=0)=true:=by simpa using ai
  rw[aF (.inl ai)];exact RL
end LT
def ahZ(h:S:=by exact .inl ⟨210,Y,rfl,⟨.inl rfl,λs=>by rw[ab s]at R;cases R⟩,aQ.ext,aQ.x⟩):S:=h
def ah0(h:S:=by rintro e F ⟨v,rfl,D,h2⟩;obtain⟨a,c,rfl,-,-⟩:=ig h2;exact⟨a,_,c,0,rfl,D,rfl,h2⟩):S:=h
def ah1(h:S:=by rintro e oT ⟨a,n,c,er,F,rfl,D,⟨rfl,h2⟩,rfl⟩;exact .inr ⟨rfl,_,(h.ext' D).Vw (vV a n c),ah2 ah3 (h.ext' D).wk h.no h2 _ _⟩):S:=h
def M7(h:S:=by exact h.lo):S:=h
namespace LT
open jG (aD sP dI gQ mR dx eU gK ig Dat fT rz)
open j7 (Test Rule Filter gI sZ Ce EU eT kT uU nI j6 iw GX RP tq M8 Ju M9)
open le (lF iF most ah4)
open m9 (bB)
def EF(f:Filter):List aD:=(lF f (iF f)).map bB.fin
structure DS where
 cf:Filter->Prop
 cr:List aD->Prop
 sm:Prop
 hn:∀f,eT f=true->cf f->cf (uU f)
 hr:∀f,gI f->eT f=true->cf f->cr (EF f)
 ho:∀r,dx r=true->cr r->cr (qX r)
structure Cm(ax:DS)(r:List aD):Prop where
 may:dx r=true
 k:∀s∈r,s.k<4294967296
 of:ax.cr r
 sm:ax.sm->r.length<=1000
def Na(ax:DS)(p:List Ix):Prop:=uW p=true/\p.length<=4096/\∃r,ax.cr r/\p=nE r
def Cm.opt{ax:DS}{r:List aD}(h:Cm ax r):Cm ax (qX r):=⟨RQ h.may,ay8 h.may h.k,ax.ho _ h.may h.of,λs=>cB (afZ h.may) (h.sm s)⟩
def Cm.link{ax:DS}{r:List aD}(h:Cm ax r)(X:(nE r).length<=4096):Na ax (nE r):=⟨ay9 h.may h.k,X,r,h.of,rfl⟩
def aza{f:Filter}(ax:DS)(cE:ax.cf f)(e1:ax.sm->most f.rules<=900)(ai:gI f)(R:eT f=true):Cm ax (EF f):=by obtain⟨h1,h2,-⟩:=le.Dm ai R;exact⟨h1,λs ab=>(h2 s ab).k,ax.hr _ ai R cE,λs=>cB (ah4 ai R) (by have:=e1 s;omega)⟩
inductive GY (m:Nat->Bool):List aD->Prop
 |base:GY m (e2.qw m)
 |opt {r:List aD}:GY m r->GY m (qX r)
inductive zq (f:Filter):Filter->Prop
 |base:zq f f
 |norm {g:Filter}:zq f g->zq f (uU g)
inductive GZ (f:Filter):List aD->Prop
 |row {g:Filter}:zq f g->GZ f (EF g)
 |opt {r:List aD}:GZ f r->GZ f (qX r)
def DG(m:Nat->Bool):DS:=⟨λ_=>False,GY m,True,λ_ _ h=>h,λ_ _ _ h=>h.elim,λ_ _ h=> .opt h⟩
def G5(f:Filter)(P:Prop):DS:=⟨λg=>zq f g/\(eT g=true->eT f=true),λr=>GZ f r/\eT f=true,P,λ_ R h=>⟨.norm h.1,λ_=>h.2 R⟩,λ_ _ R h=>⟨.row h.1,h.2 R⟩,λ_ _ h=>⟨.opt h.1,h.2⟩⟩
def azb(m:Nat->Bool):Cm (DG m) (e2.qw m):=⟨(e2.zy m).1,λs ab=>(e2.abR m s ab).k,.base,λ_=>cB (e2.zy m).2 Y⟩
def azc{r:Rule}(h:sZ r):sZ (j6 r):=by
 have X:(j6 r).tests.length<=r.tests.length:=ah5
 refine⟨h.n,?_,cB X h.l,λt an=>h.t t (j7.Da an).1⟩;exact ah6
def azd{f:Filter}(h:gI f):gI (uU f):=by refine⟨h.a1,h.a2,h.d,cB (M8 _ _) h.l,λr hr=> ?_⟩;obtain⟨aQ,-⟩:=List.mem_filter.1 hr;obtain⟨s,ab,rfl⟩:=iJ.1 aQ;exact azc (h.r s ab)
def vX(v:K):Prop:= ∀c,v≠ bf c
def aze{W:G}{p q:Addr}{u:K}(h:q.block≠p.block):(W.setCell p u).cell? q=W.cell? q:=by unfold World.cell?;rw[fI _ _ _ _ h]
def ah2{α:Type}{n:Nat}{enc:α->List K}(cp:∀x,∃(c:Int)(r:List K),enc x=bf c::r){W:G}{br:Nat}{c0 c1 c2 c3 c4 c5:K}(V:uT W br c0 c1 c2 c3 c4 c5)(ao:∀v∈[c0,c1,c2,c3,c4,c5],vX v){v:K}{A:List α}(h:aS W n enc v A)(j:Nat)(u:K):aS (W.setCell ⟨br,j,none⟩ u) n enc v A:=by
 obtain⟨a,c,h1,h2,T,af⟩:=h;refine⟨a,c,h1,h2,T,λi hi=> ?_⟩;obtain⟨b,o,e,k⟩:=af i hi;refine⟨b,o,e,λm R=> ?_⟩;obtain⟨mi,r,bx⟩:=cp A[i];have bO:b≠br:=λaV=>by
  subst aV;have eK:=k 0 (by rw[bx];simp);simp only[bx,BG]at eK;have mC:=aG V (o+i*n);rw[nO]at eK;rw[eK]at mC;have eS:Value.int .u16 mi∈[c0,c1,c2,c3,c4,c5]:=by have:=List.mem_of_getElem? (l:= [c0,c1,c2,c3,c4,c5]) (i:=o+i*n) (by simpa using mC.symm);exact this
  exact ao _ eS mi rfl
 rw[aze bO];exact k m R
def ah3(s:aD):∃(c:Int)(r:List K),dI s=bf c::r:=⟨_,_,rfl⟩
def EG(fs:List Nat)(br:Nat):Array K:=(fs.map λf=>Value.func (.func f) #[aB (some br)] #[]).toArray
structure Kp(br:Nat)(aP:G->Prop):Prop where
 e:∀W aa,Ext W aa->aP W->aP aa
 s:∀W j u c0 c1 c2 c3 c4 c5,uT W br c0 c1 c2 c3 c4 c5->(∀v∈[c0,c1,c2,c3,c4,c5],vX v)->aP W->aP (W.setCell ⟨br,j,none⟩ u)
structure ji(w0:G)(br B:Nat)(fs:List Nat)(aP:G->Prop)(c0 c1 c2 c3 c4 c5:K)(W:G):Prop where
 ext:Ext w0 W
 lo:w0.heap.size<=br
 ne:B≠br
 kp:Kp br aP
 wk:uT W br c0 c1 c2 c3 c4 c5
 no:∀v∈[c0,c1,c2,c3,c4,c5],vX v
 fs:W.heap[B]?=some (J (EG fs br) 219 (0,0))
 x:aP W
def ji.ext'{w0:G}{br B:Nat}{fs:List Nat}{aP:G->Prop}{c0 c1 c2 c3 c4 c5:K}{W aa:G}(h:ji w0 br B fs aP c0 c1 c2 c3 c4 c5 W)(D:Ext W aa):ji w0 br B fs aP c0 c1 c2 c3 c4 c5 aa:=
 ⟨h.ext.trans D,h.lo,h.ne,h.kp,h.wk.ext D,h.no,aJ h.fs D,h.kp.e _ _ D h.x⟩
variable {w0:G} {br B:Nat} {fs:List Nat} {aP:G->Prop} {c0 c1 c2 c3 c4 c5:K} {W:G}
def vV(a:Option Addr)(n c:Nat):vX (E a n c):=λ_ e=>by cases e
def ji.atl(h:ji w0 br B fs aP c0 c1 c2 c3 c4 c5 W){u:K}(a6:vX u):ji w0 br B fs aP c0 c1 c2 c3 c4 u (W.setCell ⟨br,5,none⟩ u):=
 ⟨h.ext.setCell M7 _,h.lo,h.ne,h.kp,fH h.wk 5 u,(λv hv=>by have:=h.no;simp only[iA,List.not_mem_nil,or_false]at hv this;rcases hv with rfl|rfl|rfl|rfl|rfl|rfl<;>first|exact a6|exact this _ ay),(fI _ _ _ _ h.ne).trans h.fs,h.kp.s _ _ _ _ _ _ _ _ _ h.wk h.no h.x⟩
def ji.Vw(h:ji w0 br B fs aP c0 c1 c2 c3 c4 c5 W){u:K}(a6:vX u):ji w0 br B fs aP c0 c1 c2 c3 u c5 (W.setCell ⟨br,4,none⟩ u):=
 ⟨h.ext.setCell M7 _,h.lo,h.ne,h.kp,fH h.wk 4 u,(λv hv=>by have:=h.no;simp only[iA,List.not_mem_nil,or_false]at hv this;rcases hv with rfl|rfl|rfl|rfl|rfl|rfl<;>first|exact a6|exact this _ ay),(fI _ _ _ _ h.ne).trans h.fs,h.kp.s _ _ _ _ _ _ _ _ _ h.wk h.no h.x⟩
def ji.set0(h:ji w0 br B fs aP c0 c1 c2 c3 c4 c5 W){u:K}(a6:vX u):ji w0 br B fs aP u c1 c2 c3 c4 c5 (W.setCell br u):=
 ⟨h.ext.setCell M7 _,h.lo,h.ne,h.kp,fH h.wk 0 u,(λv hv=>by have:=h.no;simp only[iA,List.not_mem_nil,or_false]at hv this;rcases hv with rfl|rfl|rfl|rfl|rfl|rfl<;>first|exact a6|exact this _ ay),(fI _ _ _ _ h.ne).trans h.fs,h.kp.s _ _ _ _ _ _ _ _ _ h.wk h.no h.x⟩
def ji.set1(h:ji w0 br B fs aP c0 c1 c2 c3 c4 c5 W){u:K}(a6:vX u):ji w0 br B fs aP c0 u c2 c3 c4 c5 (W.setCell ⟨br,1,none⟩ u):=
 ⟨h.ext.setCell M7 _,h.lo,h.ne,h.kp,fH h.wk 1 u,(λv hv=>by have:=h.no;simp only[iA,List.not_mem_nil,or_false]at hv this;rcases hv with rfl|rfl|rfl|rfl|rfl|rfl<;>first|exact a6|exact this _ ay),(fI _ _ _ _ h.ne).trans h.fs,h.kp.s _ _ _ _ _ _ _ _ _ h.wk h.no h.x⟩
def ji.set2(h:ji w0 br B fs aP c0 c1 c2 c3 c4 c5 W){u:K}(a6:vX u):ji w0 br B fs aP c0 c1 u c3 c4 c5 (W.setCell ⟨br,2,none⟩ u):=
 ⟨h.ext.setCell M7 _,h.lo,h.ne,h.kp,fH h.wk 2 u,(λv hv=>by have:=h.no;simp only[iA,List.not_mem_nil,or_false]at hv this;rcases hv with rfl|rfl|rfl|rfl|rfl|rfl<;>first|exact a6|exact this _ ay),(fI _ _ _ _ h.ne).trans h.fs,h.kp.s _ _ _ _ _ _ _ _ _ h.wk h.no h.x⟩
def zu(w0:G)(aP:G->Prop)(sm:Prop)(er:Int)(W:G):Prop:=((er=210\/er=270)/\¬sm)/\Ext w0 W/\aP W
variable {sm:Prop}
theorem azf(h:ji w0 br B fs aP c0 c1 c2 c3 c4 c5 W){row:List aD}(R:dx row=true)(ab:sm->row.length<=1000)(hr:aS W 4 dI c4 row):Calls prog 125 #[aB (some br)] W λe aa=>(∃er,er≠0/\e=aI (H er)/\zu w0 aP sm er aa)\/(e=aI (H 0)/\∃v,ji w0 br B fs aP c0 c1 c2 c3 c4 v aa/\aa.ownsRow 0 173 4 v (nE row).length ((nE row).flatMap iD)/\(nE row).length<=4096):=by
 refine(ay2 h.wk (λu er F=>(er=270/\¬sm)\/(er=0/\(nE row).length<=4096/\F.ownsRow W 173 4 u (nE row).length ((nE row).flatMap iD))) ?_).mono ?_
 ·refine(ay1 c4 row R W hr).mono ?_;rintro e F ⟨D,h2⟩;split at h2
  ·rename_i X;obtain⟨u,rfl,ho⟩:=h2;obtain⟨a,c,rfl⟩:=dP ho;exact⟨a,_,c,0,rfl,D,.inr ⟨rfl,X,ho⟩⟩
  ·rename_i X;subst h2;exact⟨none,0,0,270,rfl,D,.inl ⟨rfl,λs=>X (cB (ahT R) (by have:=ab s;omega))⟩⟩
 ·rintro e oT ⟨a,n,c,er,F,rfl,D,ac,rfl⟩;have aQ:=(h.ext' D).atl (vV a n c);rcases ac with⟨rfl,jm⟩|⟨rfl,X,ho⟩
  ·exact .inl ⟨270,Y,rfl,⟨.inr rfl,jm⟩,aQ.ext,aQ.x⟩
  ·refine .inr ⟨rfl,_,aQ,?_,X⟩;have H4:br<W.heap.size:=(dG.1 h.wk).1;exact(j7.nT ho (by exact H4) _).mono (eG _)
theorem azg(h:ji w0 br B fs aP c0 c1 c2 c3 c4 c5 W){row:List aD}(R:dx row=true)(hk:∀s∈row,s.k<4294967296)(hr:aS W 4 dI c4 row):Calls prog 126 #[aB (some br)] W λe aa=>(∃er,er≠0/\e=aI (H er)/\zu w0 aP sm er aa)\/(e=aI (H 0)/\∃v,ji w0 br B fs aP c0 c1 c2 c3 v c5 aa/\aS aa 4 dI v (qX row)):=by
 refine(ay3 h.wk (λu er F=>er=0/\aS F 4 dI u (qX row)) ?_).mono ?_
 ·refine(awK c4 row (by have:=GH R;omega) R hk W hr).mono ?_;rintro e F ⟨a,c,rfl,D,h2⟩;exact⟨a,_,c,0,rfl,D,rfl,h2⟩
 ·exact ah1
theorem azh{f:Filter}{u:K}(ai:gI f)(ab:sm->eT f=true)(h:ji w0 br B fs aP (H f.i6) u (M f.dflt) c3 c4 c5 W)(hr:mU W 3 (EU W) u f.rules):Calls prog 128 #[aB (some br)] W λe aa=>(∃er,er≠0/\e=aI (H er)/\zu w0 aP sm er aa)\/(e=aI (H 0)/\eT f=true/\∃v,ji w0 br B fs aP (H f.i6) u (M f.dflt) c3 v c5 aa/\aS aa 4 dI v (EF f)):=by
 cases R:eT f
 ·refine(ahV h.wk (λu er F=>er=210) ?_).mono ?_
  ·refine(le.acT f u ai R W hr).mono ?_;rintro e F ⟨rfl,D⟩;exact⟨none,0,0,210,rfl,D,rfl⟩
  ·rintro e oT ⟨a,n,c,er,F,rfl,D,rfl,rfl⟩;have aQ:=(h.ext' D).Vw (vV a n c);exact ahZ
 ·refine(ahV h.wk (λu er F=>er=0/\aS F 4 dI u (EF f)) ?_).mono ?_
  ·refine(le.Yd f u ai R W hr).mono ?_;exact ah0
  ·rintro e oT ⟨a,n,c,er,F,rfl,D,⟨rfl,h2⟩,rfl⟩;exact .inr ⟨rfl,rfl,_,(h.ext' D).Vw (vV a n c),ah2 ah3 (h.ext' D).wk h.no h2 _ _⟩
theorem azi{f:Filter}{u:K}(ai:gI f)(ab:sm->eT f=true)(uc:∀r∈f.rules,r.tests.length<=1000)(h:ji w0 br B fs aP (H f.i6) u (M f.dflt) c3 c4 c5 W)(hr:mU W 3 (EU W) u f.rules):Calls prog 129 #[aB (some br)] W λe aa=>(∃er,er≠0/\e=aI (H er)/\zu w0 aP sm er aa)\/(e=aI (H 0)/\eT f=true/\∃v,ji w0 br B fs aP (H f.i6) v (M f.dflt) c3 c4 c5 aa/\mU aa 3 (EU aa) v (uU f).rules):=by
 have H4:br<W.heap.size:=(dG.1 h.wk).1;cases R:eT f
 ·refine(ahX h.wk (λx v aR er F=>er=210) ?_).mono ?_
  ·refine(j7.acA f u ai R W hr).mono ?_;rintro e F ⟨rfl,D⟩;exact⟨0,none,0,0,0,210,rfl,D,rfl⟩
  ·rintro e oT ⟨x,a,n,c,aR,er,F,rfl,D,rfl,rfl⟩;have aQ:=(((h.ext' D).set0 (u:=H x) (λ_ e=>by cases e)).set1 (vV a n c)).set2 (u:=M aR) (λ_ e=>by cases e);exact ahZ
 ·refine(ahX h.wk (λx v aR er F=>er=0/\x=f.i6/\aR=(f.dflt:Int)/\∃ap:List j7.PR,ap.map j7.PR.r=nI f.dflt f.rules/\j7.RF F W v ap) ?_).mono ?_
  ·refine(j7.XG f u ai uc R W hr).mono ?_;rintro e F ⟨a,c,ap,rfl,h1,h2,D⟩;exact⟨_,a,_,c,_,0,rfl,D,rfl,rfl,rfl,ap,h1,h2⟩
  ·rintro e oT ⟨x,a,n,c,aR,er,F,rfl,D,⟨rfl,rfl,rfl,ap,h1,h2⟩,rfl⟩;have aQ:=(((h.ext' D).set0 (u:=H f.i6) (λ_ e=>by cases e)).set1 (vV a n c)).set2 (u:=M f.dflt) (λ_ e=>by cases e);have a9:=((h2.set (q:=⟨br,0,none⟩) H4 (H f.i6)).set (q:=⟨br,1,none⟩) H4 (E a n c)).set (q:=⟨br,2,none⟩) H4 (M f.dflt);refine .inr ⟨rfl,rfl,_,aQ,?_⟩;have cF:=a9.rd;rw[h1]at cF;exact cF
theorem azj{ts:List Int}(h:ji w0 br B fs aP c0 c1 c2 c3 c4 c5 W)(X:ts.length<=1000)(V:ts.any jG.yC=false)(bO:0<ts.length)(hr:aS W 1 jG.qV c3 ts):Calls prog 124 #[aB (some br)] W λe aa=>(∃er,er≠0/\e=aI (H er)/\zu w0 aP sm er aa)\/(e=aI (H 0)/\∃v,ji w0 br B fs aP c0 c1 c2 c3 v c5 aa/\aS aa 4 dI v (e2.qw (e2.FQ ts))):=by
 refine(ay4 h.wk (λu er F=>er=0/\aS F 4 dI u (e2.qw (e2.FQ ts))) ?_).mono ?_
 ·refine(e2.UH c3 ts X V bO W hr).mono ?_;exact ah0
 ·exact ah1
end LT
def RS(h:S:=by exact enters_of func125 aj rfl):S:=h
def RU(h:S:=by intro W h;obtain⟨u,p,bk,-⟩:=rA.end h;exact⟨u,bk⟩):S:=h
namespace LT
open jG (aD sP dI gQ mR dx eU gK ig Dat fT rz yC qV tQ)
open le (most)
open j7 (nI j6 tq iw GX Test Rule Filter gI sZ Ce EU eT kT uU Ju M9 xW lD)
variable {w0:G} {br B:Nat} {fs:List Nat} {aP:G->Prop} {W:G} {ax:DS} {f:Filter}
def tY(w0:G)(br B:Nat)(fs:List Nat)(aP:G->Prop)(ax:DS)(f:Filter)(W:G):Prop:=
 ∃u c3 c4 c5,ji w0 br B fs aP (H f.i6) u (M f.dflt) c3 c4 c5 W/\mU W 3 (EU W) u f.rules/\gI f/\ax.cf f/\(ax.sm->eT f=true/\most f.rules<=900)
def mX(w0:G)(br B:Nat)(fs:List Nat)(aP:G->Prop)(ax:DS)(W:G):Prop:=
 ∃c0 c1 c2 c3 c4 c5 row,ji w0 br B fs aP c0 c1 c2 c3 c4 c5 W/\Cm ax row/\aS W 4 dI c4 row
def rA(w0:G)(br B:Nat)(fs:List Nat)(aP:G->Prop)(ax:DS)(W:G):Prop:=
 ∃c0 c1 c2 c3 c4 c5 p,ji w0 br B fs aP c0 c1 c2 c3 c4 c5 W/\Na ax p/\W.ownsRow 0 173 4 c5 p.length (p.flatMap iD)
def zw(w0:G)(br B:Nat)(fs:List Nat)(aP:G->Prop)(ts:List Int)(W:G):Prop:=
 ∃c0 c1 c2 c3 c4 c5,ji w0 br B fs aP c0 c1 c2 c3 c4 c5 W/\aS W 1 jG.qV c3 ts
def Nb(w0:G)(aP:G->Prop)(sm:Prop)(cm:G->Prop)(e:Ending)(aa:G):Prop:=(∃er,er≠0/\e=aI (H er)/\zu w0 aP sm er aa)\/(e=aI (H 0)/\cm aa)
def ah7(b5:Nat):∀aN:List Rule,most (nI b5 aN)<=most aN
 | []=>aZ _
 |r::l=>by
  have b9:=ah7 b5 l;have X:(j6 r).tests.length<=r.tests.length:=by have:=GX r.tests r.action;show(tq (iw r.tests r.action).1 _).length<=_;unfold tq;rw[gV];omega
  unfold nI at b9⊢;rw[fK,List.filter_cons];split<;>(simp only[most];omega)
theorem RV(h:mX w0 br B fs aP ax W):Calls prog 125 #[aB (some br)] W (Nb w0 aP ax.sm (rA w0 br B fs aP ax)):=by
 obtain⟨c0,c1,c2,c3,c4,c5,row,h1,h2,T⟩:=h;refine(azf h1 h2.may h2.sm T).mono ?_;rintro e F (h|⟨rfl,v,bk,bW,d7⟩)
 ·exact .inl h
 ·exact .inr ⟨rfl,_,_,_,_,_,_,_,bk,h2.link d7,bW⟩
theorem ah8(h:mX w0 br B fs aP ax W):Calls prog 126 #[aB (some br)] W (Nb w0 aP ax.sm (mX w0 br B fs aP ax)):=by
 obtain⟨c0,c1,c2,c3,c4,c5,row,h1,h2,T⟩:=h;refine(azg (sm:=ax.sm) h1 h2.may h2.k T).mono ?_;rintro e F (h|⟨rfl,v,bk,bW⟩)
 ·exact .inl h
 ·exact .inr ⟨rfl,_,_,_,_,_,_,_,bk,h2.opt,bW⟩
theorem ah9(h:tY w0 br B fs aP ax f W):Calls prog 128 #[aB (some br)] W (Nb w0 aP ax.sm (mX w0 br B fs aP ax)):=by
 obtain⟨u,c3,c4,c5,h1,h2,T,af,aQ⟩:=h;refine(azh T (λs=>(aQ s).1) h1 h2).mono ?_;rintro e F (h|⟨rfl,R,v,bk,bW⟩)
 ·exact .inl h
 ·have hr:Cm ax (EF f):=aza ax af (λs=>(aQ s).2) T R;exact .inr ⟨rfl,_,_,_,_,_,_,_,bk,hr,bW⟩
theorem azk(uc:∀r∈f.rules,r.tests.length<=1000)(h:tY w0 br B fs aP ax f W):Calls prog 129 #[aB (some br)] W (Nb w0 aP ax.sm (tY w0 br B fs aP ax (uU f))):=by
 obtain⟨u,c3,c4,c5,h1,h2,T,af,aQ⟩:=h;refine(azi T (λs=>(aQ s).1) uc h1 h2).mono ?_;rintro e F (h|⟨rfl,R,v,bk,bW⟩)
 ·exact .inl h
 ·exact .inr ⟨rfl,v,_,_,_,bk,bW,azd T,ax.hn _ R af,λs=>⟨Ju R,cB (ah7 _ _) (aQ s).2⟩⟩
theorem aia{ts:List Int}(X:ts.length<=1000)(V:ts.any yC=false)(bO:0<ts.length)(h:zw w0 br B fs aP ts W):Calls prog 124 #[aB (some br)] W (Nb w0 aP True (mX w0 br B fs aP (DG (e2.FQ ts)))):=by
 obtain⟨c0,c1,c2,c3,c4,c5,h1,h2⟩:=h;refine(azj (sm:=True) h1 X V bO h2).mono ?_;rintro e F (h|⟨rfl,v,bk,bW⟩)
 ·exact .inl h
 ·exact .inr ⟨rfl,_,_,_,_,_,_,_,bk,azb _,bW⟩
def ji.oF{c0 c1 c2 c3 c4 c5:K}(h:ji w0 br B fs aP c0 c1 c2 c3 c4 c5 W)(j:Nat)(Z:j<fs):W.cell? ⟨B,j,none⟩=some (.func (.func (fs.getD j 0)) #[.pointer (some br)] #[]):=by
 rw[aG h.fs];unfold EG;rw[List.getElem?_toArray,List.getElem?_map,dK Z,kR,dK Z]
 rfl
def tY.oF(h:tY w0 br B fs aP ax f W)(j:Nat)(Z:j<fs):W.cell? ⟨B,j,none⟩=some (.func (.func (fs.getD j 0)) #[aB (some br)] #[]):=by obtain⟨_,_,_,_,h1,-⟩:=h;exact h1.oF j Z
def mX.oF(h:mX w0 br B fs aP ax W)(j:Nat)(Z:j<fs):W.cell? ⟨B,j,none⟩=some (.func (.func (fs.getD j 0)) #[aB (some br)] #[]):=by obtain⟨_,_,_,_,_,_,_,h1,-⟩:=h;exact h1.oF j Z
def rA.oF(h:rA w0 br B fs aP ax W)(j:Nat)(Z:j<fs):W.cell? ⟨B,j,none⟩=some (.func (.func (fs.getD j 0)) #[aB (some br)] #[]):=by obtain⟨_,_,_,_,_,_,_,h1,-⟩:=h;exact h1.oF j Z
def zw.oF{ts:List Int}(h:zw w0 br B fs aP ts W)(j:Nat)(Z:j<fs):W.cell? ⟨B,j,none⟩=some (.func (.func (fs.getD j 0)) #[aB (some br)] #[]):=by obtain⟨_,_,_,_,_,_,h1,-⟩:=h;exact h1.oF j Z
def rA.end(h:rA w0 br B fs aP ax W):∃u p,W.cell? ⟨br,5,none⟩=some u/\Na ax p/\W.ownsRow 0 173 4 u p.length (p.flatMap iD)/\Ext w0 W/\aP W:=by obtain⟨_,_,_,_,_,_,p,h1,h2,T⟩:=h;exact⟨_,p,aG h1.wk 5,h2,T,h1.ext,h1.x⟩
def Jv(w0:G)(aP:G->Prop)(ax:DS)(e:Ending)(F:G):Prop:=
 Ext w0 F/\aP F/\((∃er,((er=210\/er=270)/\¬ax.sm)/\e=aI (bH #[E none 0 0,H er]))\/(∃u p,e=aI (bH #[u,H 0])/\Na ax p/\F.ownsRow 0 173 4 u p.length (p.flatMap iD)))
def RX{n:Nat}{cm:Nat->G->Prop}(lx:∀W,cm n W->rA w0 br B fs aP ax W){e:Ending}{F:G}(h:(∃er,er≠0/\e=aI (bH #[E none 0 0,H er])/\zu w0 aP ax.sm er F)\/(∃p,e=aI (bH #[p,H 0])/\cm n F/\F.cell? ⟨br,5,none⟩=some p)):Jv w0 aP ax e F:=by
 rcases h with⟨er,-,rfl,h1,h2,T⟩|⟨q,rfl,h1,h2⟩
 ·exact⟨h2,T,.inl ⟨er,h1,rfl⟩⟩
 ·obtain⟨u,p,bk,bW,d7,g3,hV⟩:=(lx _ h1).end;obtain rfl:u=q:=gL (bk.symm.trans h2);exact⟨g3,hV,.inr ⟨u,p,rfl,bW,d7⟩⟩
theorem aib{w:G}(ae:(tY w0 br B [128,125] aP ax f) w):Calls prog 123 #[aB (some br),E (some B) 2 2] w (Jv w0 aP ax):=by
 refine(RO br B 2 (λk=>[128,125].getD k 0) Y (λk W=>match k with|0=>(tY w0 br B [128,125] aP ax f) W|1=>(mX w0 br B [128,125] aP ax) W|_=>(rA w0 br B [128,125] aP ax) W) (zu w0 aP ax.sm) ?_ ?_ ?_ ?_ w ae).mono (λe F h=>RX (n:=2) (cm:=λk W=>match k with|0=>(tY w0 br B [128,125] aP ax f) W|1=>(mX w0 br B [128,125] aP ax) W|_=>(rA w0 br B [128,125] aP ax) W) (λW h=>h) h)
 ·intro k hk
  match k,hk with
  |0,_=>exact enters_of func128 aj rfl
  |1,_=>exact RS
 ·intro k W h j Z
  match k,h with
  |0,h=>exact tY.oF (fs:= [128,125]) h j Z
  |1,h=>exact mX.oF (fs:= [128,125]) h j Z
  |(_+2),h=>exact rA.oF (fs:= [128,125]) h j Z
 ·exact RU
 ·intro k W hk h
  match k,hk,h with
  |0,_,h=>exact ah9 h
  |1,_,h=>exact RV h
theorem aic(uc:∀r∈f.rules,r.tests.length<=1000){w:G}(ae:(tY w0 br B [129,128,126,125] aP ax f) w):Calls prog 123 #[aB (some br),E (some B) 4 4] w (Jv w0 aP ax):=by
 refine(RO br B 4 (λk=>[129,128,126,125].getD k 0) Y (λk W=>match k with|0=>(tY w0 br B [129,128,126,125] aP ax f) W|1=>(tY w0 br B [129,128,126,125] aP ax (uU f)) W|2=>(mX w0 br B [129,128,126,125] aP ax) W|3=>(mX w0 br B [129,128,126,125] aP ax) W|_=>(rA w0 br B [129,128,126,125] aP ax) W) (zu w0 aP ax.sm) ?_ ?_ ?_ ?_ w ae).mono (λe F h=>RX (n:=4) (cm:=λk W=>match k with|0=>(tY w0 br B [129,128,126,125] aP ax f) W|1=>(tY w0 br B [129,128,126,125] aP ax (uU f)) W|2=>(mX w0 br B [129,128,126,125] aP ax) W|3=>(mX w0 br B [129,128,126,125] aP ax) W|_=>(rA w0 br B [129,128,126,125] aP ax) W) (λW h=>h) h)
 ·intro k hk
  match k,hk with
  |0,_=>exact enters_of func129 aj rfl
  |1,_=>exact enters_of func128 aj rfl
  |2,_=>exact enters_of func126 aj rfl
  |3,_=>exact RS
 ·intro k W h j Z
  match k,h with
  |0,h=>exact tY.oF (fs:= [129,128,126,125]) h j Z
  |1,h=>exact tY.oF (fs:= [129,128,126,125]) h j Z
  |2,h=>exact mX.oF (fs:= [129,128,126,125]) h j Z
  |3,h=>exact mX.oF (fs:= [129,128,126,125]) h j Z
  |(_+4),h=>exact rA.oF (fs:= [129,128,126,125]) h j Z
 ·exact RU
 ·intro k W hk h
  match k,hk,h with
  |0,_,h=>exact azk uc h
  |1,_,h=>exact ah9 h
  |2,_,h=>exact ah8 h
  |3,_,h=>exact RV h
theorem azl{ts:List Int}(X:ts.length<=1000)(V:ts.any yC=false)(bO:0<ts.length){w:G}(ae:(zw w0 br B [124,125] aP ts) w):Calls prog 123 #[aB (some br),E (some B) 2 2] w (Jv w0 aP (DG (e2.FQ ts))):=by
 refine(RO br B 2 (λk=>[124,125].getD k 0) Y (λk W=>match k with|0=>(zw w0 br B [124,125] aP ts) W|1=>(mX w0 br B [124,125] aP (DG (e2.FQ ts))) W|_=>(rA w0 br B [124,125] aP (DG (e2.FQ ts))) W) (zu w0 aP True) ?_ ?_ ?_ ?_ w ae).mono (λe F h=>RX (n:=2) (cm:=λk W=>match k with|0=>(zw w0 br B [124,125] aP ts) W|1=>(mX w0 br B [124,125] aP (DG (e2.FQ ts))) W|_=>(rA w0 br B [124,125] aP (DG (e2.FQ ts))) W) (λW h=>h) h)
 ·intro k hk
  match k,hk with
  |0,_=>exact enters_of func124 aj rfl
  |1,_=>exact RS
 ·intro k W h j Z
  match k,h with
  |0,h=>exact zw.oF (fs:= [124,125]) h j Z
  |1,h=>exact mX.oF (fs:= [124,125]) h j Z
  |(_+2),h=>exact rA.oF (fs:= [124,125]) h j Z
 ·exact RU
 ·intro k W hk h
  match k,hk,h with
  |0,_,h=>exact aia X V bO h
  |1,_,h=>exact RV h
theorem azm{ts:List Int}(X:ts.length<=1000)(V:ts.any yC=false)(bO:0<ts.length){w:G}(ae:(zw w0 br B [124,126,125] aP ts) w):Calls prog 123 #[aB (some br),E (some B) 3 3] w (Jv w0 aP (DG (e2.FQ ts))):=by
 refine(RO br B 3 (λk=>[124,126,125].getD k 0) Y (λk W=>match k with|0=>(zw w0 br B [124,126,125] aP ts) W|1=>(mX w0 br B [124,126,125] aP (DG (e2.FQ ts))) W|2=>(mX w0 br B [124,126,125] aP (DG (e2.FQ ts))) W|_=>(rA w0 br B [124,126,125] aP (DG (e2.FQ ts))) W) (zu w0 aP True) ?_ ?_ ?_ ?_ w ae).mono (λe F h=>RX (n:=3) (cm:=λk W=>match k with|0=>(zw w0 br B [124,126,125] aP ts) W|1=>(mX w0 br B [124,126,125] aP (DG (e2.FQ ts))) W|2=>(mX w0 br B [124,126,125] aP (DG (e2.FQ ts))) W|_=>(rA w0 br B [124,126,125] aP (DG (e2.FQ ts))) W) (λW h=>h) h)
 ·intro k hk
  match k,hk with
  |0,_=>exact enters_of func124 aj rfl
  |1,_=>exact enters_of func126 aj rfl
  |2,_=>exact RS
 ·intro k W h j Z
  match k,h with
  |0,h=>exact zw.oF (fs:= [124,126,125]) h j Z
  |1,h=>exact mX.oF (fs:= [124,126,125]) h j Z
  |2,h=>exact mX.oF (fs:= [124,126,125]) h j Z
  |(_+3),h=>exact rA.oF (fs:= [124,126,125]) h j Z
 ·exact RU
 ·intro k W hk h
  match k,hk,h with
  |0,_,h=>exact aia X V bO h
  |1,_,h=>exact ah8 h
  |2,_,h=>exact RV h
end LT
def aie(h:S:=by have h:=bA (az.alloc (J (fW f (E a f.rules c)) 217)) (J (fW f (E a f.rules c)) 217);rw[dR]at h;exact aJ h (O _).drew):S:=h
def X3(h:S:=by rintro e I ⟨D,-,a1,eN,c1,ud,rfl,ho⟩;have H1:=z (ah D ho);go_wp2_with fail;refine cO (BF rfl _ _ _) rfl ?_;exact⟨H1.o.1,a1,eN,c1,ud,rfl,H1.o.2⟩):S:=h
def X4(h:S:=by
 have rB:=z (gw.mono (λe F h=>RY h));go_wp2_with fail;refine rB.o.mono ?_;rintro e aO ⟨D,d4,a2,fS,c2,RE,rfl,fv⟩;have bK:=z (ah D (ah d4 fv));have bY:=z (ay7 a1 a2 eN fS c1 c2 ud RE aO);go_wp2_with fail;refine ak bY.o ?_;intro bj a';have es:=z a';by_cases ao:RE≠0\/(ud=0/\eN<fS)
 ·rw[aF ao];go_wp2_with fail;refine cO (BF rfl _ _ _) rfl ?_;exact⟨bK.o.1.trans es.o,a1,eN,c1,ud,rfl,(EH 0 ax a1 eN c1 ud).e _ _ es.o bK.o.2.1⟩
 ·rw[au ao];go_wp2_with fail;refine cO (BF rfl _ _ _) rfl ?_;exact⟨bK.o.1.trans es.o,a2,fS,c2,RE,rfl,(EH 0 ax a2 fS c2 RE).e _ _ es.o bK.o.2.2⟩):S:=h
namespace LT
open jG (aD sP dI gQ mR dx eU gK ig Dat fT rz yC qV tQ)
open j7 (Test Rule Filter gI sZ Ce EU eT kT uU Ju M9 xW lD)
def Ng(ax:DS)(a:Option Addr)(n c:Nat)(er:Int)(W:G):Prop:=((er=210\/er=270)/\¬ax.sm)\/(er=0/\∃p,Na ax p/\n=p.length/\W.ownsRow 0 173 4 (E a n c) p.length (p.flatMap iD))
def EH(br:Nat)(ax:DS)(a:Option Addr)(n c:Nat)(er:Int):Kp br (Ng ax a n c er):=
 ⟨λ_ _ D h=>h.imp id (λ⟨e,p,h1,h2,T⟩=>⟨e,p,h1,h2,(bq.ext (n0:=0) (bz:=λ_=>false) D).own T rfl⟩),λ_ j u _ _ _ _ _ _ V _ h=>h.imp id (λ⟨e,p,h1,h2,T⟩=>⟨e,p,h1,h2,(bq.set (n0:=0) (bz:=λx=>x==217) (p:=⟨br,j,none⟩) V rfl (eG _) u).own T rfl⟩)⟩
def X5{br Jw:Nat}(bO:Jw≠br)(dm cs eg h6 v7 ra:K):Kp br (λW=>uT W Jw dm cs eg h6 v7 ra):=
 ⟨λ_ _ D h=>h.ext D,λ_ _ _ _ _ _ _ _ _ _ _ h=>(fI _ _ _ _ bO).trans h⟩
def Nh(ax:DS)(e:Ending)(W:G):Prop:= ∃a n c er,e=aI (bH #[E a n c,H er])/\Ng ax a n c er W
def RY{w0:G}{aP:G->Prop}{ax:DS}{e:Ending}{F:G}(h:Jv w0 aP ax e F):Ext w0 F/\aP F/\Nh ax e F:=by
 obtain⟨h1,h2,⟨er,T,rfl⟩|⟨u,p,rfl,T,af⟩⟩:=h
 ·exact⟨h1,h2,none,0,0,er,rfl,.inl T⟩
 ·obtain⟨a,c,rfl⟩:=dP af;exact⟨h1,h2,a,_,c,0,rfl,.inr ⟨rfl,p,T,rfl,af⟩⟩
def aif(ar b5:Int){c1 c3 c4 c5:K}(h1:vX c1)(T:vX c3)(af:vX c4)(aQ:vX c5):∀v∈[H ar,c1,M b5,c3,c4,c5],vX v:=by
 intro v hv;simp only[iA,List.not_mem_nil,or_false]at hv;rcases hv with rfl|rfl|rfl|rfl|rfl|rfl
 ·intro c e;cases e
 ·exact h1
 ·intro c e;cases e
 ·exact T
 ·exact af
 ·exact aQ
abbrev kL(v:K):Array K:= #[H 0,E none 0 0,M 0,v,E none 0 0,E none 0 0]
theorem azn(v:K)(ts:List Int)(X:ts.length<=1000)(V:ts.any yC=false)(bO:0<ts.length)(opt:Bool)(w:G)(hv:aS w 1 jG.qV v ts):Calls prog 73 #[v,av opt] w λe F=>Ext w F/\Nh (DG (e2.FQ ts)) e F:=by
 obtain⟨ax,cE⟩:∃ax:DS,ax=(DG (e2.FQ ts)):=⟨_,rfl⟩;have oE:=hv;obtain⟨a,c,rfl,-,-⟩:=tQ hv;have n1:=bA w (J (kL (E a ts c)) 217);have n2:=bA (w.alloc (J (kL (E a ts c)) 217)) (J (kL (E a ts c)) 217);obtain⟨a8,b'⟩:∃a8,a8=(w.alloc (J (kL (E a ts c)) 217)).alloc (J (kL (E a ts c)) 217):=⟨_,rfl⟩;have eC:a8.heap.size=w.heap.size+2:=by rw[b'];simp
 have ag:Ext w a8:=by rw[b'];exact((O w).alloc _).alloc _
 have eN:a8.heap[w.heap.size]?=some (J (kL (E a ts c)) 217 (0,0)):=by rw[b'];exact aJ n1 ((O _).alloc _)
 rw[<-b',dR]at n2;obtain⟨tm,EI⟩:∃tm,tm=EG [124,125] w.heap.size:=⟨_,rfl⟩;have n3:=bA a8 (J tm 219);rw[eC]at n3;have a':Ext a8 (a8.alloc (J tm 219)):=(O _).alloc _;have hp:=aif 0 0 (vV none 0 0) (vV a ts c) (vV none 0 0) (vV none 0 0);have ph:=azl (w0:=w) (br:=w.heap.size) (B:=w.heap.size+2) (aP:=λW=>uT W (w+1) (H 0) (E none 0 0) (M 0) (E a ts c) (E none 0 0) (E none 0 0)) X V bO (w:=a8.alloc (J tm 219))
  ⟨_,_,_,_,_,_,⟨ag.trans a',aZ _,aE,X5 aE _ _ _ _ _ _,aJ eN a',hp,by rw[<-EI];exact n3,aJ n2 a'⟩,oE.ext (ag.trans a')⟩
 rw[<-cE]at ph⊢;have pB:=z (ph.mono (λe F h=>RY h));have nF:=z hp;have k1:=z oE;have fj:=z cE;have eo:=z (ah b' EI);cases opt
 ·go_in;go_wp2_with fail;have Ei:=pB.o;rw[eo.o.1,eo.o.2]at Ei;refine Ei.mono ?_;exact X3
 ·go_in;go_wp2_with fail;have Ei:=pB.o;rw[eo.o.1,eo.o.2]at Ei;refine Ei.mono ?_;rintro e I ⟨D,hk,a1,eN,c1,ud,rfl,ho⟩;have P0:=(dG.1 hk).1;obtain⟨ue,EJ⟩:∃ue,ue=EG [124,126,125] (w+1):=⟨_,rfl⟩;have a':Ext I (I.alloc (J ue 219)):=(O _).alloc _;have gw:=azm (w0:=w) (br:=w.heap.size+1) (B:=I.heap.size) (aP:=Ng ax a1 eN c1 ud) X V bO (w:=I.alloc (J ue 219))
   ⟨_,_,_,_,_,_,⟨D.trans a',aE,aE,EH _ _ _ _ _ _,hk.ext a',nF.o,by rw[<-EJ];exact bA I _,(EH (w+1) ax a1 eN c1 ud).e _ _ a' ho⟩,k1.o.ext (D.trans a')⟩
  rw[<-fj.o,EJ]at gw;exact X4
abbrev fW(f:Filter)(u:K):Array K:= #[H f.i6,u,M f.dflt,E none 0 0,E none 0 0,E none 0 0]
theorem azo(f:Filter)(u:K)(ai:gI f)(uc:∀r∈f.rules,r.tests.length<=1000)(opt:Bool)(w:G)(a6:mU w 3 (EU w) u f.rules):Calls prog 74 #[bg #[H f.i6,u,M f.dflt],av opt] w λe F=>Ext w F/\Nh (G5 f (eT f=true/\le.most f.rules<=900)) e F:=by
 have Q1:=a6;obtain⟨a,c,rfl,-,-⟩:=xW a6;have hp:=aif f.i6 (f.dflt:Int) (vV a f.rules c) (vV none 0 0) (vV none 0 0) (vV none 0 0);have nF:=z hp;have pd:=z Q1;have eb:=z (ah ai uc);obtain⟨ax,cE⟩:∃ax:DS,ax=G5 f (eT f=true/\le.most f.rules<=900):=⟨_,rfl⟩;have fj:=z cE;rw[<-cE];go_in;go_upto_region 1 with fail;have bF:=z ((O w).alloc (J #[H f.i6,E a f.rules c,M f.dflt] 73));obtain⟨⟨c0,c1,c2⟩,-⟩:=tL (bA w (J #[H f.i6,E a f.rules c,M f.dflt] 73));generalize w.alloc _=az at *;have p1:=bF.o.size;have aii:=λo=>((O az).alloc o).cell c0
 have ahQ:=λo=>((O az).alloc o).cell c1
 have azp:=λo=>((O az).alloc o).cell c2
 go_region
 ·have eN:(((az.alloc (J (fW f (E a f.rules c)) 217)).alloc (J (fW f (E a f.rules c)) 217)).drew).heap[az.heap.size]?=some (J (fW f (E a f.rules c)) 217 (0,0)):=aJ (bA az _) (((O _).alloc _).drew);have fS:(((az.alloc (J (fW f (E a f.rules c)) 217)).alloc (J (fW f (E a f.rules c)) 217)).drew).heap[az.heap.size+1]?=some (J (fW f (E a f.rules c)) 217 (0,0)):=aie
  have ag:Ext w (((az.alloc (J (fW f (E a f.rules c)) 217)).alloc (J (fW f (E a f.rules c)) 217)).drew):=((bF.o.alloc _).alloc _).drew;unfold fW at eN fS ag;generalize World.drew _=a8 at *;have ad:=(dG.1 fS).1;obtain⟨tm,EI⟩:∃tm,tm=EG [128,125] (az.heap.size):=⟨_,rfl⟩;have a':Ext a8 (a8.alloc (J tm 219)):=(O _).alloc _;have ph:=aib (f:=f) (ax:=ax) (w0:=w) (br:=az.heap.size) (B:=a8.heap.size) (aP:=λW=>uT W (az+1) (H f.i6) (E a f.rules c) (M f.dflt) (E none 0 0) (E none 0 0) (E none 0 0)) (w:=a8.alloc (J tm 219))
   ⟨_,_,_,_,⟨ag.trans a',aE,aE,X5 aE _ _ _ _ _ _,aJ eN a',nF.o,by rw[<-EI];exact bA a8 _,aJ fS a'⟩,lD (ag.trans a') pd.o,eb.o.1,by rw[fj.o];exact⟨zq.base,id⟩,λs=>by rw[fj.o]at s;exact s⟩
  rw[EI]at ph;have pB:=z (ph.mono (λe F h=>RY h));cases opt
  ·go_wp2_with fail;refine pB.o.mono ?_;exact X3
  ·go_wp2_with fail;refine pB.o.mono ?_;rintro e I ⟨D,hk,a1,eN,c1,ud,rfl,ho⟩;have P0:=(dG.1 hk).1;obtain⟨ue,EJ⟩:∃ue,ue=EG [129,128,126,125] (az+1):=⟨_,rfl⟩;have a':Ext I (I.alloc (J ue 219)):=(O _).alloc _;have gw:=aic (f:=f) (ax:=ax) (w0:=w) (br:=az.heap.size+1) (B:=I.heap.size) (aP:=Ng ax a1 eN c1 ud) eb.o.2 (w:=I.alloc (J ue 219))
    ⟨_,_,_,_,⟨D.trans a',aE,aE,EH _ _ _ _ _ _,hk.ext a',nF.o,by rw[<-EJ];exact bA I _,(EH (az+1) ax a1 eN c1 ud).e _ _ a' ho⟩,lD (D.trans a') pd.o,eb.o.1,by rw[fj.o];exact⟨zq.base,id⟩,λs=>by rw[fj.o]at s;exact s⟩
   rw[EJ]at gw;exact X4
 ·have eN:(((az.alloc (J (fW f (E a f.rules c)) 217)).alloc (J (fW f (E a f.rules c)) 217)).drew).heap[az.heap.size]?=some (J (fW f (E a f.rules c)) 217 (0,0)):=aJ (bA az _) (((O _).alloc _).drew);have fS:(((az.alloc (J (fW f (E a f.rules c)) 217)).alloc (J (fW f (E a f.rules c)) 217)).drew).heap[az.heap.size+1]?=some (J (fW f (E a f.rules c)) 217 (0,0)):=aie
  have ag:Ext w (((az.alloc (J (fW f (E a f.rules c)) 217)).alloc (J (fW f (E a f.rules c)) 217)).drew):=((bF.o.alloc _).alloc _).drew;unfold fW at eN fS ag;generalize World.drew _=a8 at *;have ad:=(dG.1 fS).1;obtain⟨tm,EI⟩:∃tm,tm=EG [128,125] (az+1):=⟨_,rfl⟩;have a':Ext a8 (a8.alloc (J tm 219)):=(O _).alloc _;have ph:=aib (f:=f) (ax:=ax) (w0:=w) (br:=az.heap.size+1) (B:=a8.heap.size) (aP:=λW=>uT W (az.heap.size) (H f.i6) (E a f.rules c) (M f.dflt) (E none 0 0) (E none 0 0) (E none 0 0)) (w:=a8.alloc (J tm 219))
   ⟨_,_,_,_,⟨ag.trans a',aE,aE,X5 aE _ _ _ _ _ _,aJ fS a',nF.o,by rw[<-EI];exact bA a8 _,aJ eN a'⟩,lD (ag.trans a') pd.o,eb.o.1,by rw[fj.o];exact⟨zq.base,id⟩,λs=>by rw[fj.o]at s;exact s⟩
  rw[EI]at ph;have pB:=z (ph.mono (λe F h=>RY h));cases opt
  ·go_wp2_with fail;refine pB.o.mono ?_;exact X3
  ·go_wp2_with fail;refine pB.o.mono ?_;rintro e I ⟨D,hk,a1,eN,c1,ud,rfl,ho⟩;have P0:=(dG.1 hk).1;obtain⟨ue,EJ⟩:∃ue,ue=EG [129,128,126,125] (az.heap.size):=⟨_,rfl⟩;have a':Ext I (I.alloc (J ue 219)):=(O _).alloc _;have gw:=aic (f:=f) (ax:=ax) (w0:=w) (br:=az.heap.size) (B:=I.heap.size) (aP:=Ng ax a1 eN c1 ud) eb.o.2 (w:=I.alloc (J ue 219))
    ⟨_,_,_,_,⟨D.trans a',aE,aE,EH _ _ _ _ _ _,hk.ext a',nF.o,by rw[<-EJ];exact bA I _,(EH (az.heap.size) ax a1 eN c1 ud).e _ _ a' ho⟩,lD (D.trans a') pd.o,eb.o.1,by rw[fj.o];exact⟨zq.base,id⟩,λs=>by rw[fj.o]at s;exact s⟩
   rw[EJ]at gw;exact X4
end LT
def aij(h:S:=by go_wp2_with fail;go_ret;exact⟨rfl,((O w).alloc _).trans Q⟩):S:=h
namespace LT
open jG (gK okW)
open yK (known entry i3 xU)
theorem Jy(code:Nat)(w:G):Calls prog 299 #[bf code] w λr F=>r=aI (av (known code))/\Ext w F:=by
 have co:=λW=>yK.Kz code W
 exact aeK
def AV{x:Ix}{left:Nat}(h:mY x left=true):x.c<65536/\x.jt<256/\x.jf<256/\x.k<4294967296/\known x.c=true/\x.c≠96/\x.c≠97/\x.c≠52/\x.c≠100/\x.c≠116/\i3 x.c≠2/\(x.c=32->x.k%4=0/\x.k<64)/\(x.c=5->x.k<left)/\(x.c≠5->i3 x.c=4->x.jt<left/\x.jf<left):=by
 obtain⟨c,jt,jf,k⟩:=x;simp only[mY,dV,qM,iM,jC]at h;dsimp only at h⊢;obtain⟨⟨h1,h2,T,af⟩,aQ⟩:=h;refine⟨h1,h2,T,af,?_⟩;have azq:known 32=true/\i3 32=1:=jE;have azr:known 84=true/\i3 84=3:=jE;have pS:known 6=true/\i3 6=5:=jE;have hV:known 5=true/\i3 5=4:=jE;have azs:known 21=true/\i3 21=4:=jE;have azt:known 37=true/\i3 37=4:=jE;have azu:known 53=true/\i3 53=4:=jE;have azv:known 69=true/\i3 69=4:=jE;rcases aQ with(((⟨e,bJ⟩|e)|e)|⟨e,hk⟩)|⟨⟨bT,ha1⟩,DX⟩
 ·subst e;refine⟨azq.1,aE,aE,aE,aE,aE,aE,λ_=> ?_,aE,aE⟩;simp only[okW,dV,iM,jC]at bJ;omega
 ·subst e;exact⟨azr.1,aE,aE,aE,aE,aE,aE,aE,aE,aE⟩
 ·subst e;exact⟨pS.1,aE,aE,aE,aE,aE,aE,aE,aE,aE⟩
 ·subst e;exact⟨hV.1,aE,aE,aE,aE,aE,aE,aE,aE,aE⟩
 ·simp only[gK,qM,jC]at bT;rcases bT with e|e|e|e
  all_goals subst e
  all_goals exact⟨by first|exact azs.1|exact azt.1|exact azu.1|exact azv.1,aE,aE,aE,aE,aE,aE,aE,aE,aE⟩
def wX{a b:Nat}(h:a≠b):((a:Int)==(b:Int))=false:=by rw[iH];omega
theorem azw(x:Ix)(left:Nat)(h:mY x left=true)(w:G):aM 298 #[iO x,H left] w (av false):=by
 obtain⟨h1,h2,T,af,aQ,a9,cF,eA,kv,AA,y6,GS,GT,GW⟩:=AV h;have am:=λW=>Jy x.c W
 have cn:=λW=>yK.jT x.c W
 rw[aQ]at am;obtain⟨c,jt,jf,k⟩:=x;unfold iO;dsimp only at *;have Cl:((i3 c:Int)==2)=false:=wX y6;have y':∀b:Bool,(i3 c==4)=b->((i3 c:Int)==4)=b:=λb V=>by rw[<-V,dW];simp;omega
 have Jx:((i3 c==4)=true->i3 c=4):=λV=>by simpa using V
 generalize wq:(i3 c==4)=pC at *;have hL:=y' _ rfl;generalize i3 c=cl at *;have mc:=bA w (J #[bf c,aC jt,aC jf,M k] 173);have h4:=z mc;have d2:=z am;have cx:=z cn;unfold aM;go_in;go_wp2_with fail;refine ak (d2.o _) ?_;intro I Q;exact aij
theorem azx(x:Ix)(left:Nat)(h:mY x left=true)(w:G):aM 300 #[iO x,H left] w (av false):=by
 obtain⟨h1,h2,T,af,aQ,a9,cF,eA,kv,AA,y6,GS,GT,GW⟩:=AV h;have am:=λW=>Jy x.c W
 have cn:=λW=>yK.jT x.c W
 rw[aQ]at am;obtain⟨c,jt,jf,k⟩:=x;unfold iO;dsimp only at *;have Cl:((i3 c:Int)==2)=false:=wX y6;have y':∀b:Bool,(i3 c==4)=b->((i3 c:Int)==4)=b:=λb V=>by rw[<-V,dW];simp;omega
 have Jx:((i3 c==4)=true->i3 c=4):=λV=>by simpa using V
 generalize wq:(i3 c==4)=pC at *;have hL:=y' _ rfl;generalize i3 c=cl at *;have mc:=bA w (J #[bf c,aC jt,aC jf,M k] 173);have h4:=z mc;have d2:=z am;have cx:=z cn;by_cases e:c=32
 ·subst e;obtain⟨aK,aV⟩:=GS rfl;have ed:(k:Int)%4=0:=aE;have eq:¬((64:Int)<=k):=aE;unfold aM;go_in;go_wp2_with fail;go_ret;exact⟨by first|rfl|(simp;omega),(O w).alloc _⟩
 ·have aR:=wX e;unfold aM;go_in;go_wp2_with fail;exact FI
theorem azy(x:Ix)(left:Nat)(h:mY x left=true)(w:G):aM 301 #[iO x,H left] w (av false):=by
 obtain⟨h1,h2,T,af,aQ,a9,cF,eA,kv,AA,y6,GS,GT,GW⟩:=AV h;have am:=λW=>Jy x.c W
 have cn:=λW=>yK.jT x.c W
 rw[aQ]at am;obtain⟨c,jt,jf,k⟩:=x;unfold iO;dsimp only at *;have Cl:((i3 c:Int)==2)=false:=wX y6;have y':∀b:Bool,(i3 c==4)=b->((i3 c:Int)==4)=b:=λb V=>by rw[<-V,dW];simp;omega
 have Jx:((i3 c==4)=true->i3 c=4):=λV=>by simpa using V
 generalize wq:(i3 c==4)=pC at *;have hL:=y' _ rfl;generalize i3 c=cl at *;have mc:=bA w (J #[bf c,aC jt,aC jf,M k] 173);have h4:=z mc;have d2:=z am;have cx:=z cn;have ed:=wX a9;have eq:=wX cF;unfold aM;go_in;go_wp2_with fail;refine ak (cx.o _) ?_;intro I Q;obtain⟨⟨c0,c1,c2,c3⟩,-⟩:=jY (aJ h4.o Q);exact aij
theorem azz(x:Ix)(left:Nat)(h:mY x left=true)(w:G):aM 302 #[iO x,H left] w (av false):=by
 obtain⟨h1,h2,T,af,aQ,a9,cF,eA,kv,AA,y6,GS,GT,GW⟩:=AV h;have am:=λW=>Jy x.c W
 have cn:=λW=>yK.jT x.c W
 rw[aQ]at am;obtain⟨c,jt,jf,k⟩:=x;unfold iO;dsimp only at *;have Cl:((i3 c:Int)==2)=false:=wX y6;have y':∀b:Bool,(i3 c==4)=b->((i3 c:Int)==4)=b:=λb V=>by rw[<-V,dW];simp;omega
 have Jx:((i3 c==4)=true->i3 c=4):=λV=>by simpa using V
 generalize wq:(i3 c==4)=pC at *;have hL:=y' _ rfl;generalize i3 c=cl at *;have mc:=bA w (J #[bf c,aC jt,aC jf,M k] 173);have h4:=z mc;have d2:=z am;have cx:=z cn;have ed:=wX eA;unfold aM;go_in;go_wp;exact FI
theorem azA(x:Ix)(left:Nat)(h:mY x left=true)(w:G):aM 303 #[iO x,H left] w (av false):=by
 obtain⟨h1,h2,T,af,aQ,a9,cF,eA,kv,AA,y6,GS,GT,GW⟩:=AV h;have am:=λW=>Jy x.c W
 have cn:=λW=>yK.jT x.c W
 rw[aQ]at am;obtain⟨c,jt,jf,k⟩:=x;unfold iO;dsimp only at *;have Cl:((i3 c:Int)==2)=false:=wX y6;have y':∀b:Bool,(i3 c==4)=b->((i3 c:Int)==4)=b:=λb V=>by rw[<-V,dW];simp;omega
 have Jx:((i3 c==4)=true->i3 c=4):=λV=>by simpa using V
 generalize wq:(i3 c==4)=pC at *;have hL:=y' _ rfl;generalize i3 c=cl at *;have mc:=bA w (J #[bf c,aC jt,aC jf,M k] 173);have h4:=z mc;have d2:=z am;have cx:=z cn;have ed:=wX kv;have eq:=wX AA;unfold aM;go_in;go_wp;exact FI
theorem azB(x:Ix)(left:Nat)(h:mY x left=true)(w:G):aM 304 #[iO x,H left] w (av false):=by
 obtain⟨h1,h2,T,af,aQ,a9,cF,eA,kv,AA,y6,GS,GT,GW⟩:=AV h;have am:=λW=>Jy x.c W
 have cn:=λW=>yK.jT x.c W
 rw[aQ]at am;obtain⟨c,jt,jf,k⟩:=x;unfold iO;dsimp only at *;have Cl:((i3 c:Int)==2)=false:=wX y6;have y':∀b:Bool,(i3 c==4)=b->((i3 c:Int)==4)=b:=λb V=>by rw[<-V,dW];simp;omega
 have Jx:((i3 c==4)=true->i3 c=4):=λV=>by simpa using V
 generalize wq:(i3 c==4)=pC at *;have hL:=y' _ rfl;generalize i3 c=cl at *;have mc:=bA w (J #[bf c,aC jt,aC jf,M k] 173);have h4:=z mc;have d2:=z am;have cx:=z cn;by_cases e:c=5
 ·subst e;have aK:=GT rfl;have aR:¬((left:Int)<=k):=aE;unfold aM;go_in;go_wp2_with fail;exact FI
 ·have aR:=wX e;have aK:=GW e;have aik:pC=true->(jt:Int)<left/\(jf:Int)<left:=λao=>by have:=aK (Jx ao);omega
  cases pC
  all_goals
   unfold aM;go_in;go_wp2_with fail;refine ak (cx.o _) ?_;intro I Q;obtain⟨⟨c0,c1,c2,c3⟩,-⟩:=jY (aJ h4.o Q)
   try(have aNf:=(aik trivial).1;have aNg:=(aik trivial).2)
   go_wp2_with fail
   all_goals
    go_ret;exact⟨by first|rfl|(simp;omega),((O w).alloc _).trans Q⟩
def EK:Array K:= #[H 40,.func (.func 298) #[] #[],H 41,.func (.func 300) #[] #[],H 43,.func (.func 301) #[] #[],H 44,.func (.func 302) #[] #[],H 45,.func (.func 303) #[] #[],H 42,.func (.func 304) #[] #[]]
theorem azC(w:G):aM 251 #[] w (bg EK):=by
 unfold aM;go_in;go_upto_region 1 with fail;apply wp_region_lit;refine bG 376 1 (#[H 40,.func (.func 298) #[] #[]]) ?_;refine bG 376 2 (#[H 41,.func (.func 300) #[] #[]]) ?_;refine bG 376 3 (#[H 43,.func (.func 301) #[] #[]]) ?_;refine bG 376 4 (#[H 44,.func (.func 302) #[] #[]]) ?_;refine bG 376 5 (#[H 45,.func (.func 303) #[] #[]]) ?_;refine bG 376 6 (#[H 42,.func (.func 304) #[] #[]]) ?_;refine bG 377 7 (EK) ?_;refine wpList_store_rowTo rfl 377 _ _ rfl rfl w.heap.size EK jU jU 377 _ (heap_alloc_last w _) aj aj aj ?_;rw[World.setRow_alloc_new];apply wpList_nil;rename_i am;refine am _ _ ?_;have key:∀aq:Act,aq.tmps.getD 0 undef=aB (some w)->aq.defers=[]->Code.wp prog Code.ret (bodyPost prog Tryz.f251 λe F=>e=aI (bg EK)/\Ext w F) aq (w.alloc (J EK 377)):=by intro aq ae hd;go_wp;exact cO (v:=bg EK) (lQ results251 _ _ _ _ _ _ _ ae (heap_alloc_last w _) underlying377 rfl aj) hd ⟨rfl,(O _).alloc _⟩
 exact Du
end LT
def Ni(h:S:=by exact⟨0,aE,rfl,O _⟩):S:=h
namespace LT
def Nj:Nat->Nat
 |0=>298
 |1=>300
 |2=>301
 |3=>302
 |4=>303
 |_=>304
theorem azD(x:Ix)(left:Nat)(h:mY x left=true)(k:Nat)(hk:k<6)(w:G):Calls prog (Nj k) #[iO x,H left] w λe F=>e=aI (av false)/\Ext w F:=by
 match k,hk with
 |0,_=>exact azw x left h w
 |1,_=>exact azx x left h w
 |2,_=>exact azy x left h w
 |3,_=>exact azz x left h w
 |4,_=>exact azA x left h w
 |5,_=>exact azB x left h w
def ail(k:Nat):Int:= [40,41,43,44,45,42].getD k 0
theorem azE(k:Nat)(h:k<6)(w:G):(Instr.index 377 (bg EK) (H k)).run prog w= .ok (bg #[H (ail k),.func (.func (Nj k)) #[] #[]]) w:=by
 rw[Uv (n:=6) (C6:=2) underlying377 underlying376 aj _ k h]
 match k,h with
 |0,_|1,_|2,_|3,_|4,_|5,_=>rfl
theorem azF(k:Nat)(h:k<6):∀args w,(callFunc (Nj k) args).run prog w= .ok (.enter (Nj k) args) w:=by
 match k,h with
 |0,_=>exact enters_of func298 aj rfl
 |1,_=>exact enters_of func300 aj rfl
 |2,_=>exact enters_of func301 aj rfl
 |3,_=>exact enters_of func302 aj rfl
 |4,_=>exact enters_of func303 aj rfl
 |5,_=>exact enters_of func304 aj rfl
theorem azG(x:Ix)(left:Nat)(X:left<=1000000)(h:mY x left=true)(w:G):aM 187 #[iO x,H left] w (H 0):=by
 have eb:=z (azD x left h);have eo:=z azC;obtain⟨c,jt,jf,eK⟩:=x;unfold iO at eb⊢;dsimp only at *;have mc:=bA w (J #[bf c,aC jt,aC jf,M eK] 173);have h4:=z mc;have RK:(0:Int)<=left:=aE;unfold aM;go_in;go_wp2_with fail;refine ak (eo.o _) ?_;intro I Q;have ot:=z (aJ h4.o Q);have bF:=z (((O w).alloc _).trans Q);have azH:=z azE;generalize EK=AG at *;go_wp2_with fail;go_loopw [8] (λi wr=>∃k:Nat,k<=6/\i=H k/\Ext I wr) (λi _=>6-(intOf i).toNat)
 case atStart=>exact Ni
 case round=>
  obtain⟨k,hk,rfl,D⟩:=hrel;by_cases ad:k<6
  ·have ai:=eb.o k ad;obtain⟨⟨c0,c1,c2,c3⟩,-⟩:=jY (aJ ot.o D);have aii:=λo=>((O wr).alloc o).cell c0
   have ahQ:=λo=>((O wr).alloc o).cell c1
   have azp:=λo=>((O wr).alloc o).cell c2
   have ae0:=λo=>((O wr).alloc o).cell c3
   have aT:=z D;have azI:=z ai;have oe:=azH.o k ad;have g1:=azF k ad;generalize Nj k=g at *;generalize ail k=we at *;go_wp2_with fail;refine ak (azI.o _) ?_;intro bQ bR;have c9:=z (((aT.o.alloc _).trans bR));go_wp2_with fail;go_roundw
   case rel=>exact⟨k+1,aE,cZ,c9.o⟩
   case measure=>exact eO
  ·obtain rfl:k=6:=aE;have aT:=z D;go_wp2_with fail;go_ret;exact⟨rfl,bF.o.trans aT.o⟩
end LT
def ain(h:S:=by intro I Q;have aT:=z (((O w).alloc _).trans Q);exact FH):S:=h
namespace LT
open yK (i3)
theorem azJ(x:Ix)(h1:x.c≠96)(h2:x.c≠97)(w:G):aM 254 #[iO x] w (bf 0):=by
 obtain⟨c,jt,jf,k⟩:=x;unfold iO;dsimp only at *;have ed:((c:Int) !=96)=true:=by rw[bne_iff_ne];omega
 have eq:((c:Int) !=97)=true:=by rw[bne_iff_ne];omega
 unfold aM;go_in;go_wp;exact FI
theorem azK(x:Ix)(h:i3 x.c≠2)(w:G):aM 307 #[iO x] w (bf 0):=by
 have cn:=λW=>yK.jT x.c W
 obtain⟨c,jt,jf,k⟩:=x;unfold iO;dsimp only at *;have aR:((i3 c:Int) !=2)=true:=by rw[bne_iff_ne];omega
 generalize i3 c=cl at *;have cx:=z cn;unfold aM;go_in;go_wp2_with fail;refine ak (cx.o _) ?_;exact ain
theorem azL(x:Ix)(at_ size:Nat)(w:G):Calls prog 306 #[iO x,H at_,H size] w λe F=>e=aI (.func (.func 375) #[] #[aB (some w),aB (some ⟨w+1,0,none⟩),aB (some ⟨w+2,0,none⟩)])/\F=((w.alloc (J #[bf x.c,aC x.jt,aC x.jf,M x.k] 173)).alloc (J #[H at_] 3)).alloc (J #[H size] 3):=by obtain⟨c,jt,jf,k⟩:=x;unfold iO;go_in;go_wp;exact vE
def G6{w:G}{v:K}{A:List Ix}(h:aS w 4 iD v A):∃a c,v=E a A c/\A.length<=c/\∀i,(hi:i<A.length)->∃b o,a=some ⟨b,o,none⟩/\w.cell? ⟨b,o+i*4,none⟩=some (bf (A[i].c:Int))/\w.cell? ⟨b,o+i*4+1,none⟩=some (aC (A[i].jt:Int))/\w.cell? ⟨b,o+i*4+2,none⟩=some (aC (A[i].jf:Int))/\w.cell? ⟨b,o+i*4+3,none⟩=some (M (A[i].k:Int)):=by obtain⟨a,c,h1,h2,T,af⟩:=h;refine⟨a,c,h1,h2,λi hi=> ?_⟩;obtain⟨b,o,e,k⟩:=af i hi;exact⟨b,o,e,k 0 tX,k 1 tX,k 2 tX,k 3 tX⟩
def azM(s:Int):bits BinOp.andNot IntKind.u16 0 s=0:=by
 simp[bits]
 rfl
theorem azN(P:Nat)(v:K)(A:List Ix)(e1:∀x∈A,x.c≠96/\x.c≠97)(i:Nat)(s:Int)(hi:i<A)(C:K)(w:G)(hv:aS w 4 iD v A)(V:w.cell? P=some v):aM 253 #[H i,bf s,aB (some P),C] w (bH #[]):=by
 obtain⟨a,c,rfl,ep,bV⟩:=G6 hv;obtain⟨b,o,rfl,r0,dq,ei,eM⟩:=bV i hi;obtain⟨et,fp⟩:=e1 _ (eB hi);have bd:=λW=>azJ A[i] et fp W
 have bL:(i:Int)<A:=aE;have nv:(bits BinOp.andNot IntKind.u16 0 s !=0)=false:=by rw[azM];rfl
 generalize A[i]=x at *;obtain⟨aNh,aNi,aNj,aNk⟩:=x;unfold iO at bd;dsimp only at *;have cD:=z bd;unfold aM;go_in;go_wp2_with fail;refine ak (cD.o _) ?_;intro I Q;have aT:=z Q;go_wp2_with fail
 first|go_end0|refine cO (gq rfl _ _ _) rfl ?_
 exact wL
def zx(l:List Int):Array K:=(l.map λx=>Value.int .u16 x).toArray
def Nk{W:G}{B:Nat}{l:List Int}{t:dD}(h:W.heap[B]?=some (.cells (zx l) t (0,0))){i:Nat}(hi:i<l):W.cell? ⟨B,i,none⟩=some (.int .u16 (l.getD i 0)):=by rw[aG h];simp[zx,dK hi,kR]
def azO(l:List Int)(i:Nat)(x:Int):(zx l).setIfInBounds i (bf x)=zx (l.set i x):=by simp[zx,List.map_set]
def AX(t:Nat):Bool:=t==4||t==171
structure AY(aH a7 rb ix n:Nat)(gE:List Bool)(j4:List Int)(W:G):Prop where
 cR:W.heap[aH]?=some (J #[E (some rb) n n] 425 (0,0))
 cS:W.heap[a7]?=some (J #[E (some ix) n n] 424 (0,0))
 b:W.heap[rb]?=some (J (oQ gE) 4 (0,0))
 s:W.heap[ix]?=some (J (zx j4) 171 (0,0))
 lb:gE.length=n
 ls:j4.length=n
variable {aH a7 rb ix n:Nat} {gE:List Bool} {j4:List Int} {W:G}
def AY.akY(h:AY aH a7 rb ix n gE j4 W){n0:Nat}(hn:n0<=ix)(i:Nat)(x:Int):AY aH a7 rb ix n gE (j4.set i x) (W.setCell ⟨ix,i,none⟩ (bf x))/\bq n0 AX W (W.setCell ⟨ix,i,none⟩ (bf x)):=by have bk:bq n0 (lT 171) W (W.setCell ⟨ix,i,none⟩ (bf x)):=bq.set (p:=⟨ix,i,none⟩) h.s rfl hn _;have ab:=fH h.s i (bf x);rw[azO]at ab;exact⟨⟨bk.blk h.cR (.inr rfl),bk.blk h.cS (.inr rfl),bk.blk h.b (.inr rfl),ab,h.lb,by rw[kD];exact h.ls⟩,bk.mono (aZ _) (λt an=>by unfold AX at an;unfold lT;simp at an⊢;exact an.2)⟩
def AY.Lu(h:AY aH a7 rb ix n gE j4 W){n0:Nat}(hn:n0<=rb)(i:Nat)(x:Bool):AY aH a7 rb ix n (gE.set i x) j4 (W.setCell ⟨rb,i,none⟩ (av x))/\bq n0 AX W (W.setCell ⟨rb,i,none⟩ (av x)):=by
 have bk:bq n0 (lT 4) W (W.setCell ⟨rb,i,none⟩ (av x)):=bq.set (p:=⟨rb,i,none⟩) h.b rfl hn _;have ab:=fH h.b i (av x);have e:(oQ gE).setIfInBounds i (av x)=oQ (gE.set i x):=by simp[oQ,List.map_set]
 rw[e]at ab;exact⟨⟨bk.blk h.cR (.inr rfl),bk.blk h.cS (.inr rfl),ab,bk.blk h.s (.inr rfl),by rw[kD];exact h.lb,h.ls⟩,bk.mono (aZ _) (λt an=>by unfold AX at an;unfold lT;simp at an⊢;exact an.1)⟩
theorem azP(h:AY aH a7 rb ix n gE j4 W){n0:Nat}(h1:n0<=rb)(h2:n0<=ix)(i:Nat)(hi:i<n)(m:Int):Calls prog 305 #[H i,bf m,aB (some aH),aB (some a7)] W λe F=>e=aI (bH #[])/\∃M1 M2,AY aH a7 rb ix n M1 M2 F/\bq n0 AX W F:=by
 have bL:(i:Int)<n:=aE;have a1:=aG h.cR 0;have a2:=aG h.cS 0
 change W.cell? aH=some _ at a1
 change W.cell? a7=some _ at a2
 have a3:=xV h.b (show i<gE.length by rw[h.lb];exact hi);have a4:=Nk h.s (show i<j4.length by rw[h.ls];exact hi);have dg:=dw h.b i;have fg:=dw h.s i;cases hr:gE.getD i false
 ·rw[hr]at a3;obtain⟨bk,f3⟩:=h.akY h2 i 65535;obtain⟨bW,e0⟩:=bk.Lu h1 i true;have b1:=aG bk.cR 0;have cV:=xV bk.b (show i<gE.length by rw[bk.lb];exact hi);have ky:=dw bk.b i;have cs:=aG bW.cS 0;have h6:=Nk bW.s (show i<(j4.set i 65535).length by rw[bW.ls];exact hi);have v7:=dw bW.s i;have cC:(j4.set i 65535).getD i 0=65535:=by simp[kR,h.ls,hi]
  rw[cC]at h6
  change World.cell? _ ⟨aH,0,none⟩=some _ at b1
  change World.cell? _ ⟨a7,0,none⟩=some _ at cs
  have bC:=z (λx:Int=>(bW.akY h2 i x));have gz:=z (ah f3 e0);go_in;go_wp
  first|go_end0|refine cO (gq rfl _ _ _) rfl ?_
  exact⟨rfl,_,_,(bC.o _).1,(gz.o.1.trans gz.o.2).trans (bC.o _).2⟩
 ·rw[hr]at a3;obtain⟨bW,e0⟩:=h.Lu h1 i true;have cs:=aG bW.cS 0;have h6:=Nk bW.s (show i<j4.length by rw[bW.ls];exact hi);have v7:=dw bW.s i
  change World.cell? _ ⟨a7,0,none⟩=some _ at cs
  have bC:=z (λx:Int=>(bW.akY h2 i x));have gz:=z e0;go_in;go_wp
  first|go_end0|refine cO (gq rfl _ _ _) rfl ?_
  exact⟨rfl,_,_,(bC.o _).1,gz.o.trans (bC.o _).2⟩
end LT
end Go.Proofs.YtopfefhenfineaaGreat
namespace Go.Proofs.YtopfefhenfineaaGreat
open Go.Proofs.Tryz Go.RowKit Go.Shelf bh
namespace LT
def aio(d:Array Int):∀m,m<=d.size->∀x∈Lib.compactUpTo d m,x∈d.toList
 |0,_,x,h=>by simp[Lib.compactUpTo]at h
 |m+1,R,x,h=>by
  rw[Lib.compactUpTo_succ]at h;rcases iZ.1 h with h2|h2
  ·exact aio d m aE x h2
  ·split at h2
   ·rw[pI.1 h2,getElem!_pos d m aE];simp
   ·cases h2
def azQ{b3:List Int}{x:Int}(h:x∈Lib.compact b3):x∈b3:=by have:=aio b3.toArray b3 ay x h;exact wK
def aip(l:List Int):l.flatMap jG.qV=l.map (Value.int .i64):=by
 induction l with
 |nil=>rfl
 |cons x r b9=>rw[sI,fK,b9];rfl
theorem RZ(bX:Nat)(w:G)(v:K)(l:List Int)(X:l.length<=10000000)(h:w.ownsRow bX 3 1 v l (l.flatMap jG.qV)):Calls prog 376 #[v] w λe F=>Below bX w F/\∃(e7:K)(hO:List Int),e=aI e7/\hO.length<=l/\(∀n∈hO,n∈l)/\F.ownsRow bX 3 1 e7 hO (hO.flatMap jG.qV):=by
 by_cases hv:v=E none 0 0
 ·subst hv;have hn:l=[]:=XI
  subst hn;refine ak (Tryz.slices_Compact_int_empty none 0 w) ?_;exact ahp
 ·rw[aip]at h;obtain⟨g,cap,rfl,hg,ad,hn,R,ey,h9⟩:=Lib.holds_of_ownsRow h hv;refine ak (Tryz.slices_Compact_int g 0 cap l w h9 aE hn) ?_;rintro F ⟨n,rfl⟩;have ge:=Lib.compact_length_le l;have ho:=Lib.ownsRow_putRow (q:=n) (ys:=Lib.compact l++List.replicate (l.length-(Lib.compact l).length) 0) h (by rw[dA,zQ];omega) ge;rw[List.take_left]at ho;refine⟨Lib.below_putRow (Below.refl bX w) hg,_,Lib.compact l,rfl,ge,(λx D=>azQ D),?_⟩;rw[aip];exact ho
end LT
end Go.Proofs.YtopfefhenfineaaGreat
