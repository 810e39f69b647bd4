import Derived.Test.YtopfefhenfineaaGreatP26
set_option linter.all false
set_option maxRecDepth 100000
set_option maxHeartbeats 8000000
namespace Go.Proofs.YtopfefhenfineaaGreat
open Go.Proofs.Tryz Go.RowKit Go.Shelf bh
attribute[local go_sem] Oper.semAt_some
variable{S:Prop}
def alo(h:S:=by obtain⟨Bx,bk,bW,d7,g3⟩:=ab;exact⟨Bx,bk,jl bW hg (λr e=>(hr r e).2),d7.kc (gT.grow hg λr e=>(hr r e).2),g3⟩):S:=h
def alp(h:S:=by unfold NY;gi_wp2;exact am _ _ ((KeepsOthers.alloc _ _).from _) (gT.ext ((O _).alloc _)) ⟨h1.ext' ((O _).alloc _),h2⟩ ⟨W.heap.size,ci,bA W _,hq.ext ((O _).alloc _),_,_,_,_,_,rfl⟩):S:=h
def YT(h:S:=by show _≠w.heap.size+1+1;omega):S:=h
def YU(h:S:=by show _≠w.heap.size+1+1+1;omega):S:=h
def Sy(h:S:=by have:=cv.la;omega):S:=h
namespace LT
open j7 (Rule Filter eT kT)
open jG (Dat qV yC)
theorem alq(vu:Nat)(p:bP)(s:dS)(cv:iW p)(w0:G)(hr:rD w0 p s)(bz:Nat->Bool)(bE:bz 3=false/\bz 36=false)(aO:G)(D:Ext w0 aO)(V:aO.heap[vu]?=some (J (cK p s).toArray 36 (0,0))):ac6 (yA p) Fence.wide 3 prog 61 #[aB (some vu)] (λy=> #[NY y]) (gT w0 bz) (λys=>ys.map fP.at=pq p) (λ_=>True) 60 aO:=
 λl cm g8 W fN lx _ hu ae=>aCb l vu p s cv w0 hr bz bE cm g8 W (aJ V fN) (D.trans fN) lx hu ae
theorem alr(p:bP)(s:dS)(w:G):Calls prog 31 #[iX p s] w λe F=>e=aI (.func (.func 61) #[] #[aB (some w)])/\F=w.alloc (J (cK p s).toArray 36):=by unfold iX cK;go_in;go_wp;exact vE
def gT.grow{aq B:G}{row:Option Nat}(hg:aq.grownBy B row)(hr:∀r,row=some r->∃o:Obj,aq.heap[r]?=some o/\o.isCells=false):gT 0 (λ_=>false) aq B:=
 ⟨hg.os,hg.tape,hg.output,hg.size,λ_ hk _=>absurd hk (Nat.not_lt_zero _),λ_ _ _ _ h _=>jl h hg hr⟩
def gT.cell{aq B:G}(h:gT 0 (λ_=>false) aq B){q:Addr}{v:K}(ao:aq.cell? q=some v):B.cell? q=some v:=by
 unfold World.cell? at ao⊢;split at ao
 ·rename_i U t fr bx;rw[h.kept _ _ _ _ bx rfl];exact ao
 ·cases ao
def gT.rd{α:Type}{aq B:G}(h:gT 0 (λ_=>false) aq B){n:Nat}{enc:α->List K}{v:K}{A:List α}(hr:aS aq n enc v A):aS B n enc v A:=by obtain⟨a,c,h1,h2,T,af⟩:=hr;exact⟨a,c,h1,h2,T,λi hi=>by obtain⟨b,o,e,b8⟩:=af i hi;exact⟨b,o,e,λj Z=>h.cell (b8 j Z)⟩⟩
def gT.atq{aq B:G}(h:gT 0 (λ_=>false) aq B){v:K}{aN:List Rule}(hr:mU aq 3 (j7.EU aq) v aN):mU B 3 (j7.EU B) v aN:=by obtain⟨ap,rfl,h1,h2⟩:=j7.ahW hr;exact j7.Ow (h.rd h1) λp ac=>h.rd (h2 p ac)
def yA.kc{p:bP}{y:fP}{aq B:G}(hg:yA p y aq)(h:gT 0 (λ_=>false) aq B):yA p y B:=hg.imp id λ⟨h1,h2,T,af,aQ,a9,cF⟩=>⟨h1,h2,T,af,aQ,h.atq a9,cF⟩
def yA.ext{p:bP}{y:fP}{aq B:G}(hg:yA p y aq)(h:Ext aq B):yA p y B:=hg.imp id λ⟨h1,h2,T,af⟩=>⟨h1,h2,T,af.ext h⟩
def acq(p:bP)(d:Nat):(p9 p (d+1) 0).length<=6*d:=by
 induction d with
 |zero=>
  rw[Sw];have h:∀a:Nat,p8 p 0 (a:Int)=false:=λa=>rfl
  unfold p9;simp[h]
 |succ d b9=>
  rw[Sw];have h1:p9 p (d+1) 6=p9 p (d+1) 0++((List.range 6).filter λa:Nat=>p8 p (d+1) (a:Int)).map λa=>(d+1,a):=by unfold p9;simp
  rw[h1,dA,dL];have h2:((List.range 6).filter λa:Nat=>p8 p (d+1) (a:Int)).length<=6:=cB (BH _ _) ay;omega
def als(p:bP):(pq p).length<=43:=by
 unfold pq;have h1:(p9 p 8 0).length<=42:=acq p 7;have h2:(xk p).length<=1:=by unfold xk;split<;>simp
 rw[dA];omega
def JU(p:bP)(y:fP)(q:List Ix):Prop:= ∃r,(if y.d=0 then GY (e2.FQ p.ar) r else GZ y.f r/\eT y.f=true)/\q=nE r
theorem aCe{α:Type}{aY:Fence}{n:Nat}{P:Program}{W:G}{aU:Array Oper}{rest:List Oper}{o:Oper}{a:Act}{bI:Exit->Act->G->Prop}(jV:o.guard=none)(s x:Operand)(t:dD)(ho:o.op= .call {callee:= .builtin .append,args:= #[s,x],argTypes:= #[t,t]}){e:dD}{m bytes:Nat}{aR:K}(a6:P.underlying t=some (.slice e))(i5:(P.info? e).map (λi=>(i.zero,i.size,i.bytes))=some (some aR,m,bytes))(hQ:aR.cells.size=m)(hn:0<m){enc:α->List K}(cp:∀x,(enc x).length=m)(fL:∀x,∀u∈enc x,u.oneCell'=true)(base:Nat)(u v:K)(A ys:List α)(ab:a.eval s=u)(D:a.eval x=v)(cc:W.ownsRow base e m u A (A.flatMap enc))(cX:aS W m enc v ys)(mn:A.length+ys<=100000000)(mr:bytes<=1000000)(pv:base<=W.heap.size)(h:∀bv bp F,F.ownsRow base e m (E bv (A.length+ys) bp) (A.length+ys) ((A++ys).flatMap enc)->W.grownBy F u.ownBlock->wpListIn aY n P aU bI rest (a.put o.dst (E bv (A.length+ys) bp)) F):wpListIn aY n P aU bI (o::rest) a W:=by
 refine wpListIn_plain jV λaX am=> ?_
 have h1:=Lj (aY:=aY) (n:=n) (aU:=aU) (aX:=aX) (bI:=bI) (py:=True) jV s x t ho a6 i5 hQ hn cp fL base u v A ys ab D cc cX mn mr pv (λbv bp F h2 T=>am _ _ (h bv bp F h2 T));rw[aF (by simp[Region.wanted,jV])]at h1;exact h1
def pz(p:bP)(y:fP):Prop:=(y.d=0/\y.a=6/\0<p.ar.length)\/(p8 p y.d (y.a:Int)=true/\0<y.d/\y.d<8/\y.a<6/\y.f.i6=y.a/\y.f.dflt=yx p y.d/\y.f.rules.Perm (xg p (y.a:Int) y.d)/\y.f.rules.Pairwise (λa b=>a.nr<=b.nr))
def yA.ok{p:bP}{y:fP}{W:G}(h:yA p y W):pz p y:=by
 rcases h with⟨rfl,h⟩|⟨h1,h2,T,af,aQ,-,cF,eA⟩
 ·exact .inl ⟨rfl,rfl,h⟩
 ·refine .inr ⟨h1,?_,h2,T,af,aQ,cF,eA⟩;rcases Nat.eq_zero_or_pos y.d with e|e
  ·rw[e]at h1;cases h1
  ·exact e
def CJ(p:bP):Prop:= ∀y,pz p y->y.d≠0->eT y.f=true/\le.most y.f.rules<=900
structure CK(p:bP)(y:fP)(x:jq):Prop where
 dr:x.dr=y.d
 ar:x.ar=y.a
 ok:uW x.p=true
 len:x.p.length<=4096
 of:JU p y x.p
def sj{α tp:Type}(aH:α->tp->Prop):List α->List tp->Prop
 | [],[]=>True
 |a::l,b::m=>aH a b/\sj aH l m
 |_,_=>False
def sj.snoc{α tp:Type}{aH:α->tp->Prop}{a:α}{b:tp}(iv:aH a b):∀ {l:List α} {m:List tp},sj aH l m->sj aH (l++[a]) (m++[b])
 | [],[],_=>⟨iv,trivial⟩
 |_::_,_::_,⟨h1,h2⟩=>⟨h1,h2.snoc iv⟩
def sj.len{α tp:Type}{aH:α->tp->Prop}:∀ {l:List α} {m:List tp},sj aH l m->l.length=m
 | [],[],_=>rfl
 |_::_,_::_,⟨_,h⟩=>by rw[dJ,dJ,h.len]
theorem aCf:(Tryz.prog.info? 53).map (λi=>(i.zero,i.size,i.bytes))=some (some (bg #[H 0,H 0,E none 0 0]),3,40):=aj
def sj.mem{α tp:Type}{aH:α->tp->Prop}:∀ {l:List α} {m:List tp},sj aH l m->∀b∈m,∃a∈l,aH a b
 | [],[],_,_,h=>by cases h
 |a::_,b::_,⟨h1,h2⟩,x,D=>by
  rcases iA.1 D with rfl|D
  ·exact⟨a,ay,h1⟩
  ·obtain⟨y,bN,k⟩:=h2.mem x D;exact⟨y,by simp[bN],k⟩
def zC(W:G)(v:K)(l:List jq):Prop:=W.ownsRow 0 53 3 v l (l.flatMap wh)/\l.length<=48/\∀x∈l,Sd x/\W.ownsRow 0 173 4 (E x.a x.p.length x.c) x.p.length (x.p.flatMap iD)
def zC.ok{W:G}{v:K}{l:List jq}(h:zC W v l):Cv W v l:=⟨eD Ns h.1,h.2.1,λx R=>⟨(h.2.2 x R).1,eD Ee (h.2.2 x R).2⟩⟩
def aCg{W:G}{base e n k:Nat}{u:K}{b3:List K}(h:W.ownsRow base e n u k b3):W.ownsRow 0 e n u k b3:=by
 obtain⟨h1,h2⟩:=h;refine⟨h1,?_⟩;rcases h2 with h2|⟨g,cap,bm,hv,-,r⟩
 ·exact .inl h2
 ·exact .inr ⟨g,cap,bm,hv,eG _,r⟩
def Sz(t:Nat):Bool:=t==53||t==37
structure E8(w:G)(p:bP)(s:dS)(opt:Bool)(n0 du:Nat)(pre:List fP)(W:G):Prop where
 ext:Ext w W
 pb:W.heap[w.heap.size]?=some (J (cK p s).toArray 36 (0,0))
 ob:W.heap[w.heap.size+1]?=some (J #[av opt] 4 (0,0))
 r4:W.heap[w.heap.size+2]?=some (J #[E none 0 0] 37 (0,0))
 r5:W.heap[w.heap.size+3]?=some (J #[H 0] 43 (0,0))
 hB:w.heap.size+3<du
 fin:∃(u:K) (L:List jq),W.heap[du]?=some (J #[u] 37 (0,0))/\W.ownsRow n0 53 3 u L (L.flatMap wh)/\sj (CK p) pre L/\∀x∈L,W.ownsRow 0 173 4 (E x.a x.p.length x.c) x.p.length (x.p.flatMap iD)
section
variable {w:G} {p:bP} {s:dS} {opt:Bool} {n0 du:Nat} {pre:List fP} {W aa:G}
def E8.ext'(h:E8 w p s opt n0 du pre W)(D:Ext W aa):E8 w p s opt n0 du pre aa:=by obtain⟨u,L,h1,h2,T,af⟩:=h.fin;have k:=bq.ext (n0:=0) (bz:=λ_=>false) D;exact⟨h.ext.trans D,aJ h.pb D,aJ h.ob D,aJ h.r4 D,aJ h.r5 D,h.hB,u,L,aJ h1 D,k.own h2 rfl,T,λx R=>k.own (af x R) rfl⟩
def E8.grow(h:E8 w p s opt n0 du pre W){row:Option Nat}(hg:W.grownBy aa row)(hr:∀r,row=some r->w.heap.size<=r/\∃o:Obj,W.heap[r]?=some o/\o.isCells=false):E8 w p s opt n0 du pre aa:=by
 have cQ:=λr e=>(hr r e).2
 have k:=gT.grow hg cQ;obtain⟨u,L,h1,h2,T,af⟩:=h.fin;exact⟨h.ext.grown hg (λr e=>(hr r e).1),jl h.pb hg cQ,jl h.ob hg cQ,jl h.r4 hg cQ,jl h.r5 hg cQ,h.hB,u,L,jl h1 hg cQ,k.own h2 rfl,T,λx R=>k.own (af x R) rfl⟩
end
theorem Bz(p:bP)(s:dS)(opt:Bool)(cv:iW p)(w:G)(hr:rD w p s):Calls prog 37 #[iX p s,av opt] w λe F=>Ext w F/\((e=aI (bH #[E none 0 0,H 270])/\¬CJ p)\/∃(a:Option Addr)(c:Nat)(L:List jq)(ys:List fP),e=aI (bH #[E a L c,H 0])/\zC F (E a L c) L/\ys.map fP.at=pq p/\sj (CK p) ys L/\∀y∈ys,pz p y):=by
 have em:=λW (D:Ext w W)=>YK p s cv W (hr.ext D) Sy (by have:=cv.lf;omega)
 have cW:=z em;have cD:=z hr;have e1:=λW=>alr p s W
 have b:=bA w (J (cK p s).toArray 36);unfold iX cK at *;have cz:=z e1;obtain⟨y0,y1,y2,tn,xe,xf,E2,Hk,Hi,NO,NR,NS,NT⟩:=pY b;refine(eP (n:=4)).1 ?_;refine callsIn_of_wp_marks func37 rfl trivial ?_ rfl;simp only[ntmps37,ku,dJ,fu,Nat.reduceAdd,Nat.reduceSub,oD,oC,oH,oG,iq,gZ];gi_upto_region 3 with(refine⟨trivial,?_⟩;refine iN (eP.2 (cW.o _ (((((O w).alloc _).alloc _).alloc _).alloc _))) ?_;intro I Q)
 have vm:=aJ b (((((O _).alloc _).alloc _).alloc _).trans Q);have D:=(((((O w).alloc _).alloc _).alloc _).alloc _).trans Q;have n1:=bA (w.alloc (J #[E s.a p.ar s.c,aC p.fm,E s.fa p.fc s.fc,M p.dn,aC p.lm,E s.la p.lc s.lc,E s.ga p.fa s.gc,aC p.fd,aA (p.sp:Int),av p.we,av p.pe,av p.rt,av p.np] 36)) (J #[av opt] 4);have n2:=bA (World.alloc (w.alloc (J #[E s.a p.ar s.c,aC p.fm,E s.fa p.fc s.fc,M p.dn,aC p.lm,E s.la p.lc s.lc,E s.ga p.fa s.gc,aC p.fd,aA (p.sp:Int),av p.we,av p.pe,av p.rt,av p.np] 36)) (J #[av opt] 4)) (J #[E none 0 0] 37);have n3:=bA (World.alloc (World.alloc (w.alloc (J #[E s.a p.ar s.c,aC p.fm,E s.fa p.fc s.fc,M p.dn,aC p.lm,E s.la p.lc s.lc,E s.ga p.fa s.gc,aC p.fd,aA (p.sp:Int),av p.we,av p.pe,av p.rt,av p.np] 36)) (J #[av opt] 4)) (J #[E none 0 0] 37)) (J #[H 0] 43);simp only[dR]at n1 n2 n3;replace n1:=aJ n1 ((((O _).alloc _).alloc _).trans Q);replace n2:=aJ n2 (((O _).alloc _).trans Q);replace n3:=aJ n3 Q;have eo:=z (ah vm (ah n1 (ah n2 (ah n3 D))));obtain⟨fR,ed,eq,q2,DD,HU,Lv,Lw,HW,Lx,Ly,Lz,LA⟩:=pY (aJ vm ((O I).alloc (J #[E none 0 0] 37)));gi_upto_region 5 with(refine⟨trivial,?_⟩;refine iN (eP.2 (cz.o _)) ?_;rintro aO rfl)
 obtain⟨a8,b'⟩:∃a8,a8=(I.alloc (J #[E none 0 0] 37)).alloc (J (cK p s).toArray 36):=⟨_,rfl⟩;have ag:Ext I a8:=by rw[b'];exact((O _).alloc _).alloc _
 have fv:a8.heap[I.heap.size]?=some (J #[E none 0 0] 37 (0,0)):=by rw[b'];exact aJ (bA I _) ((O _).alloc _)
 have ck:a8.heap[I.heap.size+1]?=some (J (cK p s).toArray 36 (0,0)):=by
  rw[b'];have:=bA (I.alloc (J #[E none 0 0] 37)) (J (cK p s).toArray 36)
  rwa [dR]at this
 have eC:a8.heap.size=I+2:=by rw[b'];simp
 have dp:w.heap.size+4<=I.heap.size:=by have:=(dG.1 eo.o.2.2.2.1).1;omega
 have aCh:E8 w p s opt I I [] a8:=⟨eo.o.2.2.2.2.trans ag,aJ eo.o.1 ag,aJ eo.o.2.1 ag,aJ eo.o.2.2.1 ag,aJ eo.o.2.2.2.1 ag,aE,_,[],fv,⟨rfl,.inl ay⟩,trivial,λ_ h=>by cases h⟩;unfold cK at b';rw[<-b'];have bY:=z (ah dp (ah eC ag));have n4:1<=4:=aE;refine ac7 (w0:=a8) rfl n4 (gf:=61) (lb:= #[aB (some ⟨I+1,0,none⟩)]) rfl trivial (enters_of func61 aj rfl)
  (alq (I+1) p s cv I (cD.o.ext eo.o.2.2.2.2) Sz ⟨rfl,rfl⟩ a8 ag ck) (λh k=>h.trans k) (λaa l o fe X ho ao _=>gT.putObj aE ho ao) (Below.refl _ _) (λ_=>rfl)
  (λpre W=>E8 w p s opt I I pre W/\∀y∈pre,pz p y)
  (λc pre W=>c= .ret/\Ext w W/\(W.heap[w.heap.size+2]?=some (J #[E none 0 0] 37 (0,0))/\W.heap[w.heap.size+3]?=some (J #[H 270] 43 (0,0)))/\¬CJ p)
  (λs aq B row ab hg hr=>⟨ab.1.grow hg (λr e=>⟨by have:=(hr r e).1;omega,(hr r e).2⟩),ab.2⟩)
  (λc s aq B row ab hg hr=>⟨ab.1,ab.2.1.grown hg (λr e=>by have:=(hr r e).1;omega),⟨jl ab.2.2.1.1 hg (λr e=>(hr r e).2),jl ab.2.2.1.2 hg (λr e=>(hr r e).2)⟩,ab.2.2.2⟩)
  ⟨aCh,λ_ h=>by cases h⟩
  (λy bu W=>∃Bx,I.heap.size<Bx/\W.heap[Bx]?=some (J #[H y.d,H y.a,H y.f.i6,E y.b y.n y.c,M y.f.dflt] 87 (0,0))/\yA p y W/\
   ∃EL EM M' EN Nd,bu= {tmps:= #[bg #[E s.a p.ar s.c,aC p.fm,E s.fa p.fc s.fc,M p.dn,aC p.lm,E s.la p.lc s.lc,E s.ga p.fa s.gc,aC p.fd,aA (p.sp:Int),av p.we,av p.pe,av p.rt,av p.np],av opt,aB (some w),aB (some ⟨w+1,0,none⟩),aB (some ⟨w+1+1,0,none⟩),aB (some ⟨w+1+1+1,0,none⟩),aB (some I),aB (some Bx),undef,undef,EL,EM,M',EN,.func (.func 61) #[] #[aB (some ⟨I+1,0,none⟩)],Nd,undef,undef,undef,undef,undef,undef,undef,undef,undef,undef,undef,undef,undef,undef,undef,undef,undef,undef,undef,undef,undef,undef,undef,undef,undef,undef,undef,undef,undef],defers:= []})
  (λy bu _ aq B row ab hg hr=> ?sk)
  ?assign ?body ?done ?stop
 case sk=>exact alo
 case assign=>
  rintro l pre y W aX ⟨h1,h2⟩ hq am;have ci:I.heap.size<W:=by obtain⟨u,L,T,-⟩:=h1.fin;exact(dG.1 T).1
  exact alp
 case body=>
  rintro l pre y bu W X-⟨h1,h2⟩ ⟨Bx,FW,h3,hq,EL,EM,M',EN,Nd,rfl⟩ ad;have ly:W.cell? Bx=some (H y.d):=aG h3 0;have g2:W.cell? ⟨Bx,1,none⟩=some (H y.a):=aG h3 1;have ov:W.cell? ⟨Bx,2,none⟩=some (H y.f.i6):=aG h3 2;have mf:W.cell? ⟨Bx,3,none⟩=some (E y.b y.n y.c):=aG h3 3;have gO:W.cell? ⟨Bx,4,none⟩=some (M y.f.dflt):=aG h3 4;obtain⟨e3,-⟩:=pY h1.pb;have ef:W.cell? ⟨w+1,0,none⟩=some (av opt):=aG h1.ob 0;have E4:=hq.ok;have nS:(y.d=0/\y.a=6)\/(0<y.d/\y.d<8/\y.a<6):=by
   rcases E4 with⟨h,k,-⟩|⟨-,T,af,aQ,-⟩
   ·exact .inl ⟨h,k⟩
   ·exact .inr ⟨T,af,aQ⟩
  have bC:=z (ah h1 (ah h2 (ah E4 (ah h3 (ah nS FW)))));have So:(y.d=0/\∃ax:DS,(∀r,ax.cr r->JU p y (nE r))/\(CJ p->ax.sm)/\Calls prog 73 #[E s.a p.ar s.c,av opt] W λe F=>Ext W F/\Nh ax e F)\/
   (y.d≠0/\∃ax:DS,(∀r,ax.cr r->JU p y (nE r))/\(CJ p->ax.sm)/\Calls prog 74 #[bg #[H y.f.i6,E y.b y.n y.c,M y.f.dflt],av opt] W λe F=>Ext W F/\Nh ax e F):=by
   by_cases hd:y.d=0
   ·refine .inl ⟨hd,DG (e2.FQ p.ar),λr h=>⟨r,by rw[aF hd];exact h,rfl⟩,λ_=>trivial,?_⟩;have bO:0<p.ar.length:=by
     rcases E4 with⟨-,-,h⟩|⟨-,h,-⟩
     ·exact h
     ·omega
    refine azn _ p.ar Sy ?_ bO opt W (cD.o.ext h1.ext).ar;rw[List.any_eq_false];intro a bT;have:=cv.ar.1 a bT;unfold yC;simp;omega
   ·refine .inr ⟨hd,G5 y.f (eT y.f=true/\le.most y.f.rules<=900),λr h=>⟨r,by rw[au hd];exact h,rfl⟩,λab=>ab y E4 hd,?_⟩;rcases hq with⟨rfl,-⟩|⟨-,-,af,ai,zr,cX,alu,-⟩
    ·exact absurd rfl hd
    ·obtain⟨X,Ln⟩:=YP cv (y.a:Int) y.d;have alv:∀r∈y.f.rules,CG r:=λr hr=>Ln r (alu.mem_iff.1 hr)
     exact azo y.f _ ⟨by rw[ai];omega,by rw[ai];omega,by rw[zr];exact ali cv _,by rw[alu.length_eq];omega,λr hr=>(alv r hr).1⟩ (λr hr=>by have:=(alv r hr).2;omega) opt W cX
  rcases So with⟨hd,ax,cE,YV,ao⟩|⟨hd,ax,cE,YV,ao⟩
  case' inl=>have pL:((y.d:Int)==0)=true:=by rw[hd];rfl
  case' inr=>have pL:((y.d:Int)==0)=false:=iH.2 aE
  all_goals
   have dt:=z ao;have fj:=z (ah cE YV);clear ao cE YV hd;gi_wp2;refine⟨trivial,?_⟩;refine(CallsIn.inRound l (eP.2 dt.o)).mono ?_;rintro e bQ ⟨bR,a5,n5,c5,aCi,rfl,d0⟩;have e8:=bC.o.1.ext' bR;have alw:=aJ bC.o.2.2.2.1 bR;have c9:=z bR;rcases d0 with⟨JH,jm⟩|⟨rfl,NX,hD,rfl,N0⟩
   ·have aCj:(aCi !=0)=true:=by rcases JH with rfl|rfl<;>rfl
    have gA:bQ.cell? ⟨w+1+1,0,none⟩=some _:=aG e8.r4 0;have hR:bQ.cell? ⟨w+1+1+1,0,none⟩=some _:=aG e8.r5 0;have f4:bQ.frozen? ⟨w+1+1,0,none⟩=false:=dw e8.r4 0;have v6:bQ.frozen? ⟨w+1+1+1,0,none⟩=false:=dw e8.r5 0;have qr:=z (ah e8 jm);clear e8 alw JH jm bR;gi_wp2;have aCk:=qr.o.1.ext;have k3:(bQ.setCell ⟨w+1+1,0,none⟩ (E none 0 0)).heap[w.heap.size+2]?=some (J #[E none 0 0] 37 (0,0)):=fH qr.o.1.r4 0 _;have mb:(bQ.setCell ⟨w+1+1,0,none⟩ (E none 0 0)).heap[w.heap.size+3]?=some (J #[H 0] 43 (0,0)):=(fI _ _ _ _ YT).trans qr.o.1.r5;exact⟨(((bq.ext (n0:=0) (bz:=λ_=>false) c9.o).ko.trans (KeepsOthers.setCell _ _ _)).trans (KeepsOthers.setCell _ _ _)).from _,rfl,(aCk.setCell Yf _).setCell (by show _<=w.heap.size+1+1+1;omega) _,⟨(fI _ _ _ _ YU).trans k3,fH mb 0 _⟩,λh=>qr.o.2 (fj.o.2 h)⟩
   ·obtain⟨u,L,tt,cc,fX,N1⟩:=e8.fin;obtain⟨bv,bp,rfl⟩:=dP cc;obtain⟨CD,JS⟩:∃CD:jq,CD=⟨y.d,y.a,NX,a5,c5⟩:=⟨_,rfl⟩;have o0:bQ.cell? I=some (E bv L bp):=aG tt 0;have aNN:=bR.cell ly;have aNO:=bR.cell g2;have jI:L.length<=60:=by rw[<-fX.len];omega
    have cX:∀aa:G,aS (aa.alloc (J #[H y.d,H y.a,E a5 NX c5] 53)) 3 wh (E (some ⟨aa.heap.size,0,none⟩) 1 1) [CD]:=λaa=>by have:=jh Ns aa [CD] 53 _ rfl;rw[JS]at this⊢;exact this
    have cx:=z (ah e8 (ah tt (ah cc (ah fX (ah N1 (ah N0 (ah hD JS)))))));have tI:=z cX;have afG:=bR.size;have Mz:=(dG.1 tt).1;clear e8 alw bR tt cc fX N1 N0 hD cX JS ly g2 ov mf gO e3 ef
    gi_wp2_with(gi_at_builtin;refine aCe rfl (.tmp 35) (.tmp 42) 37 rfl underlying37 aCf rfl Y Ns aA9 I.heap.size (E bv L.length bp) _ L [CD] rfl rfl (pG cx.o.2.2.1 _) (tI.o _) dU Y dU ?_;intro jJ c6 cT gC im
                have pS:bq I Sz bQ cT:=(bq.alloc _ _).trans ((bq.grown (pG cx.o.2.2.1 _) im rfl (aZ _)));have xh:=(bq.grown (n0:=I.heap.size) (bz:=λx=>x==53) (pG cx.o.2.2.1 _) im rfl (aZ _)).blk (aJ cx.o.2.1 ((O _).alloc _)) (.inr rfl);have tA:cT.cell? I=some (E bv L bp):=aG xh 0;have q3:=dw xh 0;have kq:=z (ah gC (ah pS xh));clear gC pS im xh)
    have tv:bq I Sz bQ (cT.setCell I (E jJ (L+1) c6)):=kq.o.2.1.trans (bq.set (p:=I) kq.o.2.2 rfl (aZ _) _);have vy:bq I Sz W _:=(bq.ext c9.o).trans tv;have e8:=cx.o.1;have hD:=cx.o.2.2.2.2.2.2.1;have Sp:(cT.setCell I (E jJ (L+1) c6)).ownsRow I 53 3 (E jJ (L+1) c6) (L+1) ((L++[CD]).flatMap wh):=(bq.set (n0:=I.heap.size) (bz:=λx=>x==37) (p:=I) kq.o.2.2 rfl (aZ _) _).own kq.o.1 rfl;have JS:=cx.o.2.2.2.2.2.2.2;refine⟨vy.ko.from _,gT.of vy,⟨⟨tv.lX e8.ext aE,tv.blk e8.pb (.inr rfl),tv.blk e8.ob (.inr rfl),tv.blk e8.r4 (.inl aE),tv.blk e8.r5 (.inl aE),e8.hB,_,L++[CD],fH kq.o.2.2 0 _,by rw[dA];exact Sp,sj.snoc ?_ cx.o.2.2.2.1,λx R=> ?_⟩,λx R=> ?_⟩⟩
    ·rw[JS];exact⟨rfl,rfl,hD.1,hD.2.1,by obtain⟨r,h1,h2⟩:=hD.2.2;rw[h2];exact fj.o.1 r h1⟩
    ·rcases iZ.1 R with h|h
     ·exact tv.own (cx.o.2.2.2.2.1 x h) rfl
     ·rw[pI.1 h,JS];exact tv.own cx.o.2.2.2.2.2.1 rfl
    ·rcases iZ.1 R with h|h
     ·exact bC.o.2.1 x h
     ·rw[pI.1 h];exact bC.o.2.2.1
 case done=>
  rintro ax ys W cE px ⟨h1,h2⟩ hk;obtain⟨u,L,tt,cc,fX,N1⟩:=h1.fin;obtain⟨bv,bp,rfl⟩:=dP cc;have o0:W.cell? I=some (E bv L bp):=aG tt 0;have gA:W.cell? ⟨w+1+1,0,none⟩=some _:=aG h1.r4 0;have hR:W.cell? ⟨w+1+1+1,0,none⟩=some _:=aG h1.r5 0;have f4:W.frozen? ⟨w+1+1,0,none⟩=false:=dw h1.r4 0;have v6:W.frozen? ⟨w+1+1+1,0,none⟩=false:=dw h1.r5 0;have bC:=z (ah h1 (ah h2 (ah cc (ah fX N1))));clear h1 h2 cc fX N1 tt;gi_wp2;have H1:=bC.o.1;have k3:(W.setCell ⟨w+1+1,0,none⟩ (E bv L bp)).heap[w.heap.size+2]?=some (J #[E bv L bp] 37 (0,0)):=fH H1.r4 0 _;have mb:(W.setCell ⟨w+1+1,0,none⟩ (E bv L bp)).heap[w.heap.size+3]?=some (J #[H 0] 43 (0,0)):=(fI _ _ _ _ YT).trans H1.r5;have D:Ext w ((W.setCell ⟨w+1+1,0,none⟩ (E bv L bp)).setCell ⟨w+1+1+1,0,none⟩ (H 0)):=(H1.ext.setCell Yf _).setCell (by show _<=w.heap.size+1+1+1;omega) _;have Ss:((W.setCell ⟨w+1+1,0,none⟩ (E bv L bp)).setCell ⟨w+1+1+1,0,none⟩ (H 0)).heap[ax]?=some (.deferred (some [])):=(fI _ _ _ _ YU).trans ((fI _ _ _ _ YT).trans hk);have aCl:=(fI _ ⟨w+1+1+1,0,none⟩ (H 0) (w+2) YU).trans k3;have aCm:=fH mb 0 (H 0);have alx:bq 0 (λx=>x==37||x==43) W ((W.setCell ⟨w+1+1,0,none⟩ (E bv L bp)).setCell ⟨w+1+1+1,0,none⟩ (H 0)):=(bq.set (p:=⟨w+1+1,0,none⟩) H1.r4 rfl (eG _) _).trans (bq.set (p:=⟨w+1+1+1,0,none⟩) mb rfl (eG _) _);generalize(W.setCell ⟨w+1+1,0,none⟩ (E bv L bp)).setCell ⟨w+1+1+1,0,none⟩ (H 0)=hN at *;refine⟨ay,.inl ⟨_,_,rfl,run_takeDeferred Ss,?_⟩⟩;have mT:=grownBy_putObj' hN ax (.deferred none);have M0:∀r,some ax=some r->∃o:Obj,hN.heap[r]?=some o/\o.isCells=false:=λr e=>by cases e;exact⟨_,Ss,rfl⟩
  have kk:=gT.grow mT M0;have c4:=aG (kk.kept _ _ _ _ aCl rfl) 0;have c5:=aG (kk.kept _ _ _ _ aCm rfl) 0
  change World.cell? _ ⟨w+1+1,0,none⟩=_ at c4
  change World.cell? _ ⟨w+1+1+1,0,none⟩=_ at c5
  refine⟨bH #[E bv L bp,H 0],by simp[results,results37,go_sem,c4,c5],?_⟩;refine⟨D.grown mT (λr e=>by cases e;omega),.inr ⟨bv,bp,L,ys,rfl,⟨aCg (kk.own (alx.own bC.o.2.2.1 rfl) rfl),?_,λx R=> ?_⟩,px,bC.o.2.2.2.1,bC.o.2.1⟩⟩
  ·rw[<-bC.o.2.2.2.1.len,<-dL (f:=fP.at),px];exact cB (als p) Y
  ·obtain⟨y,bN,bE⟩:=bC.o.2.2.2.1.mem x R;refine⟨⟨bE.ok,bE.len,?_⟩,kk.own (alx.own (bC.o.2.2.2.2 x R) rfl) rfl⟩;rw[bE.dr,bE.ar];rcases bC.o.2.1 y bN with⟨h,k,-⟩|⟨-,T,af,aQ,-⟩
   ·exact .inl ⟨h,k⟩
   ·exact .inr ⟨T,af,aQ⟩
 case stop=>
  rintro ax c pre W cE-⟨rfl,h1,⟨h2,T⟩,af⟩ hk;have ev:=z (ah h1 af);clear h1 af;gi_wp2;refine⟨ay,.inl ⟨_,_,rfl,run_takeDeferred hk,?_⟩⟩;have mT:=grownBy_putObj' W ax (.deferred none);have M0:∀r,some ax=some r->∃o:Obj,W.heap[r]?=some o/\o.isCells=false:=λr e=>by cases e;exact⟨_,hk,rfl⟩
  have kk:=gT.grow mT M0;have c4:=aG (kk.kept _ _ _ _ h2 rfl) 0;have c5:=aG (kk.kept _ _ _ _ T rfl) 0
  change World.cell? _ ⟨w+1+1,0,none⟩=_ at c4
  change World.cell? _ ⟨w+1+1+1,0,none⟩=_ at c5
  refine⟨bH #[E none 0 0,H 270],by simp[results,results37,go_sem,c4,c5],?_⟩;exact⟨ev.o.1.grown mT (λr e=>by cases e;omega),.inl ⟨rfl,ev.o.2⟩⟩
end LT
end Go.Proofs.YtopfefhenfineaaGreat
