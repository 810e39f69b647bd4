import Derived.Test.YtopfefhenfineaaGreatP14
set_option linter.all false
set_option maxRecDepth 100000
set_option maxHeartbeats 8000000
namespace Go.Proofs.YtopfefhenfineaaGreat
open Go.Proofs.Tryz Go.RowKit Go.Shelf bh
attribute[local go_sem] Oper.semAt_some bh.Oper.idle bh.Oper.lV bh.Oper.jF
namespace LT
open jG (aD sP dI gQ mR dx eU gK ig)
theorem awk:(Tryz.prog.info? 173).map (λi=>(i.zero,i.size,i.bytes))=some (some (bg #[bf 0,aC 0,aC 0,M 0]),4,8):=aj
def lT(a:Nat)(t:Nat):Bool:=t==a
def vR(t:Nat):Bool:=t==173||t==349
theorem awl{aY:Fence}{n:Nat}{P:Program}{α:Type}{W:G}{aU:Array Oper}{o:Oper}{a:Act}{aX:Act->G->Prop}{bI:Exit->Act->G->Prop}{py:Prop}(co:∀f,aY.fn f)(jV:o.guard=none)(s x:Operand)(t:dD)(ho:o.op= .call {callee:= .builtin .append,args:= #[s,x],argTypes:= #[t,t]}){e:dD}{m bytes:Nat}{aR:K}(a6:P.underlying t=some (.slice e))(i5:(P.info? e).map (λi=>(i.zero,i.size,i.bytes))=some (some aR,m,bytes))(hQ:aR.cells.size=m)(hn:0<m){enc:α->List K}(cp:∀x,(enc x).length=m)(fL:∀x,∀u∈enc x,u.oneCell'=true)(base:Nat)(u v:K)(A ys:List α)(ab:a.eval s=u)(D:a.eval x=v)(cc:W.ownsRow base e m u A (A.flatMap enc))(cX:aS W m enc v ys)(mn:A.length+ys<=100000000)(mr:bytes<=1000000)(pv:base<=W.heap.size)(h:∀bv bp F,F.ownsRow base e m (E bv (A.length+ys) bp) (A.length+ys) ((A++ys).flatMap enc)->W.grownBy F u.ownBlock->(∀b,(Value.slice bv (A.length+ys) bp).ownBlock=some b->u.ownBlock=some b\/W.heap.size<=b)->aX (a.put o.dst (E bv (A.length+ys) bp)) F):if Region.wanted o (yielded aU a.tmps)=true then Oper.wpIn aY n P o a W aX bI else py:=by
 have bJ:Region.wanted o (yielded aU a.tmps)=true:=by simp[Region.wanted,jV]
 rw[aF bJ];obtain⟨bv,bp,F,hr,h2,T,af⟩:=acB (P:=P) (eJ:=o.type) a6 i5 hQ hn cp fL cc cX mn mr pv;unfold Oper.wpIn;refine⟨λf _=>co f,?_⟩;rw[Oper.semAt_eq _ _ _ (λc ao=>by rw[ho]at ao;cases ao)];simp[execOp,ho,resolve,invoke,builtin,ab,D,hr,Result.andThen];exact h bv bp F h2 T af
structure QX(a7:Nat->Prop)(W:G)where
 w:G
 h:bh.Keep a7 W w
instance(a7:Nat->Prop)(W:G):Nonempty (QX a7 W):=⟨⟨W,bh.Keep.refl _ _⟩⟩
def IY{a7:Nat->Prop}{W:G}{p:Addr}{v:K}(ac:a7 p.block)(h:W.cell? p=some v):∀x:QX a7 W,x.w.cell? p=some v:=λx=>(x.h.cell ac).trans h
def awm{W aa:G}{row:Option Nat}(hg:W.grownBy aa row){a7:Nat->Prop}(hS:∀k,a7 k->k<W.heap.size/\some k≠row):bh.Keep a7 W aa:=
 ⟨hg.os,hg.tape,hg.output,hg.size,λk hk=>hg.block k (hS k hk).1 (hS k hk).2⟩
structure kJ(w0:G)(B:Nat)(v:K)(g:Nat)(de:List Ix)(pl:List Nat)(far:Int)(W:G):Prop where
 ext:Ext w0 W
 hB:w0.heap.size<=B
 box:W.heap[B]?=some (J #[v,E (some g) pl pl.length,H far] 349 (0,0))
 own:W.ownsRow w0 173 4 v de (de.flatMap iD)
 hg:w0.heap.size<=g
 pls:W.heap[g]?=some (J (isA pl) 3 (0,0))
variable {w0 W:G} {B g:Nat} {v:K} {de:List Ix} {pl:List Nat} {far:Int}
def kJ.kept{bz:Nat->Bool}{aa:G}(h:kJ w0 B v g de pl far W)(hk:bq w0 bz W aa)(h1:bz 349=false)(h2:bz 173=false)(T:bz 3=false):kJ w0 B v g de pl far aa:=
 ⟨hk.lX h.ext (aZ _),h.hB,hk.blk h.box (.inr h1),hk.own h.own h2,h.hg,hk.blk h.pls (.inr T)⟩
def kJ.ext'{aa:G}(h:kJ w0 B v g de pl far W)(D:Ext W aa):kJ w0 B v g de pl far aa:=h.kept (bz:=λ_=>false) (.ext D) rfl rfl rfl
def kJ.appended{hN:G}{u:K}{ys:List Ix}{n:Nat}(h:kJ w0 B v g de pl far W)(hg:W.grownBy hN v.ownBlock)(hn:n=(de++ys).length)(ho:hN.ownsRow w0 173 4 u n ((de++ys).flatMap iD)):kJ w0 B u g (de++ys) pl far (hN.setCell B u)/\bq w0 vR W (hN.setCell B u):=by have bk:bq w0 (lT 173) W hN:=bq.grown h.own hg rfl (aZ _);have w5:=bk.blk h.box (.inr rfl);have bW:bq w0 (lT 349) hN (hN.setCell B u):=bq.set (p:=⟨B,0,none⟩) w5 rfl h.hB u;subst hn;refine⟨⟨bW.lX (bk.lX h.ext (aZ _)) (aZ _),h.hB,fH w5 0 u,bW.own ho rfl,h.hg,bW.blk (bk.blk h.pls (.inr rfl)) (.inr rfl)⟩,?_⟩;exact(bk.mono (aZ _) (λt an=>by unfold vR at an;unfold lT;simp at an⊢;exact an.1)).trans (bW.mono (aZ _) (λt an=>by unfold vR at an;unfold lT;simp at an⊢;exact an.2))
def kJ.row{aq:G}{row:Option Nat}(h:kJ w0 B v g de pl far W)(hg:W.grownBy aq row)(hr:∀r,row=some r->∃o:Obj,W.heap[r]?=some o/\o.isCells=false)(cQ:∀r,row=some r->w0.heap.size<=r):kJ w0 B v g de pl far aq:=
 ⟨h.ext.grown hg cQ,h.hB,jl h.box hg hr,WC h.own hg hr,h.hg,jl h.pls hg hr⟩
def bq.row{n0:Nat}{bz:Nat->Bool}{aq C:G}{row:Option Nat}(h:bq n0 bz W aq)(hg:aq.grownBy C row)(hr:∀r,row=some r->W.heap.size<=r):bq n0 bz W C:=
 ⟨hg.os.trans h.os,hg.tape.trans h.tape,hg.output.trans h.output,cB h.size hg.size,λk o ho hn=>by have ad:=(dG.1 ho).1;exact(hg.block k (vw ad h.size) (λe=>by have:=hr k e.symm;omega)).trans (h.kept k o ho hn)⟩
theorem WL(h:kJ w0 B v g de pl far W)(V:de.length<=100000000)(j:Nat)(Z:j<pl)(aW:pl.getD j 0<=de.length):aM 359 #[aB (some B),H j] W (H ((de.length-pl.getD j 0:Nat):Int)):=by obtain⟨bv,bp,rfl⟩:=dP h.own;have c0:W.cell? B=some (E bv de bp):=aG h.box 0;have c1:W.cell? ⟨B,1,none⟩=some (E (some g) pl pl):=aG h.box 1;have c2:=QI h.pls Z;generalize pl.getD j 0=q at *;have bL:(j:Int)<pl:=aE;have afF:(de:Int)-q=((de.length-q:Nat):Int):=aE;have WM:=dh c0;have Mo:=dh c1;have QY:=dh c2;rw[<-afF];have afG:IntKind.i64.wrap ((de:Int)-q)=(de:Int)-q:=IntWalk.i64_in _ aE;clear afF;unfold aM;exact aeV
theorem lC(h:kJ w0 B v g de pl far W)(l:List Ix)(X:l.length<=1000)(m5:de.length<=10000000)(b:Nat)(V:W.heap[b]?=some (J (l.flatMap iD).toArray 173 (0,0)))(bO:v.ownBlock≠some b):Calls prog 358 #[aB (some B),E (some b) l l.length] W λe F=>e=aI (bH #[])/\∃e7,kJ w0 B e7 g (de++l.reverse) pl far F/\bq w0 vR W F:=by
 have n1:=bA W (J #[aB (some B)] 345);obtain⟨az,b7⟩:∃az,az=W.alloc (J #[aB (some B)] 345):=⟨_,rfl⟩;rw[<-b7]at n1;have Q:Ext W az:=by rw[b7];exact(O _).alloc _
 have dp:az.heap.size=W+1:=by rw[b7];simp
 have n2:=bA az (J #[E (some b) l l.length] 51);have QZ:=avR (some b) l l az;obtain⟨a8,b'⟩:∃a8,a8=az.alloc (J #[E (some b) l l.length] 51):=⟨_,rfl⟩;rw[<-b']at n2 QZ;rw[dp]at n2 QZ;have ag:Ext az a8:=by rw[b'];exact(O _).alloc _
 have eC:a8.heap.size=W+2:=by rw[b',dR,dp]
 have afH:=(h.ext' Q).ext' ag;have ck:=aJ V (Q.trans ag);have cX:=UQ Ee l ck;have awn:b≠B:=λe=>by subst e;have:=gL (V.symm.trans h.box);simp at this
 have at3:=(dG.1 V).1;have afI:=(dG.1 h.box).1;have ae6:=z QZ;have eo:=z (ah b7 b');have ev:=z (ah (aJ n1 ag) (ah n2 (ah ck cX)));have sv:=z afH;have ca:=z (Q.trans ag);have eW:=z eC;have awo:=z bO;have awp:=z h.hB;clear h V bO n1 n2 QZ afH ck cX b7 b' Q ag dp eC;refine(eP (n:=4)).1 ?_;refine callsIn_of_wp_marks func358 rfl trivial ?_ rfl;simp only[ntmps358,ku,dJ,fu,Nat.reduceAdd,Nat.reduceSub,oD,oC,oH,oG,iq,gZ];gi_wp2_with(rw[<-eo.o.1];refine⟨trivial,?_⟩;refine iN (eP.2 ae6.o) ?_;rintro F rfl);have h1:1<=4:=aE;refine wpIn_rangeFunc_ownH (w0:=a8) rfl h1 (gf:=415) (lb:= #[aB (some ⟨W+1,0,none⟩)]) rfl trivial (enters_of func415 aj rfl)
  (avS (W+1) _ l aE a8 (λk=>k=b\/k=W.heap.size+1) (by rw[eW.o];omega) (.inr rfl) (aG ev.o.2.1 0) ev.o.2.2.2 (λe4 o c' e ae=> .inl (by cases e;rfl)))
  Po (λaa hO o fe Q0 _ _ _=>⟨rfl,rfl,rfl,ay,λk hk=>World.putObj_heap_other (λe=>by have:=eW.o;rcases hk with hk|hk<;>omega)⟩) (Below.refl _ _) (λ_=>rfl)
  (λpre aa=>(∃u,kJ w0 B u g (de++pre.map (λx=>l[x])) pl far aa/\u.ownBlock≠some b)/\bq w0 vR W aa/\aa.heap[W.heap.size]?=some (J #[aB (some B)] 345 (0,0))/\aa.heap[W.heap.size+1]?=some (J #[E (some b) l l.length] 51 (0,0))/\aa.heap[b]?=some (J (l.flatMap iD).toArray 173 (0,0))/\W.heap.size+2<=aa.heap.size/\pre.length<=1000)
  (λ_ _ _=>False)
  (λs aq B' row ab hg hr=> ?se)
  (λ_ _ _ _ _ ab _ _=>ab)
  ⟨⟨v,by rw[kE,qz];exact sv.o,awo.o⟩,.ext ca.o,ev.o.1,ev.o.2.1,ev.o.2.2.1,by rw[eW.o];exact aZ _,eG _⟩
  (λx bu aa=>∃Bx B2 ej eR,W.heap.size+2<=Bx/\aa.heap[B]?=some (J #[B2,ej,eR] 349 (0,0))/\B2.ownBlock≠some Bx/\aa.heap[Bx]?=some (J #[bf (l[x].c:Int),aC (l[x].jt:Int),aC (l[x].jf:Int),M (l[x].k:Int)] 173 (0,0))/\
   bu= {tmps:= #[aB (some B),E (some b) l l.length,aB (some W),undef,undef,aB (some Bx),E (some b) l l.length,
    .func (.func 415) #[] #[aB (some ⟨W+1,0,none⟩)],H ((x:Nat):Int),iO l[x],undef,undef,undef,undef,undef,undef,undef,undef,undef,undef],defers:= []})
  (λx bu _ aP Ad row ab hg hr=> ?sk)
  ?assign ?body ?done ?stop
 case se=>
  obtain⟨⟨u,h1,h2⟩,T,af,aQ,a9,cF,eA⟩:=ab;have cQ:=λr e=>(hr r e).2
  have yo:∀k,row=some k->W.heap.size<=k:=λk e=>by have:=(hr k e).1;have:=eW.o;omega
  exact⟨⟨u,h1.row hg cQ (λk e=>by have:=yo k e;have:=h1.ext.size;have:=ca.o.size;have:=sv.o.ext.size;have:=awp.o;omega),h2⟩,T.row hg yo,jl af hg cQ,jl aQ hg cQ,jl a9 hg cQ,cB cF hg.size,eA⟩
 case sk=>obtain⟨Bx,B2,ej,eR,bk,g3,hV,bW,d7⟩:=ab;exact⟨Bx,B2,ej,eR,bk,jl g3 hg (λr e=>(hr r e).2),hV,jl bW hg (λr e=>(hr r e).2),d7⟩
 case assign=>rintro hO pre x aa aX ⟨⟨u,h1,h2⟩,T,af,aQ,a9,cF,eA⟩ am;unfold iO;gi_wp2;exact am _ _ ((KeepsOthers.alloc _ _).from _) (bh.Keep.of_below ((Below.refl aa aa).alloc (aZ _) _) (λk hk=>by rcases hk with hk|hk<;>omega)) ⟨⟨u,h1.ext' ((O _).alloc _),h2⟩,T.trans (bq.alloc _ _),aJ af ((O _).alloc _),aJ aQ ((O _).alloc _),aJ a9 ((O _).alloc _),by rw[dR];omega,eA⟩ ⟨aa.heap.size,_,_,_,cF,aJ h1.box ((O _).alloc _),(λe=>by have:=(h1.own.lt _ e).2;omega),bA aa _,rfl⟩
 case body=>
  rintro hO pre x bu aa Q0 ⟨r,hr⟩ ⟨⟨u,h1,h2⟩,T,af,aQ,a9,cF,eA⟩ ⟨Bx,B2,ej,eR,FW,Q1,afL,h3,rfl⟩ ad;obtain⟨bv,bp,rfl⟩:=dP h1.own;have nS:(de++pre.map (λx=>l[x])).length=de.length+pre:=ay;have c1:=aG h1.box 0
  change aa.cell? B=some _ at c1
  have c2:=aG af 0
  change aa.cell? W=some _ at c2
  obtain⟨⟨b0,b1,b2,cV⟩,-⟩:=jY h3;have ro:∀k,k<w0.heap.size\/k=b\/k=Bx\/k=B\/k=W.heap.size\/k=W.heap.size+1->some k≠(Value.slice bv (de++pre.map (λx=>l[x])).length bp).ownBlock:=by
   have cG:=gL (Q1.symm.trans h1.box);simp only[vB,Array.mk.injEq,List.cons.injEq,and_true]at cG;obtain⟨rfl,-,-⟩:=cG;intro k hk e;obtain⟨kv,bm,AA⟩:=Le h1.own k e.symm;rcases hk with hk|hk|hk|hk|hk|hk
   ·omega
   ·subst hk;exact h2 e.symm
   ·subst hk;exact afL e.symm
   ·subst hk;have:=gL (AA.symm.trans h1.box);simp at this
   ·subst hk;have:=gL (AA.symm.trans af);simp at this
   ·subst hk;have:=gL (AA.symm.trans aQ);simp at this
  clear Q1 afL;have awq:=h1.own.lt;have awr:B<aa.heap.size:=(dG.1 h1.box).1;have aws:Bx<aa.heap.size:=(dG.1 h3).1;obtain⟨bB,Mp⟩:∃bB:Nat->Prop,bB=λk=>k<aa.heap.size/\some k≠(Value.slice bv (de++pre.map (λx=>l[x])).length bp).ownBlock:=⟨_,rfl⟩
  have WN:bB B:=by rw[Mp];exact⟨awr,ro B ay⟩
  have WO:bB W.heap.size:=by rw[Mp];exact⟨aE,ro _ ay⟩
  have IZ:bB Bx:=by rw[Mp];exact⟨aws,ro _ ay⟩
  have Mo:=IY (a7:=bB) (p:=⟨B,0,none⟩) WN c1;have QY:=IY (a7:=bB) (p:=W) WO c2;have Gs:=IY (a7:=bB) (p:=⟨Bx,0,none⟩) IZ b0;have Gt:=IY (a7:=bB) (p:=⟨Bx,1,none⟩) IZ b1;have IS:=IY (a7:=bB) (p:=⟨Bx,2,none⟩) IZ b2;have Mm:=IY (a7:=bB) (p:=⟨Bx,3,none⟩) IZ cV;have bC:=z (ah h1 (ah h2 (ah T (ah af (ah aQ (ah a9 (ah cF eA)))))));have Gn:=z nS;have h4:=z h3;have t4:=z (ah Mp (ah WN (ah WO IZ)));have ii:W.heap.size+2<=aa.heap.size:=cF;have hD:pre.length<1000:=aE;obtain⟨aR,bL⟩:∃aR,aR=l[x]:=⟨_,rfl⟩;simp only[Fin.getElem_fin]at bL;unfold iO;simp only[Fin.getElem_fin]at b0 b1 b2 cV Gs Gt IS Mm⊢;rw[<-bL]at b0 b1 b2 cV Gs Gt IS Mm⊢;have w6:=z bL;have WP:=z ro;clear h1 h2 T af aQ a9 cF eA h3 hr bL ro awq WN WO IZ Mp;obtain⟨LL,B3⟩:∃LL,LL=de++pre.map (λx=>l[x]):=⟨_,rfl⟩;rw[<-B3]at Gn bC c1 Mo WP t4;have Av:=z B3;clear B3 nS;gi_wp2;refine U9 10 (λaP=>∃x:QX bB aa,aP=x.w) aj ?_;have eQ:∃x:QX bB aa,aa.drew=x.w:=⟨⟨aa.drew,⟨rfl,rfl,rfl,aZ _,λ_ _=>rfl⟩⟩,rfl⟩;refine z8 0 rfl eQ ?_;refine z8 1 rfl eQ ?_;refine z8 2 rfl eQ ?_;refine z8 3 rfl eQ ?_;refine zh 4 rfl eQ (λaX am=> ?_);go_simp;refine am _ ?_;refine zh 5 rfl eQ (λaX am=> ?_);go_simp;refine am _ ?_;refine xR 6 aj rfl (λaX am=> ?_);go_simp;refine am _ _ (λ_=>⟨⟨_,(bh.Keep.of_below (((O aa).drew).alloc _) (λk hk=>by rw[t4.o.1]at hk;exact hk.1))⟩,rfl⟩) ?_;refine xR 7 aj rfl (λaX am=> ?_);refine awl (λ_=>trivial) rfl (.tmp 14) (.tmp 16) 51 rfl underlying51 awk rfl Y Ee awt w0 _ _ LL [aR] (by rfl) (by rfl) (qB bC.o.1.own (bh.Keep.of_below (((O aa).drew).alloc _) (λ_ h=>h)) (λb e=>(bC.o.1.own.lt b e).2)) (jh Ee aa.drew [aR] _ _ rfl) (by rw[Gn.o];simp;omega) Y ((bC.o.1.ext.drew).alloc _).size ?_;intro LS LU gn rv Ag ic;have mt:LL.length+[aR].length=LL.length+1:=rfl;rw[mt]at rv ic⊢;have Gv:Hid (bh.Keep bB aa gn):=z (bh.Keep.trans (bh.Keep.of_below (((O aa).drew).alloc _) (λk hk=>by rw[t4.o.1]at hk;exact hk.1)) (awm Ag (λk hk=>by rw[t4.o.1]at hk;exact⟨vw hk.1 (((O aa).drew).alloc _).size,hk.2⟩)));have Gp:=z (ah rv (ah Ag ic));have vc:=(Gv.o.cell (p:=⟨B,0,none⟩) t4.o.2.1).trans c1;have Mq:gn.frozen? B=false:=by simp[World.frozen?,(Gv.o.block B t4.o.2.1).trans bC.o.1.box]
  refine am _ _ (λ_=>⟨⟨_,Gv.o⟩,rfl⟩) ?_;refine xR 8 aj rfl (λaX am=> ?_);go_simp;refine am _ _ (λ_=>⟨⟨_,Gv.o⟩,rfl⟩) ?_;refine xR 9 aj rfl (λaX am=> ?_);go_simp;refine am _ _ (λ_=>⟨⟨_,Gv.o⟩,rfl⟩) ?_;refine xR 10 aj rfl (λaX am=> ?_);go_simp;refine am _ _ (λh=>absurd rfl h) ?_;refine U8 aj ?_;dsimp only[bh.Calm,Exit.then];gi_wp2;have g9:Ext aa ((aa.drew).alloc (J #[bf aR.c,aC aR.jt,aC aR.jf,M aR.k] 173)):=((O aa).drew).alloc _;obtain⟨afM,tk⟩:=(bC.o.1.ext' g9).appended (ys:= [aR]) Gp.o.2.1 (by rw[dA];rfl) Gp.o.1;have D4:=(bq.ext (n0:=w0.heap.size) (bz:=vR) g9).trans tk;have hX:LL++[aR]=de++(pre++[x]).map (λx=>l[x]):=by rw[Av.o,w6.o];simp
  rw[hX]at afM;have mC:(gn.setCell B (E LS (LL+1) LU)).heap[b]?=aa.heap[b]?:=(fI _ _ _ _ awn).trans (Gv.o.block b (by rw[t4.o.1];exact⟨aE,WP.o b ay⟩));have lE:(gn.setCell B (E LS (LL+1) LU)).heap[W.heap.size+1]?=aa.heap[W.heap.size+1]?:=(fI _ _ _ _ (by show W.heap.size+1≠B;omega)).trans (Gv.o.block _ (by rw[t4.o.1];exact⟨aE,WP.o _ ay⟩));have sq:∀k,(k=b\/k=W.heap.size+1)->(gn.setCell B (E LS (LL+1) LU)).heap[k]?=aa.heap[k]?:=by
   intro k hk;rcases hk with hk|hk
   ·subst hk;exact mC
   ·subst hk;exact lE
  refine⟨D4.ko.from _,⟨D4.os,D4.tape,D4.output,D4.size,sq⟩,⟨⟨_,afM,λe=> ?_⟩,bC.o.2.2.1.trans D4,D4.blk bC.o.2.2.2.1 (.inr rfl),lE.trans bC.o.2.2.2.2.1,mC.trans bC.o.2.2.2.2.2.1,cB ii D4.size,by rw[dA];simp;omega⟩⟩;rcases Gp.o.2.2 b e with aV|aV
  ·exact bC.o.2.1 aV
  ·have cC:(aa.alloc (J #[bf aR.c,aC aR.jt,aC aR.jf,M aR.k] 173)).heap.size<=b:=aV;rw[dR]at cC;omega
 case done=>
  rintro ax ys aa cE rfl ⟨⟨u,h1,h2⟩,T,af,aQ,a9,cF,eA⟩ am;have t0:de++(kH l l (aZ _)).map (λx=>l[x])=de++l.reverse:=by
   congr 1
   apply List.ext_getElem
   ·simp[kH]
   ·intro i h1 h2;simp[kH]
  rw[t0]at h1;have fj:=z (ah h1 T);gi_wp2;refine⟨ay,.inl ⟨_,_,rfl,run_takeDeferred am,?_⟩⟩;refine⟨_,gq rfl _ _ _,rfl,u,?_,?_⟩
  ·exact fj.o.1.row (grownBy_putObj' _ ax (.deferred none)) (λr e=>by cases e;exact⟨_,am,rfl⟩) (λr e=>by cases e;have:=eW.o;have:=sv.o.ext.size;omega)
  ·exact fj.o.2.row (grownBy_putObj' _ ax (.deferred none)) (λr e=>by cases e;have:=eW.o;omega)
 case stop=>rintro ax c pre aa _ _ h _;exact h.elim
end LT
end Go.Proofs.YtopfefhenfineaaGreat
namespace Go.Proofs.YtopfefhenfineaaGreat
open Go.Proofs.Tryz Go.RowKit Go.Shelf bh
attribute[local go_sem] Oper.semAt_some
variable{S:Prop}
def afN(h:S:=by
 rintro aO ⟨e7,X,an⟩;go_wp2_with fail
 first|go_end0|refine cO (gq rfl _ _ _) rfl ?_
 rw[ev.o];exact⟨rfl,e7,far,X,(bq.ext (n0:=w0.heap.size) (bz:=vR) (aT.o.alloc _)).trans an,aE,aE⟩):S:=h
namespace LT
open jG (aD sP dI gQ mR dx eU gK ig)
def acx(n:Nat)(pl:List Nat)(t:Int):Prop:=0<=t/\t.toNat<pl.length/\pl.getD t.toNat 0<=n
def lU(n:Nat)(pl:List Nat)(t:Nat):Nat:=n-pl.getD t 0
variable {w0 W:G} {B g:Nat} {v:K} {de:List Ix} {pl:List Nat} {far:Int}
def aig(f:Nat->Nat){s:aD}(h:s.c=5):fJ f s=[⟨5,0,0,f s.th.toNat⟩]:=by unfold fJ;rw[aF h]
def awu(f:Nat->Nat){s:aD}(h:s.c≠5)(h2:gK s.c=false):fJ f s=[⟨s.c,0,0,s.k⟩]:=by unfold fJ;rw[au h,aF h2]
def awv(f:Nat->Nat){s:aD}(h:s.c≠5)(h2:gK s.c=true)(T:max (f s.th.toNat) (f s.el.toNat)<=255):fJ f s=[⟨s.c,f s.th.toNat,f s.el.toNat,s.k⟩]:=by unfold fJ;rw[au h,au (by rw[h2];simp),aF T]
def aww(f:Nat->Nat){s:aD}(h:s.c≠5)(h2:gK s.c=true)(T:¬max (f s.th.toNat) (f s.el.toNat)<=255):fJ f s=[⟨s.c,0,1,s.k⟩,⟨5,0,0,f s.th.toNat+1⟩,⟨5,0,0,f s.el.toNat⟩]:=by unfold fJ;rw[au h,au (by rw[h2];simp),au T]
def Q5{aq:G}{U:Array K}{t:dD}(l:List Ix)(e:U=(l.flatMap iD).toArray):(aq.alloc (J U t)).heap[aq.heap.size]?=some (J (l.flatMap iD).toArray t (0,0)):=by rw[<-e];exact bA aq _
def kJ.amz(h:kJ w0 B v g de pl far W)(f:Int):kJ w0 B v g de pl f (W.setCell ⟨B,2,none⟩ (H f))/\bq w0 vR W (W.setCell ⟨B,2,none⟩ (H f)):=by have bW:bq w0 (lT 349) W (W.setCell ⟨B,2,none⟩ (H f)):=bq.set (p:=⟨B,2,none⟩) h.box rfl h.hB _;exact⟨⟨bW.lX h.ext (aZ _),h.hB,fH h.box 2 _,bW.own h.own rfl,h.hg,bW.blk h.pls (.inr rfl)⟩,bW.mono (aZ _) (λt an=>by unfold vR at an;unfold lT;simp at an⊢;exact an.2)⟩
theorem awx(h:kJ w0 B v g de pl far W)(s:aD)(m5:de.length<=1000000)(ai:0<=far)(Ls:far<=1000000)(ab:(s.c≠5/\iy s.c=false/\gK s.c=false)\/(s.c=5/\acx de pl s.th)\/(s.c≠5/\iy s.c=true/\gK s.c=true/\acx de pl s.th/\acx de pl s.el)):Calls prog 285 #[aB (some B),sS s] W λe F=>e=aI (bH #[])/\∃e7 Mr,kJ w0 B e7 g (de++(fJ (lU de pl) s).reverse) pl Mr F/\bq w0 vR W F/\far<=Mr/\Mr<=far+1:=by
 have cn:=λW=>yK.jT s.c W
 have s4:((s.c:Int)==5)=(s.c==5):=by rw[dW];simp;omega
 have cY:((yK.i3 s.c:Int) !=4)= !iy s.c:=by unfold iy;rw[dW];simp;omega
 generalize yK.i3 s.c=cl at *;have mc:=bA W (J #[bf s.c,M s.k,H s.th,H s.el] 407);unfold sS;have h4:=z mc;have ec:=z h;have cx:=z cn;clear mc h cn;rcases ab with⟨aQ,Z,bT⟩|⟨aQ,et,fp,k5⟩|⟨aQ,Z,bT,⟨et,fp,k5⟩,dq,ei,eM⟩
 ·have ev:Hid (fJ (lU de pl) s=[⟨s.c,0,0,s.k⟩]):=z (awu _ aQ bT);rw[show(s.c==5)=false from iH.2 aQ]at s4;rw[Z]at cY;obtain⟨c,k,th,el⟩:=s;dsimp only at *;clear aQ Z bT;go_in;go_wp2_with fail;refine ak (cx.o _) ?_;intro I Q;obtain⟨⟨c0,c1,-⟩,-⟩:=jY (aJ h4.o Q);have B4:=z ((ec.o.ext' ((O _).alloc _)).ext' Q);have aT:=z (((O W).alloc _).trans Q);clear Q;go_wp2_with fail;refine ak (lC (B4.o.ext' ((O _).alloc _)) [⟨c,0,0,k⟩] ay aE I (Q5 _ tX) (λe=>by have:=(B4.o.own.lt _ e).2;omega)) ?_;exact afN
 ·have ev:Hid (fJ (lU de pl) s=[⟨5,0,0,lU de pl s.th.toNat⟩]):=z (aig _ aQ);rw[show(s.c==5)=true from jC.2 aQ]at s4;obtain⟨c,k,th,el⟩:=s;dsimp only at *;obtain⟨t,rfl⟩:∃t:Nat,th=(t:Int):=⟨th.toNat,aE⟩;rw[kr]at fp k5 ev;have fj:=z (WL (ec.o.ext' ((O W).alloc (J #[bf c,M k,H t,H el] 407))) aE t fp k5);have hd:de.length-pl.getD t 0=lU de pl t:=rfl;rw[hd]at fj;have Gw:lU de pl t<=1000000:=by unfold lU;omega
  generalize lU de pl t=d at *;clear aQ et fp k5 hd cY;go_in;go_wp2_with fail;refine ak fj.o ?_;intro I Q;have B4:=z ((ec.o.ext' ((O _).alloc _)).ext' Q);have aT:=z (((O W).alloc _).trans Q);clear Q;go_wp2_with fail;refine ak (lC (B4.o.ext' ((O _).alloc _)) [⟨5,0,0,d⟩] ay aE I (Q5 _ tX) (λe=>by have:=(B4.o.own.lt _ e).2;omega)) ?_;exact afN
 ·have rm:=λT=>z (awv (lU de pl) aQ bT T)
  have x3:=λT=>z (aww (lU de pl) aQ bT T)
  rw[show(s.c==5)=false from iH.2 aQ]at s4;rw[Z]at cY;obtain⟨c,k,th,el⟩:=s;dsimp only at *;obtain⟨t,rfl⟩:∃t:Nat,th=(t:Int):=⟨th.toNat,aE⟩;obtain⟨e0,rfl⟩:∃e0:Nat,el=(e0:Int):=⟨el.toNat,aE⟩;rw[kr]at fp k5 ei eM rm x3;rw[kr]at rm x3;have tf:=z (λ(aa:G) (D:kJ w0 B v g de pl far aa)=>WL D aE t fp k5);have D':=z (λ(aa:G) (D:kJ w0 B v g de pl far aa)=>WL D aE e0 ei eM);have hd:de.length-pl.getD t 0=lU de pl t:=rfl;have t5:de.length-pl.getD e0 0=lU de pl e0:=rfl;rw[hd]at tf;rw[t5]at D';have Gw:lU de pl t<=1000000:=by unfold lU;omega
  have aMB:lU de pl e0<=1000000:=by unfold lU;omega
  generalize lU de pl t=d at *;generalize lU de pl e0=eg at *;go_in;go_wp2_with fail;refine ak (cx.o _) ?_;intro I Q;obtain⟨⟨c0,c1,c2,c3⟩,-⟩:=jY (aJ h4.o Q);have B4:=z ((ec.o.ext' ((O _).alloc _)).ext' Q);have aT:=z (((O W).alloc _).trans Q);have vq:=z (λaP:fG I=>tf.o aP.w (B4.o.ext' aP.h));have Gx:=z (λaP:fG I=>D'.o aP.w (B4.o.ext' aP.h));have QY:=dh c2;have afP:=dh c3;go_upto_region 1 with fail;refine qR aj aj ?_
  repeat(any_goals(first|go_big_quiet_step ((first|(go_at_call 359;with_reducible exact fA (vq.o _))|(go_at_call 359;with_reducible exact fA (Gx.o _))))|quiet_step ((first|(go_at_call 359;with_reducible exact fA (vq.o _))|(go_at_call 359;with_reducible exact fA (Gx.o _))))))
  all_goals(refine qN ?_;intro _ jb;obtain⟨x,ii⟩:=jb;subst ii)
  have awy:=x.h.cell c0;have afQ:=x.h.cell c1;have sv:=z (B4.o.ext' x.h);have ca:=z (aT.o.trans x.h);generalize x.w=aO at *;by_cases Ef:max d eg<=255
  ·have ev:=rm Ef;have w7:d<=255:=aE;have aMC:eg<=255:=aE;go_wp2_with fail
   all_goals
    refine ak (lC (sv.o.ext' ((O _).alloc _)) [⟨c,d,eg,k⟩] ay aE aO (Q5 _ tX) (λe=>by have:=(sv.o.own.lt _ e).2;omega)) ?_;rintro bj ⟨e7,X,an⟩;go_wp2_with fail
    first|go_end0|refine cO (gq rfl _ _ _) rfl ?_
    rw[ev.o];exact⟨rfl,e7,far,X,(bq.ext (n0:=w0.heap.size) (bz:=vR) (ca.o.alloc _)).trans an,aE,aE⟩
  ·have ev:=x3 Ef;have vc:=aG sv.o.box 2
   change aO.cell? ⟨B,2,none⟩=some (H far)at vc
   have Mq:aO.frozen? ⟨B,2,none⟩=false:=by simp[World.frozen?,sv.o.box]
   have I0:=z (kJ.amz sv.o (far+1));go_wp2_with fail
   all_goals
    have gj:(aO.setCell ⟨B,2,none⟩ (H (far+1))).heap.size=aO.heap.size:=ay;generalize aO.setCell _ _=bj at *;refine ak (lC (I0.o.1.ext' ((O _).alloc _)) [⟨c,0,1,k⟩,⟨5,0,0,d+1⟩,⟨5,0,0,eg⟩] ay aE aO (gj▸Q5 _ tX) (λe=>by have:=(I0.o.1.own.lt _ e).2;omega)) ?_;rintro dC ⟨e7,X,an⟩;go_wp2_with fail
    first|go_end0|refine cO (gq rfl _ _ _) rfl ?_
    rw[ev.o];exact⟨rfl,e7,far+1,X,(bq.ext (n0:=w0.heap.size) (bz:=vR) ca.o).trans ((I0.o.2.trans (bq.ext ((O _).alloc _))).trans an),aE,aE⟩
end LT
end Go.Proofs.YtopfefhenfineaaGreat
