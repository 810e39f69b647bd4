import Derived.Test.YtopfefhenfineaaGreatP27
import Derived.Test.YtopfefhenfineaaGreatP31
import Derived.Lib.SlBytesConst
set_option linter.all false
set_option maxRecDepth 100000
set_option maxHeartbeats 16000000
namespace Go.Proofs.YtopfefhenfineaaGreat
open Go.Proofs.Tryz Go.RowKit bh
namespace LT
open j7 (Rule Filter gI sZ eT kT uU Ju M9)
open jG (aD Dat fT dx rz)
open le (am7 Dm AP am8 xY am9 iF lF)
open m9 (bB)
variable{d:Dat}{f g:Filter}{l:List Rule}{p:bP}{r:List aD}{y aR:fP}
def zq.ok(h:zq f g)(ai:gI f)(R:eT f=true):gI g/\eT g=true/\∀d,kT g d=kT f d:=by
 induction h with
 |base=>exact⟨ai,R,λ_=>rfl⟩
 |norm _ b9=>obtain⟨h1,h2,T⟩:=b9;exact⟨am9 h1,Ju h2,λd=>(M9 h2 d).trans (T d)⟩
def aEY(ai:gI f)(R:eT f=true)(hd:fT d):(rz d (EF f)).1=kT f d:=by
 have j3:∀r∈f.rules,r.nr<4294967296:=λr hr=>(ai.r r hr).n
 obtain⟨-,-,-,-,bE⟩:=AP R j3;have da:=(am8 R j3 hd.nr (q:=10) (by obtain⟨-,-,aQ,-⟩:=xY R;show _<=1024;omega)).1
 obtain⟨aw,af,-,-⟩:=am7 hd R bE da;unfold EF;rw[af]
def GZ.ok(h:GZ f r)(ai:gI f)(R:eT f=true):dx r=true/\∀d,fT d->(rz d r).1=kT f d:=by
 induction h with
 |row hg=>obtain⟨h1,h2,T⟩:=hg.ok ai R;exact⟨(Dm h1 h2).1,λd hd=>(aEY h1 h2 hd).trans (T d)⟩
 |opt _ b9=>exact⟨RQ b9.1,λd hd=>(ana d b9.1).trans (b9.2 d hd)⟩
def GY.ok{m:Nat->Bool}(h:GY m r):dx r=true/\∀d,(rz d r).1=e2.gdA m d.ar d.nr:=by
 induction h with
 |base=>exact⟨(e2.zy m).1,λd=>e2.abQ m d⟩
 |opt _ b9=>exact⟨RQ b9.1,λd=>(ana d b9.1).trans (b9.2 d)⟩
def qL(p:bP)(y:fP)(d:Dat):Nat:=if y.d=0 then e2.gdA (e2.FQ p.ar) d.ar d.nr else kT y.f d
def JU.tells{q:List Ix}(h:JU p y q)(bN:y.d≠0->gI y.f)(hd:fT d):rC d q=qL p y d:=by
 obtain⟨r,h1,rfl⟩:=h;unfold qL;by_cases e:y.d=0
 ·rw[aF e]at h1⊢;rw[anb d h1.ok.1,h1.ok.2 d]
 ·rw[au e]at h1⊢;obtain⟨h1,T⟩:=h1;have h2:=bN e;rw[anb d (h1.ok h2 T).1,(h1.ok h2 T).2 d hd]
open j7 (Rule Filter gI sZ eT uj uY AO kT qc zG lK)
open le (xY)
def yH(d:Dat):Array K:= #[M d.nr,M d.ar,aA (d.ip:Int),aA (d.a0:Int),aA (d.a1:Int),aA (d.a2:Int),aA (d.a3:Int),aA (d.a4:Int),aA (d.a5:Int)]
def anc:∀ {l:List Rule} {p:Option Nat},j7.iE p l=true->l.Pairwise (λa b=>a.nr<b.nr)
 | [],_,_=>List.Pairwise.nil
 |r::l,p,h=>by simp only[j7.iE,dV]at h;refine List.Pairwise.cons (λx D=> ?_) (anc h.2);have:=(AO h.2 x D).2;simpa[uY]using this
def aEZ(h:l.Pairwise (λa b=>a.nr<b.nr)){r s:Rule}(hr:r∈l)(ab:s∈l)(e:r.nr=s.nr):r=s:=by
 obtain⟨i,hi,rfl⟩:=uD hr;obtain⟨j,Z,rfl⟩:=uD ab;rcases Nat.lt_trichotomy i j with k|k|k
 ·have:=zS.1 h i j hi Z k;omega
 ·subst k;rfl
 ·have:=zS.1 h j i Z hi k;omega
def aE0{m:List Rule}(ac:l.Perm m)(h:l.Pairwise (λa b=>a.nr<b.nr))(n:Nat):m.find? (λr=>r.nr==n)=l.find? (λr=>r.nr==n):=by
 cases X:l.find? (λr=>r.nr==n)with
 |none=>rw[List.find?_eq_none]at X⊢;exactλx D=>X x (ac.mem_iff.2 D)
 |some r=>
  have h1:=List.mem_of_find?_eq_some X;have h2:r.nr=n:=by simpa using List.find?_some X
  cases R:m.find? (λr=>r.nr==n)with
  |none=>rw[List.find?_eq_none]at R;exact absurd (by simpa using h2) (R r (ac.mem_iff.1 h1))
  |some s=>
   have T:=ac.mem_iff.2 (List.mem_of_find?_eq_some R);have af:s.nr=n:=by simpa using List.find?_some R
   rw[aEZ h T h1 (af.trans h2.symm)]
def pz.okF(cv:iW p)(h:pz p y)(hd:y.d≠0):gI y.f:=by
 rcases h with⟨h,-⟩|⟨-,-,T,af,aQ,a9,cF,-⟩
 ·exact absurd h hd
 ·obtain⟨X,Ln⟩:=YP cv (y.a:Int) y.d;exact⟨by rw[aQ];omega,by rw[aQ];omega,by rw[a9];exact ali cv _,by rw[cF.length_eq];omega,λr hr=>(Ln r (cF.mem_iff.1 hr)).1⟩
def pz.same(bN:pz p y)(bL:pz p aR)(e:y.at=aR.at)(R:y.d≠0->eT y.f=true)(d:Dat):qL p aR d=qL p y d:=by
 have aK:y.d=aR.d:=(Prod.mk.inj e).1;have aV:y.a=aR.a:=(Prod.mk.inj e).2;unfold qL;rw[<-aK];by_cases ae:y.d=0
 ·rw[aF ae,aF ae]
 ·rw[au ae,au ae];rcases bN with⟨h,-⟩|⟨-,-,-,-,aQ,a9,cF,-⟩
  ·exact absurd h ae
  rcases bL with⟨h,-⟩|⟨-,-,-,-,hV,pS,xl,-⟩
  ·exact absurd (aK.trans h) ae
  rw[<-aK,<-aV]at xl;rw[<-aK]at pS;have ac:y.f.rules.Perm aR.f.rules:=cF.trans xl.symm;have bJ:=anc (xY (R ae)).2.2.2.1;have J0:aR.f.i6=y.f.i6:=by rw[aQ,hV,aV]
  unfold kT zG qc;rw[J0,pS,<-a9,aE0 ac bJ]
def ZU{p:bP}(cv:iW p):∀ {ys:List fP} {L:List jq},sj (CK p) ys L->(∀y∈ys,pz p y)->∀ {b3:List fP},b3.map fP.at=ys.map fP.at->(∀aR∈b3,pz p aR)->∀ {d:Dat},fT d->(L.map λx=>rC d x.p)=b3.map λaR=>qL p aR d
 | [],[],_,_,[],_,_,_,_=>rfl
 |y::ys,x::L,⟨h1,h2⟩,T,aR::b3,e,af,d,hd=>by
  have cG:=(List.cons.inj e).1;have bN:=T y ay;have R:y.d≠0->eT y.f=true:=λh=>by obtain⟨r,k,-⟩:=h1.of;rw[au h]at k;exact k.2
  have ane:=ZU cv h2 (λy be=>T y (by simp[be])) (List.cons.inj e).2 (λaR be=>af aR (by simp[be])) hd;have dk:rC d x.p=qL p aR d:=by rw[JU.tells h1.of (λh=>bN.okF cv h) hd,bN.same (af aR ay) cG.symm R d]
  simp only[fK,ane,dk]
end LT
end Go.Proofs.YtopfefhenfineaaGreat
namespace Go.Proofs.YtopfefhenfineaaGreat
open Go.Proofs.Tryz Go.RowKit bh
attribute[local go_sem] Oper.semAt_some
namespace LT
open jG (Dat fT gW qV)
open d5 (uV)
def aE1(ar nr:Nat):0<=(uV ar nr).1:=by
 unfold uV;split
 ·exact Int.le_refl _
 split
 ·decide
 ·omega
def aE2(ts:List Int)(ar nr:Nat):e2.gdA (e2.FQ ts) ar nr=if ((uV ar nr).2&&ts.contains (uV ar nr).1)=true then 2147418112 else 2147483648:=by unfold e2.gdA e2.FQ;rw[Int.toNat_of_nonneg (aE1 ar nr)]
theorem aE3(v:K)(ts:List Int)(X:ts.length<=1000000)(d:Dat)(hd:fT d)(w:G)(hv:aS w 1 jG.qV v ts):aM 32 #[v,gW d] w (M (e2.gdA (e2.FQ ts) d.ar d.nr:Nat)):=by
 have cn:=λW=>d5.jT d.ar d.nr hd.nr W
 have cq:=λa W (D:Ext w W)=>acC.qm v ts a aE W (hv.ext D)
 rw[aE2];unfold gW;generalize(uV d.ar d.nr).1=x at *;generalize(uV d.ar d.nr).2=ok at *;have i':=z cn;have hb:=z cq;cases ok
 ·unfold aM;go_in;go_wp2_with fail;refine ak (i'.o _) ?_;exact ain
 ·rw[jc];generalize ao:ts.contains x=b at *;have xb:=z (λW (D:Ext w W)=>by have h:=hb.o x W D;rw[ao]at h;exact h);cases b
  all_goals
   unfold aM;go_in;go_wp2_with fail;refine ak (i'.o _) ?_;intro I Q;have aT:=z (((O w).alloc _).trans Q);go_wp2_with fail;refine ak (xb.o _ aT.o) ?_;intro aO ag;have nY:=z (aT.o.trans ag);go_wp2_with fail;go_ret;exact⟨rfl,nY.o⟩
end LT
end Go.Proofs.YtopfefhenfineaaGreat
namespace Go.Proofs.YtopfefhenfineaaGreat
open Go.Proofs.Tryz Go.RowKit Go.Shelf bh
attribute[local go_sem] Oper.semAt_some bh.Oper.idle bh.Oper.lV bh.Oper.jF
namespace LT
open j7 (Rule Filter gI eT kT qc lK)
open jG (Dat fT gW)
def aE4{d:Dat}{ts:List j7.Test}{x:Nat}(an:∀t∈ts,j7.Ce t)(D:x<4294967296):lK d ts x<4294967296:=by
 unfold lK;split
 ·rename_i t h;exact(an t (List.mem_of_find?_eq_some h)).x
 ·exact D
def aE5{f:Filter}(h:gI f)(d:Dat):kT f d<4294967296:=by
 unfold kT;split
 ·unfold qc;split
  ·rename_i r hr;have:=h.r r (List.mem_of_find?_eq_some hr);exact aE4 this.t this.x
  ·exact h.d
 ·decide
def aE6{p:bP}(cv:iW p){y:fP}(h:pz p y)(d:Dat):qL p y d<4294967296:=by
 unfold qL;split
 ·unfold e2.gdA;split<;>decide
 ·rename_i ae;exact aE5 (h.okF cv ae) d
def Tf(t:Nat):Bool:=t==32||t==33
structure CX(w:G)(p:bP)(s:dS)(d:Dat)(n0 du:Nat)(pre:List fP)(W:G):Prop where
 ext:Ext w W
 pb:W.heap[w.heap.size]?=some (J (cK p s).toArray 36 (0,0))
 db:W.heap[w.heap.size+1]?=some (J (yH d) 57 (0,0))
 hB:w.heap.size+1<du
 fin:∃u:K,W.heap[du]?=some (J #[u] 33 (0,0))/\W.ownsRow n0 32 1 u pre ((pre.map λy=>qL p y d).flatMap iC)
section
variable {w:G} {p:bP} {s:dS} {d:Dat} {n0 du:Nat} {pre:List fP} {W aa:G}
def CX.ext'(h:CX w p s d n0 du pre W)(D:Ext W aa):CX w p s d n0 du pre aa:=by obtain⟨u,h1,h2⟩:=h.fin;have k:=bq.ext (n0:=0) (bz:=λ_=>false) D;exact⟨h.ext.trans D,aJ h.pb D,aJ h.db D,h.hB,u,aJ h1 D,k.own h2 rfl⟩
def CX.grow(h:CX w p s d n0 du pre W){row:Option Nat}(hg:W.grownBy aa row)(hr:∀r,row=some r->w.heap.size<=r/\∃o:Obj,W.heap[r]?=some o/\o.isCells=false):CX w p s d n0 du pre aa:=by
 have cQ:=λr e=>(hr r e).2
 have k:=gT.grow hg cQ;obtain⟨u,h1,h2⟩:=h.fin;exact⟨h.ext.grown hg (λr e=>(hr r e).1),jl h.pb hg cQ,jl h.db hg cQ,h.hB,u,jl h1 hg cQ,k.own h2 rfl⟩
end
theorem aE7(p:bP)(s:dS)(cv:iW p)(d:Dat)(hd:fT d)(w:G)(hr:rD w p s):Calls prog 15 #[iX p s,gW d] w λe F=>Ext w F/\∃b3:List fP,b3.map fP.at=pq p/\(∀aR∈b3,pz p aR)/\e=aI (bH #[M (KL.comb (b3.map λaR=>qL p aR d):Nat),H 0]):=by
 have em:=λW (D:Ext w W)=>YK p s cv W (hr.ext D) Sy (by have:=cv.lf;omega)
 have cW:=z em;have cD:=z hr;have e1:=λW=>alr p s W
 have b:=bA w (J (cK p s).toArray 36);have n1:=bA (w.alloc (J (cK p s).toArray 36)) (J (yH d) 57);rw[dR]at n1;unfold gW;unfold yH at n1;unfold iX cK at *;have cz:=z e1;obtain⟨y0,y1,y2,tn,xe,xf,E2,Hk,Hi,NO,NR,NS,NT⟩:=pY b;clear em e1 hr;refine(eP (n:=4)).1 ?_;refine callsIn_of_wp_marks func15 rfl trivial ?_ rfl;simp only[ntmps15,ku,dJ,fu,Nat.reduceAdd,Nat.reduceSub,oD,oC,oH,oG,iq,gZ];gi_upto_region 3 with(refine⟨trivial,?_⟩;refine iN (eP.2 (cW.o _ (((O w).alloc _).alloc _))) ?_;intro I Q)
 have vm:=aJ b (((O _).alloc _).trans Q);have D:=(((O w).alloc _).alloc _).trans Q;replace n1:=aJ n1 Q;have eo:=z (ah vm (ah n1 D));obtain⟨fR,ed,eq,q2,DD,HU,Lv,Lw,HW,Lx,Ly,Lz,LA⟩:=pY (aJ vm ((O I).alloc (J #[E none 0 0] 33)));clear Q vm n1 D b y0 y1 y2 tn xe xf E2 Hk Hi NO NR NS NT;gi_upto_region 5 with(refine⟨trivial,?_⟩;refine iN (eP.2 (cz.o _)) ?_;rintro aO rfl)
 obtain⟨a8,b'⟩:∃a8,a8=(I.alloc (J #[E none 0 0] 33)).alloc (J (cK p s).toArray 36):=⟨_,rfl⟩;have ag:Ext I a8:=by rw[b'];exact((O _).alloc _).alloc _
 have fv:a8.heap[I.heap.size]?=some (J #[E none 0 0] 33 (0,0)):=by rw[b'];exact aJ (bA I _) ((O _).alloc _)
 have ck:a8.heap[I.heap.size+1]?=some (J (cK p s).toArray 36 (0,0)):=by
  rw[b'];have:=bA (I.alloc (J #[E none 0 0] 33)) (J (cK p s).toArray 36)
  rwa [dR]at this
 have eC:a8.heap.size=I+2:=by rw[b'];simp
 have dp:w.heap.size+2<=I.heap.size:=by have:=(dG.1 eo.o.2.1).1;omega
 have aE8:CX w p s d I I [] a8:=⟨eo.o.2.2.trans ag,aJ eo.o.1 ag,aJ eo.o.2.1 ag,aE,_,fv,⟨rfl,.inl ay⟩⟩;unfold cK at b';rw[<-b'];have bY:=z (ah dp (ah eC ag));clear b' fR ed eq q2 DD HU Lv Lw HW Lx Ly Lz LA;have n4:1<=4:=aE;refine ac7 (w0:=a8) rfl n4 (gf:=61) (lb:= #[aB (some ⟨I+1,0,none⟩)]) rfl trivial (enters_of func61 aj rfl)
  (alq (I+1) p s cv I (cD.o.ext eo.o.2.2) Tf ⟨rfl,rfl⟩ a8 ag ck) (λh k=>h.trans k) (λaa l o fe X ho ao _=>gT.putObj aE ho ao) (Below.refl _ _) (λ_=>rfl)
  (λpre W=>CX w p s d I I pre W/\∀y∈pre,pz p y)
  (λ_ _ _=>False)
  (λs aq B row ab hg hr=>⟨ab.1.grow hg (λr e=>⟨by have:=(hr r e).1;omega,(hr r e).2⟩),ab.2⟩)
  (λ_ _ _ _ _ ab _ _=>ab)
  ⟨aE8,λ_ h=>by cases h⟩
  (λy bu W=>∃Bx,I.heap.size<Bx/\W.heap[Bx]?=some (J #[H y.d,H y.a,H y.f.i6,E y.b y.n y.c,M y.f.dflt] 87 (0,0))/\yA p y W/\
   ∃Q9 anf EL EM EN,bu= {tmps:= #[bg #[E s.a p.ar s.c,aC p.fm,E s.fa p.fc s.fc,M p.dn,aC p.lm,E s.la p.lc s.lc,E s.ga p.fa s.gc,aC p.fd,aA (p.sp:Int),av p.we,av p.pe,av p.rt,av p.np],bg #[M d.nr,M d.ar,aA (d.ip:Int),aA (d.a0:Int),aA (d.a1:Int),aA (d.a2:Int),aA (d.a3:Int),aA (d.a4:Int),aA (d.a5:Int)],aB (some w),aB (some ⟨w+1,0,none⟩),M 0,H 0,aB (some I),aB (some Bx),Q9,anf,EL,EM,.func (.func 61) #[] #[aB (some ⟨I+1,0,none⟩)],EN,undef,undef,undef,undef,undef,undef,undef,undef,undef,undef,undef,undef,undef,undef,undef,undef,undef,undef,undef],defers:= []})
  (λy bu _ aq B row ab hg hr=> ?sk)
  ?assign ?body ?done ?stop
 case sk=>exact alo
 case assign=>
  rintro l pre y W aX ⟨h1,h2⟩ hq am;have ci:I.heap.size<W:=by obtain⟨u,T,-⟩:=h1.fin;exact(dG.1 T).1
  exact alp
 case body=>
  rintro l pre y bu W X-⟨h1,h2⟩ ⟨Bx,FW,h3,hq,Q9,anf,EL,EM,EN,rfl⟩ ad;have ly:W.cell? Bx=some (H y.d):=aG h3 0;have ov:W.cell? ⟨Bx,2,none⟩=some (H y.f.i6):=aG h3 2;have mf:W.cell? ⟨Bx,3,none⟩=some (E y.b y.n y.c):=aG h3 3;have gO:W.cell? ⟨Bx,4,none⟩=some (M y.f.dflt):=aG h3 4;obtain⟨e3,-⟩:=pY h1.pb;have JJ:=h1.db;unfold yH at JJ;obtain⟨hs,dc,dv,g',k3,mb,p5,s5,vd⟩:=Hg JJ;have E4:=hq.ok;obtain⟨u,tt,cc⟩:=h1.fin;obtain⟨L,da⟩:∃L,L=pre.map λy=>qL p y d:=⟨_,rfl⟩
  have jI:L.length=pre:=by rw[da];simp
  rw[<-da,<-jI]at cc;obtain⟨bv,bp,rfl⟩:=dP cc;have o0:W.cell? I=some (E bv L bp):=aG tt 0;obtain⟨m,R⟩:∃m,m=qL p y d:=⟨_,rfl⟩;have So:(y.d=0/\∀aa,Ext W aa->Calls prog 32 #[E s.a p.ar s.c,gW d] aa λe F=>e=aI (M (m:Nat))/\Ext aa F)\/
   (y.d≠0/\∀aa,Ext W aa->Calls prog 33 #[bg #[H y.f.i6,E y.b y.n y.c,M y.f.dflt],gW d] aa λe F=>e=aI (M (m:Nat))/\Ext aa F):=by
   by_cases ae:y.d=0
   ·refine .inl ⟨ae,λaa qi=> ?_⟩;rw[R,show qL p y d=e2.gdA (e2.FQ p.ar) d.ar d.nr from aF ae];exact aE3 _ p.ar Sy d hd aa (cD.o.ext (h1.ext.trans qi)).ar
   ·refine .inr ⟨ae,λaa qi=> ?_⟩;rw[R,show qL p y d=kT y.f d from au ae];rcases hq with⟨rfl,-⟩|⟨-,-,-,-,-,cX,-,-⟩
    ·exact absurd rfl ae
    ·exact j7.Qe y.f _ (E4.okF cv ae) d hd aa (j7.lD qi cX)
  have t0:∀(eL cT:G) (jJ:Option Addr) (c6:Nat),Ext W eL->cT.ownsRow I 32 1 (E jJ (L+1) c6) (L+1) ((L++[m]).flatMap iC)->eL.grownBy cT (Value.slice bv L bp).ownBlock->
   cT.heap[I.heap.size]?=some (J #[E bv L bp] 33 (0,0))/\KeepsFrom a8 W (cT.setCell I (E jJ (L+1) c6))/\gT I Tf W (cT.setCell I (E jJ (L+1) c6))/\CX w p s d I I (pre++[y]) (cT.setCell I (E jJ (L+1) c6))/\∀x∈pre++[y],pz p x:=by
   intro eL cT jJ c6 bR gC im;have v2:=aJ tt bR;have N0:=(bq.ext (n0:=0) (bz:=λ_=>false) bR).own cc rfl;have pS:bq I Tf eL cT:=bq.grown N0 im rfl (aZ _);have xh:=(bq.grown (n0:=I.heap.size) (bz:=λx=>x==32) N0 im rfl (aZ _)).blk v2 (.inr rfl);refine⟨xh,?_⟩;have tv:bq I Tf W (cT.setCell I (E jJ (L+1) c6)):=((bq.ext bR).trans pS).trans (bq.set (p:=I) xh rfl (aZ _) _);have Sp:(cT.setCell I (E jJ (L+1) c6)).ownsRow I 32 1 (E jJ (L+1) c6) (L+1) ((L++[m]).flatMap iC):=(bq.set (n0:=I.heap.size) (bz:=λx=>x==33) (p:=I) xh rfl (aZ _) _).own gC rfl;rw[jI,da,R]at Sp;refine⟨tv.ko.from _,gT.of tv,⟨tv.lX h1.ext aE,tv.blk h1.pb (.inr rfl),tv.blk h1.db (.inr rfl),h1.hB,_,fH xh 0 _,?_⟩,λx D=> ?_⟩
   ·rw[dA,fQ,jI];exact Sp
   ·rcases iZ.1 D with h|h
    ·exact h2 x h
    ·rw[pI.1 h];exact E4
  have eb:=z t0;have cx:=z (ah cc tt);have aON:L.length<60:=aE;have aOO:=dh o0;have aOP:=dh e3;have aOQ:=dh ov;have aOR:=dh mf;have aOS:=dh gO;have akA:=dh hs;have aOT:=dh dc;have aOU:=dh dv;have aOV:=dh g';have aOW:=dh k3;have aOX:=dh mb;have aOY:=dh p5;have aOZ:=dh s5;have aO0:=dh vd;unfold gW at So;clear h1 h2 E4 h3 hq JJ tt cc t0 R jI da;rcases So with⟨ae,ao⟩|⟨ae,ao⟩
  case' inl=>have pL:((y.d:Int)==0)=true:=by rw[ae];rfl
  case' inr=>have pL:((y.d:Int)==0)=false:=iH.2 aE
  all_goals
   have dt:=z ao;clear ao ae;gi_wp2;refine R4 [6,7] (λaP=>∃x:fG W,aP=x.w) aj ?_;have eQ:∃x:fG W,W.drew=x.w:=⟨⟨W.drew,(O W).drew⟩,rfl⟩;refine vY 0 rfl eQ ?_;refine mq 1 rfl ?_;refine vY 2 rfl eQ ?_;refine vY 3 rfl eQ ?_;refine wY 4 aj rfl (λaX am=> ?_);go_simp;refine⟨trivial,?_⟩;refine iN (CallsIn.inRound l (eP.2 (dt.o _ ((O W).drew)))) ?_;intro bQ bR;have ang:Ext W bQ:=(O W).drew.trans bR;refine am _ _ (λ_=>⟨⟨bQ,ang⟩,rfl⟩) ?_;clear am aX bR;have BR:=ang.alloc (J #[M m] 32);refine wY 5 aj rfl (λaX am=> ?_);go_simp;refine am _ _ (λ_=>⟨⟨_,BR⟩,rfl⟩) ?_;clear am aX;refine nZ 6 aj rfl aj (λaX am=> ?_)
   first
    |refine Lj rfl (.tmp 17) (.tmp 22) 33 rfl underlying33 D5 rfl Y sQ DZ I (E bv L bp) _ L [m] rfl rfl ((bq.ext (n0:=0) (bz:=λ_=>false) BR).own cx.o.1 rfl) (jh sQ bQ [m] 32 _ rfl) dU Y ?ci ?_
    |refine Lj rfl (.tmp 24) (.tmp 29) 33 rfl underlying33 D5 rfl Y sQ DZ I (E bv L bp) _ L [m] rfl rfl ((bq.ext (n0:=0) (bz:=λ_=>false) BR).own cx.o.1 rfl) (jh sQ bQ [m] 32 _ rfl) dU Y ?ci ?_
   case ci=>have h1:=(dG.1 cx.o.2).1;have h2:=BR.size;omega
   intro jJ c6 cT gC im;obtain⟨xh,aE9⟩:=eb.o _ cT jJ c6 BR gC im;have tA:cT.cell? I=some (E bv L bp):=aG xh 0;have q3:=dw xh 0;refine am _ _ ?_;clear am aX gC im;refine nZ 7 aj rfl aj (λaX am=> ?_);go_simp;refine am _ _ ?_;clear am aX;refine AJ aj ?_;exact aE9
 case done=>
  rintro ax ys W cE px ⟨h1,h2⟩ hk;obtain⟨u,tt,cc⟩:=h1.fin;obtain⟨L,da⟩:∃L,L=ys.map λy=>qL p y d:=⟨_,rfl⟩
  have jI:L.length=ys:=by rw[da];simp
  have Gb:ys.length<=43:=by rw[<-dL (f:=fP.at),px];exact als p
  have GA:∀x∈L,x<4294967296:=λx D=>by rw[da]at D;obtain⟨y,bN,rfl⟩:=iJ.1 D;exact aE6 cv (h2 y bN) d
  rw[<-da]at cc;have ym:=cc;rw[<-jI]at ym;have ao:=akN u L aE GA W (eD (λ_=>rfl) ym);obtain⟨bv,bp,rfl⟩:=dP cc;have o0:W.cell? I=some (E bv ys bp):=aG tt 0;have bC:=z (ah h1 (ah h2 (ah px da)));have dt:=z ao;clear h1 h2 cc ym ao tt da GA;gi_wp2;refine⟨trivial,?_⟩;refine iN (eP.2 dt.o) ?_;intro bQ bR;have c9:=z bR;clear bR;gi_wp2;have Ss:bQ.heap[ax]?=some (.deferred (some [])):=by rw[c9.o.block (dG.1 hk).1];exact hk
  refine⟨ay,.inl ⟨_,_,rfl,run_takeDeferred Ss,?_⟩⟩;have mT:=grownBy_putObj' bQ ax (.deferred none);refine⟨bH #[M (KL.comb L:Nat),H 0],by simp[results,results15,go_sem],?_⟩;exact⟨(bC.o.1.ext.trans c9.o).grown mT (λr e=>by cases e;omega),ys,bC.o.2.2.1,bC.o.2.1,by rw[<-bC.o.2.2.2]⟩
 case stop=>intro ax az9 pre W cE _ ai;exact ai.elim
end LT
end Go.Proofs.YtopfefhenfineaaGreat
namespace Go.Proofs.YtopfefhenfineaaGreat
open Go.Proofs.Tryz Go.RowKit Go.Shelf bh
attribute[local go_sem] Oper.semAt_some
namespace LT
open bM (dN)
def newP:bP:=⟨[],0,[],2147483648,0,[],[],0,0,false,false,false,false⟩
def newS:dS:=⟨none,0,none,0,none,0,none,0⟩
def anh:iW newP:=⟨λ_ h=>DL,.inl rfl,⟨Y,λ_=>rfl⟩,⟨λ_ h=>DL,λi hi=>(by simp[newP]at hi)⟩,⟨λ_ h=>DL,λi hi=>(by simp[newP]at hi)⟩,rfl,rfl,jN.zero.p⟩
def xA{W:G}{e n:Nat}:W.ownsRow 0 e n (E none 0 0) 0 []:=⟨ay,.inl ⟨rfl,rfl⟩⟩
def aFa(W:G):lI W newP newS:=⟨xA,xA,xA,xA⟩
theorem abi(w:G):aM 71 #[] w (iX newP newS):=by unfold aM;go_in;go_wp;refine cO (v:=iX newP newS) (lQ results71 _ _ _ _ _ _ _ rfl (bA w _) underlying36 rfl aj) rfl ?_;exact Dn
theorem aFb(n:dB)(w:G):aM 40 #[Nt n] w (av (!zi n.er)):=by have eo:=z (λW=>avt (n.er:Int) W);unfold Nt;unfold aM;go_in;go_wp2_with(refine ak (eo.o _) ?_;intro I Q;have aT:=z (((O w).alloc _).trans Q));go_ret;exact wL
def kZ(ns:List dB):Bool:=ns.any λn=> !zi n.er
theorem ZV(v:K)(ns:List dB)(X:ns.length<=9223372036854775807)(w:G)(hv:aS w 4 iP v ns):aM 21 #[v] w (av (kZ ns)):=by have dt:=z (aBf 40 (enters_of func40 aj rfl) (λn=> !zi n.er) v ns X w hv (λx _ W _=>aFb x W));exact akL
end LT
end Go.Proofs.YtopfefhenfineaaGreat
namespace Go.Proofs.YtopfefhenfineaaGreat
open Go.Proofs.Tryz Go.RowKit bh
namespace LT
open oh (eF)
open bM (dN)
variable{ns:List dB}
def mE.len{α:Type}{aH:α->qH->qH->Prop}(bd:∀x s t,aH x s t->t.2.length<=s.2.length+1):∀ {l:List α} {s t:qH},mE aH l s t->t.2.length<=s.2.length+l.length
 | [],_,_,h=>by cases h;exact aZ _
 |x::l,_,_,⟨_,h1,h2⟩=>by have a:=bd _ _ _ h1;have b:=h2.len bd;simp only[dJ];omega
def HV{α pn:Type}{f:pn->α->pn}{cy:pn->Nat}(ai:∀s x,cy (f s x)<=cy s+1):∀(l:List α)(s:pn),cy (l.foldl f s)<=cy s+l.length
 | [],_=>aZ _
 |x::l,s=>by have a:=ai s x;have b:=HV ai l (f s x);simp only[xH,dJ];omega
def aFc(v:bn):(str (Lib.trimPrefix (bytes v) [126])).size<=v.size:=by rw[vH,<-jS];exact PE
def pX.len{i2:Bool}{m cM:Nat}{U d':List dQ}{v:bn}(h:pX i2 m U v cM d' ns):ns.length<=v.size+1:=by
 unfold pX at h;split at h
 ·rw[h.2.2];exact eG _
 split at h
 ·rw[h.2.2];exact eG _
 have h1:=h.2.len (λx s t h=>ay0 h);have h2:=Ba eF (str (Lib.trimPrefix (bytes v) [126]));have T:=aFc v;simp only[fu,gF]at h1;omega
def Tg(a:dN)(v:bn)(k:Nat)(p:bP):(qb a v k p []).2.length<=v.size+1:=by unfold qb;exact FE
def aFd(a:dN)(key v:bn)(p:bP):(qg a key v p).2.length<=v.size+1:=by
 have h2:=Ba eF v;have T:=Ba eF (mH v);have af:=Zx v;unfold qg;split
 ·unfold CO;have h:=HV (f:=stA a) (cy:=λx:List Int×List dB=>x.2.length) (λs x=>by unfold stA;split<;>simp) (Lib.goFieldsP eF v) (if (Lib.goFieldsP eF v).length=0 then []else p.ar,[]);simp only[fu,gF]at h;exact cB h h2
 split
 ·unfold wC;split
  ·exact eG _
  split
  ·exact eG _
  have h:=HV (f:=um a (uq v==((if p.fd=0 then(if uq v=true then 2 else 1)else p.fd)==2))) (cy:=λx:List Nat×List dB=>x.2.length) (λs x=>by unfold um;split<;>simp) (Lib.goFieldsP eF (mH v)) (p.fa,[]);simp only[fu,gF]at h;exact cB h aE
 split
 ·unfold Bh;split
  ·exact eG _
  split
  ·exact eG _
  have h:=HV (f:=su a) (cy:=λx:Fa=>x.ns.length) (λs x=>amF x) (Lib.goFieldsP eF (mH v)) ⟨0,true,[]⟩;simp only[fu,gF]at h;exact cB h aE
 split
 ·exact Tg _ _ _ _
 split
 ·exact Tg _ _ _ _
 split
 ·exact Tg _ _ _ _
 split
 ·exact Tg _ _ _ _
 ·exact eG _
def Bn.len{a:dN}{p p':bP}(h:Bn a p p' ns):ns.length<=(str a.2.2.2.2).size+1:=by
 rcases h with⟨-,lO,ab,rfl⟩|⟨-,-,rfl⟩|⟨-,-,t,rfl⟩
 ·rw[dL];rcases ab with⟨-,_,_,ab,-⟩|⟨-,_,_,ab,-⟩|⟨-,⟨rfl,-⟩|⟨rfl,-⟩⟩
  ·exact ab.len
  ·exact ab.len
  ·exact eG _
  ·simp
 ·exact aFd _ _ _ _
 ·simp
def szA(a:dN):Nat:=(str a.2.2.2.2).size+1
def jA(l:List dN):Nat:=(l.map szA).sum
def aFe(l:List dN)(k:Nat)(hk:k<l):jA (l.take (k+1))=jA (l.take k)+szA l[k]:=by unfold jA;rw[mh hk,fQ,List.sum_append];simp
def aFf(l:List dN)(k:Nat):jA (l.take k)<=jA l:=by
 have h:jA l=jA (l.take k)+jA (l.drop k):=by unfold jA;rw[<-List.sum_append,<-fQ,List.take_append_drop]
 omega
end LT
namespace bM
variable{α:Type}
def qP(g:α->List aL)(l:List α):Nat:=(l.map λx=>(g x).length).sum
def ZW(g:α->List aL)(a b:List α):qP g (a++b)=qP g a+qP g b:=by unfold qP;rw[fQ,List.sum_append]
def oP(g:α->List aL)(a:α)(b:List α):qP g (a::b)=(g a).length+qP g b:=by unfold qP;rw[fK,List.sum_cons]
def aFg(aw:qH)(x:LN):qP Prod.snd (jO aw x).1+(jO aw x).2.2.length<=qP Prod.snd aw.1+aw.2.2.length+(x.2.length+1):=by
 unfold jO;split
 ·omega
 split
 ·have:=Ti x.2 [92];simp only[dA,dJ,fu];omega
 ·unfold wF;split
  ·simp only[fu];omega
  ·have:=Kg (aw.2.2++x.2);simp only[ZW,oP,fu,dA]at *;have ae:qP (Prod.snd:LN->List aL) []=0:=rfl;omega
def ani:∀(l:List LN)(aw:qH),qP Prod.snd (l.foldl jO aw).1+(l.foldl jO aw).2.2.length<=qP Prod.snd aw.1+aw.2.2.length+(qP Prod.snd l+l.length)
 | [],aw=>by simp only[List.foldl_nil];omega
 |x::l,aw=>by have a:=aFg aw x;have b:=ani l (jO aw x);rw[xH,oP,dJ];omega
def anj:∀(n:Nat)(l:List (List aL)),qP Prod.snd (jP n l)=qP id l
 |_,[]=>rfl
 |n,x::l=>by unfold jP;rw[oP,oP,anj (n+1) l];rfl
def ank:∀(n:Nat)(l:List aL),l.length<=n->qP id (gU l)<=l.length
 |0,[],_=>aZ _
 |n+1,[],_=>aZ _
 |n+1,x::r,h=>by rw[Tj ay,oP];have ae:=Tk 10 (x::r);have h1:=Bo 10 (x::r);have h2:=ank n (tl1 10 (x::r)) (by simp only[dJ]at *;omega);simp only[id];omega
def aFh(l:List aL):qP Prod.snd (jk l).1<=2*l.length:=by
 unfold jk;split
 ·exact eG _
 split
 ·exact eG _
 ·dsimp only;unfold Ki;have a:=ani (jP 1 (gU l)) ([],0,[]);rw[anj,CY]at a;have b:=ank l l (aZ _);have c:=Tm l l (aZ _);have ae:qP (Prod.snd:LN->List aL) []=0:=rfl
  change qP Prod.snd (lM (jP 1 (gU l))).1+(lM (jP 1 (gU l))).2.2.length<=_ at a
  unfold wF;split
  ·simp only[fu]at a;omega
  ·have:=Kg (lM (jP 1 (gU l))).2.2;simp only[ZW,oP,fu]at *;omega
def aFi(l:List aL):(Fj l).2.1.length<=l.length:=by
 unfold Fj
 repeat' (split;·exact eG _)
 have h1:=Kg (tl1 61 l);have h2:=Bo 61 l;dsimp only;omega
def vlA(a:As):List aL:=a.2.2.2
def anl:∀(l:List LN)(aw:yI),qP vlA (l.foldl nu aw).al<=qP vlA aw.al+qP Prod.snd l
 | [],aw=>aZ _
 |x::l,aw=>by
  have b:=anl l (nu aw x);have a:qP vlA (nu aw x).al<=qP vlA aw.al+x.2.length:=by
   unfold nu;split
   ·exact rO _ _
   split
   ·have:=aFi x.2;simp only[ZW,oP];have ae:qP vlA []=0:=rfl;unfold vlA at *;dsimp only at *;omega
   ·exact rO _ _
  rw[xH,oP];omega
def VL(l:List aL):qP vlA (qF l).1<=2*l.length:=by
 unfold qF;split
 ·exact eG _
 split
 ·exact eG _
 ·have a:=anl (jk l).1 ⟨[],false,[],[]⟩;have b:=aFh l;have ae:qP vlA []=0:=rfl
  change qP vlA (Ah l).al<=_ at a
  dsimp only at *;omega
def aFj(aw:yI)(x:LN)(h:∀n∈aw.nl,n.2.1=130):∀n∈(nu aw x).nl,n.2.1=130:=by
 unfold nu;split
 ·exact h
 split
 ·exact h
 ·intro n hn;rw[iZ,pI]at hn;rcases hn with e|rfl
  ·exact h n e
  ·rfl
def anm:∀(l:List LN)(aw:yI),(∀n∈aw.nl,n.2.1=130)->∀n∈(l.foldl nu aw).nl,n.2.1=130
 | [],_,h=>h
 |x::l,aw,h=>anm l (nu aw x) (aFj aw x h)
def erM(e:Nat):Bool:=e==3||e==4||e==130||e==140
def aFk(l:List aL):∀n∈(qF l).2,erM n.2.1=true:=by
 unfold qF;split
 ·rename_i h;intro n hn;rw[pI]at hn;subst hn;unfold jk at *;(repeat' split at h)<;>(repeat' split)<;>first|rfl|(exact absurd rfl h)|(simp_all)
 split
 ·intro n hn;have:=anm (jk l).1 ⟨[],false,[],[]⟩ (λ_ h=>by cases h) n hn;rw[this];rfl
 ·intro n hn;cases hn
def abn(m:dz)(fs:List dz):∀n∈(fM m fs).2,erM n.2.2.1=true:=by
 unfold fM;split
 ·rename_i h;intro n hn;rw[pI]at hn;subst hn;unfold LY;dsimp only;unfold qE at *;(repeat' split)<;>first|rfl|(exfalso;simp_all)
 split
 ·intro n hn;rw[List.mem_flatMap]at hn;obtain⟨f,-,hn⟩:=hn;unfold oL at hn;rw[iJ]at hn;obtain⟨x,D,rfl⟩:=hn;exact aFk _ x D
 ·intro n hn;cases hn
end bM
namespace LT
open bM (dN tO dz oK fM nR)
def aFl(a b:List dN):jA (a++b)=jA a+jA b:=by unfold jA;rw[fQ,List.sum_append]
def ano(f:dz):jA (oK f)<=2*f.2.2.length+1001:=by
 have h1:=bM.IQ f;have h2:=bM.VL f.2.2;have T:∀l:List bM.As,jA (l.map λx=>(f.1,x.1,x.2.1,x.2.2.1,x.2.2.2))=bM.qP bM.vlA l+l.length:=by
  intro l
  induction l with
  |nil=>rfl
  |cons a l b9=>rw[fK,dJ,bM.oP];unfold jA at *;rw[fK,List.sum_cons,b9];have aK:szA (f.1,a.1,a.2.1,a.2.2.1,a.2.2.2)=(bM.vlA a).length+1:=rfl;rw[aK];omega
 unfold oK at *;rw[T];rw[dL]at h1;omega
def anp{cy:Nat}:∀(l:List dz),(∀f∈l,f.2.2.length<=cy)->jA (l.flatMap oK)<=l.length*(2*cy+1001)
 | [],_=>eG _
 |f::l,h=>by have h1:=ano f;have h2:=h f ay;have T:=anp l (λg hg=>h g (by simp[hg]));rw[sI,aFl,dJ,Nat.succ_mul];omega
def anq{fs:List dz}{f:dz}(h:f∈nR fs):f∈fs:=by obtain⟨j,-,-,Z,-⟩:=((bM.OJ fs).2 f).1 h;exact List.mem_of_getElem? Z
def anr:∀ {l:List dN} {a:dN},a∈l->szA a<=jA l
 |b::l,a,h=>by
  rw[iA]at h;unfold jA;rw[fK,List.sum_cons];rcases h with rfl|h
  ·omega
  ·have:=anr h;unfold jA at this;omega
def aFm(m:dz)(fs:List dz)(R:m.2.2.length<=6000)(hn:fs.length<=20)(ai:∀f∈fs,f.2.2.length<=6000):jA (fM m fs).1<=300000:=by
 unfold fM;split
 ·exact eG _
 split
 ·exact eG _
 ·have h1:=anp (cy:=6000) (m::nR fs) (by
   intro f h;rw[iA]at h;rcases h with rfl|h
   ·exact R
   ·exact ai f (anq h))
  have h2:=bM.Jt fs;rw[dJ]at h1;have T:((nR fs).length+1)*(2*6000+1001)<=21*(2*6000+1001):=pF _ aE;dsimp only;omega
def aFo(m:dz)(fs:List dz)(R:m.2.2.length<=6000)(ai:∀f∈fs,f.2.2.length<=6000):∀a∈(fM m fs).1,szA a<=13001:=by
 unfold fM;split
 ·intro a bT;cases bT
 split
 ·intro a bT;cases bT
 ·intro a bT;obtain⟨f,h,bT⟩:=List.mem_flatMap.1 bT;have h1:=anr bT;have h2:=ano f;have T:f.2.2.length<=6000:=by
   rw[iA]at h;rcases h with rfl|h
   ·exact R
   ·exact ai f (anq h)
  omega
def ant:∀l:List dN,l.length<=jA l
 | []=>eG _
 |a::l=>by
  have h:=ant l;have aK:jA (a::l)=szA a+jA l:=by unfold jA;rw[fK,List.sum_cons]
  have aV:1<=szA a:=by unfold szA;omega
  rw[aK,dJ];omega
def anu(e:Nat):Bool:=bM.erM e||e==160||e==111||e==80||e==180||e==181||e==150||e==270||zi e
def aFp{e:Nat}(h:bM.erM e=true):zi (e:Int)=false/\anu e=true:=by unfold anu;rw[h];unfold bM.erM at h;simp only[qM,jC]at h;rcases h with((rfl|rfl)|rfl)|rfl<;>exact⟨rfl,rfl⟩
end LT
end Go.Proofs.YtopfefhenfineaaGreat
namespace Go.Proofs.YtopfefhenfineaaGreat
open Go.Proofs.Tryz Go.RowKit Go.Shelf bh
attribute[local go_sem] Oper.semAt_some bh.Oper.idle bh.Oper.lV bh.Oper.jF
namespace LT
open bM (dN)
variable{B base c e k k' n:Nat}{W aa w:G}{u:K}{b3:List K}
def yJ(a:dN)(x y:bP×List dB):Prop:= ∃d,Bn a x.1 y.1 d/\y.2=x.2++d
def yJ.ok{a:dN}{x y:bP×List dB}(h:yJ a x y)(D:iW x.1/\oq x.2):iW y.1/\oq y.2:=by
 obtain⟨d,h1,h2⟩:=h;obtain⟨T,af⟩:=h1.ok D.1;refine⟨T,?_⟩;rw[h2];intro n hn;rw[iZ]at hn;rcases hn with h|h
 ·exact D.2 n h
 ·exact af n h
structure Kj(w:G)(B:Nat)(p:bP)(s:dS)(u:K)(ns:List dB)(W:G):Prop where
 ext:Ext w W
 hB:w.heap.size<B
 res:W.heap[w.heap.size]?=some (J jv 36 (0,0))
 bo:W.heap[B]?=some (J (cK p s).toArray 36 (0,0))
 po:lI W p s
 own:W.ownsRow (w+1) 45 4 u ns (ns.flatMap iP)
def Kj.ext'{p:bP}{s:dS}{ns:List dB}(h:Kj w B p s u ns W)(D:Ext W aa):Kj w B p s u ns aa:=⟨h.ext.trans D,h.hB,aJ h.res D,aJ h.bo D,h.po.ext D,mF h.own D⟩
def anv(h:W.ownsRow (base+1) e n u k b3):W.ownsRow base e n u k b3:=Px
def anw{a:Option Addr}{U:Array K}(h:W.ownsRow base 45 n (E a k c) k' b3)(V:W.heap[B]?=some (J U 36 (0,0))):some B≠(Value.slice a k c).ownBlock:=by
 cases a with
 |none=>exactλe=>by cases e
 |some g=>
  intro e;rcases h.2 with⟨h2,_⟩|⟨jX,cap,bm,h2,hg,be,r⟩
  ·cases h2
  ·cases h2
   simp only[Value.ownBlock,jB]at e;subst e;rw[V]at be;simp at be
theorem aFq(v:K)(al:List dN)(X:al.length<=1000000)(hv:∀a∈al,(str a.2.2.2.2).size<=100000)(ci:jA al<=90000000)(w:G)(hr:aS w 5 bM.kP v al):Calls prog 36 #[v] w λe F=>∃(p:bP)(ns:List dB)(p':bP)(s':dS)(u:K),mE yJ al (newP,[]) (p,ns)/\p'=(if kZ ns=true then {newP with dn:=0}else p)/\e=aI (bH #[iX p' s',u])/\Ext w F/\lI F p' s'/\F.ownsRow w 45 4 u ns (ns.flatMap iP):=by
 obtain⟨lP,lR,rfl,h2,T,af⟩:=hr;have ev:=z abi;have k1:=z hv;have Md:=z af;have nv:=bA w (J jv 36);have w6:=z nv;go_in;go_upto_region 2 with(refine ak (ev.o _) ?_;intro I Q;unfold iX cK newP newS;have H1:=z (ah (((O w).alloc (J jv 36)).trans Q) (ah Q (aJ w6.o Q))));have b7:Kj w I newP newS (E none 0 0) [] (I.alloc (J (cK newP newS).toArray 36)):=⟨H1.o.1.alloc _,vw (by show w.heap.size<(w.heap.push _).size;simp) (show(w.heap.push (J jv 36)).size<=I.heap.size from H1.o.2.1.size),aJ (aJ w6.o H1.o.2.1) ((O _).alloc _),bA _ _,aFa _,⟨rfl,.inl ay⟩⟩;unfold cK newP newS at b7;dsimp only at b7;generalize I.alloc _=az at *;have hB:=b7.hB;generalize I.heap.size=B at *;have sh:=z b7;go_wp;go_loopw [5,13] (λu i wr=>∃(k:Nat) (p:bP) (s:dS) (ns:List dB),k<=al/\i=H k/\Kj w B p s u ns wr/\iW p/\ns.length<=jA (al.take k)/\mE yJ (al.take k) (newP,[]) (p,ns)) (λ_ i _=>al.length-(intOf i).toNat)
 case atStart=>exact⟨0,newP,newS,[],aE,rfl,sh.o,anh,eG _,rfl⟩
 case round=>
  obtain⟨k,p,s,ns,hk,rfl,i7,lj,hy,gp⟩:=hrel;obtain⟨ea,gr,rfl⟩:=dP i7.own;by_cases ad:k<al
  ·have nc:(k:Int)<al:=aE;have aFn:=k1.o _ (eB ad);have eb:=z (λy=>gp.take ad (aH:=yJ) (u:=y));have yz:=z ad;have dp:=aFe al k ad;have eC:=aFf al (k+1);obtain⟨b,o,rfl,b8⟩:=Md.o k ad;generalize al[k]=a at *;have a0:wr.cell? ⟨b,o+k*5,none⟩=some (N (str a.1)):=i7.ext.cell (b8 0 (by show 0<5;decide));have a1:wr.cell? ⟨b,o+k*5+1,none⟩=some (H a.2.1):=i7.ext.cell (b8 1 (by show 1<5;decide));have a2:wr.cell? ⟨b,o+k*5+2,none⟩=some (N (str a.2.2.1)):=i7.ext.cell (b8 2 (by show 2<5;decide));have a3:wr.cell? ⟨b,o+k*5+3,none⟩=some (N (str a.2.2.2.1)):=i7.ext.cell (b8 3 (by show 3<5;decide));have a4:wr.cell? ⟨b,o+k*5+4,none⟩=some (N (str a.2.2.2.2)):=i7.ext.cell (b8 4 (by show 4<5;decide));have tG:=z i7;have aFr:=z lj;have ann:=z (bA wr (J (bM.kP a).toArray 148));have bF:=z ((O wr).alloc (J (bM.kP a).toArray 148));have aFs:=z (λW (D:Ext wr W)=>aEU p s a lj aFn W (i7.po.ext D));unfold bM.kP at ann bF;have cH:=aJ tG.o.bo bF.o;go_upto_region 7 with(first
    |(refine rR rfl 36 (.tmp 4) rfl B rfl 36 _ _ _ cH underlying36 rfl rG ?_)
    |(refine rR rfl 148 (.tmp 7) rfl wr.heap.size rfl 148 _ _ _ ann.o underlying148 rfl aj ?_)
    |(go_at_call 72;refine(aFs.o _ bF.o).mono ?_;rintro e aO ⟨s',u,p',d,rfl,ag,hD,hd,G3⟩;unfold iX;have kj:=bA aO (J jv 36);have bK:=z (ah (tG.o.ext' (bF.o.trans ag)) (ah hD (ah hd G3))))
    |(refine wpList_store_rowTo rfl 36 (.tmp 8) (.tmp 21) rfl rfl aO.heap.size (cK p' s').toArray rfl rfl 36 _ kj rG rfl Fe ?_;rw[World.setRow_alloc_new]))
   have X6:ns.length+d<=90000000/\ns.length+d<=jA (al.take (k+1)):=by have:=bK.o.2.2.2.len;unfold szA at dp;omega
   have AT:=bA aO (J (cK p' s').toArray 36);have SP:=bK.o.1.ext' ((O aO).alloc (J (cK p' s').toArray 36));have SU:=bK.o.2.1.ext ((O aO).alloc (J (cK p' s').toArray 36));have SW:=aS.ext ((O aO).alloc (J (cK p' s').toArray 36)) bK.o.2.2.1;generalize aO.alloc (J (cK p' s').toArray 36)=dj at *;have HA:=(dG.1 AT).1;generalize aO.heap.size=dO at *;have dE:=z (ah SP (ah SU (ah SW (ah AT (ah X6 bK.o.2.2.2)))));obtain⟨xi,f3,e0,q',B7,vy,tv,aO1,aO2,aO3,aO4,aO5,aO6⟩:=pY AT;obtain⟨b0,b1,b2,cV,ky,mB,pp,te,J8,aFt,aFu,aFv,aFw⟩:=pY SP.bo;have ag3:=X6.1
   (go_region_law((refine FL rfl (.tmp 24) (.tmp 25) _ rfl underlying38 RD rfl Y pW RB (w.heap.size+1) _ _ ns d (by rfl) (by rfl) (by exact mF dE.o.1.own (O _).drew) (aS.ext (O _).drew dE.o.2.2.1) aE Y (vw dE.o.1.hB (Nat.le_of_lt (dG.1 dE.o.1.bo).1)) ?_;intro Qp Qq dy hM k7
                   have e6:=(k7.block B (dG.1 dE.o.1.bo).1 (anw dE.o.1.own dE.o.1.bo)).trans dE.o.1.bo;have qn:=(k7.block dO (dG.1 dE.o.2.2.2.1).1 (anw dE.o.1.own dE.o.2.2.2.1)).trans dE.o.2.2.2.1;obtain⟨fR,ed,eq,q2,DD,HU,Lv,Lw,HW,Lx,Ly,Lz,LA⟩:=pY qn;obtain⟨y0,y1,y2,tn,xe,xf,E2,Hk,Hi,NO,NR,NS,NT⟩:=pY e6;have f0:=dw e6 0;have dg:=dw e6 1;have fg:=dw e6 2;have mw:=dw e6 3;have f4:=dw e6 4;have v6:=dw e6 5;have r7:=dw e6 6;have xj:=dw e6 7;have E':=dw e6 8;have Mq:=dw e6 9;have Zm:=dw e6 10;have Zn:=dw e6 11;have Zo:=dw e6 12;have k9:=z (ah hM (ah k7 (ah e6 qn)));clear hM k7 e6 qn)))
   all_goals
    rw[Ta k9.o.2.2.1];have D3:bq (w+1) (wW 45) dj.drew dy:=bq.grown (mF dE.o.1.own (O _).drew) k9.o.2.1 rfl (aZ _);have SZ:=(dE.o.2.1.ext (O _).drew).tk D3 rfl rfl rfl;have e6:=k9.o.2.2.1;have hM:=k9.o.1;rw[<-dA]at hM;have Hq:Kj w B p' s' (E Qp (ns.length+d) Qq) (ns++d) (dy.setRow B (cK p' s').toArray):=⟨iT (D3.lX dE.o.1.ext.drew aE) (Nat.le_of_lt dE.o.1.hB) _,dE.o.1.hB,(mo _ _ _ _ (Nat.ne_of_lt dE.o.1.hB)).trans (D3.blk (aJ dE.o.1.res (O _).drew) (.inr rfl)),gu _ _ _ _ _ _ e6,⟨eX SZ.ar e6 Y _,eX SZ.fc e6 Y _,eX SZ.lc e6 Y _,eX SZ.fa e6 Y _⟩,by rw[<-dA];exact eX hM e6 Y _⟩;have Ct:=z Hq;have Fs:=yz.o;go_wp;go_roundw
    case rel=>
     have hd:=dE.o.2.2.2.2.2;refine⟨k+1,p',s',ns++d,Fs,cZ,?_,(hd.ok aFr.o).1,?_,eb.o _ ⟨d,hd,rfl⟩⟩
     ·exact Ct.o
     ·rw[dA];exact dE.o.2.2.2.2.1.2
    case measure=>simp[intOf];omega
  ·obtain rfl:k=al.length:=aE;rw[iR]at gp;have ma:=λW (D:Ext wr W)=>ZV _ ns (Om i7.own) W (eD pW (mF i7.own D))
   have tG:=z i7;have anx:=z gp;generalize sT:kZ ns=aFx at *;have On:=z ma;cases aFx with
   |true=>
    go_wp2_with(first
     |(refine ak (On.o _ (O _)) ?_;intro aO ag;have hj:=aJ tG.o.res ag;have ca:=z ag)
     |(refine wpList_store_rowTo rfl 36 (.tmp 2) (.tmp 30) rfl rfl w.heap.size jv rfl rfl 36 _ hj rG rfl (by simp[Value.oneCell',jv]) ?_))
    have be:=gu _ _ _ jv _ _ hj;refine cO (v:=bH #[bg jv,E ea ns gr]) (tJ results36 _ _ w _ jv (0,0) _ rfl be underlying36 rfl aj) rfl ?_;exact⟨p,ns,{newP with dn:=0},newS,_,anx.o,(aF sT).symm,rfl,iT (tG.o.ext.trans ca.o) (aZ _) _,⟨xA,xA,xA,xA⟩,anv (eX (mF tG.o.own ca.o) hj Y _)⟩
   |false=>
    go_wp2_with(first
     |(refine ak (On.o _ (O _)) ?_;intro aO ag;have hj:=aJ tG.o.res ag;have ck:=aJ tG.o.bo ag;have ca:=z ag)
     |(refine rR rfl 36 (.tmp 4) rfl B rfl 36 _ _ _ ck underlying36 rfl rG ?_)
     |(refine wpList_store_rowTo rfl 36 (.tmp 2) (.tmp 32) rfl rfl w.heap.size (cK p s).toArray rfl rfl 36 _ hj rG rfl Fe ?_))
    have be:=gu _ _ _ (cK p s).toArray _ _ hj;refine cO (v:=bH #[bg (cK p s).toArray,E ea ns gr]) (tJ results36 _ _ w _ (cK p s).toArray (0,0) _ rfl be underlying36 rfl aj) rfl ?_;have A7:=tG.o.po.ext ca.o;exact⟨p,ns,p,s,_,anx.o,(au (by rw[sT];exact Bool.false_ne_true)).symm,rfl,iT (tG.o.ext.trans ca.o) (aZ _) _,⟨eX A7.ar hj Y _,eX A7.fc hj Y _,eX A7.lc hj Y _,eX A7.fa hj Y _⟩,anv (eX (mF tG.o.own ca.o) hj Y _)⟩
end LT
end Go.Proofs.YtopfefhenfineaaGreat
namespace Go.Proofs.YtopfefhenfineaaGreat
open Go.Proofs.Tryz Go.RowKit bh
namespace LT
open bM (dN tO dz fM)
variable{L:List jq}{fs:List dz}{m:dz}{ns:List dB}{p q:bP}
def iG:bP:= {newP with dn:=0}
def OA(x:tO):dB:=⟨x.1,x.2.1,x.2.2.1,x.2.2.2⟩
def aFy(l:List tO):l.flatMap bM.CQ=(l.map OA).flatMap iP:=by rw[List.flatMap_map];rfl
def uZ(m:dz)(fs:List dz)(p:bP)(L:List jq)(ns:List dB):Prop:=
 ((fM m fs).2≠[]/\p=iG/\L=[]/\ns=(fM m fs).2.map OA)\/
 ((fM m fs).2=[]/\∃q lO,mE yJ (fM m fs).1 (newP,[]) (q,lO)/\
   ((kZ lO=true/\p=iG/\L=[]/\ns=lO)\/(kZ lO=false/\¬CJ q/\p=iG/\L=[]/\ns=lO++[⟨m.1,0,270,[]⟩])\/
     (kZ lO=false/\p=q/\ns=lO/\∃ys,ys.map fP.at=pq q/\sj (CK q) ys L/\∀y∈ys,pz q y)))
def aka{l:List dN}(h:mE yJ l (newP,[]) (q,ns)):iW q/\oq ns:=mE.inv (P:=λx:bP×List dB=>iW x.1/\oq x.2) (λ_ _ _ h k=>yJ.ok h k) h ⟨anh,xw⟩
def anz:∀ {l:List dN} {x y:bP×List dB},mE yJ l x y->y.2.length<=x.2.length+jA l
 | [],_,_,h=>by cases h;exact rO _ _
 |a::l,_,_,⟨t,⟨d,h1,h2⟩,T⟩=>by
  have bk:=h1.len;have bW:=anz T;have aK:jA (a::l)=szA a+jA l:=by unfold jA;rw[fK,List.sum_cons]
  rw[h2,dA]at bW;unfold szA at aK;omega
def aFz(a b:List dB):kZ (a++b)=(kZ a||kZ b):=by unfold kZ;rw[List.any_append]
def uZ.bad(h:uZ m fs p L ns)(ai:kZ ns=true):L=[]/\ns≠[]:=by
 have bO:ns≠[]:=λe=>by rw[e]at ai;cases ai
 refine⟨?_,bO⟩;rcases h with⟨-,-,h,-⟩|⟨-,q,lO,-,⟨-,-,h,-⟩|⟨-,-,-,h,-⟩|⟨h1,-,rfl,-⟩⟩
 ·exact h
 ·exact h
 ·exact h
 ·rw[ai]at h1;cases h1
def uZ.good(h:uZ m fs p L ns)(ai:kZ ns=false):(fM m fs).2=[]/\mE yJ (fM m fs).1 (newP,[]) (p,ns)/\iW p/\∃ys,ys.map fP.at=pq p/\sj (CK p) ys L/\∀y∈ys,pz p y:=by
 rcases h with⟨h1,-,-,rfl⟩|⟨ae,q,lO,h1,⟨h2,-,-,rfl⟩|⟨-,-,-,-,rfl⟩|⟨-,rfl,rfl,h2⟩⟩
 ·exfalso;obtain⟨x,D⟩:=List.exists_mem_of_ne_nil _ h1;have h2:=(aFp (bM.abn m fs x D)).1;have T:kZ ((fM m fs).2.map OA)=true:=by unfold kZ;rw[List.any_eq_true];exact⟨OA x,iJ.2 ⟨x,D,rfl⟩,by show(!zi (x.2.2.1:Int))=true;rw[h2];rfl⟩
  rw[T]at ai;cases ai
 ·rw[ai]at h2;cases h2
 ·exfalso;rw[aFz]at ai;simp[kZ,zi]at ai
 ·exact⟨ae,h1,(aka h1).1,h2⟩
end LT
end Go.Proofs.YtopfefhenfineaaGreat
namespace Go.Proofs.YtopfefhenfineaaGreat
open Go.Proofs.Tryz Go.RowKit Go.Shelf bh
attribute[local go_sem] Oper.semAt_some bh.Oper.idle bh.Oper.lV bh.Oper.jF
namespace LT
open bM (dN tO dz PF iU fM gI qJ)
variable{B C g n0:Nat}{W aa w:G}{U old:Array K}{ke no aw u ea v:K}{m:PF}{opt:Bool}{p:bP}{s:dS}{t:dD}
def jZ(p:bP)(s:dS)(aw no:K)(m:PF)(ke:K)(opt:Bool)(ea:K):Array K:=(cK p s++[aw,no,N (bM.str m.nm),H m.dir,E m.a m.bs m.c,ke,av opt,ea]).toArray
def anA(h:W.heap[B]?=some (J U t (0,0)))(i j:Nat)(x y:K):(W.setCell ⟨B,i,none⟩ x).setCell ⟨B,j,none⟩ y=W.setRow B ((U.setIfInBounds i x).setIfInBounds j y):=by rw[sH _ _ _ _ _ _ _ h,sH _ _ _ _ _ _ _ (gu _ _ _ _ _ _ h),setRow_setRow]
def anB(h:W.heap[C]?=some (J (jZ p s aw no m ke opt ea) t (0,0))):W.cell? C=some (E s.a p.ar s.c)/\W.cell? ⟨C,1,none⟩=some (aC p.fm)/\W.cell? ⟨C,2,none⟩=some (E s.fa p.fc s.fc)/\W.cell? ⟨C,3,none⟩=some (M p.dn)/\W.cell? ⟨C,4,none⟩=some (aC p.lm)/\W.cell? ⟨C,5,none⟩=some (E s.la p.lc s.lc)/\W.cell? ⟨C,6,none⟩=some (E s.ga p.fa s.gc)/\W.cell? ⟨C,7,none⟩=some (aC p.fd)/\W.cell? ⟨C,8,none⟩=some (aA (p.sp:Int))/\W.cell? ⟨C,9,none⟩=some (av p.we)/\W.cell? ⟨C,10,none⟩=some (av p.pe)/\W.cell? ⟨C,11,none⟩=some (av p.rt)/\W.cell? ⟨C,12,none⟩=some (av p.np)/\W.cell? ⟨C,13,none⟩=some aw/\W.cell? ⟨C,14,none⟩=some no:=
 ⟨aG h 0,aG h 1,aG h 2,aG h 3,aG h 4,aG h 5,aG h 6,aG h 7,aG h 8,aG h 9,aG h 10,aG h 11,aG h 12,aG h 13,aG h 14⟩
theorem aFA(m:PF)(v:K)(ap:List PF)(opt:Bool)(X:ap.length<=1000000)(DK:gI m)(sl:∀p∈ap,gI p)(C:Nat)(W:G)(V:W.heap[C]?=some (J (jZ iG newS (E none 0 0) (E none 0 0) m v opt (E none 0 0)) 66 (0,0)))(Bs:bM.Good W m)(hv:aS W 3 qJ v ap)(hg:∀p∈ap,bM.Good W p):Calls prog 17 #[aB (some C)] W λe F=>∃ea hW az,e=aI (av (((fM m.f (ap.map PF.f)).2.length:Int)==0))/\Ext W az/\F=az.setRow C (jZ iG newS (E none 0 0) hW m v opt ea)/\az.ownsRow W 148 5 ea (fM m.f (ap.map PF.f)).1.length ((fM m.f (ap.map PF.f)).1.flatMap bM.kP)/\az.ownsRow W 45 4 hW (fM m.f (ap.map PF.f)).2.length ((fM m.f (ap.map PF.f)).2.flatMap bM.CQ):=by
 have em:=λaa (D:Ext W aa)=>bM.Ul m v ap X DK sl aa (bM.Good.ext D Bs) (hv.ext D) (λp ac=>bM.Good.ext D (hg p ac))
 obtain⟨lP,lR,rfl,-⟩:=hv;generalize fM m.f (ap.map PF.f)=f8 at *;obtain⟨al,nl⟩:=f8;dsimp only at *;unfold iU at em;have cW:=z em;have LB:W.cell? ⟨C,15,none⟩=some (N (bM.str m.nm)):=aG V 15;have aO7:W.cell? ⟨C,16,none⟩=some (H m.dir):=aG V 16;have aO8:W.cell? ⟨C,17,none⟩=some (E m.a m.bs m.c):=aG V 17;have aO9:W.cell? ⟨C,18,none⟩=some (E lP ap lR):=aG V 18;have ce:=z V;go_in;go_wp;go_cut [3] (λ_ wx=>∃a8,a8=wx/\∃ea hP gr az,Ext W az/\a8=az.setRow C (jZ iG newS (E none 0 0) (E hP nl gr) m (E lP ap lR) opt ea)/\az.heap[C]?=some (J (jZ iG newS (E none 0 0) (E none 0 0) m (E lP ap lR) opt (E none 0 0)) 66 (0,0))/\az.ownsRow W 148 5 ea al (al.flatMap bM.kP)/\az.ownsRow W 45 4 (E hP nl gr) nl (nl.flatMap bM.CQ))
 case first=>
  go_region_with(refine(cW.o _ (by first|exact O _|exact(O _).drew)).mono ?_;rintro e I ⟨ea,hW,rfl,Q,d4,ft⟩
                 obtain⟨hP,gr,rfl⟩:=dP ft;obtain⟨aPa,aPb,rfl⟩:=dP d4;have cH:=aJ ce.o ((O W).drew.trans Q);have ZS:I.cell? ⟨C,14,none⟩=some (E none 0 0):=aG cH 14;have aPc:I.cell? ⟨C,20,none⟩=some (E none 0 0):=aG cH 20;have Sf:=dw cH 14;have aPd:=dw cH 20;have H1:=z (ah ((O W).drew.trans Q) (ah cH (ah d4 ft)));clear Q cH d4 ft)
  all_goals
   go_wp;go_meet;refine⟨_,rfl,_,hP,gr,I,H1.o.1,?_,H1.o.2.1,H1.o.2.2.1,H1.o.2.2.2⟩
   first
    |exact anA H1.o.2.1 20 14 _ _
    |exact anA H1.o.2.1 14 20 _ _
 case rest=>
 obtain⟨a8,rfl,ea,hP,gr,az,Q,rfl,cH,d4,ft⟩:=hcut;have anC:(az.setRow C (jZ iG newS (E none 0 0) (E hP nl gr) m (E lP ap lR) opt ea)).cell? ⟨C,14,none⟩=some (E hP nl gr):=aG (gu _ _ _ _ _ _ cH) 14;have bK:=z (ah Q (ah d4 ft));go_wp;go_ret;exact⟨ea,_,az,rfl,bK.o.1,rfl,bK.o.2.1,bK.o.2.2⟩
def lI.row(h:lI W p s)(hg:W.heap[g]?=some (J old 66 (0,0)))(U:Array K):lI (W.setRow g U) p s:=
 ⟨eX h.ar hg Y U,eX h.fc hg Y U,eX h.lc hg Y U,eX h.fa hg Y U⟩
theorem aFB{P:Program}{aU:Array Oper}{rest:List Oper}{o:Oper}{a:Act}{bI:Exit->Act->G->Prop}(jV:o.guard=none)(eJ:dD)(x y:Operand)(ho:o.op= .store eJ x y)(hd:o.dst=none)(g off:Nat)(v:K)(U:List K)(D:a.eval x=aB (some ⟨g,off,none⟩))(bN:a.eval y=v)(t:dD)(bm new:List K)(hg:w.heap[g]?=some (J bm.toArray t (0,0)))(hi:(P.info? eJ).map (·.size)=some U.length)(hv:v.cells=U.toArray)(iu:off+U.length<=bm)(h1:∀v∈U,v.oneCell'=true)(ab:splice bm off U=new)(h:wpList P aU bI rest a (w.setRow g new.toArray)):wpList P aU bI (o::rest) a w:=by
 refine wpList_plain jV λaX am=> ?_
 unfold Oper.wp execOp;simp only[ho,D,bN,Instr.storeAt,Instr.sureAddr,Sem.run_bind,Sem.run_pure,Result.andThen_ok,acF w g off t eJ bm v U hg hi hv iu h1];refine am _ _ ?_;rw[hd,ab];exact h
def aFC(p:bP)(s:dS):∀v∈cK p s,v.oneCell'=true:=by intro v hv;unfold cK at hv;simp only[iA,List.not_mem_nil,or_false]at hv;rcases hv with rfl|rfl|rfl|rfl|rfl|rfl|rfl|rfl|rfl|rfl|rfl|rfl|rfl<;>rfl
structure dO(n0 C:Nat)(p:bP)(s:dS)(aw u:K)(m:PF)(ke:K)(opt:Bool)(ea:K)(ns:List dB)(W:G):Prop where
 bo:W.heap[C]?=some (J (jZ p s aw u m ke opt ea) 66 (0,0))
 po:lI W p s
 own:W.ownsRow n0 45 4 u ns (ns.flatMap iP)
def dO.ext{ns:List dB}(h:dO n0 C p s aw u m ke opt ea ns W)(D:Ext W aa):dO n0 C p s aw u m ke opt ea ns aa:=⟨aJ h.bo D,h.po.ext D,mF h.own D⟩
theorem aFD(m:PF)(ke no ea:K)(al:List dN)(opt:Bool)(X:al.length<=1000000)(hv:∀a∈al,(str a.2.2.2.2).size<=100000)(ci:jA al<=90000000)(C:Nat)(W:G)(V:W.heap[C]?=some (J (jZ iG newS (E none 0 0) no m ke opt ea) 66 (0,0)))(hr:aS W 5 bM.kP ea al):Calls prog 18 #[aB (some C)] W λe F=>∃(p:bP)(ns:List dB)(p':bP)(s':dS)(u:K),mE yJ al (newP,[]) (p,ns)/\p'=(if kZ ns=true then iG else p)/\e=aI (av (!kZ ns))/\(∀w,Ext w W->w.heap.size<=C->Ext w F)/\dO W C p' s' (E none 0 0) u m ke opt ea ns F:=by
 have bd:=λaa (D:Ext W aa)=>aFq ea al X hv ci aa (hr.ext D)
 obtain⟨lP,lR,rfl,-⟩:=hr;have cD:=z bd;have ce:=z V;have aFE:W.cell? ⟨C,20,none⟩=some (E lP al lR):=aG V 20;clear bd V;go_in;go_upto_region 2 with(first
  |(go_at_call 36;refine(cD.o _ (O _)).mono ?_;rintro e I ⟨p,ns,p',s',u,gp,pN,rfl,Q,lj,cc⟩;unfold iX;obtain⟨hP,gr,rfl⟩:=dP cc;have cH:=aJ ce.o Q
    have H1:=z (ah gp (ah pN (ah Q (ah cH (ah lj cc)))));clear gp pN Q cH lj cc)
  |(refine aFB rfl 36 (.tmp 15) (.tmp 11) rfl rfl C 0 (bg (cK p' s').toArray) (cK p' s') rfl rfl 66 _ (cK p' s'++[E none 0 0,no,N (bM.str m.nm),H m.dir,E m.a m.bs.length m.c,ke,av opt,E lP al.length lR]) H1.o.2.2.2.1 rG rfl (by simp[cK]) (aFC p' s') rfl ?_
    have ck:=gu _ _ _ (cK p' s'++[E none 0 0,no,N (bM.str m.nm),H m.dir,E m.a m.bs m.c,ke,av opt,E lP al lR]).toArray _ _ H1.o.2.2.2.1;have ZS:(I.setRow C (cK p' s'++[E none 0 0,no,N (bM.str m.nm),H m.dir,E m.a m.bs m.c,ke,av opt,E lP al lR]).toArray).cell? ⟨C,14,none⟩=some no:=aG ck 14;have Sf:=dw ck 14;have js:=z ck;clear ck))
 rw[sH _ _ _ _ _ _ _ js.o,setRow_setRow,show I.setRow C ((cK p' s'++[E none 0 0,no,N (bM.str m.nm),H m.dir,E m.a m.bs m.c,ke,av opt,E lP al lR]).toArray.setIfInBounds 14 (E hP ns gr))=I.setRow C (jZ p' s' (E none 0 0) (E hP ns gr) m ke opt (E lP al lR))from rfl];have m8:=gu _ _ _ (jZ p' s' (E none 0 0) (E hP ns gr) m ke opt (E lP al lR)) _ _ H1.o.2.2.2.1;have Fk:=eX H1.o.2.2.2.2.2 H1.o.2.2.2.1 Y (jZ p' s' (E none 0 0) (E hP ns gr) m ke opt (E lP al lR));obtain⟨a8,b'⟩:∃a8,a8=I.setRow C (jZ p' s' (E none 0 0) (E hP ns gr) m ke opt (E lP al lR)):=⟨_,rfl⟩;rw[<-b']at m8 Fk⊢;have anC:a8.cell? ⟨C,14,none⟩=some (E hP ns gr):=aG m8 14;have On:=z (ZV _ ns (Om Fk) a8 (eD pW Fk));have h':=z b';clear m8 Fk ZS Sf aFE b';obtain⟨jj,jW⟩:∃jj,jj=kZ ns:=⟨_,rfl⟩;have Wr:=z jW;rw[<-jW]at On;go_wp2_with(go_at_call 21;refine ak On.o ?_;intro aO ag;have ca:=z ag);go_ret;have lj:=H1.o.2.2.2.2.1.row H1.o.2.2.2.1 (jZ p' s' (E none 0 0) (E hP ns gr) m ke opt (E lP al lR));have lh:dO W C p' s' (E none 0 0) (E hP ns gr) m ke opt (E lP al lR) ns a8:=by rw[h'.o];exact⟨gu _ _ _ _ _ _ H1.o.2.2.2.1,lj,eX H1.o.2.2.2.2.2 H1.o.2.2.2.1 Y _⟩
 refine⟨p,ns,p',s',_,H1.o.1,H1.o.2.1,by rw[<-Wr.o];rfl,λw D bJ=> ?_,lh.ext ca.o⟩;refine gP ?_ ca.o;rw[h'.o];exact iT (D.trans H1.o.2.2.1) bJ _
def zC.row{l:List jq}(h:zC W v l)(hg:W.heap[g]?=some (J old 66 (0,0)))(U:Array K):zC (W.setRow g U) v l:=
 ⟨eX h.1 hg Y U,h.2.1,λx R=>⟨(h.2.2 x R).1,eX (h.2.2 x R).2 hg Y U⟩⟩
theorem aFF(m:PF)(ke ea u:K)(opt:Bool)(p:bP)(s:dS)(ns:List dB)(cv:iW p)(hy:ns.length<=90000000)(C n0:Nat)(cq:n0<=C)(W:G)(gs:n0<=W)(h:dO n0 C p s (E none 0 0) u m ke opt ea ns W):Calls prog 19 #[aB (some C)] W λe F=>(∀w,Ext w W->w.heap.size<=n0->Ext w F)/\((e=aI (av false)/\¬CJ p/\∃d1,dO n0 C p s (E none 0 0) d1 m ke opt ea (ns++[⟨m.nm,0,270,[]⟩]) F)\/(∃a c L ys,e=aI (av true)/\dO n0 C p s (E a L.length c) u m ke opt ea ns F/\zC F (E a L.length c) L/\ys.map fP.at=pq p/\sj (CK p) ys L/\∀y∈ys,pz p y)):=by
 have hB:=λaa (D:Ext W aa)=>Bz p s opt cv aa (h.po.ext D).rd
 obtain⟨bv,bp,rfl⟩:=dP h.own;unfold iX cK at hB;have ce:=z hB;have bC:=z h;obtain⟨b0,b1,b2,cV,ky,mB,pp,te,J8,aFt,aFu,aFv,aFw,-,-⟩:=anB h.bo;have aPe:W.cell? ⟨C,19,none⟩=some (av opt):=aG h.bo 19;go_in;go_wp;go_cut [3,4] (λl e wx=>∃az,az=wx/\Ext W az/\∃a n c er,l=E a n c/\e=H er/\((a=none/\n=0/\c=0/\er=270/\¬CJ p)\/(er=0/\∃L ys,n=L.length/\zC az (E a n c) L/\ys.map fP.at=pq p/\sj (CK p) ys L/\∀y∈ys,pz p y)))
 case first=>
  go_region_with(refine(ce.o _ (by first|exact O _|exact(O _).drew)).mono ?_;rintro e I ⟨Q,aW⟩
                 obtain⟨a,n,c,er,rfl,mN⟩:∃a n c er,e=aI (bH #[E a n c,H er])/\((a=none/\n=0/\c=0/\er=270/\¬CJ p)\/(er=0/\∃L ys,n=L.length/\zC I (E a n c) L/\ys.map fP.at=pq p/\sj (CK p) ys L/\∀y∈ys,pz p y)):=by
                  rcases aW with⟨rfl,aW⟩|⟨a,c,L,ys,rfl,h1,h2⟩
                  ·exact⟨none,0,0,270,rfl,.inl ⟨rfl,rfl,rfl,rfl,aW⟩⟩
                  ·exact⟨a,_,c,0,rfl,.inr ⟨rfl,L,ys,rfl,h1,h2⟩⟩
                 have H1:=z (ah ((O W).drew.trans Q) mN);clear Q aW mN)
  all_goals
   go_wp;go_meet;exact⟨_,rfl,H1.o.1,a,n,c,er,rfl,rfl,H1.o.2⟩
 case rest=>
 obtain⟨az,rfl,Q,a,n,c,er,rfl,rfl,⟨rfl,rfl,rfl,rfl,aW⟩|⟨rfl,L,ys,rfl,bU,px⟩⟩:=hcut
 ·have h1:=bC.o.ext Q;have anD:az.cell? ⟨C,13,none⟩=some (E none 0 0):=aG h1.bo 13;have aFG:az.cell? ⟨C,14,none⟩=some (E bv ns bp):=aG h1.bo 14;have aFH:az.cell? ⟨C,15,none⟩=some (N (bM.str m.nm)):=aG h1.bo 15;have as2:=λo=>((O az).alloc o).cell aFG
  have as3:=λo=>((O az).alloc o).cell aFH
  have mt:ns.length+[(⟨m.nm,0,270,[]⟩:dB)].length=ns.length+1:=rfl;have H1:=z (ah Q (ah h1 aW));go_upto_region 3 with fail
  (go_region_law((refine FL rfl (.tmp 25) (.tmp 33) _ rfl underlying38 RD rfl Y pW RB n0 _ _ ns [⟨m.nm,0,270,[]⟩] (by rfl) (by rfl) (by exact pG H1.o.2.1.own _) (aS.ext ((O _).drew) (jh pW az [⟨m.nm,0,270,[]⟩] _ _ rfl)) dU Y (by have:=H1.o.1.size;simp;omega) ?_;intro y3 y4 dC fY r6;rw[mt]at fY⊢
                  have bl:=H1.o.2.1.ext ((O az).alloc (J #[N (bM.str m.nm),H 0,H 270,N ⟨#[]⟩] 45)).drew;have h0:bq n0 (wW 45) _ dC:=bq.grown bl.own r6 rfl (aZ _);have f5:=h0.blk bl.bo (.inr rfl);have anC:dC.cell? ⟨C,14,none⟩=some (E bv ns bp):=aG f5 14;have aPf:dC.cell? ⟨C,13,none⟩=some (E none 0 0):=aG f5 13;have Sf:=dw f5 14;have SU:=bl.po.tk h0 rfl rfl rfl;have dE:=z (ah f5 (ah h0 (ah fY SU)));clear f5 h0 fY r6 bl SU)))
  all_goals
   rw[sH _ _ _ _ _ _ _ dE.o.1,show dC.setRow C ((jZ p s (E none 0 0) (E bv ns bp) m ke opt ea).setIfInBounds 14 (E y3 (ns+1) y4))=dC.setRow C (jZ p s (E none 0 0) (E y3 (ns+1) y4) m ke opt ea)from rfl];have e8:=gu _ _ _ (jZ p s (E none 0 0) (E y3 (ns+1) y4) m ke opt ea) _ _ dE.o.1;obtain⟨eL,ib⟩:∃eL,eL=dC.setRow C (jZ p s (E none 0 0) (E y3 (ns+1) y4) m ke opt ea):=⟨_,rfl⟩;rw[<-ib]at e8⊢;have ZX:eL.cell? ⟨C,13,none⟩=some (E none 0 0):=aG e8 13;have aFI:=dw e8 13;have qr:=z (ah e8 ib);clear e8 ib;go_wp;go_ret;rw[sH _ _ _ _ _ _ _ qr.o.1,qr.o.2,setRow_setRow];refine⟨λw D bJ=>iT (dE.o.2.1.lX ((D.trans H1.o.1).alloc _).drew bJ) (cB bJ cq) _,.inl ⟨rfl,H1.o.2.2,_,gu _ _ _ _ _ _ dE.o.1,dE.o.2.2.2.row dE.o.1 _,?_⟩⟩;rw[dA];exact eX dE.o.2.2.1 dE.o.1 Y _
 ·have h1:=bC.o.ext Q;have anD:az.cell? ⟨C,13,none⟩=some (E none 0 0):=aG h1.bo 13;have aFI:=dw h1.bo 13;have H1:=z (ah Q (ah h1 (ah bU px)));clear Q h1 bU px;go_wp;go_ret;rw[sH _ _ _ _ _ _ _ H1.o.2.1.bo];exact⟨λw D bJ=>iT (D.trans H1.o.1) (cB bJ cq) _,.inr ⟨a,c,L,ys,rfl,⟨gu _ _ _ _ _ _ H1.o.2.1.bo,H1.o.2.1.po.row H1.o.2.1.bo _,eX H1.o.2.1.own H1.o.2.1.bo Y _⟩,H1.o.2.2.1.row H1.o.2.1.bo _,H1.o.2.2.2⟩⟩
end LT
variable{S:Prop}
def HY(h:S:=by simp[Value.oneCell',eY]):S:=h
namespace LT
open bM (dN tO dz PF iU fM gI qJ)
variable{C base d n0 n1:Nat}{W a8 w:G}{ke aw u ea:K}{ns:List dB}
def eY(p:bP)(s:dS)(aw no:K):List K:= [E s.a p.ar s.c,aC p.fm,E s.fa p.fc s.fc,M p.dn,aC p.lm,E s.la p.lc s.lc,E s.ga p.fa s.gc,aC p.fd,aA (p.sp:Int),av p.we,av p.pe,av p.rt,av p.np,aw,no]
theorem xB:(Tryz.prog.info? 40).map (·.size)=some 15:=aj
theorem ZY(p:bP)(s:dS)(aw:K)(a:Option Addr)(c:Nat)(ns:List dB)(X:ns.length<=9223372036854775807)(w:G)(hn:aS w 4 iP (E a ns c) ns):aM 9 #[bg (eY p s aw (E a ns c)).toArray] w (av (!kZ ns)):=by have eb:=z (λW (D:Ext w W)=>ZV _ ns X W (hn.ext D));have ft:=bA w (J (eY p s aw (E a ns c)).toArray 40);have Q:=(O w).alloc (J (eY p s aw (E a ns c)).toArray 40);have z5:(w.alloc (J (eY p s aw (E a ns c)).toArray 40)).cell? ⟨w,14,none⟩=some (E a ns c):=aG ft 14;have aT:=z Q;obtain⟨az,b7⟩:∃az,az=w.alloc (J (eY p s aw (E a ns c)).toArray 40):=⟨_,rfl⟩;have eo:=z b7;rw[<-b7]at z5 aT;clear ft Q hn b7;generalize kZ ns=jj at *;unfold eY at *;unfold aM;go_in;go_upto_region 1 with fail;rw[<-eo.o];go_wp2_with(go_at_call 21;refine ak (eb.o _ aT.o) ?_;intro aO ag);go_ret;exact⟨rfl,aT.o.trans ag⟩
def dO.low{p:bP}{s:dS}{m:PF}{opt:Bool}(h:dO n0 C p s aw u m ke opt ea ns W)(ge:n1<=n0):dO n1 C p s aw u m ke opt ea ns W:=⟨h.bo,h.po,bM.kU h.own ge⟩
def Kk(C:Nat):Array K:= #[.func (.func 17) #[aB (some C)] #[],.func (.func 18) #[aB (some C)] #[],.func (.func 19) #[aB (some C)] #[]]
def aFJ(w:G)(m:PF)(v:K)(ap:List PF)(opt:Bool)(k:Nat)(W:G):Prop:=
 (k=0/\W.heap[w.heap.size+2]?=some (J (jZ iG newS (E none 0 0) (E none 0 0) m v opt (E none 0 0)) 66 (0,0)))\/
 (k=1/\(fM m.f (ap.map PF.f)).2=[]/\∃ea hW,W.heap[w.heap.size+2]?=some (J (jZ iG newS (E none 0 0) hW m v opt ea) 66 (0,0))/\aS W 5 bM.kP ea (fM m.f (ap.map PF.f)).1)\/
 (k=2/\(fM m.f (ap.map PF.f)).2=[]/\∃q s u ns ea,dO (w+2) (w.heap.size+2) q s (E none 0 0) u m v opt ea ns W/\kZ ns=false/\mE yJ (fM m.f (ap.map PF.f)).1 (newP,[]) (q,ns))\/
 (k=3/\(fM m.f (ap.map PF.f)).2=[]/\∃q s u ns ea a c L,dO (w+2) (w.heap.size+2) q s (E a (L:List jq).length c) u m v opt ea ns W/\zC W (E a L.length c) L/\uZ m.f (ap.map PF.f) q L ns)
def Tn(w:G)(m:dz)(fs:List dz)(e:Ending)(F:G):Prop:= ∃p s a c L b d ns,e=aI (bg (eY p s (E a (L:List jq).length c) (E b (ns:List dB).length d)).toArray)/\Ext w F/\rD F p s/\Cv F (E a L.length c) L/\aS F 4 iP (E b ns.length d) ns/\uZ m fs p L ns/\ns.length<=9223372036854775807
def Z0{m:dz}{fs:List dz}{b:Option Addr}{old:Array K}(D:Ext w a8)(mN:a8.heap[w.heap.size+1]?=some (J old 40 (0,0)))(ho:a8.ownsRow base 45 4 (E b ns d) ns (ns.flatMap iP))(hr:uZ m fs iG [] ns):Tn w m fs (aI (bg (eY iG newS (E none 0 0) (E b ns d)).toArray)) (a8.setRow (w+1) (eY iG newS (E none 0 0) (E b ns d)).toArray):=
 ⟨iG,newS,none,0,[],b,d,ns,rfl,iT D aE _,lI.rd ⟨xA,xA,xA,xA⟩,⟨eD Ns (xA (e:=53)),eG _,λx D=>by cases D⟩,eD pW (eX ho mN Y _),hr,Om ho⟩
theorem anE(m:PF)(v:K)(ap:List PF)(opt:Bool)(DK:gI m)(sl:∀p∈ap,gI p)(Ft:m.bs.length<=6000)(nS:ap.length<=20)(vm:∀p∈ap,p.bs.length<=6000)(w:G)(Bs:bM.Good w m)(hv:aS w 3 qJ v ap)(hg:∀p∈ap,bM.Good w p):Calls prog 7 #[iU m,v,av opt] w (Tn w m.f (ap.map PF.f)):=by
 have Kf:=aFo m.f (ap.map PF.f) Ft (λf ai=>by obtain⟨p,ac,rfl⟩:=iJ.1 ai;exact vm p ac);have ci:=aFm m.f (ap.map PF.f) Ft (by rw[dL];exact nS) (λf ai=>by obtain⟨p,ac,rfl⟩:=iJ.1 ai;exact vm p ac);have cW:=z (λW (D:Ext w W) V=>aFA m v ap opt aE DK sl (w+2) W V (bM.Good.ext D Bs) (hv.ext D) (λp ac=>bM.Good.ext D (hg p ac)));have cD:=z (λW ea no V hr=>aFD m v no ea (fM m.f (ap.map PF.f)).1 opt (cB (ant _) aE) (λa bT=>by have:=Kf a bT;unfold szA at this;omega) aE (w+2) W V hr);obtain⟨lP,lR,rfl,-⟩:=hv;have Fl:=z ci;unfold iU;go_in;go_upto_region 2 with fail;have dp:(w.alloc (J #[N (bM.str m.nm),H m.dir,E m.a m.bs m.c] 24)).heap.size=w.heap.size+1:=ay;have fN:=bA (w.alloc (J #[N (bM.str m.nm),H m.dir,E m.a m.bs m.c] 24)) (J (eY iG newS (E none 0 0) (E none 0 0)).toArray 40);have cH:=bA ((w.alloc (J #[N (bM.str m.nm),H m.dir,E m.a m.bs m.c] 24)).alloc (J (eY iG newS (E none 0 0) (E none 0 0)).toArray 40)) (J (jZ iG newS (E none 0 0) (E none 0 0) m (E lP ap lR) opt (E none 0 0)) 66);rw[dp]at fN;have eC:((w.alloc (J #[N (bM.str m.nm),H m.dir,E m.a m.bs m.c] 24)).alloc (J (eY iG newS (E none 0 0) (E none 0 0)).toArray 40)).heap.size=w.heap.size+2:=ay;rw[eC]at cH;have d6:Ext w ((w.alloc (J #[N (bM.str m.nm),H m.dir,E m.a m.bs m.c] 24)).alloc (J (eY iG newS (E none 0 0) (E none 0 0)).toArray 40)):=((O w).alloc _).alloc _;have Q:=(O ((w.alloc (J #[N (bM.str m.nm),H m.dir,E m.a m.bs m.c] 24)).alloc (J (eY iG newS (E none 0 0) (E none 0 0)).toArray 40))).alloc (J (jZ iG newS (E none 0 0) (E none 0 0) m (E lP ap lR) opt (E none 0 0)) 66);have ot:=z cH;have t4:=z (ah d6 (ah eC fN));have jL:=z Q;obtain⟨bX,gh⟩:∃bX,bX=(w.alloc (J #[N (bM.str m.nm),H m.dir,E m.a m.bs m.c] 24)).alloc (J (eY iG newS (E none 0 0) (E none 0 0)).toArray 40):=⟨_,rfl⟩;have tw:Go.RowKit.Hid (Ext w bX/\bX.heap.size=w.heap.size+2/\bX.heap[w.heap.size+1]?=some (J (eY iG newS (E none 0 0) (E none 0 0)).toArray 40 (0,0))):=by rw[gh];exact t4
 have aFK:Go.RowKit.Hid (Ext bX (((w.alloc (J #[N (bM.str m.nm),H m.dir,E m.a m.bs m.c] 24)).alloc (J (eY iG newS (E none 0 0) (E none 0 0)).toArray 40)).alloc (J (jZ iG newS (E none 0 0) (E none 0 0) m (E lP ap lR) opt (E none 0 0)) 66))):=by rw[gh];exact jL
 go_wp;go_loopw [22] (λi wr=>∃k:Nat,k<=3/\i=H k/\Ext bX wr/\aFJ w m (E lP ap lR) ap opt k wr) (λi _=>3-(intOf i).toNat)
 case atStart=>exact⟨0,aE,rfl,aFK.o,.inl ⟨rfl,ot.o⟩⟩
 case round=>
  obtain⟨k,hk,rfl,kf,⟨rfl,V⟩|⟨rfl,hy,ea,hW,V,cX⟩|⟨rfl,hy,q,s,u,ns,ea,lh,sT,gp⟩|⟨rfl,hy,q,s,u,ns,ea,a,c,L,lh,bU,xm⟩⟩:=hrel
  ·have oe:∀W,(Instr.index 67 (bg (Kk (w+1+1))) (H 0)).run prog W= .ok (.func (.func 17) #[aB (some ⟨w+1+1,0,none⟩)] #[]) W:=λW=>rfl
   unfold Kk at oe;have S0:=cW.o wr (tw.o.1.trans kf) V;have dt:=z kf;have ww:=z V;by_cases hy:(fM m.f (ap.map PF.f)).2=[]
   ·have bL:(((fM m.f (ap.map PF.f)).2.length:Int)==0)=true:=by rw[hy];rfl
    rw[bL]at S0;have ET:=z S0;go_wp2_with(go_at_call 17;refine ET.o.mono ?_;rintro e I ⟨ea,hW,az,rfl,Q,p1,d4,ft⟩;have H1:=z (ah Q (ah p1 (ah d4 ft))));go_roundw
    case rel=>obtain⟨Q,rfl,d4,-⟩:=H1.o;have cH:=aJ ww.o Q;exact⟨1,aE,cZ,iT (dt.o.trans Q) (Nat.le_of_eq tw.o.2.1) _,.inr (.inl ⟨rfl,hy,ea,hW,gu _ _ _ _ _ _ cH,eD bM.F5 (eX d4 cH Y _)⟩)⟩
    case measure=>simp[intOf]
   ·have bL:(((fM m.f (ap.map PF.f)).2.length:Int)==0)=false:=iH.2 (λe=>hy (nN aE));rw[bL]at S0;have ET:=z S0;go_wp2_with(first
     |(go_at_call 17;refine ET.o.mono ?_;rintro e I ⟨ea,hW,az,rfl,Q,p1,d4,ft⟩
       obtain⟨hP,gr,rfl⟩:=dP ft;have cH:=aJ ww.o Q;have ck:=gu _ _ _ (jZ iG newS (E none 0 0) (E hP (fM m.f (ap.map PF.f)).2.length gr) m (E lP ap lR) opt ea) _ _ cH;have kj:=eX ft cH Y (jZ iG newS (E none 0 0) (E hP (fM m.f (ap.map PF.f)).2.length gr) m (E lP ap lR) opt ea);have ag:Ext bX I:=by rw[p1];exact iT (dt.o.trans Q) (Nat.le_of_eq tw.o.2.1) _
       rw[<-p1]at ck kj;have z5:I.cell? ⟨w+1+1,14,none⟩=some (E hP (fM m.f (ap.map PF.f)).2.length gr):=aG ck 14;have cQ:=aJ tw.o.2.2 ag;have H1:=z (ah ag kj);clear Q p1 d4 ft cH ck kj ag)
     |(refine wpList_store_rowTo rfl 40 (.tmp 6) (.tmp 33) rfl rfl (w.heap.size+1) (eY iG newS (E none 0 0) (E hP (fM m.f (ap.map PF.f)).2.length gr)).toArray rfl rfl 40 _ cQ xB rfl HY ?_))
    have be:=gu _ _ _ (eY iG newS (E none 0 0) (E hP (fM m.f (ap.map PF.f)).2.length gr)).toArray _ _ cQ;refine cO (v:=bg (eY iG newS (E none 0 0) (E hP (fM m.f (ap.map PF.f)).2.length gr)).toArray) (lQ results7 _ _ _ _ _ _ _ rfl be underlying40 rfl aj) rfl ?_;have aK:((fM m.f (ap.map PF.f)).2.map OA).length=(fM m.f (ap.map PF.f)).2.length:=dL _;have hn:=H1.o.2;rw[aFy,<-aK]at hn;have ai:=Z0 (tw.o.1.trans H1.o.1) cQ hn (.inl ⟨hy,rfl,rfl,rfl⟩);rw[aK]at ai;exact ai
  ·have oe:∀W,(Instr.index 67 (bg (Kk (w+1+1))) (H 1)).run prog W= .ok (.func (.func 18) #[aB (some ⟨w+1+1,0,none⟩)] #[]) W:=λW=>rfl
   unfold Kk at oe;have aFL:=z (cD.o wr ea hW V cX);have dt:=z kf;go_wp2_with(first
    |(go_at_call 18;refine aFL.o.mono ?_;rintro e I ⟨p,ns,p',s',u,gp,pN,rfl,OB,lh⟩
      obtain⟨hP,gr,rfl⟩:=dP lh.own;have ag:=OB bX dt.o (Nat.le_of_eq tw.o.2.1);have ul:=lh.low (show w.heap.size+2<=wr.heap.size from tw.o.2.1▸dt.o.size);have z5:I.cell? ⟨w+1+1,14,none⟩=some (E hP ns gr):=aG lh.bo 14;have cQ:=aJ tw.o.2.2 ag;obtain⟨jj,jW⟩:∃jj,jj=kZ ns:=⟨_,rfl⟩;rw[<-jW];have H1:=z (ah ag (ah ul (ah gp (ah pN jW))));clear gp pN OB lh ag ul jW)
    |(refine wpList_store_rowTo rfl 40 (.tmp 6) (.tmp 33) rfl rfl (w.heap.size+1) (eY iG newS (E none 0 0) (E hP ns gr)).toArray rfl rfl 40 _ cQ xB rfl HY ?_))
   ·rename_i jW;have be:=gu _ _ _ (eY iG newS (E none 0 0) (E hP ns gr)).toArray _ _ cQ;refine cO (v:=bg (eY iG newS (E none 0 0) (E hP ns gr)).toArray) (lQ results7 _ _ _ _ _ _ _ rfl be underlying40 rfl aj) rfl ?_;obtain⟨ag,ul,gp,-,sT⟩:=H1.o;exact Z0 (tw.o.1.trans ag) cQ ul.own (.inr ⟨hy,p,ns,gp,.inl ⟨sT.symm.trans jW,rfl,rfl,rfl⟩⟩)
   ·rename_i jW;go_roundw
    case rel=>obtain⟨ag,ul,gp,pN,sT⟩:=H1.o;rw[<-sT,jW,au Bool.false_ne_true]at pN;subst pN;exact⟨2,aE,cZ,ag,.inr (.inr (.inl ⟨rfl,hy,_,s',_,ns,ea,ul,sT.symm.trans jW,gp⟩))⟩
    case measure=>simp[intOf]
  ·have oe:∀W,(Instr.index 67 (bg (Kk (w+1+1))) (H 2)).run prog W= .ok (.func (.func 19) #[aB (some ⟨w+1+1,0,none⟩)] #[]) W:=λW=>rfl
   unfold Kk at oe;have aFM:ns.length<=90000000:=by have h1:=anz gp;have h2:=Fl.o;simp only[fu,gF]at h1;omega
   have aFN:=z (aFF m (E lP ap lR) ea u opt q s ns (aka gp).1 aFM (w+2) (w.heap.size+2) (aZ _) wr (tw.o.2.1▸kf.size) lh);have dt:=z (ah kf (ah sT gp));go_wp2_with(first
    |(go_at_call 19;refine aFN.o.mono ?_;rintro e I ⟨OB,mN⟩
      obtain⟨jj,oS,aw,eR,rfl,lh,hr⟩:∃(jj:Bool) (oS:List dB) (aw eR:K),e=aI (av jj)/\dO (w+2) (w.heap.size+2) q s aw eR m (E lP ap lR) opt ea oS I/\((jj=false/\uZ m.f (ap.map PF.f) iG [] oS)\/(jj=true/\∃a c L,aw=E a (L:List jq).length c/\zC I (E a L.length c) L/\uZ m.f (ap.map PF.f) q L oS)):=by
       rcases mN with⟨rfl,h1,d1,h2⟩|⟨a,c,L,ys,rfl,h1,h2,T⟩
       ·exact⟨false,_,_,d1,rfl,h2,.inl ⟨rfl,.inr ⟨hy,q,ns,dt.o.2.2,.inr (.inl ⟨dt.o.2.1,h1,rfl,rfl,rfl⟩)⟩⟩⟩
       ·exact⟨true,_,_,_,rfl,h1,.inr ⟨rfl,a,c,L,rfl,h2,.inr ⟨hy,q,ns,dt.o.2.2,.inr (.inr ⟨dt.o.2.1,rfl,rfl,ys,T⟩)⟩⟩⟩
      obtain⟨hP,gr,rfl⟩:=dP lh.own;have ag:=OB bX dt.o.1 (Nat.le_of_eq tw.o.2.1);have z5:I.cell? ⟨w+1+1,14,none⟩=some (E hP oS gr):=aG lh.bo 14;have cQ:=aJ tw.o.2.2 ag;have H1:=z (ah ag (ah lh hr));clear OB mN lh hr ag)
    |(refine wpList_store_rowTo rfl 40 (.tmp 6) (.tmp 33) rfl rfl (w.heap.size+1) (eY iG newS (E none 0 0) (E hP oS gr)).toArray rfl rfl 40 _ cQ xB rfl HY ?_))
   ·rename_i jW;have be:=gu _ _ _ (eY iG newS (E none 0 0) (E hP oS gr)).toArray _ _ cQ;refine cO (v:=bg (eY iG newS (E none 0 0) (E hP oS gr)).toArray) (lQ results7 _ _ _ _ _ _ _ rfl be underlying40 rfl aj) rfl ?_;obtain⟨ag,ul,⟨-,hr⟩|⟨h,-⟩⟩:=H1.o
    ·exact Z0 (tw.o.1.trans ag) cQ ul.own hr
    ·rw[h]at jW;cases jW
   ·rename_i jW;go_roundw
    case rel=>
     obtain⟨ag,ul,⟨h,-⟩|⟨-,a,c,L,rfl,bU,hr⟩⟩:=H1.o
     ·rw[h]at jW;cases jW
     ·exact⟨3,aE,cZ,ag,.inr (.inr (.inr ⟨rfl,hy,q,s,_,oS,ea,a,c,L,ul,bU,hr⟩))⟩
    case measure=>simp[intOf]
  ·obtain⟨hP,gr,rfl⟩:=dP lh.own;obtain⟨eK,bk,bW,d7,g3,hV,pS,xl,OC,anF,anG,anH,anI,ZX,ZS⟩:=anB (show wr.heap[w.heap.size+1+1]?=_ from lh.bo);have cQ:=aJ tw.o.2.2 kf;have H1:=z (ah kf (ah lh (ah bU xm)));go_wp2_with(refine wpList_store_rowTo rfl 40 (.tmp 6) (.tmp 38) rfl rfl (w.heap.size+1) (eY q s (E a L c) (E hP ns gr)).toArray rfl rfl 40 _ cQ xB rfl HY ?_);have be:=gu _ _ _ (eY q s (E a L c) (E hP ns gr)).toArray _ _ cQ;refine cO (v:=bg (eY q s (E a L c) (E hP ns gr)).toArray) (lQ results7 _ _ _ _ _ _ _ rfl be underlying40 rfl aj) rfl ?_;obtain⟨ag,ul,bU,xm⟩:=H1.o;have an:=bq.setRow (n0:=0) (bz:=λx=>x==40) cQ ay (eG _) (eY q s (E a L c) (E hP ns gr)).toArray;exact⟨q,s,a,c,L,hP,gr,ns,rfl,iT (tw.o.1.trans ag) aE _,(ul.po.tk an rfl rfl rfl).rd,⟨eD Ns (an.own bU.1 rfl),bU.2.1,λx R=>⟨(bU.2.2 x R).1,eD Ee (an.own (bU.2.2 x R).2 rfl)⟩⟩,eD pW (an.own ul.own rfl),xm,Om ul.own⟩
end LT
end Go.Proofs.YtopfefhenfineaaGreat
namespace Go.Proofs.YtopfefhenfineaaGreat
open Go.Proofs.Tryz Go.RowKit bh
namespace LT
open bM (dN tO dz fM)
open oh (eF jo)
open j7 (Rule Filter eT kT)
open jG (Dat fT)
variable{L:List jq}{a cM:Nat}{d ns:List dB}{p p' e3:bP}{α:Type}{m:List α}
def runN:List aL:= [97,46,115,101,114,118,105,99,101]
def uw(l:List aL):List aL:= [91,83,101,114,118,105,99,101,93,10]++l++[10]
def CZ(l:List aL):dz:=(runN,0,uw l)
def fF:List aL:= [76,111,99,107,80,101,114,115,111,110,97,108,105,116,121,61,121,101,115]
def Tp:List aL:= [83,121,115,116,101,109,67,97,108,108,70,105,108,116,101,114,61,126,112,101,114,115,111,110,97,108,105,116,121,58,69,73,79]
def Tq:List aL:= [76,111,99,107,80,101,114,115,111,110,97,108,105,116,121,61,112,101,114,104,97,112,115]
def Tt:dN:=(runN,2,[83,101,114,118,105,99,101],[76,111,99,107,80,101,114,115,111,110,97,108,105,116,121],[121,101,115])
def Bp:dN:=(runN,2,[83,101,114,118,105,99,101],[83,121,115,116,101,109,67,97,108,108,70,105,108,116,101,114],[126,112,101,114,115,111,110,97,108,105,116,121,58,69,73,79])
def Tv:dN:=(runN,2,[83,101,114,118,105,99,101],[76,111,99,107,80,101,114,115,111,110,97,108,105,116,121],[112,101,114,104,97,112,115])
def aFO:fM (CZ fF) []=([Tt],[]):=aj
def aFP:fM (CZ Tp) []=([Bp],[]):=aj
def aFQ:fM (CZ Tq) []=([Tv],[]):=aj
def runK:List aL:= [112,101,114,115,111,110,97,108,105,116,121]
def C8:bP:= {newP with pe:=true}
def Km:bP:= {newP with fm:=2,fc:= [⟨runK,327685⟩]}
def aFR{d':List dQ}(h:pX true 0 [] (str Bp.2.2.2.2) cM d' ns):cM=2/\d'=[⟨runK,327685⟩]/\ns=[]:=by
 unfold pX at h;rw[au (by rw[show iE 0 []=true from aj];simp),au (show¬Lib.goFieldsP eF (str Bp.2.2.2.2)=[]from by rw[show Lib.goFieldsP eF (str Bp.2.2.2.2)=[str Bp.2.2.2.2]from aj];simp)]at h;obtain⟨rfl,h⟩:=h;rw[show Lib.goFieldsP eF (str (Lib.trimPrefix (bytes (str Bp.2.2.2.2)) [126]))=[str [112,101,114,115,111,110,97,108,105,116,121,58,69,73,79]]from aj,show Lib.hasPrefix (bytes (str Bp.2.2.2.2)) [126]=true from aj]at h;obtain⟨t,h1,h2⟩:=h;have T:(d',ns)=t:=h2;subst T;have hr:jo (bytes (str [112,101,114,115,111,110,97,108,105,116,121,58,69,73,79]))=((runK,327685,true),0):=aj;unfold vU at h1;rw[hr]at h1;dsimp only at h1;rw[au ay,au (show¬uS runK≠0 from by rw[show uS runK=0 from aj];simp)]at h1;obtain⟨l,-,af,aQ⟩:=h1;rw[af Y]at aQ;have e:=aQ.trans (show _=(([⟨runK,327685⟩]:List dQ),([]:List dB))from aj);cases e
 exact⟨aj,rfl,rfl⟩
def aFS(h:Bn Tt newP p' d):p'=C8/\d=[]:=by
 rcases h with⟨h,-⟩|⟨-,rfl,rfl⟩|⟨h,-⟩
 ·rw[show yG (str Tt.2.2.2.1)=false from aj]at h;cases h
 ·exact⟨aj,aj⟩
 ·rcases h with h|⟨-,h⟩
  ·exact absurd aj h
  ·rw[show zI (str Tt.2.2.2.1)=true from aj]at h;cases h
def aFT(h:Bn Bp newP p' d):p'=Km/\d=[]:=by
 rcases h with⟨-,lO,ab,rfl⟩|⟨h,-⟩|⟨h,-⟩
 ·rcases ab with⟨-,cM,d',ab,rfl⟩|⟨h,-⟩|⟨h,-⟩
  ·obtain⟨rfl,rfl,rfl⟩:=aFR ab;exact⟨rfl,rfl⟩
  ·exact absurd h Y
  ·exact absurd h Y
 ·rw[show zI (str Bp.2.2.2.1)=false from aj]at h;cases h
 ·rcases h with h|⟨h,-⟩
  ·exact absurd aj h
  ·rw[show yG (str Bp.2.2.2.1)=true from aj]at h;cases h
def aFU(h:Bn Tv newP p' d):kZ d=true:=by
 rcases h with⟨h,-⟩|⟨-,rfl,rfl⟩|⟨h,-⟩
 ·rw[show yG (str Tv.2.2.2.1)=false from aj]at h;cases h
 ·kernel_rfl
 ·rcases h with h|⟨-,h⟩
  ·exact absurd aj h
  ·rw[show zI (str Tv.2.2.2.1)=true from aj]at h;cases h
def aFV(h:uZ (CZ Tq) [] p L ns):kZ ns=true:=by
 unfold uZ at h;rw[aFQ]at h;rcases h with⟨h,-⟩|⟨-,q,lO,⟨⟨et,n1⟩,⟨cs,h1,bk⟩,T⟩,h⟩
 ·exact absurd rfl h
 have af:(q,lO)=(et,n1):=T;obtain⟨rfl,rfl⟩:=Prod.mk.inj af;have bW:lO=[]++cs:=bk;have aQ:=aFU h1;rw[bW,iq]at h;rcases h with⟨-,-,-,rfl⟩|⟨h,-⟩|⟨h,-⟩
 ·exact aQ
 ·rw[aQ]at h;cases h
 ·rw[aQ]at h;cases h
def HZ(p:bP):Bool:=(List.range 8).all λd=>(List.range 6).all λa=> !p8 p d (a:Int)||(decide ((xg p (a:Int) d).length<=1)&&(eT ⟨(a:Int),xg p (a:Int) d,yx p d⟩&&decide (le.most (xg p (a:Int) d)<=900)))
def anJ(h:HZ p=true){d:Nat}(hd:d<8)(bT:a<6)(X:p8 p d (a:Int)=true):(xg p (a:Int) d).length<=1/\eT ⟨(a:Int),xg p (a:Int) d,yx p d⟩=true/\le.most (xg p (a:Int) d)<=900:=by unfold HZ at h;rw[List.all_eq_true]at h;have h1:=h d (List.mem_range.2 hd);rw[List.all_eq_true]at h1;have h2:=h1 a (List.mem_range.2 bT);rw[X]at h2;simpa using h2
def aFW{l:List α}(h:l.Perm m)(R:m.length<=1):l=m:=by
 match m,R with
 | [],_=>exact h.eq_nil
 | [x],_=>exact List.perm_singleton.1 h
def aFX{aH:α->α->Prop}(R:m.length<=1):m.Pairwise aH:=by
 match m,R with
 | [],_=>exact List.Pairwise.nil
 | [x],_=>exact List.pairwise_singleton _ _
def aFY(h:HZ p=true):CJ p:=λy bN ae=>by
 rcases bN with⟨h1,-⟩|⟨h1,h2,T,af,aQ,a9,cF,-⟩
 ·exact absurd h1 ae
 ·obtain⟨bk,bW,d7⟩:=anJ h T af h1;have e:=aFW cF bk;cases ai:y.f
  rw[ai]at aQ a9 e;dsimp only at *;rw[aQ,a9,e];exact⟨bW,d7⟩
def Kn(p:bP)(x:Nat×Nat):fP:=⟨x.1,x.2,⟨(x.2:Int),xg p (x.2:Int) x.1,yx p x.1⟩,none,0,0⟩
def OD(p:bP):Bool:=(pq p).all λx=>p8 p x.1 (x.2:Int)&&(decide (0<x.1)&&(decide (x.1<8)&&decide (x.2<6)))
def aFZ(h:HZ p=true)(aW:OD p=true):((pq p).map (Kn p)).map fP.at=pq p/\∀aR∈(pq p).map (Kn p),pz p aR:=by
 refine⟨?_,λaR bL=> ?_⟩
 ·rw[List.map_map];exact(List.map_congr_left (λx _=>rfl)).trans (List.map_id _)
 ·obtain⟨x,D,rfl⟩:=iJ.1 bL;unfold OD at aW;rw[List.all_eq_true]at aW;have h2:=aW x D;simp only[dV,iM]at h2;obtain⟨bk,bW,d7,g3⟩:=h2;exact .inr ⟨bk,bW,d7,g3,rfl,rfl,List.Perm.refl _,aFX (anJ h d7 g3 bk).1⟩
def anK{l:List aL}{aq:dN}(R:fM (CZ l) []=([aq],[]))(hd:∀ {p' d},Bn aq newP p' d->p'=e3/\d=[])(ao:HZ e3=true)(aW:OD e3=true)(h:uZ (CZ l) [] p L ns):kZ ns=false/\∀d,fT d->(L.map λx=>rC d x.p)=((pq e3).map (Kn e3)).map λaR=>qL e3 aR d:=by
 unfold uZ at h;rw[R]at h;rcases h with⟨h,-⟩|⟨-,q,lO,ae,h⟩
 ·exact absurd rfl h
 have cv:=(aka ae).1;obtain⟨⟨et,n1⟩,⟨cs,h1,bk⟩,T⟩:=ae;have af:(q,lO)=(et,n1):=T;obtain⟨rfl,rfl⟩:=Prod.mk.inj af;have bW:lO=[]++cs:=bk;obtain⟨aK,rfl⟩:=hd h1;have aV:q=e3:=aK;subst aV;have d7:lO=[]:=bW;subst d7;rcases h with⟨h,-⟩|⟨-,h,-⟩|⟨-,rfl,rfl,ys,dc,dv,g'⟩
 ·cases h
 ·exact absurd (aFY ao) h
 ·obtain⟨c1,c2⟩:=aFZ ao aW;exact⟨rfl,λd hd=>ZU cv dv g' (c1.trans dc.symm) c2 hd⟩
def H6:Dat:=⟨135,3221225534,0,0,0,0,0,0,0⟩
def Tw:Dat:=⟨135,3221225534,0,8,0,0,0,0,0⟩
def Tx:fT H6:=by constructor<;>decide
def anL:fT Tw:=by constructor<;>decide
def aF0:HZ C8=true:=aj
def aF1:OD C8=true:=aj
def aF2:HZ Km=true:=aj
def aF3:OD Km=true:=aj
def aF4:KL.comb (((pq C8).map (Kn C8)).map λaR=>qL C8 aR H6)=2147418112:=aj
def aF5:KL.comb (((pq C8).map (Kn C8)).map λaR=>qL C8 aR Tw)=327681:=aj
def aF6:KL.comb (((pq Km).map (Kn Km)).map λaR=>qL Km aR H6)=327685:=aj
def aF7(h:uZ (CZ fF) [] p L ns):kZ ns=false/\KL.comb (L.map λx=>rC H6 x.p)=2147418112/\KL.comb (L.map λx=>rC Tw x.p)=327681:=by obtain⟨h1,h2⟩:=anK aFO aFS aF0 aF1 h;exact⟨h1,by rw[h2 _ Tx];exact aF4,by rw[h2 _ anL];exact aF5⟩
def aF8(h:uZ (CZ Tp) [] p L ns):kZ ns=false/\KL.comb (L.map λx=>rC H6 x.p)=327685:=by obtain⟨h1,h2⟩:=anK aFP aFT aF2 aF3 h;exact⟨h1,by rw[h2 _ Tx];exact aF6⟩
end LT
end Go.Proofs.YtopfefhenfineaaGreat
namespace Go.Proofs.YtopfefhenfineaaGreat
open Go.Proofs.Tryz Go.RowKit Go.Shelf bh
attribute[local go_sem] Oper.semAt_some bh.Oper.idle bh.Oper.lV bh.Oper.jF
namespace LT
open bM (dN tO dz PF iU fM qJ)
open jG (Dat fT gW)
def aF9(W:G)(l:List aL)(c:Nat)(ao:l.length<=c)(t:dD)(m:Nat×Nat):aS (W.alloc (J (bytesRow (str l) c) t m)) 1 bM.pU (E (some W) l c) l:=by
 refine⟨_,_,rfl,ao,(λh=>by cases h),λi hi=>⟨_,_,rfl,λj Z=> ?_⟩⟩;have C7:j=0:=by simp[bM.pU]at Z;exact Z
 subst C7;obtain⟨eN,fS⟩:=m;rw[show 0+i*1+0=i from aE,World.cell?_alloc_mark];have h:=bytesRow_at (str l) c i (by simpa[str]using hi);rw[h];simp[bM.pU,str]
theorem anM{P:Program}{aU:Array Oper}{rest:List Oper}{o:Oper}{a:Act}{w:G}{bI:Exit->Act->G->Prop}(bJ:Region.wanted o (yielded aU a.tmps)=true)(eJ:dD)(x:Operand)(ho:o.op= .load eJ x)
 (g:Nat) (D:a.eval x=aB (some g)) (t:dD) (U:Array K) (fr:Nat×Nat) (d:TypeDesc) (hg:w.heap[g]?=some (J U t fr))
 (a6:P.underlying eJ=some d) (hd:(match d with| .struct _| .array _ _=>true|_=>false)=true) (hi:(P.info? eJ).map (·.size)=some U.size)
 (h:wpList P aU bI rest (a.put o.dst (bg U)) w):wpList P aU bI (o::rest) a w:=
 wpList_step λaX am=>by rw[aF bJ];exact wp_load_row eJ x ho g D t U fr d hg a6 hd hi (am _ _ h)
def OE(x:List aL)(a:Option Addr)(c:Nat):PF:=⟨runN,0,uw x,a,c⟩
theorem Z4(x:List aL)(D:x.length<=1000)(w:G):Calls prog 25 #[N (str x)] w λe F=>∃a c,e=aI (iU (OE x a c))/\Ext w F/\bM.Good F (OE x a c):=by
 have z6:=λW=>run_bytes_of_string (P:=prog) W 9 22 5 (str (uw x)) underlying9 underlying22 underlying5
 have aPg:((⟨#[91,83,101,114,118,105,99,101,93,10]⟩:bn)++str x)++(⟨#[10]⟩:bn)=str (uw x):=by unfold uw;apply ByteArray.ext;simp[str]
 have ci:(str (uw x)).size=(uw x).length:=rfl;rw[ci]at z6;have ab:(str x).size=x.length:=rfl;have ed:¬(9223372036854775807<10+(str x).size):=aE;have eq:¬(9223372036854775807<10+(str x).size+1):=aE;have ED:=grownCap_ge;generalize da:uw x=L at *;have ec:=z (ah da ED);go_in;go_wp;obtain⟨da,ED⟩:=ec.o;generalize hq:grownCap (w.alloc (J #[N ⟨#[]⟩,H 0,E none 0 0] 24)) L 0 5=ff;have aGa:L.length<=ff:=by rw[<-hq];exact ED _ _ _ _
 have be:=aJ (bA w (J #[N ⟨#[97,46,115,101,114,118,105,99,101]⟩,H 0,E (some ⟨w+1,0,none⟩) L ff] 24)) (((O _).alloc (J (bytesRow (str L) ff) 5 ((bytesRow (str L) ff).size,(bytesRow (str L) ff).size+1))).drew);refine cO (v:=bg #[N ⟨#[97,46,115,101,114,118,105,99,101]⟩,H 0,E (some ⟨w+1,0,none⟩) L ff]) (lQ results25 _ _ _ _ _ _ _ rfl be underlying24 rfl aj) rfl ?_;subst da;refine⟨_,_,rfl,(((O w).alloc _).alloc _).drew,?_⟩;have h:=aF9 (w.alloc (J #[N ⟨#[97,46,115,101,114,118,105,99,101]⟩,H 0,E (some ⟨w+1,0,none⟩) (uw x).length ff] 24)) (uw x) ff aGa 5 ((bytesRow (str (uw x)) ff).size,(bytesRow (str (uw x)) ff).size+1);rw[dR]at h;exact h.ext (O _).drew
theorem Z5(p:bP)(s:dS)(a:Option Addr)(c:Nat)(L:List jq)(b:Option Addr)(d:Nat)(ns:List dB)(x:Dat)(hd:fT x)(anN:Nat)(w:G)(bU:Cv w (E a L c) L)(hn:aS w 4 iP (E b ns d) ns)(zt:ns.length<=9223372036854775807)(sT:kZ ns=false)(an:KL.comb (L.map λy=>rC x y.p)=anN):aM 26 #[bg (eY p s (E a L c) (E b ns d)).toArray,gW x,M anN] w (av true):=by
 have bd:=λW (D:Ext w W)=>ZY p s (E a L c) b d ns zt W (hn.ext D)
 have cA:=λW (D:Ext w W)=>akO _ L x hd W (bU.ext D)
 rw[an]at cA;rw[sT]at bd;have V:=aJ (bA w (J (eY p s (E a L c) (E b ns d)).toArray 40)) ((O _).alloc (J (yH x) 57));have kv:=bA (w.alloc (J (eY p s (E a L c) (E b ns d)).toArray 40)) (J (yH x) 57);have d6:=((O w).alloc (J (eY p s (E a L c) (E b ns d)).toArray 40)).alloc (J (yH x) 57);have wv:=aG V 13
 change World.cell? _ ⟨w,13,none⟩=some (E a L c)at wv
 rw[dR]at kv;unfold yH at kv V d6 wv;obtain⟨hs,dc,dv,g',k3,mb,p5,s5,vd⟩:=Hg kv;unfold gW eY at *;have H0:=z (ah V d6);have cD:=z bd;have cI:=z cA;unfold aM;go_in;go_wp2_with(first
  |(go_at_call 14;refine ak (cI.o _ H0.o.2) ?_;intro I Q;have cH:=aJ H0.o.1 Q;have bF:=z (H0.o.2.trans Q))
  |(refine rR rfl 40 (.tmp 3) rfl w.heap.size rfl 40 _ _ _ cH underlying40 rfl xB ?_)
  |(go_at_call 9;refine ak (cD.o _ bF.o) ?_;intro aO ag;have ca:=z (bF.o.trans ag)))
 go_ret;exact⟨rfl,ca.o⟩
theorem Z6(x:List aL)(D:x.length<=1000)(opt:Bool)(a:Option Addr)(c:Nat)(W:G)(hg:bM.Good W (OE x a c)):Calls prog 7 #[iU (OE x a c),E none 0 0,av opt] W (Tn W (CZ x) []):=by
 have X:(uw x).length<=1011:=by unfold uw;simp;omega
 exact anE (OE x a c) (E none 0 0) [] opt ⟨show 9<=maxLen from Y,show(uw x).length<=1000000 from aE⟩ (λ_ h=>by cases h) (show(uw x).length<=6000 from aE) (eG _) (λ_ h=>by cases h) W hg (arY _ _ _) (λ_ h=>by cases h)
theorem aGb(w:G):aM 13 #[] w (av true):=by
 have aGc:=z (Z4 fF Y);have aGd:=z (Z4 Tp Y);have aGe:=z (Z4 Tq Y);have HB:=z (Z6 fF Y);have xb:=z (Z6 Tp Y);have aGf:=z (Z6 Tq Y);unfold aM;go_in;go_upto_region 4 with fail;have cH:=aJ (bA w (J #[M 135,M 3221225534,aA 0,aA 0,aA 0,aA 0,aA 0,aA 0,aA 0] 57)) ((O _).alloc (J #[M 135,M 3221225534,aA 0,aA 8,aA 0,aA 0,aA 0,aA 0,aA 0] 57));have ck:=bA (w.alloc (J #[M 135,M 3221225534,aA 0,aA 0,aA 0,aA 0,aA 0,aA 0,aA 0] 57)) (J #[M 135,M 3221225534,aA 0,aA 8,aA 0,aA 0,aA 0,aA 0,aA 0] 57);have d6:=((O w).alloc (J #[M 135,M 3221225534,aA 0,aA 0,aA 0,aA 0,aA 0,aA 0,aA 0] 57)).alloc (J #[M 135,M 3221225534,aA 0,aA 8,aA 0,aA 0,aA 0,aA 0,aA 0] 57);rw[dR]at ck;generalize(w.alloc (J #[M 135,M 3221225534,aA 0,aA 0,aA 0,aA 0,aA 0,aA 0,aA 0] 57)).alloc (J #[M 135,M 3221225534,aA 0,aA 8,aA 0,aA 0,aA 0,aA 0,aA 0] 57)=bX at *;have H0:=z (ah cH (ah ck d6));go_wp;go_loopw [3] (λi wr=>∃k:Nat,k<=2/\i=H k/\Ext bX wr) (λi _=>2-(intOf i).toNat)
 case atStart=>exact Ni
 case round=>
  obtain⟨k,hk,rfl,D⟩:=hrel;by_cases ad:k<2
  ·have nc:(k:Int)<2:=aE;have aT:=z D;have yz:=z ad;go_upto_region 8 with(first
    |(go_at_call 25;refine(aGc.o _).mono ?_;rintro e gv ⟨aGg,aGh,rfl,OF,vb⟩)
    |(go_at_call 7;refine(HB.o _ aGg aGh _ vb).mono ?_;rintro e I ⟨et,dl,a1,c1,mL,b1,cs,gR,rfl,AM,-,bU,hn,xm,zt⟩
      have ft:=bA I (J (eY iG newS (E none 0 0) (E none 0 0)).toArray 40);have H1:=z (ah (aT.o.trans (OF.trans AM)) (ah bU (ah hn (ah zt (aF7 xm)))));unfold eY)
    |(refine wpList_store_rowTo rfl 40 (.tmp 4) (.tmp 17) rfl rfl I.heap.size (eY et dl (E a1 mL c1) (E b1 gR cs)).toArray rfl rfl 40 _ ft xB rfl HY ?_;rw[World.setRow_alloc_new]))
   have sE:=bA I (J (eY et dl (E a1 mL c1) (E b1 gR cs)).toArray 40);have anO:=(O I).alloc (J (eY et dl (E a1 mL c1) (E b1 gR cs)).toArray 40);generalize I.alloc (J (eY et dl (E a1 mL c1) (E b1 gR cs)).toArray 40)=az at *;have ot:=z (ah sE (ah anO (H1.o.1.trans anO)));go_upto_region 9 with(first
    |(go_at_call 25;refine(aGd.o _).mono ?_;rintro e ct ⟨aGi,aGj,rfl,vA,m4⟩)
    |(go_at_call 7;refine(xb.o _ aGi aGj _ m4).mono ?_;rintro e aO ⟨fp,gS,a2,c2,pr,b2,eg,oS,rfl,Hh,-,bU,hn,xm,zt⟩
      have kj:=bA aO (J (eY iG newS (E none 0 0) (E none 0 0)).toArray 40);have bK:=z (ah (vA.trans Hh) (ah bU (ah hn (ah zt (aF8 xm)))));unfold eY)
    |(refine wpList_store_rowTo rfl 40 (.tmp 5) (.tmp 21) rfl rfl aO.heap.size (eY fp gS (E a2 pr c2) (E b2 oS eg)).toArray rfl rfl 40 _ kj xB rfl HY ?_;rw[World.setRow_alloc_new]))
   have sL:=bA aO (J (eY fp gS (E a2 pr c2) (E b2 oS eg)).toArray 40);have anP:=(O aO).alloc (J (eY fp gS (E a2 pr c2) (E b2 oS eg)).toArray 40);generalize aO.alloc (J (eY fp gS (E a2 pr c2) (E b2 oS eg)).toArray 40)=a8 at *;have js:=z (ah sL (ah anP (bK.o.1.trans anP)));have W2:∀W,Ext I W->Calls prog 26 #[bg (eY et dl (E a1 mL c1) (E b1 gR cs)).toArray,bg #[M 135,M 3221225534,aA 0,aA 0,aA 0,aA 0,aA 0,aA 0,aA 0],M 2147418112] W λe F=>e=aI (av true)/\Ext W F:=λW D=>Z5 et dl a1 c1 mL b1 cs gR H6 Tx 2147418112 W (H1.o.2.1.ext D) (H1.o.2.2.1.ext D) H1.o.2.2.2.1 H1.o.2.2.2.2.1 H1.o.2.2.2.2.2.1
   have DB:=z W2;have W3:∀W,Ext I W->Calls prog 26 #[bg (eY et dl (E a1 mL c1) (E b1 gR cs)).toArray,bg #[M 135,M 3221225534,aA 0,aA 8,aA 0,aA 0,aA 0,aA 0,aA 0],M 327681] W λe F=>e=aI (av true)/\Ext W F:=λW D=>Z5 et dl a1 c1 mL b1 cs gR Tw anL 327681 W (H1.o.2.1.ext D) (H1.o.2.2.1.ext D) H1.o.2.2.2.1 H1.o.2.2.2.2.1 H1.o.2.2.2.2.2.2
   have kx:=z W3;have W4:∀W,Ext aO W->Calls prog 26 #[bg (eY fp gS (E a2 pr c2) (E b2 oS eg)).toArray,bg #[M 135,M 3221225534,aA 0,aA 0,aA 0,aA 0,aA 0,aA 0,aA 0],M 327685] W λe F=>e=aI (av true)/\Ext W F:=λW D=>Z5 fp gS a2 c2 pr b2 eg oS H6 Tx 327685 W (bK.o.2.1.ext D) (bK.o.2.2.1.ext D) bK.o.2.2.2.1 bK.o.2.2.2.2.1 bK.o.2.2.2.2.2
   have un:=z W4;unfold eY at DB kx un;have ZZ:=js.o.2.2;have k2:=aJ ot.o.1 ZZ;have cQ:=js.o.1;have anQ:=ot.o.2.2.trans ZZ;obtain⟨hs,dc,dv,g',k3,mb,p5,s5,vd⟩:=Hg (aJ H0.o.1 anQ);have OG:=z (ah anQ ZZ);go_wp2_with(first
    |(go_at_call 26;refine(un.o _ (js.o.2.1.trans c9.o)).mono ?_;rintro e cT ⟨rfl,dX⟩
      have f':=z (OG.o.1.trans (c9.o.trans dX));clear dX hs dc dv g' k3 mb p5 s5 vd)
    |(refine anM (by simp[Region.wanted,yielded]) 40 (.tmp 5) rfl aO.heap.size rfl 40 _ _ _ t8 underlying40 rfl xB ?_;unfold eY;go_simp)
    |(go_at_call 26;refine(kx.o _ (ot.o.2.1.trans (OG.o.2.trans hK.o))).mono ?_;rintro e bQ ⟨rfl,bR⟩
      have t8:=aJ cQ (hK.o.trans bR);obtain⟨hs,dc,dv,g',k3,mb,p5,s5,vd⟩:=Hg (aJ H0.o.1 (OG.o.1.trans (hK.o.trans bR)));have c9:=z (hK.o.trans bR);clear bR x2 eN fS zv up S1 aGk ahB aGl)
    |(refine anM (by simp[Region.wanted,yielded]) 40 (.tmp 4) rfl I.heap.size rfl 40 _ _ _ w2 underlying40 rfl xB ?_;unfold eY;go_simp)
    |(go_at_call 26;refine(DB.o _ (ot.o.2.1.trans OG.o.2)).mono ?_;rintro e dC ⟨rfl,cN⟩
      have w2:=aJ k2 cN;obtain⟨x2,eN,fS,zv,up,S1,aGk,ahB,aGl⟩:=Hg (aJ H0.o.2.1 (OG.o.1.trans cN));have hK:=z cN;clear cN hs dc dv g' k3 mb p5 s5 vd)
    |(refine rR rfl 40 (.tmp 4) rfl I.heap.size rfl 40 _ _ _ k2 underlying40 rfl xB ?_;unfold eY))
   go_roundw
   case rel=>exact⟨k+1,yz.o,cZ,f'.o⟩
   case measure=>exact eO
  ·obtain rfl:k=2:=aE;have aT:=z D;go_wp2_with(first
    |(go_at_call 25;refine(aGe.o _).mono ?_;rintro e sy ⟨aGm,aGn,rfl,anR,t7⟩)
    |(go_at_call 7;refine(aGf.o true aGm aGn _ t7).mono ?_;rintro e bj ⟨k5,nW,a3,c3,aGo,cV,h6,aGp,rfl,EZ,-,-,hn,xm,zt⟩
      have bd:=ZY k5 nW (E a3 aGo c3) cV h6 aGp zt bj hn;rw[aFV xm]at bd;have cD:=z bd;have cL:=z (aT.o.trans (anR.trans EZ));clear anR EZ t7 hn xm zt bd)
    |(go_at_call 9;refine ak cD.o ?_;intro dC cN;have hK:=z (cL.o.trans cN)))
   go_ret;exact⟨rfl,H0.o.2.2.trans hK.o⟩
end LT
end Go.Proofs.YtopfefhenfineaaGreat
namespace Go.Proofs.YtopfefhenfineaaGreat
open Go.Proofs.Tryz Go.RowKit Go.Shelf bh
attribute[local go_sem] Oper.semAt_some
namespace LT
open bM (dN tO dz PF iU Good gI qJ BP jd FU)
def anS{m:dz}{fs:List dz}(h:BP m fs=false):m.2.2.length<=70000/\m.1.length<=200/\fs.length<=20/\(∀f∈fs,f.2.2.length<=70000/\f.1.length<=200)/\m.2.2.length+jd fs<=100000:=by
 unfold BP at h;simp only[BI,decide_eq_false_iff_not,List.any_eq_false,wz]at h;obtain⟨⟨⟨h1,h2⟩,T⟩,af⟩:=h;have key:∀f,bM.pR f=false->f.2.2.length<=70000/\f.1.length<=200:=λf ai=>by unfold bM.pR at ai;simp only[BI,decide_eq_false_iff_not]at ai;omega
 exact⟨(key m h1).1,(key m h1).2,aE,λf ai=>key f (by simpa using T f ai),aE⟩
def Kq(m:dz)(fs:List dz):Bool:=BP m fs||decide (6000<m.2.2.length+jd fs)
def aGq(a b:List dz):jd (a++b)=jd a+jd b:=by unfold jd;rw[fQ,List.sum_append]
def aGr(l:List dz)(k:Nat):jd (l.take k)<=jd l:=by have h:=aGq (l.take k) (l.drop k);rw[List.take_append_drop]at h;omega
def anT:∀ {l:List dz} {f:dz},f∈l->f.2.2.length<=jd l
 |g::l,f,h=>by
  rw[iA]at h;have e:jd (g::l)=g.2.2.length+jd l:=by unfold jd;rw[fK,List.sum_cons]
  rcases h with rfl|h
  ·omega
  ·have:=anT h;omega
def aGs{m:dz}{fs:List dz}(h:Kq m fs=false):m.2.2.length<=6000/\m.1.length<=200/\fs.length<=20/\∀f∈fs,f.2.2.length<=6000/\f.1.length<=200:=by unfold Kq at h;rw[BI,decide_eq_false_iff_not]at h;obtain⟨h1,h2,T,af,aQ⟩:=anS h.1;exact⟨aE,h2,T,λf ai=>⟨by have:=anT ai;omega,(af f ai).2⟩⟩
theorem aGt(m:PF)(v:K)(ap:List PF)(X:ap.length<=maxLen)(w:G)(hv:aS w 3 qJ v ap):aM 6 #[iU m,v] w (av (Kq m.f (ap.map PF.f))):=by
 have hq:=λW (D:Ext w W)=>bM.Mt m v ap X W (hv.ext D)
 obtain⟨a,c,rfl,ep,bV⟩:=FU hv;have Q:Ext w (w.alloc (J #[N (bM.str m.nm),H m.dir,E m.a m.bs m.c] 24)):=(O _).alloc _;have bF:=z Q;have rm:=z (bA w (J #[N (bM.str m.nm),H m.dir,E m.a m.bs m.c] 24));have hX:(ap.map PF.f).length=ap.length:=dL _;have anU:=z (λh=> @anS m.f (ap.map PF.f) h);unfold iU at hq⊢;have cQ:Kq m.f (ap.map PF.f)=(BP m.f (ap.map PF.f)||decide (6000<m.bs.length+jd (ap.map PF.f))):=rfl;rw[cQ];cases R:BP m.f (ap.map PF.f)
 case true=>rw[R]at hq;have g4:=z hq;unfold aM;go_in;go_wp2_with fail;refine ak (g4.o _ bF.o) ?_;exact aei
 have V:=(anU.o R).2.2.2.2;have aGu:=(anU.o R).2.2.1;rw[hX]at aGu;have pk:m.f.2.2.length=m.bs.length:=rfl;rw[pk]at V;rw[R]at hq;have BE:=λk=>aGr (ap.map PF.f) k
 have g0:=λk (h:k<(ap.map PF.f).length)=>bM.ML h
 have aGv:(ap.map PF.f).take ap.length=ap.map PF.f:=by rw[<-hX];exact iR
 have aGw:=congrArg jd aGv;have g4:=z hq;have gt:=z bV;have Av:=z hX;have anV:=z BE;have Al:=z g0;have aGx:=z aGw;generalize hS:jd (ap.map PF.f)=a7 at *;unfold aM;go_in;go_wp2_with fail;refine ak (g4.o _ bF.o) ?_;intro aO ag;have ca:=z (bF.o.trans ag);have fS:aO.cell? ⟨w,2,none⟩=some (E m.a m.bs m.c):=bM.aG (bM.aJ rm.o ag) 2;go_wp2_with fail;go_loopw [5,6] (λn i wr=>∃k:Nat,k<=ap/\i=H k/\n=H ((m.bs.length+jd ((ap.map PF.f).take k):Nat):Int)/\Ext w wr) (λ_ i _=>ap.length-(intOf i).toNat)
 case atStart=>exact⟨0,aE,rfl,by simp[jd],ca.o⟩
 case round=>
  obtain⟨k,hk,rfl,rfl,D⟩:=hrel;have aT:=z D;have ck:=anV.o k;by_cases ad:k<ap
  ·obtain⟨b,o,rfl,c0,c1,c2⟩:=gt.o k ad;replace c2:=aT.o.cell c2;have Ak:k<(ap.map PF.f).length:=by rw[Av.o];exact ad
   have ab:=Al.o k Ak;rw[rQ]at ab;have m8:=anV.o (k+1);have bY:=z ab;have L1:jd ((ap.map PF.f).take k)+ap[k].bs.length<=100000:=by have e:ap[k].f.2.2.length=ap[k].bs.length:=rfl;rw[e]at ab;omega
   have aK:ap[k].f.2.2.length=ap[k].bs.length:=rfl;rw[aK]at bY;generalize ap[k]=p at *;generalize jd ((ap.map PF.f).take k)=g5 at *;have nc:(k:Int)<ap:=aE;go_wp2_with fail;go_roundw
   case rel=>refine⟨k+1,aE,cZ,?_,aT.o⟩;rw[bY.o];go_num
   case measure=>exact eO
  ·obtain rfl:k=ap.length:=aE;have bE:=aGx.o;rw[bE];have aV:decide ((6000:Int)<m.bs+(a7:Int))=decide (6000<m.bs.length+a7):=by rw[dW,wJ,wJ];omega
   exact FH
end LT
end Go.Proofs.YtopfefhenfineaaGreat
namespace Go.Proofs.YtopfefhenfineaaGreat
open Go.Proofs.Tryz Go.RowKit Go.Shelf bh
namespace LT
def aGy{W:G}{B:Nat}{t:dD}{p:bP}{s:dS}{aw no:K}(h:W.heap[B]?=some (J (eY p s aw no).toArray t (0,0))):W.cell? B=some (E s.a p.ar s.c)/\W.cell? ⟨B,1,none⟩=some (aC p.fm)/\W.cell? ⟨B,2,none⟩=some (E s.fa p.fc s.fc)/\W.cell? ⟨B,3,none⟩=some (M p.dn)/\W.cell? ⟨B,4,none⟩=some (aC p.lm)/\W.cell? ⟨B,5,none⟩=some (E s.la p.lc s.lc)/\W.cell? ⟨B,6,none⟩=some (E s.ga p.fa s.gc)/\W.cell? ⟨B,7,none⟩=some (aC p.fd)/\W.cell? ⟨B,8,none⟩=some (aA (p.sp:Int))/\W.cell? ⟨B,9,none⟩=some (av p.we)/\W.cell? ⟨B,10,none⟩=some (av p.pe)/\W.cell? ⟨B,11,none⟩=some (av p.rt)/\W.cell? ⟨B,12,none⟩=some (av p.np)/\W.cell? ⟨B,13,none⟩=some aw/\W.cell? ⟨B,14,none⟩=some no:=
 ⟨aG h 0,aG h 1,aG h 2,aG h 3,aG h 4,aG h 5,aG h 6,aG h 7,aG h 8,aG h 9,aG h 10,aG h 11,aG h 12,aG h 13,aG h 14⟩
end LT
end Go.Proofs.YtopfefhenfineaaGreat
namespace Go.Proofs.YtopfefhenfineaaGreat
open Go.Proofs.Tryz Go.RowKit Go.Shelf bh
attribute[local go_sem] Oper.semAt_some bh.Oper.idle bh.Oper.lV bh.Oper.jF
namespace LT
open bM (dN tO dz PF iU fM gI qJ)
open jG (Dat fT gW)
theorem Z7:(Tryz.prog.info? 24).map (·.size)=some 3:=aj
theorem heart{p:bP}{s:dS}{a:Option Addr}{c:Nat}{L:List jq}{ys:List fP}{bX:G}(cv:iW p)(hD:rD bX p s)(bU:Cv bX (E a L c) L)(h1:ys.map fP.at=pq p)(h2:sj (CK p) ys L)(T:∀y∈ys,pz p y)(d:Dat)(hd:fT d):∃n:Nat,(∀W,Ext bX W->Calls prog 14 #[E a L c,gW d] W λe F=>e=aI (bH #[M n,H 0])/\Ext W F)/\∀W,Ext bX W->aM 15 #[iX p s,gW d] W (bH #[M n,H 0]):=by refine⟨_,λW D=>akO _ L d hd W (bU.ext D),λW D=>(aE7 p s cv d hd W (hD.ext D)).mono ?_⟩;rintro e F ⟨qi,b3,bk,bW,rfl⟩;rw[ZU cv h2 T (bk.trans h1.symm) bW hd];exact⟨rfl,qi⟩
theorem aGz(m:PF)(v:K)(ap:List PF)(opt:Bool)(d:Dat)(hd:fT d)(nr tk:Nat)(j3:nr<4294967296)(fi:tk<4294967296)(X:ap.length<=maxLen)(w:G)(Bs:bM.Good w m)(hv:aS w 3 qJ v ap)(hg:∀p∈ap,bM.Good w p):aM 4 #[iU m,v,av opt,gW d,M nr,M tk] w (av true):=by
 have eb:=z aGb;have hq:=λW (D:Ext w W)=>aGt m v ap X W (hv.ext D)
 have cq:Kq m.f (ap.map PF.f)=false->∀W,Ext w W->Calls prog 7 #[iU m,v,av opt] W (Tn W m.f (ap.map PF.f)):=λh W D=>by
  obtain⟨h1,h2,T,af⟩:=aGs h;rw[dL]at T;have aQ:∀p∈ap,p.bs.length<=6000/\p.nm.length<=200:=λp ac=>af p.f (iJ.2 ⟨p,ac,rfl⟩)
  refine anE m v ap opt ⟨?_,?_⟩ (λp ac=>⟨?_,?_⟩) h1 T (λp ac=>(aQ p ac).1) W (bM.Good.ext D Bs) (hv.ext D) (λp ac=>bM.Good.ext D (hg p ac))
  ·exact cB (show m.nm.length<=200 from h2) Y
  ·exact cB (show m.bs.length<=6000 from h1) Y
  ·exact cB (aQ p ac).2 Y
  ·exact cB (aQ p ac).1 Y
 obtain⟨lP,lR,rfl,-⟩:=hv;have fN:=aJ (bA w (J #[N (bM.str m.nm),H m.dir,E m.a m.bs m.c] 24)) ((O _).alloc (J (yH d) 57));have Hw:=bA (w.alloc (J #[N (bM.str m.nm),H m.dir,E m.a m.bs m.c] 24)) (J (yH d) 57);rw[dR]at Hw;have d6:=((O w).alloc (J #[N (bM.str m.nm),H m.dir,E m.a m.bs m.c] 24)).alloc (J (yH d) 57);have H0:=z (ah fN (ah Hw d6));unfold iU gW at *;unfold yH at H0;cases mT:Kq m.f (ap.map PF.f)with
 |true=>
  rw[mT]at hq;have g4:=z hq;unfold aM;go_in;go_wp2_with(first
   |(go_at_call 13;refine ak (eb.o _) ?_;intro I Q;have cH:=aJ H0.o.1 Q;have bF:=z (H0.o.2.2.trans Q))
   |(refine rR rfl 24 (.tmp 6) rfl w.heap.size rfl 24 _ _ _ cH underlying24 rfl Z7 ?_)
   |(go_at_call 6;refine ak (g4.o _ bF.o) ?_;intro aO ag))
  go_ret;exact⟨rfl,bF.o.trans ag⟩
 |false=>
 rw[mT]at hq;have g4:=z hq;have dt:=z (cq mT);unfold aM;go_in;go_upto_region 6 with(first
  |(go_at_call 13;refine ak (eb.o _) ?_;intro I Q;have cH:=aJ H0.o.1 Q;have bF:=z (H0.o.2.2.trans Q);have tf:=z (aJ H0.o.2.1 Q))
  |(refine rR rfl 24 (.tmp 6) rfl w.heap.size rfl 24 _ _ _ cH underlying24 rfl Z7 ?_)
  |(go_at_call 6;refine ak (g4.o _ bF.o) ?_;intro aO ag;have ck:=aJ cH ag;have ca:=z (bF.o.trans ag);have D':=z (aJ tf.o ag))
  |(refine rR rfl 24 (.tmp 6) rfl w.heap.size rfl 24 _ _ _ ck underlying24 rfl Z7 ?_)
  |(go_at_call 7;refine(dt.o _ ca.o).mono ?_;rintro e bj ⟨p,s,a,c,L,b,pg,ns,rfl,a',hD,bU,hn,xm,zt⟩
    have oj:=bA bj (J (eY iG newS (E none 0 0) (E none 0 0)).toArray 40);have es:=z (ah (ca.o.trans a') (ah hD (ah bU (ah hn (ah xm (aJ D'.o a'))))));unfold eY)
  |(refine wpList_store_rowTo rfl 40 (.tmp 13) (.tmp 28) rfl rfl bj.heap.size (eY p s (E a L c) (E b ns pg)).toArray rfl rfl 40 _ oj xB rfl HY ?_;rw[World.setRow_alloc_new]))
 have f1:=(O bj).alloc (J (eY p s (E a L c) (E b ns pg)).toArray 40);have f5:=bA bj (J (eY p s (E a L c) (E b ns pg)).toArray 40);have cN:=es.o.1.trans f1;have hD:=es.o.2.1.ext f1;have bU:=es.o.2.2.1.ext f1;have hn:=es.o.2.2.2.1.ext f1;have SW:=aJ es.o.2.2.2.2.2 f1;have anW:=z es.o.2.2.2.2.1;generalize bj.alloc (J (eY p s (E a L c) (E b ns pg)).toArray 40)=dj at *;generalize bj.heap.size=B at *;have bd:=λW (D:Ext dj W)=>ZY p s (E a L c) b pg ns zt W (hn.ext D)
 have wv:dj.cell? ⟨B,13,none⟩=some (E a L c):=aG f5 13;cases sT:kZ ns with
 |true=>
  obtain⟨aGA,-⟩:=anW.o.bad sT;rw[sT]at bd;have rB:=z bd;subst aGA;have hK:=z cN;unfold eY at f5 rB;go_wp2_with(first
   |(refine rR rfl 40 (.tmp 13) rfl B rfl 40 _ _ _ f5 underlying40 rfl xB ?_)
   |(go_at_call 9;refine ak (rB.o _ (O _)) ?_;intro cT dX;have aPh:cT.cell? ⟨B,13,none⟩=some (E a 0 c):=dX.cell wv;have f':=z (hK.o.trans dX)))
  go_ret;exact⟨rfl,f'.o⟩
 |false=>
  obtain⟨-,-,cv,ys,AM,Hh,EZ⟩:=anW.o.good sT;rw[sT]at bd;have Z1:=λax cE=>heart cv hD bU AM Hh EZ ax cE
  obtain⟨n0,anX,D0⟩:=Z1 d hd;obtain⟨n1,qf,anY⟩:=Z1 {d with nr:=nr} ⟨j3,hd.ar,hd.ip,hd.a0,hd.a1,hd.a2,hd.a3,hd.a4,hd.a5⟩;obtain⟨n2,HC,anZ⟩:=Z1 {d with ar:=tk} ⟨hd.nr,fi,hd.ip,hd.a0,hd.a1,hd.a2,hd.a3,hd.a4,hd.a5⟩;unfold gW at anX qf HC;unfold gW iX cK at D0 anY anZ;have rB:=z bd;have aGB:=z anX;have vq:=z qf;have Gx:=z HC;have aGC:=z D0;have tf:=z anY;have D':=z anZ;have hK:=z cN;have nh:=z f5;have aGD:=z SW;unfold eY at f5 rB;go_upto_region 8 with(first
   |(refine rR rfl 40 (.tmp 13) rfl B rfl 40 _ _ _ f5 underlying40 rfl xB ?_)
   |(go_at_call 9;refine ak (rB.o _ (O _)) ?_;intro cT dX;obtain⟨hs,dc,dv,g',k3,mb,p5,s5,vd⟩:=Hg (aJ aGD.o dX);have f':=z dX))
  go_upto_region 12 with fail;have aGE:=bA cT (J #[M d.nr,M d.ar,aA (d.ip:Int),aA (d.a0:Int),aA (d.a1:Int),aA (d.a2:Int),aA (d.a3:Int),aA (d.a4:Int),aA (d.a5:Int),M nr,M d.ar,aA (d.ip:Int),aA (d.a0:Int),aA (d.a1:Int),aA (d.a2:Int),aA (d.a3:Int),aA (d.a4:Int),aA (d.a5:Int),M d.nr,M tk,aA (d.ip:Int),aA (d.a0:Int),aA (d.a1:Int),aA (d.a2:Int),aA (d.a3:Int),aA (d.a4:Int),aA (d.a5:Int)] 57);have en:=f'.o.trans ((O cT).alloc (J #[M d.nr,M d.ar,aA (d.ip:Int),aA (d.a0:Int),aA (d.a1:Int),aA (d.a2:Int),aA (d.a3:Int),aA (d.a4:Int),aA (d.a5:Int),M nr,M d.ar,aA (d.ip:Int),aA (d.a0:Int),aA (d.a1:Int),aA (d.a2:Int),aA (d.a3:Int),aA (d.a4:Int),aA (d.a5:Int),M d.nr,M tk,aA (d.ip:Int),aA (d.a0:Int),aA (d.a1:Int),aA (d.a2:Int),aA (d.a3:Int),aA (d.a4:Int),aA (d.a5:Int)] 57));generalize cT.alloc (J #[M d.nr,M d.ar,aA (d.ip:Int),aA (d.a0:Int),aA (d.a1:Int),aA (d.a2:Int),aA (d.a3:Int),aA (d.a4:Int),aA (d.a5:Int),M nr,M d.ar,aA (d.ip:Int),aA (d.a0:Int),aA (d.a1:Int),aA (d.a2:Int),aA (d.a3:Int),aA (d.a4:Int),aA (d.a5:Int),M d.nr,M tk,aA (d.ip:Int),aA (d.a0:Int),aA (d.a1:Int),aA (d.a2:Int),aA (d.a3:Int),aA (d.a4:Int),aA (d.a5:Int)] 57)=f6 at *;generalize cT.heap.size=aH at *;have HD:=z (ah aGE en);go_loopw [15] (λi wr=>((i=H 0\/i=H 1\/i=H 2)\/i=H 3)/\Ext f6 wr) (λi _=>3-(intOf i).toNat)
  case atStart=>exact⟨.inl (.inl rfl),O _⟩
  case round=>
   obtain⟨hi,D⟩:=hrel;have aT:=z D;rcases hi with hi|rfl
   ·obtain⟨eK,bk,bW,d7,g3,hV,pS,xl,OC,anF,anG,anH,anI,ZX,-⟩:=aGy (aJ nh.o (HD.o.2.trans D));have lY:=aJ HD.o.1 D;rcases hi with rfl|rfl|rfl
    case' inl=>have cI:=aGB;have fj:=aGC;generalize n0=n at *;have f0:wr.cell? aH=some _:=aG lY 0;have dg:wr.cell? ⟨aH,1,none⟩=some _:=aG lY 1;have fg:wr.cell? ⟨aH,2,none⟩=some _:=aG lY 2;have mw:wr.cell? ⟨aH,3,none⟩=some _:=aG lY 3;have f4:wr.cell? ⟨aH,4,none⟩=some _:=aG lY 4;have v6:wr.cell? ⟨aH,5,none⟩=some _:=aG lY 5;have r7:wr.cell? ⟨aH,6,none⟩=some _:=aG lY 6;have xj:wr.cell? ⟨aH,7,none⟩=some _:=aG lY 7;have E':wr.cell? ⟨aH,8,none⟩=some _:=aG lY 8
    case' inr.inl=>have cI:=vq;have fj:=tf;generalize n1=n at *;have f0:wr.cell? ⟨aH,9,none⟩=some _:=aG lY 9;have dg:wr.cell? ⟨aH,10,none⟩=some _:=aG lY 10;have fg:wr.cell? ⟨aH,11,none⟩=some _:=aG lY 11;have mw:wr.cell? ⟨aH,12,none⟩=some _:=aG lY 12;have f4:wr.cell? ⟨aH,13,none⟩=some _:=aG lY 13;have v6:wr.cell? ⟨aH,14,none⟩=some _:=aG lY 14;have r7:wr.cell? ⟨aH,15,none⟩=some _:=aG lY 15;have xj:wr.cell? ⟨aH,16,none⟩=some _:=aG lY 16;have E':wr.cell? ⟨aH,17,none⟩=some _:=aG lY 17
    case' inr.inr=>have cI:=Gx;have fj:=D';generalize n2=n at *;have f0:wr.cell? ⟨aH,18,none⟩=some _:=aG lY 18;have dg:wr.cell? ⟨aH,19,none⟩=some _:=aG lY 19;have fg:wr.cell? ⟨aH,20,none⟩=some _:=aG lY 20;have mw:wr.cell? ⟨aH,21,none⟩=some _:=aG lY 21;have f4:wr.cell? ⟨aH,22,none⟩=some _:=aG lY 22;have v6:wr.cell? ⟨aH,23,none⟩=some _:=aG lY 23;have r7:wr.cell? ⟨aH,24,none⟩=some _:=aG lY 24;have xj:wr.cell? ⟨aH,25,none⟩=some _:=aG lY 25;have E':wr.cell? ⟨aH,26,none⟩=some _:=aG lY 26
    all_goals
     have aPi:((n:Int) !=(n:Int))=false:=ay;have anD:=dh ZX;have cG:=dh f0;have aK:=dh dg;have aV:=dh fg;have cC:=dh mw;have gA:=dh f4;have hR:=dh v6;have kh:=dh r7;have m3:=dh xj;have J7:=dh E';go_wp2_with fail;refine qR aj aj ?_
     repeat(any_goals(first|go_big_quiet_step ((go_at_call 14;exact fA (cI.o _ ((HD.o.2.trans aT.o).trans (fG.h _)))))|quiet_step ((go_at_call 14;exact fA (cI.o _ ((HD.o.2.trans aT.o).trans (fG.h _)))))))
     all_goals(refine qN ?_;intro _ jb;obtain⟨he,ii⟩:=jb;subst ii)
     have cG:=dh (he.h.cell f0);have aK:=dh (he.h.cell dg);have aV:=dh (he.h.cell fg);have cC:=dh (he.h.cell mw);have gA:=dh (he.h.cell f4);have hR:=dh (he.h.cell v6);have kh:=dh (he.h.cell r7);have m3:=dh (he.h.cell xj);have J7:=dh (he.h.cell E');have a0:=dh (he.h.cell eK);have a1:=dh (he.h.cell bk);have a2:=dh (he.h.cell bW);have a3:=dh (he.h.cell d7);have a4:=dh (he.h.cell g3);have a5:=dh (he.h.cell hV);have jJ:=dh (he.h.cell pS);have h5:=dh (he.h.cell xl);have Hx:=dh (he.h.cell OC);have Nv:=dh (he.h.cell anF);have amW:=dh (he.h.cell anG);have amX:=dh (he.h.cell anH);have amY:=dh (he.h.cell anI);go_wp2_with fail;refine qR aj aj ?_
     repeat(any_goals(first|go_big_quiet_step ((go_at_call 15;exact fA (fj.o _ (((HD.o.2.trans aT.o).trans he.h).trans (fG.h _)))))|quiet_step ((go_at_call 15;exact fA (fj.o _ (((HD.o.2.trans aT.o).trans he.h).trans (fG.h _)))))))
     all_goals(refine qN ?_;intro _ jb;obtain⟨xr,ii⟩:=jb;subst ii)
     go_wp2_with fail;go_roundw
     case rel=>exact⟨ay,(aT.o.trans he.h).trans xr.h⟩
     case measure=>simp[intOf]
   ·go_wp2_with fail;go_ret;exact⟨rfl,hK.o.trans (HD.o.2.trans aT.o)⟩
end LT
end Go.Proofs.YtopfefhenfineaaGreat
