import Derived.Test.YtopfefhenfineaaGreatP10
import Derived.Test.YtopfefhenfineaaGreatP6
import Derived.Stop.RegionWithIn
import Derived.Sort.CutIn
import Derived.Sort.QuietIn
set_option linter.all false
set_option maxRecDepth 100000
set_option maxHeartbeats 8000000
namespace Go.Proofs.YtopfefhenfineaaGreat
open Go.Proofs.Tryz Go.RowKit Go.Shelf V
attribute[local go_sem] Oper.semAt_some V.Oper.idle V.Oper.mE V.Oper.jM
variable{zP:Prop}
def sx(h:zP:=by obtain⟨Bx,k1,k2,k3⟩:=hs;exact⟨Bx,k1,iY k2 hg (λr e=>(hr r e).2),k3⟩):zP:=h
def oe(h:zP:=by
 intro b o c' e h0;obtain⟨b',o',e',r0,-⟩:=hca 0 h0;simp only[aU]at e;rw[e.1]at e';obtain⟨rfl,rfl⟩:b=b'/\o=o':=by simpa using e'
 exact aY _ _ r0):zP:=h
def mB(h:zP:=by exact(aX _ _ _ k hk).trans ((aX _ _ _ k hk).trans ((aX _ _ _ k hk).trans (aX _ _ _ k hk)))):zP:=h
def BB(h:zP:=by
 have hz2:=(aB.1 H2.o).1;exact⟨(H7.o.2.2.2.2.2.2.2.trans (⟨Ext.size H8.o,λk o hk _=>aI hk H8.o⟩:KeepsOthers W7 w8)).from _,
  ((H7.o.2.2.2.2.2.2.1.mono (λk hk=>by rcases hk with hk|hk<;>exact⟨aq,aq,aq⟩):V.Keep (λk=>k<w.heap.size\/k=w1.heap.size+2) W W7)).trans (V.Keep.of_below H8.o (λk hk=>by have:=H7.o.2.2.2.2.2.2.1.size;rcases hk with hk|hk<;>omega)),
  HF.o w8 y HE.o (aag H7.o.2.1 H8.o) (aI H7.o.2.2.2.1 H8.o) (aI H7.o.2.2.2.2.1 H8.o) (aI H7.o.2.2.2.2.2.1 H8.o) (lH H7.o.1 H8.o)⟩):zP:=h
namespace LT
open jO (Sy RO gB eH iM iw jk gF gJ)
def iY{A B:ay}{row:Option Nat}{k:Nat}{cs:Array aA}{t:dz}{fr:Nat×Nat}(hb:A.heap[k]?=some (.cells cs t fr))(hg:A.grownBy B row)(hr:∀r,row=some r->∃o:Obj,A.heap[r]?=some o/\o.isCells=false):B.heap[k]?=some (.cells cs t fr):=by
 refine(hg.block k (aB.1 hb).1 (λe=> ?_)).trans hb;obtain⟨o,ho,hc⟩:=hr k e.symm;rw[hb]at ho;cases ho
 cases hc
def ME{A B:ay}{row:Option Nat}{base e n k:Nat}{v:aA}{zs:List aA}(h:A.ownsRow base e n v k zs)(hg:A.grownBy B row)(hr:∀r,row=some r->∃o:Obj,A.heap[r]?=some o/\o.isCells=false):B.ownsRow base e n v k zs:=by
 refine⟨h.1,?_⟩;rcases h.2 with h2|⟨g,cap,cur,rfl,h3,h4,r⟩
 ·exact .inl h2
 ·exact .inr ⟨g,cap,cur,rfl,h3,iY h4 hg hr,r⟩
theorem F3(B g c:Nat)(out:List Sy)(W:ay)(cB:W.cell? B=some (.slice (some g) out c))(hr:Rd W 4 gB (.slice (some g) out c) out)(hm:∀i (h:i<out.length),∃n,jk n i out[i]=true)(j:Nat)(hj:j<out):Calls prog 363 #[.int .i64 j,.pointer (some B)] W λr w'=>r= .returned (.int .i64 (KU out j:Int))/\Ext W w':=by
 obtain⟨a',c',e,-,hca⟩:=gJ hr;simp only[aU]at e;obtain⟨rfl,-,rfl⟩:=e;obtain⟨g',o,e2,r0,-,r2,-⟩:=hca j hj;simp only[dw,gD,and_true]at e2;obtain⟨rfl,rfl⟩:=e2;rw[cO]at r0 r2;have hth:=Tn hj;obtain⟨n,hmj⟩:=hm j hj;have hz:(j:Int)<out:=aq;have h5:out[j].c=5->(out[j].th.toNat:Int)=out[j].th:=λh=>by rcases jg hmj with⟨k1,-⟩|⟨k1,-⟩|⟨-,-,-,k4,k5⟩|⟨-,-,-,-,k1,-⟩<;>omega
 clear hca hr hm hmj;generalize KU out j=F at *;generalize out[j]=s at *;obtain⟨sc,sk,J4,sel⟩:=s;dsimp only at *;have q5:((sc:Int)==5)=decide (sc=5):=by rw[bB];simp;omega
 by_cases h:sc=5
 ·rw[aV h]at hth;have hq:=h5 h;rw[aQ h]at q5;rw[hth,hq];clear h5 hth hq h;go_in;exact oc
 ·rw[aN h]at hth;rw[aT h]at q5;subst hth;clear h5 h r2;go_in;exact oc
def BQ(l:List Sy)(o:List Sy)(x:Fin l):List Sy:=o.set x.1 (D6 o (l[x.1]'x.2))
def Mj(l:List Sy)(is:List (Fin l)):List Sy:=is.foldl (BQ l) l
def OI(l:List Sy)(is:List (Fin l))(x:Fin l):Mj l (is++[x])=(Mj l is).set x.1 (D6 (Mj l is) (l[x.1]'x.2)):=by simp[Mj,BQ]
def ae9(l:List Sy)(is:List (Fin l)):(Mj l is).length=l.length:=by
 unfold Mj
 suffices h:∀(is:List (Fin l)) (o:List Sy),o.length=l->(is.foldl (BQ l) o).length=l.length from h is l rfl
 intro is
 induction is with
 |nil=>intro o h;exact h
 |cons x is ih=>intro o h;exact ih _ (by unfold BQ;rw[dO];exact h)
def VW{l:List Sy}:∀(n k:Nat)(h:n+k=l.length),Eb l n (Mj l (kY l k aq))=Mj l (kY l l (aD _))
 |0,k,h=>by have:k=l.length:=aq;subst this;rfl
 |n+1,k,h=>by have hn:n<l:=aq;show(match l[n]? with|some s=>Eb l n ((Mj l (kY l k _)).set n (D6 (Mj l (kY l k _)) s))|none=>Eb l n (Mj l (kY l k _)))=_;rw[aJ hn];dsimp only;rw[<-VW n (k+1) aq,xA _ _ aq,OI];have e:l.length-1-k=n:=aq;simp only[e]
def ae7(l:List Sy):vY l=Mj l (kY l l (aD _)):=by
 have:=VW (l:=l) l 0 aq;rw[<-this];have e:Mj l (kY l 0 (bP _))=l:=by unfold kY Mj;rfl
 rw[e];rfl
def afa{l o:List Sy}(h:iw l=true)(hl:o.length=l)(ho:∀i (hi:i<o.length),jk l i o[i]=true){q:Nat}(hq:q<l.length):jk l q (D6 o l[q])=true:=by
 have hmv:jk l q (yG (KU o) l[q])=true:=Ue (jO.jZ h hq) (λt h1 h2=>by
  have hot:t<o:=aq;have hit:=ho t hot;rw[Tn hot];split
  ·rename_i h5;rcases jg hit with⟨k1,-⟩|⟨k1,-⟩|⟨-,-,-,k4,k5⟩|⟨-,-,-,-,k1,-⟩<;>omega
  ·omega)
 unfold D6;split
 ·rename_i hb;simp only[bA]at hb;rcases jg hmv with⟨k1,-⟩|⟨k1,-⟩|⟨k1,-⟩|⟨-,-,-,-,-,⟨k4,k5⟩,-⟩
  ·rw[M3]at k1;exact absurd k1 (pG hb.1).1
  ·rw[M3]at k1;have:=pG hb.1;omega
  ·rw[M3]at k1;have:=pG hb.1;omega
  ·exact Gt rfl rfl rfl k4 k5
 ·exact hmv
def ae8{l:List Sy}(h:iw l=true)(is:List (Fin l)):∀i (hi:i<(Mj l is).length),jk l i (Mj l is)[i]=true:=by
 unfold Mj
 suffices hh:∀(is:List (Fin l)) (o:List Sy),o.length=l->(∀i (hi:i<o.length),jk l i o[i]=true)->∀i (hi:i<(is.foldl (BQ l) o).length),jk l i (is.foldl (BQ l) o)[i]=true from
  hh is l rfl (λi hi=>jO.jZ h hi)
 intro is
 induction is with
 |nil=>intro o _ ho;exact ho
 |cons x is ih=>
  intro o hl ho;refine ih _ (by unfold BQ;rw[dO];exact hl) (λi hi=> ?_);have hm:=afa h hl ho x.2;have hi2:i<(o.set x.1 (D6 o (l[x.1]'x.2))).length:=hi;show jk l i ((o.set x.1 (D6 o (l[x.1]'x.2)))[i]'hi2)=true;rw[List.getElem_set];split
  ·rename_i e;subst e;exact hm
  ·exact ho i _
def PD{w:ay}{base g c:Nat}{L:List Sy}(h:w.ownsRow base 407 4 (.slice (some g) L c) L (L.flatMap gB)){i:Nat}(hi:i<L)(y:Sy):((((w.setCell ⟨g,i*4,none⟩ (.int .u16 y.c)).setCell ⟨g,i*4+1,none⟩ (.int .u32 y.k)).setCell ⟨g,i*4+2,none⟩ (.int .i64 y.th)).setCell ⟨g,i*4+3,none⟩ (.int .i64 y.el)).ownsRow base 407 4 (.slice (some g) L c) L ((L.set i y).flatMap gB):=by
 have hls:∀z:Sy,(L.set i z).length=L.length:=λz=>dO
 have h1:=(kE eH h i 0 (.int .u16 y.c) ⟨y.c,L[i].k,L[i].th,L[i].el⟩ hi az rfl).1;have step:∀ {W:ay} {z:Sy} (j:Nat) (u:aA) (z':Sy),W.ownsRow base 407 4 (.slice (some g) L c) L ((L.set i z).flatMap gB)->j<4->gB z'=(gB z).set j u->
  (W.setCell ⟨g,i*4+j,none⟩ u).ownsRow base 407 4 (.slice (some g) L c) L ((L.set i z').flatMap gB):=λ{W z} j u z' h hj he=>by
  rw[<-hls z]at h;have:=(kE eH h i j u z' (by rw[hls];exact hi) hj (by rw[List.getElem_set_self];exact he)).1;rw[List.set_set,hls]at this;exact this
 rw[iB]at h1;exact step 3 (.int .i64 y.el) y (step 2 (.int .i64 y.th) ⟨y.c,y.k,y.th,L[i].el⟩ (step 1 (.int .u32 y.k) ⟨y.c,y.k,L[i].th,L[i].el⟩ h1 az rfl) az rfl) az rfl
abbrev J3(b:Nat):aA:= .func (.func 363) #[] #[.pointer (some b)]
structure TS(w:ay)(xs:List Sy)(b g c:Nat)(k:List (Fin xs))(W:ay):Prop where
 ext:Ext w W
 bo:Boxed W b 215 (.slice (some g) xs c)
 bc:Boxed W (b+1) 439 (J3 b)
 own:W.ownsRow w 407 4 (.slice (some g) xs c) xs ((Mj xs k).flatMap gB)
def TS.ext'{w:ay}{xs:List Sy}{b g c:Nat}{k:List (Fin xs)}{W W':ay}(h:TS w xs b g c k W)(hx:Ext W W'):TS w xs b g c k W':=⟨h.ext.trans hx,aI h.bo hx,aI h.bc hx,lH h.own hx⟩
theorem G0(v:aA)(xs:List Sy)(hl:xs.length<=1000000)(hm:iw xs=true)(w:ay)(hv:Rd w 4 gB v xs):Calls prog 287 #[v] w λe w'=>∃a c,e= .returned (.slice a xs c)/\Ext w w'/\w'.ownsRow w 407 4 (.slice a xs c) xs ((vY xs).flatMap gB):=by
 have hC:=D2 v xs hl w hv;have hpos:=jO.qd hm;obtain⟨a,c,rfl,hac,hca⟩:=gJ hv;have hlow:∀b o c',Value.slice a xs c= .slice (some ⟨b,o,none⟩) xs c'->0<xs.length->b<w.heap.size:=oe
 have HC:=ah hC;have HV:=ah hv;have HM:=ah hm;have N7:=ah hlow;clear hC hv hca hlow hm;refine(bM (n:=4)).1 ?_;refine callsIn_of_wp_marks func287 rfl trivial ?_ rfl;simp only[ntmps287,bW,aO,bD,Nat.reduceAdd,Nat.reduceSub,dU,dS,fq,dZ,dA,dh];gi_wp2_with(refine⟨trivial,?_⟩;gi_at_call 362;refine(bM.2 HC.o).mono ?_;rintro e w1 ⟨a1,c1,rfl,hx1,ho1⟩;have H1:=ah (ak hx1 ho1);clear hx1 ho1);have hpos':=hpos;obtain⟨g,c2,e2,hgB,hgl,-⟩:=mo H1.o.2 hpos;simp only[aU,true_and]at e2;obtain⟨rfl,rfl⟩:=e2;have hX0:TS w xs w1 g c1 [] ((w1.alloc (.cells #[.slice (some g) xs c1] 215)).alloc (.cells #[J3 w1.heap.size] 439)):=by have b2:=Boxed.new (w1.alloc (.cells #[.slice (some g) xs c1] 215)) 439 (J3 w1);rw[aR]at b2;exact⟨(H1.o.1.alloc _).alloc _,(Boxed.new w1 215 _).alloc _,b2,(H1.o.2.alloc _).alloc _⟩
 have hs1:w.heap.size<w1:=aq;obtain⟨W2,hW2⟩:∃W2,W2=(w1.alloc (.cells #[.slice (some g) xs c1] 215)).alloc (.cells #[J3 w1.heap.size] 439):=⟨_,rfl⟩;have hs2:W2.heap.size=w1.heap.size+2:=by rw[hW2];simp
 rw[<-hW2]at hX0⊢;have hB:=Rq a xs c W2;have n3:=aC W2 (.cells #[.slice a xs c] 215);obtain⟨W3,hW3⟩:∃W3,W3=W2.alloc (.cells #[.slice a xs c] 215):=⟨_,rfl⟩;rw[<-hW3]at hB n3;have hX3:TS w xs w1 g c1 [] W3:=by rw[hW3];exact hX0.ext' ((aj _).alloc _)
 have hs3:W3.heap.size=w1+3:=by rw[hW3];simp[hs2]
 rw[hs2]at hB n3;have HB:=ah hB;have kg:=ah hX3;have wZ:=ah hs3;have VH:=ah n3;have hx3:Ext w W3:=hX3.ext;have auz:=ah hx3;clear hB hW2 hW3 hX0 hX3 hs2 hs3 n3 hx3 H1;refine⟨trivial,?_⟩;refine tI (bM.2 HB.o) ?_;rintro w' rfl;gi_wp2;have h1:1<=4:=aq;refine wpIn_rangeFunc_ownH (w0:=W3) rfl h1 (gf:=357) (lb:= #[.pointer (some ⟨w1+2,0,none⟩)]) rfl trivial (enters_of func357 ax rfl)
  (FP (w1+2) _ xs aq W3 (λk=>k<w.heap.size\/k=w1.heap.size+2) (by rw[wZ.o];omega) (.inr rfl) (aG VH.o 0) (HV.o.ext auz.o) (λb o c' e h0=> .inl (N7.o b o c' e h0)))
  Gv (λW l o o' hl _ _ _=>⟨rfl,rfl,rfl,aE,λk hk=>World.putObj_heap_other (λe=>by have:=wZ.o;omega)⟩) (Below.refl _ _) (λ_=>rfl)
  (λpre W=>TS w xs w1 g c1 pre W/\W.heap[w1.heap.size+2]?=some (.cells #[.slice a xs c] 215 (0,0)))
  (λ_ _ _=>False)
  (λs A B row hs hg hr=> ?hI1)
  (λ_ _ _ _ _ hs _ _=>hs)
  ⟨kg.o,VH.o⟩
  (λx a' W=>∃Bx,w1.heap.size+3<=Bx/\W.heap[Bx]?=some (.cells #[.int .u16 (xs[x].c:Int),.int .u32 (xs[x].k:Int),.int .i64 xs[x].th,.int .i64 xs[x].el] 407 (0,0))/\
   a'= {tmps:= #[.slice a xs c,undef,.slice none 0 0,
    .pointer (some w1),
    .pointer (some ⟨w1+1,0,none⟩),.int .i64 ((x:Nat):Int),.pointer (some Bx),.slice a xs c,
    .slice (some g) xs c1,J3 w1.heap.size,
    .slice a xs c,.func (.func 357) #[] #[.pointer (some ⟨w1+2,0,none⟩)],.int .i64 ((x:Nat):Int),zh xs[x],undef,undef,undef,undef,undef,undef,undef,
    undef,undef,undef,undef,undef,undef,undef,undef,undef,undef,undef,undef,undef,undef,
    undef,undef,undef,undef,undef,undef,undef,undef],defers:= []})
  (λx a' _ X Y row hs hg hr=> ?hI2)
  ?assign ?body ?done ?stop
 case hI1=>
  obtain⟨h1,h2⟩:=hs;have hr2:=λr e=>(hr r e).2
  exact⟨⟨h1.ext.grown hg (λk e=>by have:=(hr k e).1;have:=wZ.o;omega),iY h1.bo hg hr2,iY h1.bc hg hr2,ME h1.own hg hr2⟩,iY h2 hg hr2⟩
 case hI2=>exact sx
 case assign=>rintro l pre x W K ⟨h1,h2⟩ hK;have hle:=h1.bc.lt;have hsz:=(aB.1 h2).1;unfold zh;gi_wp2;exact hK _ _ ((KeepsOthers.alloc _ _).from _) (Keep.of_below ((Below.refl W W).alloc (aD _) _) (λk hk=>by rcases hk with hk|hk<;>omega)) ⟨h1.ext' ((aj _).alloc _),aI h2 ((aj _).alloc _)⟩ ⟨W.heap.size,aq,aC W _,rfl⟩
 case body=>
  rintro l pre x a' W hl ⟨r,hr⟩ ⟨h1,h2⟩ ⟨Bx,hBx,bX,rfl⟩ hlt;obtain⟨q,hq⟩:=x;simp only[Fin.getElem_fin]at bX⊢;have hsn:=OI xs pre ⟨q,hq⟩;dsimp only at hsn;have hlen:=ae9 xs pre;have hmy:=ae8 HM.o pre;have hmq:=jO.jZ HM.o hq;have hown:=h1.own;obtain⟨out,hsn,hlen,hmy,hown⟩:∃out:List Sy,Mj xs (pre++[⟨q,hq⟩])=out.set q (D6 out xs[q])/\out.length=xs/\(∀i (hi:i<out.length),jk xs i out[i]=true)/\W.ownsRow w 407 4 (.slice (some g) xs c1) xs (out.flatMap gB):=⟨_,hsn,hlen,hmy,hown⟩;rw[<-hlen]at hown;have hqo:q<out.length:=aq;have hbl:=h1.bc.lt;have ayQ:g<W.heap.size:=(hown.lt g rfl).2;have hbx:=(aB.1 bX).1;have hgb:g≠Bx:=aq;have hK:∀X,Ext W X->X.heap[W.heap.size]?=some (.cells #[.int .u16 (xs[q].c:Int),.int .u32 (xs[q].k:Int),.int .i64 xs[q].th,.int .i64 xs[q].el] 407 (0,0))->
   Calls prog 360 #[.slice (some W) 1 1,J3 w1.heap.size] X λe w5=>∃g5 c5,e= .returned (.slice (some ⟨g5,0,none⟩) 1 c5)/\Hid (Ext X w5)/\
    (w5.cell? g5=some (.int .u16 ((yG (KU out) xs[q]).c:Int))/\w5.cell? ⟨g5,1,none⟩=some (.int .u32 ((yG (KU out) xs[q]).k:Int))/\w5.cell? ⟨g5,2,none⟩=some (.int .i64 (yG (KU out) xs[q]).th)/\w5.cell? ⟨g5,3,none⟩=some (.int .i64 (yG (KU out) xs[q]).el))/\
    (w5.cell? ⟨g,q*4,none⟩=some (.int .u16 (out[q].c:Int))/\w5.cell? ⟨g,q*4+1,none⟩=some (.int .u32 (out[q].k:Int))/\w5.cell? ⟨g,q*4+2,none⟩=some (.int .i64 out[q].th)/\w5.cell? ⟨g,q*4+3,none⟩=some (.int .i64 out[q].el))/\
    (w5.frozen? ⟨g,q*4,none⟩=false/\w5.frozen? ⟨g,q*4+1,none⟩=false/\w5.frozen? ⟨g,q*4+2,none⟩=false/\w5.frozen? ⟨g,q*4+3,none⟩=false)/\w5.cell? w1=some (.slice (some g) xs c1):=by
   intro X hX hb;refine(zJ 363 #[.pointer (some w1)] (enters_of func363 ax rfl) (KU out) xs (.slice (some W) 1 1) [xs[q]] aE X
    (zA eH [xs[q]] (by simpa[gB]using hb)) (λs hs=>by rw[e8.1 hs];exact⟨q,hmq⟩) (λt ht Y hY=> ?_)).mono ?_
   ·have hY1:=(h1.ext' (hX.trans hY)).bo.cell;rw[<-hlen]at hY1;exact F3 w1 g c1 out Y hY1 ((bY eH hown).ext (hX.trans hY)) (λi hi=>⟨_,hmy i hi⟩) t aq
   ·rintro e w5 ⟨a5,c5,rfl,hx5,lM⟩;obtain⟨g5,c6,e6,-⟩:=mo (xs:=wC (KU out) [xs[q]]) lM (by show 0<1;decide);simp only[wC,bS,eU,iN,aU,true_and]at e6;obtain⟨rfl,rfl⟩:=e6;obtain⟨r0,r1,r2,r3,-⟩:=lT (L:=wC (KU out) [xs[q]]) lM (k:=0) (by show 0<1;decide);obtain⟨p0,p1,p2,p3,pf⟩:=lT (lH hown (hX.trans hx5)) hqo;exact⟨g5,c5,rfl,hx5,⟨by simpa[wC]using r0,by simpa[wC]using r1,by simpa[wC]using r2,by simpa[wC]using r3⟩,⟨p0,p1,p2,p3⟩,⟨pf _,pf _,pf _,pf _⟩,(h1.ext' (hX.trans hx5)).bo.cell⟩
  obtain⟨z,hz⟩:∃z,z=xs[q]:=⟨_,rfl⟩;simp only[<-hz]at bX hsn hmq hK⊢;clear hz;obtain⟨y,hy⟩:∃y,y=yG (KU out) z:=⟨_,rfl⟩;rw[<-hy]at hK;have HY:=ah hy;have HK:=ah hK;have HT:=ah h1;have H2:=ah h2;have yO:=ah bX;have HOWN:=ah hown;have HSN:=ah hsn;have HMQ:=ah hmq;have HLEN:=ah hlen;have HMY:=ah hmy;obtain⟨⟨b0,b1,b2,b3⟩,bf⟩:=pO bX;have HBF:=ah bf;have cB:=h1.bo.cell;have cC:=h1.bc.cell;have cBo:=λo=>(((aj W).drew).alloc o).cell cB
  have cCo:=λo=>(((aj W).drew).alloc o).cell cC
  have cBp:=λo=>((aj W).alloc o).cell cB
  have cCp:=λo=>((aj W).alloc o).cell cC
  obtain⟨-,-,-,-,of⟩:=lT hown hqo;obtain⟨o0,o1,o2,o3,-⟩:=lT hown hqo;have HOF:=ah of;have zq:(q:Int)<xs:=aq;clear hK h1 h2 bX hown hsn hmq hlen hmy hy hr bf of;unfold zh J3;gi_wp2;have cBx:=nV cB;have cCx:=nV cC;have b0x:=nV b0;have b1x:=nV b1;have b2x:=nV b2;have b3x:=nV b3;refine vH 9 (λX=>∃x:XW W,X=x.w) ax ?_;have hS0:∃x:XW W,W.drew=x.w:=⟨⟨W.drew,(aj W).drew⟩,rfl⟩;refine ai 0 rfl hS0 ?_;refine ai 1 rfl hS0 ?_;refine ai 2 rfl hS0 ?_;refine ai 4 rfl hS0 ?_;refine jP 3 ax rfl (λK hK=> ?_);go_simp;refine hK _ _ (λ_=>⟨⟨_,((aj W).drew).alloc _⟩,rfl⟩) ?_;clear hK K;refine jP 5 ax rfl (λK hK=> ?_);go_simp;refine⟨trivial,?_⟩;refine(CallsIn.inRound l (bM.2 (HK.o _ (((aj W).drew).alloc _) (aC _ _)))).mono ?_;rintro e w5 ⟨g5,c5,rfl,hx5,⟨d0,d1,d2,d3⟩,⟨p0,p1,p2,p3⟩,⟨f0,f1,f2,f3⟩,cB5⟩;have kM:Hid (Ext W w5):=ah (aag (((aj W).drew).alloc _) hx5.o);clear hx5;refine hK _ _ (λ_=>⟨⟨_,kM.o⟩,rfl⟩) ?_;clear hK K;refine jP 6 ax rfl (λK hK=> ?_);go_simp;refine hK _ _ (λ_=>⟨⟨_,kM.o⟩,rfl⟩) ?_;clear hK K;refine jP 7 ax rfl (λK hK=> ?_);go_simp;refine hK _ _ (λ_=>⟨⟨_,kM.o⟩,rfl⟩) ?_;clear hK K;refine jP 8 ax rfl (λK hK=> ?_);go_simp;refine hK _ _ (λ_=>⟨⟨_,kM.o⟩,rfl⟩) ?_;clear hK K;refine jP 9 ax rfl (λK hK=> ?_);go_simp;refine hK _ _ (λh=>absurd rfl h) ?_;clear hK K;refine yV ax ?_;dsimp only[V.Calm,Exit.then];have hT5:=HT.o.ext' kM.o;have hb5:=aI yO.o kM.o;have h25:=aI H2.o kM.o;have lM:=PD (lH HOWN.o kM.o) hqo y;obtain⟨W6,Xk⟩:∃W6,W6=((((w5.setCell ⟨g,q*4,none⟩ (.int .u16 y.c)).setCell ⟨g,q*4+1,none⟩ (.int .u32 y.k)).setCell ⟨g,q*4+2,none⟩ (.int .i64 y.th)).setCell ⟨g,q*4+3,none⟩ (.int .i64 y.el)):=⟨_,rfl⟩;rw[<-Xk]at lM⊢;have hblk6:∀k,k≠g->W6.heap[k]?=w5.heap[k]?:=λk hk=>by rw[Xk];exact mB
  have hx6:Ext w W6:=by rw[Xk];exact(((hT5.ext.setCell eI _).setCell eI _).setCell eI _).setCell eI _
  have UF:V.Keep (λk=>k≠g) w5 W6:=⟨by rw[Xk];rfl,by rw[Xk];rfl,by rw[Xk];rfl,by rw[Xk];simp[World.setCell],hblk6⟩;have hb6:=(hblk6 Bx (λe=>hgb e.symm)).trans hb5;have aj4:Boxed W6 w1 215 (.slice (some g) xs c1):=(hblk6 w1 aq).trans hT5.bo;have aou:Boxed W6 (w1+1) 439 (J3 w1):=(hblk6 (w1+1) aq).trans hT5.bc;have h26:=(hblk6 (w1+2) aq).trans h25;have aoc:V.Keep (λk=>k<W.heap.size/\k≠g) W W6:=(V.Keep.of_below kM.o (λk hk=>hk.1)).trans (UF.mono (λk hk=>hk.2));have an9:KeepsOthers W W6:=(⟨(Ext.size kM.o),λk o hk _=>aI hk kM.o⟩:KeepsOthers W w5).trans (by rw[Xk];exact(((KeepsOthers.setCell _ _ _).trans (KeepsOthers.setCell _ _ _)).trans (KeepsOthers.setCell _ _ _)).trans (KeepsOthers.setCell _ _ _));have Xg:(out.set q y).length=out.length:=dO;rw[<-Xg]at lM;obtain⟨r0,r1,r2,r3,rf⟩:=lT lM (show q<(out.set q y).length by rw[Xg];exact hqo);rw[List.getElem_set_self]at r0 r1 r2 r3;rw[Xg]at lM;have H6:=ah (ak lM (ak hx6 (ak hb6 (ak aj4 (ak aou (ak h26 (ak aoc an9)))))));clear d0 d1 d2 d3 p0 p1 p2 p3 f0 f1 f2 f3 cB5 cB cC cBo cCo cBp cCp cBx cCx b0 b1 b2 b3 b0x b1x b2x b3x o0 o1 o2 o3;have cB:=aj4.cell;obtain⟨⟨b0,b1,b2,b3⟩,bf⟩:=pO hb6;have bf0:=bf 0;have bf1:=bf 1;have bf2:=bf 2;have bf3:=bf 3;clear hT5 hb5 h25 lM Xk hblk6 hx6 UF hb6 aj4 aou h26 aoc an9 Xg rf bf;gi_upto_region 8 with(fail)
  obtain⟨W7,Nr⟩:∃W7,W7=((((W6.setCell Bx (.int .u16 y.c)).setCell ⟨Bx,1,none⟩ (.int .u32 y.k)).setCell ⟨Bx,2,none⟩ (.int .i64 y.th)).setCell ⟨Bx,3,none⟩ (.int .i64 y.el)):=⟨_,rfl⟩;rw[<-Nr];have oM:W7.heap[Bx]?=some (.cells #[.int .u16 y.c,.int .u32 y.k,.int .i64 y.th,.int .i64 y.el] 407 (0,0)):=by rw[Nr];exact eX (eX (eX (eX H6.o.2.2.1 0 _) 1 _) 2 _) 3 _
  have hblk7:∀k,k≠Bx->W7.heap[k]?=W6.heap[k]?:=λk hk=>by rw[Nr];exact mB
  have hk7:V.Keep (λk=>k≠Bx) W6 W7:=⟨by rw[Nr];rfl,by rw[Nr];rfl,by rw[Nr];rfl,by rw[Nr];simp[World.setCell],hblk7⟩;have aj3:Boxed W7 w1 215 (.slice (some g) xs c1):=(hblk7 _ aq).trans H6.o.2.2.2.1;have aot:Boxed W7 (w1+1) 439 (J3 w1):=(hblk7 _ aq).trans H6.o.2.2.2.2.1;have h27:=(hblk7 (w1+2) aq).trans H6.o.2.2.2.2.2.1
  have qY:=fO H6.o.1 hk7 (λb e=>by have e2:g=b:=by simpa[Value.ownBlock]using e
                                   omega)
  have hx7:Ext w W7:=Below.trans H6.o.2.1 (hk7.below (λk hk=>aq));have aob:V.Keep (λk=>k<W.heap.size/\k≠g/\k≠Bx) W W7:=(H6.o.2.2.2.2.2.2.1.mono (λk hk=>⟨hk.1,hk.2.1⟩)).trans (hk7.mono (λk hk=>hk.2.2));have an8:KeepsOthers W W7:=H6.o.2.2.2.2.2.2.2.trans (by rw[Nr];exact(((KeepsOthers.setCell _ _ _).trans (KeepsOthers.setCell _ _ _)).trans (KeepsOthers.setCell _ _ _)).trans (KeepsOthers.setCell _ _ _));have H7:=ah (ak qY (ak hx7 (ak oM (ak aj3 (ak aot (ak h27 (ak aob an8)))))));clear b0 b1 b2 b3 bf0 bf1 bf2 bf3 r0 r1 r2 r3 cB;have cB:=aj3.cell;obtain⟨⟨b0,b1,b2,b3⟩,-⟩:=pO oM;clear Nr oM hblk7 hk7 aj3 aot h27 qY hx7 aob an8;have hA:=λW=>uD y W
  unfold zh at hA;have ajB:D6 out z=if (gF z.c&&(y.th==y.el))=true then⟨5,0,y.th,0⟩else y:=by unfold D6;rw[<-HY.o]
  have hyc:y.c=z.c:=by rw[HY.o,M3]
  have hjk:=(C7 HMQ.o).2;rw[<-hyc]at hjk ajB;have HTH:=ah ajB;have pQ:=ah hA;clear hA ajB hyc;have ac3:∀(W9:ay) (s9:Sy),D6 out z=s9->Ext w W9->Boxed W9 w1 215 (.slice (some g) xs c1)->Boxed W9 (w1+1) 439 (J3 w1)->
   W9.heap[w1.heap.size+2]?=some (.cells #[.slice a xs c] 215 (0,0))->W9.ownsRow w 407 4 (.slice (some g) out c1) out ((out.set q s9).flatMap gB)->
   (TS w xs w1 g c1 (pre++[⟨q,hq⟩]) W9/\W9.heap[w1.heap.size+2]?=some (.cells #[.slice a xs c] 215 (0,0))):=λW9 s9 e h1 h2 h3 h4 h5=>by
   refine⟨⟨h1,h2,h3,?_⟩,h4⟩;rw[HSN.o,e,<-HLEN.o];exact h5
  have HF:=ah ac3;clear ac3;by_cases hb:(gF y.c&&(y.th==y.el))=true
  ·have HE:=ah (by have:=HTH.o;rw[aV hb]at this;exact this);simp only[bA]at hb;rw[hb.1]at hjk;rw[hjk]at pQ;have hte:=hb.2;clear hb hjk;gi_wp2_with(refine⟨trivial,?_⟩;refine tI (CallsIn.inRound l (bM.2 (pQ.o _))) ?_;intro w8 vT;have H8:=ah vT;have cB8:=vT.cell cB;have b28:=vT.cell b2;have b38:=vT.cell b3;obtain⟨o0,o1,o2,o3,of⟩:=lT (by rw[<-dO (i:=q) (a:=y)]at H7;exact lH H7.o.1 vT) (show q<(out.set q y).length by rw[dO];exact hqo);have g0:=of (q*4);have g1:=of (q*4+1);have g2:=of (q*4+2);have g3:=of (q*4+3);clear vT of);have acZ:(out.set q y).length=out.length:=dO;have Nq:=lH H7.o.1 H8.o;rw[<-acZ]at Nq;have Lx:=PD Nq (show q<(out.set q y).length by rw[acZ];exact hqo) ⟨5,0,y.th,0⟩;rw[List.set_set,acZ]at Lx;dsimp only at Lx;have hz2:=(aB.1 H2.o).1;refine(λ(W9:ay) (hW9:W9=((((w8.setCell ⟨g,q*4,none⟩ (.int .u16 ((5:Nat):Int))).setCell ⟨g,q*4+1,none⟩ (.int .u32 ((0:Nat):Int))).setCell ⟨g,q*4+2,none⟩ (.int .i64 y.th)).setCell ⟨g,q*4+3,none⟩ (.int .i64 0)))=> ?_:∀W9,W9=((((w8.setCell ⟨g,q*4,none⟩ (.int .u16 ((5:Nat):Int))).setCell ⟨g,q*4+1,none⟩ (.int .u32 ((0:Nat):Int))).setCell ⟨g,q*4+2,none⟩ (.int .i64 y.th)).setCell ⟨g,q*4+3,none⟩ (.int .i64 0))->ownPostG W3 (V.Keep λk=>k<w.heap.size\/k=w1.heap.size+2) (λpre W=>TS w xs w1 g c1 pre W/\W.heap[w1.heap.size+2]?=some (.cells #[.slice a xs c] 215 (0,0))) (λ_ _ _=>False) (pre++[⟨q,hq⟩]) W Exit.normal _ W9) _ rfl;rw[<-hW9]at Lx;have Xi:∀k,k≠g->W9.heap[k]?=w8.heap[k]?:=λk hk=>by rw[hW9];exact mB
   have hk9:V.Keep (λk=>k≠g) w8 W9:=⟨by rw[hW9];rfl,by rw[hW9];rfl,by rw[hW9];rfl,by rw[hW9];simp[World.setCell],Xi⟩;have arU:KeepsOthers w8 W9:=by rw[hW9];exact(((KeepsOthers.setCell _ _ _).trans (KeepsOthers.setCell _ _ _)).trans (KeepsOthers.setCell _ _ _)).trans (KeepsOthers.setCell _ _ _)
   have D9:Ext w W9:=Below.trans (aag H7.o.2.1 H8.o) (hk9.below (λk hk=>aq));exact⟨((H7.o.2.2.2.2.2.2.2.trans (⟨Ext.size H8.o,λk o hk _=>aI hk H8.o⟩:KeepsOthers W7 w8)).trans arU).from _,
    (((H7.o.2.2.2.2.2.2.1.mono (λk hk=>by rcases hk with hk|hk<;>exact⟨aq,aq,aq⟩):V.Keep (λk=>k<w.heap.size\/k=w1.heap.size+2) W W7)).trans (V.Keep.of_below H8.o (λk hk=>by have:=H7.o.2.2.2.2.2.2.1.size;rcases hk with hk|hk<;>omega))).trans (hk9.mono (λk hk=>by rcases hk with hk|hk<;>omega)),
    HF.o W9 _ HE.o D9 ((Xi _ aq).trans (aI H7.o.2.2.2.1 H8.o)) ((Xi _ aq).trans (aI H7.o.2.2.2.2.1 H8.o)) ((Xi _ aq).trans (aI H7.o.2.2.2.2.2.1 H8.o)) Lx⟩
  ·have hbf:(gF y.c&&(y.th==y.el))=false:=by simpa using hb
   have HE:=ah (by have:=HTH.o;rw[aN hb]at this;exact this);cases ha:gF y.c
   ·rw[ha]at hjk;rw[hjk]at pQ;clear hb hbf hjk;gi_wp2_with(refine⟨trivial,?_⟩;refine tI (CallsIn.inRound l (bM.2 (pQ.o _))) ?_;intro w8 vT;have H8:=ah vT;clear vT);exact BB
   ·rw[ha]at hjk hbf;rw[hjk]at pQ;have hte:(y.th==y.el)=false:=by simpa using hbf
    clear hb hbf hjk;gi_wp2_with(refine⟨trivial,?_⟩;refine tI (CallsIn.inRound l (bM.2 (pQ.o _))) ?_;intro w8 vT;have H8:=ah vT;have b28:=vT.cell b2;have b38:=vT.cell b3;clear vT);exact BB
 case done=>rintro D ys W hD rfl ⟨h1,h2⟩ hK;have cu:=h1.bo.cell;have H1:=ah h1;clear h1;gi_wp2;refine⟨aE,.inl ⟨_,_,rfl,run_takeDeferred hK,?_⟩⟩;refine⟨_,results_tmp rfl _ _ _,_,_,rfl,(show Below w w W from H1.o.ext).trans (belowK_b (w:=w) (aD _) W D _ _ (by have:=wZ.o;omega) hK rfl rfl),?_⟩;rw[ae7];exact ME H1.o.own (grownBy_putObj' _ D (.deferred none)) (λr e=>by cases e;exact⟨_,hK,rfl⟩)
 case stop=>exact mx
theorem anm:(Tryz.prog.info? 173).map (λi=>(i.zero,i.size,i.bytes))=some (some (.agg #[.int .u16 0,.int .u8 0,.int .u8 0,.int .u32 0]),4,8):=ax
def D5(a:Nat)(t:Nat):Bool:=t==a
def Ti(t:Nat):Bool:=t==173||t==349
theorem Ms{F:Fence}{n:Nat}{P:Program}{α:Type}{W:ay}{ops:Array Oper}{o:Oper}{a:Act}{K:Act->ay->Prop}{Q:Exit->Act->ay->Prop}{E:Prop}(hF:∀f,F.fn f)(hgd:o.guard=none)(s x:Operand)(t:dz)(ho:o.op= .call {callee:= .builtin .append,args:= #[s,x],argTypes:= #[t,t]}){e:dz}{m bytes:Nat}{z:aA}(hu:P.underlying t=some (.slice e))(hinfo:(P.info? e).map (λi=>(i.zero,i.size,i.bytes))=some (some z,m,bytes))(hzs:z.cells.size=m)(hn:0<m){enc:α->List aA}(henc:∀x,(enc x).length=m)(hone:∀x,∀u∈enc x,u.oneCell'=true)(base:Nat)(u v:aA)(xs ys:List α)(hs:a.eval s=u)(hx:a.eval x=v)(hown:W.ownsRow base e m u xs (xs.flatMap enc))(hrd:Rd W m enc v ys)(h63:xs.length+ys<=100000000)(hbytes:bytes<=1000000)(hbase:base<=W.heap.size)(h:∀au cu w',w'.ownsRow base e m (.slice au (xs.length+ys) cu) (xs.length+ys) ((xs++ys).flatMap enc)->W.grownBy w' u.ownBlock->(∀b,(Value.slice au (xs.length+ys) cu).ownBlock=some b->u.ownBlock=some b\/W.heap.size<=b)->K (a.put o.dst (.slice au (xs.length+ys) cu)) w'):if Region.wanted o (yielded ops a.tmps)=true then Oper.wpIn F n P o a W K Q else E:=by
 have hw:Region.wanted o (yielded ops a.tmps)=true:=by simp[Region.wanted,hgd]
 rw[aV hw];obtain⟨au,cu,w',hr,h2,h3,h4⟩:=K0 (P:=P) (ty:=o.type) hu hinfo hzs hn henc hone hown hrd h63 hbytes hbase;unfold Oper.wpIn;refine⟨λf _=>hF f,?_⟩;rw[Oper.semAt_eq _ _ _ (λc hc=>by rw[ho]at hc;cases hc)];simp[execOp,ho,resolve,invoke,builtin,hs,hx,hr,Result.andThen];exact h au cu w' h2 h3 h4
structure XS(S:Nat->Prop)(W:ay)where
 w:ay
 h:V.Keep S W w
instance(S:Nat->Prop)(W:ay):Nonempty (XS S W):=⟨⟨W,V.Keep.refl _ _⟩⟩
def xsc{S:Nat->Prop}{W:ay}{p:Addr}{v:aA}(hp:S p.block)(h:W.cell? p=some v):∀x:XS S W,x.w.cell? p=some v:=λx=>(x.h.cell hp).trans h
def Ux{W W':ay}{row:Option Nat}(hg:W.grownBy W' row){S:Nat->Prop}(hS:∀k,S k->k<W.heap.size/\some k≠row):V.Keep S W W':=
 ⟨hg.os,hg.tape,hg.output,hg.size,λk hk=>hg.block k (hS k hk).1 (hS k hk).2⟩
structure LK(w0:ay)(B:Nat)(v:aA)(g:Nat)(bk:List Ix)(pl:List Nat)(far:Int)(W:ay):Prop where
 ext:Ext w0 W
 hB:w0.heap.size<=B
 box:W.heap[B]?=some (.cells #[v,.slice (some g) pl pl.length,.int .i64 far] 349 (0,0))
 own:W.ownsRow w0 173 4 v bk (bk.flatMap jS)
 hg:w0.heap.size<=g
 pls:W.heap[g]?=some (.cells (isA pl) 3 (0,0))
variable {w0 W:ay} {B g:Nat} {v:aA} {bk:List Ix} {pl:List Nat} {far:Int}
def LK.kept{T:Nat->Bool}{W':ay}(h:LK w0 B v g bk pl far W)(hk:TK w0 T W W')(h1:T 349=false)(h2:T 173=false)(h3:T 3=false):LK w0 B v g bk pl far W':=
 ⟨hk.lX h.ext (aD _),h.hB,hk.blk h.box (.inr h1),hk.own h.own h2,h.hg,hk.blk h.pls (.inr h3)⟩
def LK.ext'{W':ay}(h:LK w0 B v g bk pl far W)(hx:Ext W W'):LK w0 B v g bk pl far W':=h.kept (T:=λ_=>false) (.ext hx) rfl rfl rfl
def LK.appended{W9:ay}{u:aA}{ys:List Ix}{n:Nat}(h:LK w0 B v g bk pl far W)(hg:W.grownBy W9 v.ownBlock)(hn:n=(bk++ys).length)(ho:W9.ownsRow w0 173 4 u n ((bk++ys).flatMap jS)):LK w0 B u g (bk++ys) pl far (W9.setCell B u)/\TK w0 Ti W (W9.setCell B u):=by have k1:TK w0 (D5 173) W W9:=TK.grown h.own hg rfl (aD _);have SY:=k1.blk h.box (.inr rfl);have k2:TK w0 (D5 349) W9 (W9.setCell B u):=TK.set (p:=⟨B,0,none⟩) SY rfl h.hB u;subst hn;refine⟨⟨k2.lX (k1.lX h.ext (aD _)) (aD _),h.hB,eX SY 0 u,k2.own ho rfl,h.hg,k2.blk (k1.blk h.pls (.inr rfl)) (.inr rfl)⟩,?_⟩;exact(k1.mono (aD _) (λt ht=>by unfold Ti at ht;unfold D5;simp at ht⊢;exact ht.1)).trans (k2.mono (aD _) (λt ht=>by unfold Ti at ht;unfold D5;simp at ht⊢;exact ht.2))
def LK.row{A:ay}{row:Option Nat}(h:LK w0 B v g bk pl far W)(hg:W.grownBy A row)(hr:∀r,row=some r->∃o:Obj,W.heap[r]?=some o/\o.isCells=false)(hr2:∀r,row=some r->w0.heap.size<=r):LK w0 B v g bk pl far A:=
 ⟨h.ext.grown hg hr2,h.hB,iY h.box hg hr,ME h.own hg hr,h.hg,iY h.pls hg hr⟩
def TK.row{n0:Nat}{T:Nat->Bool}{A C:ay}{row:Option Nat}(h:TK n0 T W A)(hg:A.grownBy C row)(hr:∀r,row=some r->W.heap.size<=r):TK n0 T W C:=
 ⟨hg.os.trans h.os,hg.tape.trans h.tape,hg.output.trans h.output,aL h.size hg.size,λk o ho hn=>by have hlt:=(aB.1 ho).1;exact(hg.block k (gY hlt h.size) (λe=>by have:=hr k e.symm;omega)).trans (h.kept k o ho hn)⟩
theorem uw(h:LK w0 B v g bk pl far W)(hb:bk.length<=100000000)(j:Nat)(hj:j<pl)(hq:pl.getD j 0<=bk.length):Rt 359 #[.pointer (some B),.int .i64 j] W (.int .i64 ((bk.length-pl.getD j 0:Nat):Int)):=by obtain⟨au,cu,rfl⟩:=bU h.own;have c0:W.cell? B=some (.slice au bk cu):=aG h.box 0;have c1:W.cell? ⟨B,1,none⟩=some (.slice (some g) pl pl):=aG h.box 1;have c2:=AX h.pls hj;generalize pl.getD j 0=q at *;have hz:(j:Int)<pl:=aq;have hsub:(bk:Int)-q=((bk.length-q:Nat):Int):=aq;have c0x:=nV c0;have c1x:=nV c1;have c2x:=nV c2;clear h;rw[<-hsub];have hws:IntKind.i64.wrap ((bk:Int)-q)=(bk:Int)-q:=IntWalk.i64_in _ aq;clear hsub;unfold Rt;exact lz
theorem kT(h:LK w0 B v g bk pl far W)(l:List Ix)(hl:l.length<=1000)(hbl:bk.length<=10000000)(b:Nat)(hb:W.heap[b]?=some (.cells (l.flatMap jS).toArray 173 (0,0)))(hne:v.ownBlock≠some b):Calls prog 358 #[.pointer (some B),.slice (some b) l l.length] W λe w'=>e= .returned (.tuple #[])/\∃v',LK w0 B v' g (bk++l.reverse) pl far w'/\TK w0 Ti W w':=by
 have n1:=aC W (.cells #[.pointer (some B)] 345);obtain⟨W1,hW1⟩:∃W1,W1=W.alloc (.cells #[.pointer (some B)] 345):=⟨_,rfl⟩;rw[<-hW1]at n1;have hx1:Ext W W1:=by rw[hW1];exact(aj _).alloc _
 have hs1:W1.heap.size=W+1:=by rw[hW1];simp
 have n2:=aC W1 (.cells #[.slice (some b) l l.length] 51);have hBk:=adU (some b) l l W1;obtain⟨W2,hW2⟩:∃W2,W2=W1.alloc (.cells #[.slice (some b) l l.length] 51):=⟨_,rfl⟩;rw[<-hW2]at n2 hBk;rw[hs1]at n2 hBk;have hx2:Ext W1 W2:=by rw[hW2];exact(aj _).alloc _
 have hs2:W2.heap.size=W+2:=by rw[hW2,aR,hs1]
 have hL2:=(h.ext' hx1).ext' hx2;have hb2:=aI hb (hx1.trans hx2);have hrd:=zA rZ l hb2;have hbB:b≠B:=λe=>by subst e;have:=bV (hb.symm.trans h.box);simp at this
 have ar9:=(aB.1 hb).1;have hBl:=(aB.1 h.box).1;have HBK:=ah hBk;have HW:=ah (ak hW1 hW2);have HN:=ah (ak (aI n1 hx2) (ak n2 (ak hb2 hrd)));have HL2:=ah hL2;have jm:=ah (hx1.trans hx2);have HS2:=ah hs2;have HNE:=ah hne;have HHB:=ah h.hB;clear h hb hne n1 n2 hBk hL2 hb2 hrd hW1 hW2 hx1 hx2 hs1 hs2;refine(bM (n:=4)).1 ?_;refine callsIn_of_wp_marks func358 rfl trivial ?_ rfl;simp only[ntmps358,bW,aO,bD,Nat.reduceAdd,Nat.reduceSub,dU,dS,fq,dZ,dA,dh];gi_wp2_with(rw[<-HW.o.1];refine⟨trivial,?_⟩;refine tI (bM.2 HBK.o) ?_;rintro w' rfl);have h1:1<=4:=aq;refine wpIn_rangeFunc_ownH (w0:=W2) rfl h1 (gf:=415) (lb:= #[.pointer (some ⟨W+1,0,none⟩)]) rfl trivial (enters_of func415 ax rfl)
  (Rs (W+1) _ l aq W2 (λk=>k=b\/k=W.heap.size+1) (by rw[HS2.o];omega) (.inr rfl) (aG HN.o.2.1 0) HN.o.2.2.2 (λb' o c' e h0=> .inl (by cases e;rfl)))
  Gv (λW' l' o o' hl' _ _ _=>⟨rfl,rfl,rfl,aE,λk hk=>World.putObj_heap_other (λe=>by have:=HS2.o;rcases hk with hk|hk<;>omega)⟩) (Below.refl _ _) (λ_=>rfl)
  (λpre W'=>(∃u,LK w0 B u g (bk++pre.map (λx=>l[x])) pl far W'/\u.ownBlock≠some b)/\TK w0 Ti W W'/\W'.heap[W.heap.size]?=some (.cells #[.pointer (some B)] 345 (0,0))/\W'.heap[W.heap.size+1]?=some (.cells #[.slice (some b) l l.length] 51 (0,0))/\W'.heap[b]?=some (.cells (l.flatMap jS).toArray 173 (0,0))/\W.heap.size+2<=W'.heap.size/\pre.length<=1000)
  (λ_ _ _=>False)
  (λs A B' row hs hg hr=> ?hI1)
  (λ_ _ _ _ _ hs _ _=>hs)
  ⟨⟨v,by rw[eU,fH];exact HL2.o,HNE.o⟩,.ext jm.o,HN.o.1,HN.o.2.1,HN.o.2.2.1,by rw[HS2.o];exact aD _,bP _⟩
  (λx a' W'=>∃Bx u0 u1 u2,W.heap.size+2<=Bx/\W'.heap[B]?=some (.cells #[u0,u1,u2] 349 (0,0))/\u0.ownBlock≠some Bx/\W'.heap[Bx]?=some (.cells #[.int .u16 (l[x].c:Int),.int .u8 (l[x].jt:Int),.int .u8 (l[x].jf:Int),.int .u32 (l[x].k:Int)] 173 (0,0))/\
   a'= {tmps:= #[.pointer (some B),.slice (some b) l l.length,.pointer (some W),undef,undef,.pointer (some Bx),.slice (some b) l l.length,
    .func (.func 415) #[] #[.pointer (some ⟨W+1,0,none⟩)],.int .i64 ((x:Nat):Int),m8 l[x],undef,undef,undef,undef,undef,undef,undef,undef,undef,undef],defers:= []})
  (λx a' _ X Y row hs hg hr=> ?hI2)
  ?assign ?body ?done ?stop
 case hI1=>
  obtain⟨⟨u,h1,h2⟩,h3,h4,h5,h6,h7,h8⟩:=hs;have hr2:=λr e=>(hr r e).2
  have hrl:∀k,row=some k->W.heap.size<=k:=λk e=>by have:=(hr k e).1;have:=HS2.o;omega
  exact⟨⟨u,h1.row hg hr2 (λk e=>by have:=hrl k e;have:=h1.ext.size;have:=jm.o.size;have:=HL2.o.ext.size;have:=HHB.o;omega),h2⟩,h3.row hg hrl,iY h4 hg hr2,iY h5 hg hr2,iY h6 hg hr2,aL h7 hg.size,h8⟩
 case hI2=>obtain⟨Bx,u0,u1,u2,k1,k4,k5,k2,k3⟩:=hs;exact⟨Bx,u0,u1,u2,k1,iY k4 hg (λr e=>(hr r e).2),k5,iY k2 hg (λr e=>(hr r e).2),k3⟩
 case assign=>rintro l' pre x W' K ⟨⟨u,h1,h2⟩,h3,h4,h5,h6,h7,h8⟩ hK;unfold m8;gi_wp2;exact hK _ _ ((KeepsOthers.alloc _ _).from _) (V.Keep.of_below ((Below.refl W' W').alloc (aD _) _) (λk hk=>by rcases hk with hk|hk<;>omega)) ⟨⟨u,h1.ext' ((aj _).alloc _),h2⟩,h3.trans (TK.alloc _ _),aI h4 ((aj _).alloc _),aI h5 ((aj _).alloc _),aI h6 ((aj _).alloc _),by rw[aR];omega,h8⟩ ⟨W'.heap.size,_,_,_,h7,aI h1.box ((aj _).alloc _),(λe=>by have:=(h1.own.lt _ e).2;omega),aC W' _,rfl⟩
 case body=>
  rintro l' pre x a' W' hl' ⟨r,hr⟩ ⟨⟨u,h1,h2⟩,h3,h4,h5,h6,h7,h8⟩ ⟨Bx,u0,u1,u2,hBx,hu0,hu1,bX,rfl⟩ hlt;obtain⟨au,cu,rfl⟩:=bU h1.own;have hpl:(bk++pre.map (λx=>l[x])).length=bk.length+pre:=aE;have c1:=aG h1.box 0
  change W'.cell? B=some _ at c1
  have c2:=aG h4 0
  change W'.cell? W=some _ at c2
  obtain⟨⟨b0,b1,b2,b3⟩,-⟩:=pO bX;have hun:∀k,k<w0.heap.size\/k=b\/k=Bx\/k=B\/k=W.heap.size\/k=W.heap.size+1->some k≠(Value.slice au (bk++pre.map (λx=>l[x])).length cu).ownBlock:=by
   have e0:=bV (hu0.symm.trans h1.box);simp only[iT,Array.mk.injEq,List.cons.injEq,and_true]at e0;obtain⟨rfl,-,-⟩:=e0;intro k hk e;obtain⟨h9,cur,h10⟩:=Hu h1.own k e.symm;rcases hk with hk|hk|hk|hk|hk|hk
   ·omega
   ·subst hk;exact h2 e.symm
   ·subst hk;exact hu1 e.symm
   ·subst hk;have:=bV (h10.symm.trans h1.box);simp at this
   ·subst hk;have:=bV (h10.symm.trans h4);simp at this
   ·subst hk;have:=bV (h10.symm.trans h5);simp at this
  clear hu0 hu1;have asq:=h1.own.lt;have hBw:B<W'.heap.size:=(aB.1 h1.box).1;have asp:Bx<W'.heap.size:=(aB.1 bX).1;obtain⟨SS,hSS⟩:∃SS:Nat->Prop,SS=λk=>k<W'.heap.size/\some k≠(Value.slice au (bk++pre.map (λx=>l[x])).length cu).ownBlock:=⟨_,rfl⟩
  have hsB:SS B:=by rw[hSS];exact⟨hBw,hun B aE⟩
  have hsP:SS W.heap.size:=by rw[hSS];exact⟨aq,hun _ aE⟩
  have hsX:SS Bx:=by rw[hSS];exact⟨asp,hun _ aE⟩
  have c1x:=xsc (S:=SS) (p:=⟨B,0,none⟩) hsB c1;have c2x:=xsc (S:=SS) (p:=W) hsP c2;have b0x:=xsc (S:=SS) (p:=⟨Bx,0,none⟩) hsX b0;have b1x:=xsc (S:=SS) (p:=⟨Bx,1,none⟩) hsX b1;have b2x:=xsc (S:=SS) (p:=⟨Bx,2,none⟩) hsX b2;have b3x:=xsc (S:=SS) (p:=⟨Bx,3,none⟩) hsX b3;have H:=ah (ak h1 (ak h2 (ak h3 (ak h4 (ak h5 (ak h6 (ak h7 h8)))))));have HPL:=ah hpl;have yO:=ah bX;have VE:=ah (ak hSS (ak hsB (ak hsP hsX)));have hw8:W.heap.size+2<=W'.heap.size:=h7;have hpr:pre.length<1000:=aq;obtain⟨z,hz⟩:∃z,z=l[x]:=⟨_,rfl⟩;simp only[Fin.getElem_fin]at hz;unfold m8;simp only[Fin.getElem_fin]at b0 b1 b2 b3 b0x b1x b2x b3x⊢;rw[<-hz]at b0 b1 b2 b3 b0x b1x b2x b3x⊢;have HZ:=ah hz;have HUN:=ah hun;clear h1 h2 h3 h4 h5 h6 h7 h8 bX hr hz hun asq hsB hsP hsX hSS;obtain⟨LL,hLL⟩:∃LL,LL=bk++pre.map (λx=>l[x]):=⟨_,rfl⟩;rw[<-hLL]at HPL H c1 c1x HUN VE;have HLL:=ah hLL;clear hLL hpl;gi_wp2;refine vH 10 (λX=>∃x:XS SS W',X=x.w) ax ?_;have hS0:∃x:XS SS W',W'.drew=x.w:=⟨⟨W'.drew,⟨rfl,rfl,rfl,aD _,λ_ _=>rfl⟩⟩,rfl⟩;refine ai 0 rfl hS0 ?_;refine ai 1 rfl hS0 ?_;refine ai 2 rfl hS0 ?_;refine ai 3 rfl hS0 ?_;refine ai 4 rfl hS0 ?_;refine ai 5 rfl hS0 ?_;refine jP 6 ax rfl (λK hK=> ?_);go_simp;refine hK _ _ (λ_=>⟨⟨_,(V.Keep.of_below (((aj W').drew).alloc _) (λk hk=>by rw[VE.o.1]at hk;exact hk.1))⟩,rfl⟩) ?_;clear hK K;refine jP 7 ax rfl (λK hK=> ?_);refine Ms (λ_=>trivial) rfl (.tmp 14) (.tmp 16) 51 rfl underlying51 anm rfl az rZ adu w0 _ _ LL [z] (by rfl) (by rfl) (fO H.o.1.own (V.Keep.of_below (((aj W').drew).alloc _) (λ_ h=>h)) (λb e=>(H.o.1.own.lt b e).2)) (gI rZ W'.drew [z] _ _ rfl) (by rw[HPL.o];simp;omega) az ((H.o.1.ext.drew).alloc _).size ?_;intro au9 cu9 w9 Lx ZF vU;have hel:LL.length+[z].length=LL.length+1:=rfl;rw[hel]at Lx vU⊢;have HK9:Hid (V.Keep SS W' w9):=ah (V.Keep.trans (V.Keep.of_below (((aj W').drew).alloc _) (λk hk=>by rw[VE.o.1]at hk;exact hk.1)) (Ux ZF (λk hk=>by rw[VE.o.1]at hk;exact⟨gY hk.1 (((aj W').drew).alloc _).size,hk.2⟩)));have H9:=ah (ak Lx (ak ZF vU));have c9:=(HK9.o.cell (p:=⟨B,0,none⟩) VE.o.2.1).trans c1;have f9:w9.frozen? B=false:=by simp[World.frozen?,(HK9.o.block B VE.o.2.1).trans H.o.1.box]
  clear Lx ZF vU;refine hK _ _ (λ_=>⟨⟨_,HK9.o⟩,rfl⟩) ?_;clear hK K;refine jP 8 ax rfl (λK hK=> ?_);go_simp;refine hK _ _ (λ_=>⟨⟨_,HK9.o⟩,rfl⟩) ?_;clear hK K;refine jP 9 ax rfl (λK hK=> ?_);go_simp;refine hK _ _ (λ_=>⟨⟨_,HK9.o⟩,rfl⟩) ?_;clear hK K;refine jP 10 ax rfl (λK hK=> ?_);go_simp;refine hK _ _ (λh=>absurd rfl h) ?_;clear hK K;refine yV ax ?_;dsimp only[V.Calm,Exit.then];gi_wp2;have hX:Ext W' ((W'.drew).alloc (.cells #[.int .u16 z.c,.int .u8 z.jt,.int .u8 z.jf,.int .u32 z.k] 173)):=((aj W').drew).alloc _;obtain⟨lk,tk⟩:=(H.o.1.ext' hX).appended (ys:= [z]) H9.o.2.1 (by rw[aH];rfl) H9.o.1;have tk':=(TK.ext (n0:=w0.heap.size) (T:=Ti) hX).trans tk;have hll:LL++[z]=bk++(pre++[x]).map (λx=>l[x]):=by rw[HLL.o,HZ.o];simp
  rw[hll]at lk;have hbb:(w9.setCell B (.slice au9 (LL+1) cu9)).heap[b]?=W'.heap[b]?:=(aX _ _ _ _ hbB).trans (HK9.o.block b (by rw[VE.o.1];exact⟨aq,HUN.o b aE⟩));have hbs:(w9.setCell B (.slice au9 (LL+1) cu9)).heap[W.heap.size+1]?=W'.heap[W.heap.size+1]?:=(aX _ _ _ _ (by show W.heap.size+1≠B;omega)).trans (HK9.o.block _ (by rw[VE.o.1];exact⟨aq,HUN.o _ aE⟩));have hkk:∀k,(k=b\/k=W.heap.size+1)->(w9.setCell B (.slice au9 (LL+1) cu9)).heap[k]?=W'.heap[k]?:=by
   intro k hk;rcases hk with hk|hk
   ·subst hk;exact hbb
   ·subst hk;exact hbs
  refine⟨tk'.ko.from _,⟨tk'.os,tk'.tape,tk'.output,tk'.size,hkk⟩,⟨⟨_,lk,λe=> ?_⟩,H.o.2.2.1.trans tk',tk'.blk H.o.2.2.2.1 (.inr rfl),hbs.trans H.o.2.2.2.2.1,hbb.trans H.o.2.2.2.2.2.1,aL hw8 tk'.size,by rw[aH];simp;omega⟩⟩;rcases H9.o.2.2 b e with e2|e2
  ·exact H.o.2.1 e2
  ·have e3:(W'.alloc (.cells #[.int .u16 z.c,.int .u8 z.jt,.int .u8 z.jf,.int .u32 z.k] 173)).heap.size<=b:=e2;rw[aR]at e3;omega
 case done=>
  rintro D ys W' hD rfl ⟨⟨u,h1,h2⟩,h3,h4,h5,h6,h7,h8⟩ hK;have hfin:bk++(kY l l (aD _)).map (λx=>l[x])=bk++l.reverse:=by
   congr 1
   apply List.ext_getElem
   ·simp[kY]
   ·intro i h1 h2;simp[kY]
  rw[hfin]at h1;have HD:=ah (ak h1 h3);clear h1 h3 h4 h5 h6 h2;gi_wp2;refine⟨aE,.inl ⟨_,_,rfl,run_takeDeferred hK,?_⟩⟩;refine⟨_,bH rfl _ _ _,rfl,u,?_,?_⟩
  ·exact HD.o.1.row (grownBy_putObj' _ D (.deferred none)) (λr e=>by cases e;exact⟨_,hK,rfl⟩) (λr e=>by cases e;have:=HS2.o;have:=HL2.o.ext.size;omega)
  ·exact HD.o.2.row (grownBy_putObj' _ D (.deferred none)) (λr e=>by cases e;have:=HS2.o;omega)
 case stop=>rintro D c pre W' _ _ h _;exact h.elim
end LT
end Go.Proofs.YtopfefhenfineaaGreat
