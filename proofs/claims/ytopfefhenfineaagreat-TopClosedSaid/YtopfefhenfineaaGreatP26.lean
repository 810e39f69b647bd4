import Derived.Test.YtopfefhenfineaaGreatP12
import Derived.Test.YtopfefhenfineaaGreatP14
import Derived.Test.YtopfefhenfineaaGreatP19
import Derived.Test.YtopfefhenfineaaGreatP20
import Derived.Test.YtopfefhenfineaaGreatP25
set_option linter.all false
set_option maxRecDepth 100000
set_option maxHeartbeats 8000000
namespace Go.Proofs.YtopfefhenfineaaGreat
open Go.Proofs.Tryz Go.RowKit Go.Shelf V
attribute[local go_sem] Oper.semAt_some V.Oper.idle V.Oper.mE V.Oper.jM
namespace LT
variable{L:List Ix}{W w:ay}{base c e g i k n0:Nat}
def Hy(h:w.ownsRow base e 4 (.slice (some g) L c) L (L.flatMap jS))(hk:k<L):w.cell? ⟨g,k*4,none⟩=some (.int .u16 (L[k].c:Int))/\w.cell? ⟨g,k*4+1,none⟩=some (.int .u8 (L[k].jt:Int))/\w.cell? ⟨g,k*4+2,none⟩=some (.int .u8 (L[k].jf:Int))/\w.cell? ⟨g,k*4+3,none⟩=some (.int .u32 (L[k].k:Int))/\∀j,w.frozen? ⟨g,j,none⟩=false:=by obtain⟨a,c',h1,h2,h3,h4⟩:=bY rZ h;simp only[aU]at h1;obtain⟨rfl,-,rfl⟩:=h1;obtain⟨b,o,e',k4⟩:=h4 k hk;simp only[dw,gD,and_true]at e';obtain⟨rfl,rfl⟩:=e';have r0:=k4 0 cY;have r1:=k4 1 cY;have r2:=k4 2 cY;have r3:=k4 3 cY;simp only[cO,iB,jS,jc,iW]at r0 r1 r2 r3;exact pp
def Le(h:w.ownsRow base e 4 (.slice (some g) L c) L (L.flatMap jS))(hi:i<L)(y:Ix):((((w.setCell ⟨g,i*4,none⟩ (.int .u16 y.c)).setCell ⟨g,i*4+1,none⟩ (.int .u8 y.jt)).setCell ⟨g,i*4+2,none⟩ (.int .u8 y.jf)).setCell ⟨g,i*4+3,none⟩ (.int .u32 y.k)).ownsRow base e 4 (.slice (some g) L c) L ((L.set i y).flatMap jS):=by
 have hls:∀z:Ix,(L.set i z).length=L.length:=λz=>dO
 have h1:=(kE rZ h i 0 (.int .u16 y.c) ⟨y.c,L[i].jt,L[i].jf,L[i].k⟩ hi az rfl).1;have step:∀ {W:ay} {z:Ix} (j:Nat) (u:aA) (z':Ix),W.ownsRow base e 4 (.slice (some g) L c) L ((L.set i z).flatMap jS)->j<4->jS z'=(jS z).set j u->
  (W.setCell ⟨g,i*4+j,none⟩ u).ownsRow base e 4 (.slice (some g) L c) L ((L.set i z').flatMap jS):=λ{W z} j u z' h hj he=>by
  rw[<-hls z]at h;have:=(kE rZ h i j u z' (by rw[hls];exact hi) hj (by rw[List.getElem_set_self];exact he)).1;rw[List.set_set,hls]at this;exact this
 rw[iB]at h1;exact step 3 (.int .u32 y.k) y (step 2 (.int .u8 y.jf) ⟨y.c,y.jt,y.jf,L[i].k⟩ (step 1 (.int .u8 y.jt) ⟨y.c,y.jt,L[i].jf,L[i].k⟩ h1 az rfl) az rfl) az rfl
def TK.TA{T:Nat->Bool}{t:dz}{cs:Array aA}(hb:W.heap[g]?=some (.cells cs t (0,0)))(hT:T t=true)(hn:n0<=g)(a b c d:aA):TK n0 T W ((((W.setCell ⟨g,i*4,none⟩ a).setCell ⟨g,i*4+1,none⟩ b).setCell ⟨g,i*4+2,none⟩ c).setCell ⟨g,i*4+3,none⟩ d):=
 (((TK.set (p:=⟨g,i*4,none⟩) hb hT hn a).trans (TK.set (p:=⟨g,i*4+1,none⟩) (eX hb _ a) hT hn b)).trans (TK.set (p:=⟨g,i*4+2,none⟩) (eX (eX hb _ a) _ b) hT hn c)).trans (TK.set (p:=⟨g,i*4+3,none⟩) (eX (eX (eX hb _ a) _ b) _ c) hT hn d)
def Em(xs:List Ix)(k:Nat):List Ix:=List.ofFn λm:Fin xs.length=>if m.1<k\/xs.length-1-m.1<k then xs[xs.length-1-m.1]' aq else xs[m.1]
def rU(xs:List Ix)(k:Nat):(Em xs k).length=xs.length:=by simp[Em]
def wm(xs:List Ix)(k m:Nat)(h:m<xs):(Em xs k)[m]'(by rw[rU];exact h)=if m<k\/xs.length-1-m<k then xs[xs.length-1-m]' aq else xs[m]:=by simp[Em]
def YE(xs:List Ix):Em xs 0=xs:=by
 apply List.ext_getElem
 ·rw[rU]
 ·intro m h1 h2;rw[wm xs 0 m h2,aN aq]
def abL(xs:List Ix)(k:Nat)(h:xs.length<=2*k+1):Em xs k=xs.reverse:=by
 apply List.ext_getElem
 ·rw[rU,List.length_reverse]
 ·intro m h1 h2;rw[List.length_reverse]at h2;rw[wm xs k m h2,List.getElem_reverse];split
  ·rfl
  ·congr 1;omega
def YF(xs:List Ix)(k:Nat)(h:2*k+1<xs.length):((Em xs k).set k ((Em xs k)[xs.length-1-k]'(by rw[rU];omega))).set (xs-1-k) ((Em xs k)[k]'(by rw[rU];omega))=Em xs (k+1):=by
 apply List.ext_getElem
 ·simp[rU]
 ·intro m h1 h2;rw[rU]at h2;rw[wm xs (k+1) m h2,List.getElem_set];split
  ·rename_i e;subst e;rw[wm xs k k aq,aN aq,aV aq]
   congr 1;omega
  ·rw[List.getElem_set];split
   ·rename_i e1 e;subst e;rw[wm xs k _ aq,aN aq,aV aq]
   ·rename_i e1 e2;rw[wm xs k m h2];by_cases h5:m<k\/xs.length-1-m<k
    ·rw[aV h5,aV aq]
    ·rw[aN h5,aN aq]
theorem aax(base:Nat)(v:aA)(xs:List Ix)(hl:xs.length<=10000000)(w:ay)(ho:w.ownsRow base 173 4 v xs (xs.flatMap jS)):Calls prog 238 #[v] w λe w'=>e= .returned (.tuple #[])/\w'.ownsRow base 173 4 v xs (xs.reverse.flatMap jS)/\TK base (D5 173) w w':=by
 obtain⟨a,c,rfl⟩:=bU ho;have HO:=ah ho;clear ho;go_in;go_wp2_with fail;go_loopw [2,3] (λi j wr=>∃k:Nat,k<=xs/\i= .int .i64 k/\j= .int .i64 ((xs:Int)-1-k)/\wr.ownsRow base 173 4 (.slice a xs c) xs ((Em xs k).flatMap jS)/\TK base (D5 173) w wr) (λi _ _=>xs.length-(intOf i).toNat)
 case atStart=>exact⟨0,aq,rfl,aE,by rw[YE];exact HO.o,TK.refl _ _ _⟩
 case round=>
  obtain⟨k,hk,rfl,rfl,ho,ht⟩:=hrel;by_cases hlt:2*k+1<xs.length
  ·have hst:=YF xs k hlt;obtain⟨L,hL⟩:∃L,L=Em xs k:=⟨_,rfl⟩;have hll:L.length=xs.length:=by rw[hL,rU]
   obtain⟨q,hq⟩:∃q,q=xs.length-1-k:=⟨_,rfl⟩;have hqi:(xs:Int)-1-k=(q:Int):=aq;have hkL:k<L:=aq;have hqL:q<L.length:=aq;have hst':(L.set k L[q]).set q L[k]=Em xs (k+1):=by subst hL;subst hq;exact hst
   rw[<-hL]at ho;rw[<-hll]at ho hqi⊢;obtain⟨g,c1,e1,hgB,hgl,hf⟩:=mo ho aq;simp only[aU,true_and]at e1;obtain⟨rfl,rfl⟩:=e1;obtain⟨a0,a1,a2,a3,-⟩:=Hy ho hkL;obtain⟨b0,b1,b2,b3,-⟩:=Hy ho hqL;obtain⟨-,cur,hcur⟩:=Hu ho g rfl;have h1:=Le ho hkL L[q];have t1:=TK.TA (n0:=base) (T:=D5 173) (i:=k) hcur rfl hgB (.int .u16 (L[q].c:Int)) (.int .u8 (L[q].jt:Int)) (.int .u8 (L[q].jf:Int)) (.int .u32 (L[q].k:Int));obtain⟨W1,hW1⟩:∃W1,W1=((((wr.setCell ⟨g,k*4,none⟩ (.int .u16 (L[q].c:Int))).setCell ⟨g,k*4+1,none⟩ (.int .u8 (L[q].jt:Int))).setCell ⟨g,k*4+2,none⟩ (.int .u8 (L[q].jf:Int))).setCell ⟨g,k*4+3,none⟩ (.int .u32 (L[q].k:Int))):=⟨_,rfl⟩;have hls:(L.set k L[q]).length=L.length:=dO;rw[<-hW1,<-hls]at h1;rw[<-hW1]at t1;obtain⟨-,asB,ahM⟩:=Hu h1 g rfl;obtain⟨d0,d1,d2,d3,-⟩:=Hy h1 (k:=q) (by rw[hls];exact hqL);have hdq:(L.set k L[q])[q]'(by rw[hls];exact hqL)=L[q]:=by rw[List.getElem_set,aN aq]
   rw[hdq,hW1]at d0 d1 d2 d3;have h2:=Le h1 (by rw[hls];exact hqL) L[k];have t2:=TK.TA (n0:=base) (T:=D5 173) (i:=q) ahM rfl hgB (.int .u16 (L[k].c:Int)) (.int .u8 (L[k].jt:Int)) (.int .u8 (L[k].jf:Int)) (.int .u32 (L[k].k:Int));rw[hst']at h2;rw[hls,hW1]at h2;rw[hW1]at t2 t1;have HT:=ah (ht.trans (t1.trans t2));have H2:=ah h2;have HQ:=ah (ak hq hqi);have zk:(k:Int)<L:=aq;have zq:(q:Int)<L:=aq;have f1:=λj=>aP hcur j
   have zkq:(k:Int)<q:=aq;rw[hqi];have HLL:=ah hll;have hLb:L.length<=10000000:=aq;clear hdq h1 h2 t1 t2 hW1 hcur ahM hst hst' hL hls ho ht hq hll hf;obtain⟨x,hx⟩:∃x,x=L[k]:=⟨_,rfl⟩;obtain⟨y,hy⟩:∃y,y=L[q]:=⟨_,rfl⟩;rw[<-hx]at a0 a1 a2 a3 H2 HT;rw[<-hy]at b0 b1 b2 b3 H2 HT d0 d1 d2 d3;clear hx hy;have hf0:=f1 (k*4);have hf1:=f1 (k*4+1);have hf2:=f1 (k*4+2);have hf3:=f1 (k*4+3);have hg0:=f1 (q*4);have hg1:=f1 (q*4+1);have hg2:=f1 (q*4+2);have hg3:=f1 (q*4+3);clear f1;go_upto_region 3 with fail;have a0x:=nV a0;have a1x:=nV a1;have a2x:=nV a2;have a3x:=nV a3;have b0x:=nV b0;have b1x:=nV b1;have b2x:=nV b2;have b3x:=nV b3;refine rQ (n:=1) [13,14,15] (λX=>∃x:XW wr,X=x.w) ax ?_;have hS0:∃x:XW wr,wr.drew=x.w:=⟨⟨wr.drew,(aj wr).drew⟩,rfl⟩;refine af 0 rfl ?_;refine af 1 rfl ?_;refine af 2 rfl ?_;refine af 3 rfl ?_;refine af 4 rfl ?_;refine af 5 rfl ?_;refine af 6 rfl ?_;refine af 8 rfl ?_;refine af 9 rfl ?_;refine af 10 rfl ?_;refine nW (λ_=>trivial) 7 rfl ax ax ax ax ax hS0 (λK hK=> ?_);go_simp;refine hK _ ?_;clear hK K;refine nW (λ_=>trivial) 11 rfl ax ax ax ax ax hS0 (λK hK=> ?_);go_simp;refine hK _ ?_;clear hK K;refine af 12 rfl ?_;refine gP 13 ax rfl ax (λK hK=> ?_);go_simp;refine hK _ _ ?_;clear hK K;refine gP 14 ax rfl ax (λK hK=> ?_);go_simp;refine hK _ _ ?_;clear hK K;refine gP 15 ax rfl ax (λK hK=> ?_);go_simp;refine hK _ _ ?_;clear hK K;refine lG ax ?_;dsimp only[V.Calm,Exit.then];go_wp2_with fail;go_roundw
   case rel=>exact⟨k+1,aq,bm,by have:=HQ.o.2;have:=HLL.o;(first|(simp;done)|(simp;omega)),lH H2.o (aj _).drew,HT.o.trans (TK.drew _)⟩
   case measure=>exact gO
  ·have he:=abL xs k aq;rw[he]at ho;have hn:¬((k:Int)<xs-1-k):=aq;have H:=ah (ak ho ht);clear ho ht he;go_wp2_with fail
   first|go_end0|refine aM (bH rfl _ _ _) rfl ?_
   exact⟨rfl,H.o.1,H.o.2⟩
end LT
end Go.Proofs.YtopfefhenfineaaGreat
namespace Go.Proofs.YtopfefhenfineaaGreat
open Go.Proofs.Tryz Go.RowKit Go.Shelf V
attribute[local go_sem] Oper.semAt_some
namespace LT
open jO (Sy RO gB eH iM iw jk gF gJ)
theorem Jf(v:aA)(xs:List Sy)(hl:xs.length<=1000000)(w:ay)(hv:Rd w 4 gB v xs):Calls prog 283 #[v] w λe w'=>e= .returned (.bool (iw xs))/\Ext w w':=jO.oD (λs i len W=>jO.xJ s i len W) v xs hl w hv
def rE:Array aA:= #[.func (.func 286) #[] #[],.func (.func 287) #[] #[],.func (.func 288) #[] #[]]
theorem MS(w:ay):Rt 239 #[] w (.agg rE):=by
 unfold Rt;go_in;go_upto_region 1 with fail;apply wp_region_lit;refine wpList_buildTo rfl 353 _ rfl (some 1) rfl rE bj ?_;refine wpList_store_rowTo rfl 353 _ _ rfl rfl w.heap.size rE bj bj 353 _ (heap_alloc_last w _) ax ax ax ?_;rw[World.setRow_alloc_new];apply wpList_nil;rename_i hK;refine hK _ _ ?_;have key:∀A:Act,A.tmps.getD 0 undef= .pointer (some w)->A.defers=[]->Code.wp prog Code.ret (bodyPost prog Tryz.f239 λe w'=>e= .returned (.agg rE)/\Ext w w') A (w.alloc (.cells rE 353)):=by intro A h0 hd;go_wp2_with fail;exact aM (v:= .agg rE) (dV results239 _ _ _ _ _ _ _ h0 (heap_alloc_last w _) underlying353 rfl ax) hd ⟨rfl,(aj _).alloc _⟩
 exact tw
def psA(l:List Sy):Nat->List Sy
 |0=>l
 |1=>mM l
 |2=>vY (mM l)
 |_=>vM l
def afA{l:List Sy}(h:iw l=true)(k:Nat):(psA l k).length<=l.length:=by
 match k with
 |0=>exact aD _
 |1=>exact Nat.le_of_eq (lI _ _)
 |2=>exact Nat.le_of_eq (((uP (nK h)).1).trans (lI _ _))
 |_+3=>exact Wv h
def psF(k:Nat):aA:=match k with
 |0=> .func (.func 286) #[] #[]
 |1=> .func (.func 287) #[] #[]
 |_=> .func (.func 288) #[] #[]
theorem PW(v:aA)(xs:List Sy)(hl:xs.length<=1000000)(hm:iw xs=true)(hk:∀s∈xs,s.k<4294967296)(B:Nat)(w:ay)(hv:Rd w 4 gB v xs)(hB:w.heap[B]?=some (.cells rE 353 (0,0))):Calls prog 240 #[v,.slice (some B) 3 3] w λe w'=>∃a c,e= .returned (.tuple #[.slice a (vM xs).length c,.int .i64 0])/\Ext w w'/\Rd w' 4 gB (.slice a (vM xs).length c) (vM xs):=by
 have hM:=λW (h:Ext w W)=>Jf v xs hl W (hv.ext h)
 rw[hm]at hM;have Xf:∀k,k<3->∀(u:aA) W,Rd W 4 gB u (psA xs k)->Calls prog (match k with|0=>286|1=>287|_=>288) #[u] W λe w'=>∃a c,e= .returned (.slice a (psA xs (k+1)).length c)/\Ext W w'/\Rd w' 4 gB (.slice a (psA xs (k+1)).length c) (psA xs (k+1)):=by
  intro k hk3 u W hr;have hle:=afA hm k
  match k,hk3 with
  |0,_=>refine(Mw u xs hl hm hk W hr).mono ?_;rintro e w' ⟨a,c,rfl,hx,ho⟩;have e1:(mM xs).length=xs.length:=lI _ _;rw[<-e1]at ho;exact⟨a,c,by rw[<-e1];rfl,hx,bY eH ho⟩
  |1,_=>have e1:(mM xs).length=xs.length:=lI _ _;refine(G0 u (mM xs) aq (nK hm) W hr).mono ?_;rintro e w' ⟨a,c,rfl,hx,ho⟩;have e2:(vY (mM xs)).length=(mM xs).length:=(uP (nK hm)).1;rw[<-e2]at ho;exact⟨a,c,by rw[<-e2];rfl,hx,bY eH ho⟩
  |2,_=>have e1:(mM xs).length=xs.length:=lI _ _;have e2:(vY (mM xs)).length=(mM xs).length:=(uP (nK hm)).1;refine(M9 u (vY (mM xs)) aq (VX (nK hm)) W hr).mono ?_;rintro e w' ⟨a,c,rfl,hx,ho⟩;exact⟨a,c,rfl,hx,bY eH ho⟩
 have HP:=ah Xf;have HB:=ah hB;have HV:=ah hv;have HM:=ah hM;obtain⟨a0,c0,rfl,-,-⟩:=gJ hv;clear Xf hB hv hM hm hk;go_in;go_wp2_with fail;refine ap (HM.o _ (aj _)) ?_;intro w1 hx1;have gK:=ah hx1;clear hx1;go_wp2_with fail;go_loopw [0,13] (λu i wr=>∃k:Nat,k<=3/\i= .int .i64 k/\Ext w wr/\∃a c,u= .slice a (psA xs k).length c/\Rd wr 4 gB u (psA xs k)) (λ_ i _=>3-(intOf i).toNat)
 case atStart=>exact⟨0,aq,rfl,gK.o,a0,c0,rfl,HV.o.ext gK.o⟩
 case round=>
  obtain⟨k,hk,rfl,hx,a,c,rfl,hr⟩:=hrel;by_cases hlt:k<3
  ·have hPk:=HP.o k hlt _ wr hr;have hc:wr.cell? ⟨B,k,none⟩=some (psF k):=by
    rw[aG (aI HB.o hx)]
    match k,hlt with
    |0,_=>rfl
    |1,_=>rfl
    |2,_=>rfl
   have HPK:=ah hPk;have HX:=ah hx;clear hPk hx hr
   match k,hlt with
   |0,_|1,_|2,_=>
    unfold psF at hc
    try dsimp only at hc HPK
    go_wp2_with fail;refine HPK.o.mono ?_;rintro e w5 ⟨a5,c5,rfl,hx5,ZC⟩;have H5:=ah (ak hx5 ZC);clear hx5 ZC;go_wp2_with fail;go_roundw
    case rel=>exact⟨_,aq,bm,HX.o.trans H5.o.1,a5,c5,rfl,H5.o.2⟩
    case measure=>simp[intOf]
  ·obtain rfl:k=3:=aq;have H:=ah (ak hx hr);clear hx hr;go_wp2_with fail;go_ret2;exact⟨a,c,rfl,H.o⟩
theorem aaA(v:aA)(xs:List Sy)(hl:xs.length<=1000000)(hm:iw xs=true)(hk:∀s∈xs,s.k<4294967296)(w:ay)(hv:Rd w 4 gB v xs):Calls prog 177 #[v] w λe w'=>∃a c,e= .returned (.tuple #[.slice a (vM xs).length c,.int .i64 0])/\Ext w w'/\Rd w' 4 gB (.slice a (vM xs).length c) (vM xs):=by
 have hP:=λW=>MS W
 have hD:=λB W (hx:Ext w W) hB=>PW v xs hl hm hk B W (hv.ext hx) hB
 have VD:=ah hP;have HhD:=ah hD;clear hP hD hv hm hk;go_in;go_wp2_with fail;refine ap (VD.o _) ?_;intro w1 hx1;have gK:=ah hx1;clear hx1;go_wp2_with(refine wpList_store_rowTo rfl 353 _ _ rfl rfl w1.heap.size rE bj bj 353 _ (heap_alloc_last w1 _) ax ax ax ?_;rw[World.setRow_alloc_new]);have hb:=aC w1 (.cells rE 353);have hD2:=HhD.o w1 _ (gK.o.alloc (.cells rE 353)) hb;have HD2:=ah hD2;clear hb hD2;refine HD2.o.mono ?_;rintro e w2 ⟨a,c,rfl,hx2,hr2⟩;have H2:=ah (ak hx2 hr2);clear hx2 hr2;go_wp2_with fail;go_ret2;exact⟨a,c,rfl,(gK.o.alloc _).trans H2.o.1,H2.o.2⟩
end LT
end Go.Proofs.YtopfefhenfineaaGreat
namespace Go.Proofs.YtopfefhenfineaaGreat
open Go.Proofs.Tryz Go.RowKit Go.Shelf V
attribute[local go_sem] Oper.semAt_some V.Oper.idle V.Oper.mE V.Oper.jM
namespace LT
open jO (Sy RO gB eH iM iw jk gF gJ)
variable{A C W w0:ay}{B g i len n n0:Nat}{pl:List Nat}
def Ew(l:List Sy)(st:List Ix×List Nat)(x:Fin l):List Ix×List Nat:=
 (st.1++(lJ (EI st.1.length st.2) l[x.1]).reverse,st.2.set x.1 (st.1++(lJ (EI st.1.length st.2) l[x.1]).reverse).length)
def Ql(l:List Sy)(is:List (Fin l)):List Ix×List Nat:=is.foldl (Ew l) ([],List.replicate l 0)
def Qk(l:List Sy)(is:List (Fin l))(x:Fin l):Ql l (is++[x])=Ew l (Ql l is) x:=by simp[Ql]
def age(l:List Sy)(is:List (Fin l)):(Ql l is).2.length=l.length/\(Ql l is).1.length<=3*is.length/\∀t,(Ql l is).2.getD t 0<=(Ql l is).1.length:=by
 suffices h:∀(is:List (Fin l)) (st:List Ix×List Nat) (k:Nat),st.2.length=l.length->st.1.length<=3*k->(∀t,st.2.getD t 0<=st.1.length)->
  (is.foldl (Ew l) st).2.length=l.length/\(is.foldl (Ew l) st).1.length<=3*(k+is.length)/\∀t,(is.foldl (Ew l) st).2.getD t 0<=(is.foldl (Ew l) st).1.length by
  have:=h is ([],List.replicate l 0) 0 aE aE (λt=>by simp[bQ,List.getElem?_replicate];split<;>simp);rw[cO]at this;exact this
 intro is
 induction is with
 |nil=>intro st k h1 h2 h3;exact⟨h1,h2,h3⟩
 |cons x is ih=>
  intro st k h1 h2 h3;have hp:=Il (EI st.1.length st.2) l[x.1];have hle:st.1.length<=(Ew l st x).1.length:=by simp[Ew]
  have:=ih (Ew l st x) (k+1) (by simp[Ew,h1]) (by simp[Ew];omega) (λt=>by
   show(st.2.set x.1 _).getD t 0<=_;rw[bQ,List.getElem?_set];have h3t:=h3 t;rw[bQ]at h3t;split
   ·split
    ·exact aD _
    ·exact bP _
   ·exact aL h3t hle)
  rw[jD,show k+(x::is).length=k+1+is.length by simp;omega];exact this
def Qj{l:List Sy}(h:iw l=true):∀(k:Nat)(hk:k<=l),Ql l (kY l k hk)=((D8 l (l-k)).reverse,List.replicate (l-k) 0++Zm l (l-k))
 |0,hk=>by rw[Nat.sub_zero,M8,agd];have e:kY l 0 hk=[]:=rfl;rw[e];simp[Ql]
 |k+1,hk=>by
  have ih:=Qj h k aq;rw[xA _ _ aq,Qk,ih];have hi:l.length-1-k<l.length:=aq;obtain⟨i,hie⟩:∃i,i=l.length-1-k:=⟨_,rfl⟩;have e1:l.length-k=i+1:=aq;have e2:l.length-(k+1)=i:=aq;have hil:i<l:=aq;rw[e1,e2];have hx:(⟨l.length-1-k,hi⟩:Fin l)=⟨i,hil⟩:=Fin.ext hie.symm;rw[hx];unfold Ew;dsimp only;rw[List.length_reverse];have hd:lJ (EI (D8 l (i+1)).length (List.replicate (i+1) 0++Zm l (i+1))) l[i]=lJ (dst l (i+1)) l[i]:=by
   refine Im (jO.jZ h hil) (λt h1 h2=> ?_);unfold EI dst;rw[<-WW l (i:=i+1) h1 h2]
   congr 1
   simp only[bQ];rw[Bk (by rw[gV];omega),gV]
  rw[hd,<-List.reverse_append,<-C3 h hil,List.length_reverse,acx hil]
  congr 1
  rw[List.replicate_succ',bI,List.set_append_right _ _ aE];simp
def tyM(t:Nat):Bool:=Ti t||t==3
def aiu(h:TK n0 Ti A C):TK n0 tyM A C:=h.mono (aD _) (λt ht=>by unfold tyM at ht;simp at ht;exact ht.1)
def TK.keep{T:Nat->Bool}(h:TK n0 T A C){S:Nat->Prop}(hS:∀k,S k->∃o,A.heap[k]?=some o/\(k<n0\/∀cs t fr,o= .cells cs t fr->T t=false)):V.Keep S A C:=
 ⟨h.os,h.tape,h.output,h.size,λk hk=>by obtain⟨o,h1,h2⟩:=hS k hk;exact(h.kept k o h1 h2).trans h1.symm⟩
def LK.placed{v:aA}{bk:List Ix}{far:Int}(h:LK w0 B v g bk pl far W)(x n:Nat):LK w0 B v g bk (pl.set x n) far (W.setCell ⟨g,x,none⟩ (.int .i64 n))/\TK w0 tyM W (W.setCell ⟨g,x,none⟩ (.int .i64 n)):=by
 have k1:TK w0 (D5 3) W (W.setCell ⟨g,x,none⟩ (.int .i64 n)):=TK.set (p:=⟨g,x,none⟩) h.pls rfl h.hg _;refine⟨⟨k1.lX h.ext (aD _),h.hB,?_,k1.own h.own rfl,h.hg,?_⟩,k1.mono (aD _) (λt ht=>by unfold tyM at ht;unfold D5;simp at ht⊢;exact ht.2)⟩
 ·rw[dO];exact k1.blk h.box (.inr rfl)
 ·have:=eX h.pls x (.int .i64 n);rw[Xa]at this;exact this
def ai3{s:Sy}(h:jk len i s=true)(hl:pl.length=len)(hp:∀t,pl.getD t 0<=n):(s.c≠5/\jB s.c=false/\gF s.c=false)\/(s.c=5/\aaz n pl s.th)\/(s.c≠5/\jB s.c=true/\gF s.c=true/\aaz n pl s.th/\aaz n pl s.el):=by
 obtain⟨k1,k2⟩:=C7 h;rcases jg h with⟨h1,h2,h3,h4⟩|⟨h1,h2,h3⟩|⟨h1,h2,h3,h4,h5⟩|⟨h1,n1,n2,n3,n4,⟨h4,h5⟩,h6,h7⟩
 ·exact .inl ⟨aq,by rw[k1];exact uX (.inl h1),by rw[h1];rfl⟩
 ·refine .inl ⟨aq,by rw[k1];exact uX (.inr h1),?_⟩;rcases h1 with h1|h1<;>rw[h1]<;>rfl
 ·exact .inr (.inl ⟨h1,aq,aq,hp _⟩)
 ·exact .inr (.inr ⟨n4,by rw[k1];simp[uH,h1],h1,⟨aq,aq,hp _⟩,aq,aq,hp _⟩)
theorem Nb(v:aA)(xs:List Sy)(hm:iw xs=true)(w:ay)(hv:Rd w 4 gB v xs):Calls prog 237 #[v] w λe w'=>∃B u g pl far,e= .returned (.tuple #[.pointer (some ⟨B,0,none⟩),.bool true])/\LK w B u g (mq xs).reverse pl far w':=by
 have hlen:=uj hm;have aj9:=Jf v xs aq w hv;rw[hm]at aj9;obtain⟨a,c,rfl,hac,hca⟩:=gJ hv;have hlow:∀b o c',Value.slice a xs c= .slice (some ⟨b,o,none⟩) xs c'->0<xs.length->b<w.heap.size:=oe
 have HC:=ah aj9;have HV:=ah hv;have HM:=ah hm;have N7:=ah hlow;clear aj9 hv hca hlow hm;refine(bM (n:=4)).1 ?_;refine callsIn_of_wp_marks func237 rfl trivial ?_ rfl;simp only[ntmps237,bW,aO,bD,Nat.reduceAdd,Nat.reduceSub,dU,dS,fq,dZ,dA,dh];gi_wp2_with(refine⟨trivial,?_⟩;gi_at_call 283;refine tI (bM.2 HC.o) ?_;intro w1 hx1;have gK:=ah hx1;have hmk:=Wn xs aq w1;have n2:=aC w1 (.cells (isA (List.replicate xs 0)) 3);obtain⟨W2,hW2⟩:∃W2,W2=w1.alloc (.cells (isA (List.replicate xs 0)) 3):=⟨_,rfl⟩;rw[<-hW2]at n2 hmk;have HW2:=ah hW2;have HN2:=ah n2;clear hW2 n2 hx1);have hx2:Ext w W2:=by rw[HW2.o];exact gK.o.alloc _
 have n3:=aC W2 (.cells #[.slice none 0 0,.slice (some w1) xs xs.length,.int .i64 0] 349);obtain⟨W3,hW3⟩:∃W3,W3=W2.alloc (.cells #[.slice none 0 0,.slice (some w1) xs xs.length,.int .i64 0] 349):=⟨_,rfl⟩;rw[<-hW3]at n3;have hx3:Ext W2 W3:=by rw[hW3];exact(aj _).alloc _
 have hs3:W3.heap.size=W2+1:=by rw[hW3];simp
 have an7:LK w W2 (.slice none 0 0) w1 (Ql xs []).1 (Ql xs []).2 0 W3:=by have hpl:(Ql xs []).2=List.replicate xs 0:=rfl;have hbk:(Ql xs []).1=[]:=rfl;rw[hpl,hbk];refine⟨hx2.trans hx3,hx2.size,?_,dB _ _ _ _,gK.o.size,aI HN2.o hx3⟩;rw[gV];exact n3
 have n4:=aC W3 (.cells #[.pointer (some W2)] 345);rw[hs3]at n4;have hgoal:(W2.alloc (.cells #[.slice none 0 0,.slice (some w1) xs xs.length,.int .i64 0] 349))=W3:=hW3.symm;rw[hgoal];clear hgoal;obtain⟨W4,rH⟩:∃W4,W4=W3.alloc (.cells #[.pointer (some W2)] 345):=⟨_,rfl⟩;rw[<-rH]at n4⊢;have hx4:Ext W3 W4:=by rw[rH];exact(aj _).alloc _
 have hs4:W4.heap.size=W2+2:=by rw[rH,aR,hs3]
 have hB:=Rq a xs c W4;have n5:=aC W4 (.cells #[.slice a xs c] 215);obtain⟨W5,yR⟩:∃W5,W5=W4.alloc (.cells #[.slice a xs c] 215):=⟨_,rfl⟩;rw[<-yR]at hB n5;rw[hs4]at hB n5;have hx5:Ext W4 W5:=by rw[yR];exact(aj _).alloc _
 have hs5:W5.heap.size=W2+3:=by rw[yR,aR,hs4]
 have HB:=ah hB;have HL5:=ah ((an7.ext' hx4).ext' hx5);have HN:=ah (ak (aI n4 hx5) n5);have yS:=ah hs5;have kM:=ah (((hx2.trans hx3).trans hx4).trans hx5);have ayD:w.heap.size<=w1:=gK.o.size;have hw2:w.heap.size<=W2:=hx2.size;clear hB n3 n4 n5 an7 hx3 hx4 hx5 hW3 rH yR hs3 hs4 hs5 hx2;refine⟨trivial,?_⟩;refine tI (bM.2 HB.o) ?_;rintro w' rfl;gi_wp2;have h1:1<=4:=aq;refine wpIn_rangeFunc_ownH (w0:=W5) rfl h1 (gf:=357) (lb:= #[.pointer (some ⟨W2+2,0,none⟩)]) rfl trivial (enters_of func357 ax rfl)
  (FP (W2+2) _ xs aq W5 (λk=>k<w.heap.size\/k=W2.heap.size+2) (by rw[yS.o];omega) (.inr rfl) (aG HN.o.2 0) (HV.o.ext kM.o) (λb o c' e h0=> .inl (N7.o b o c' e h0)))
  Gv (λW l o o' hl _ _ _=>⟨rfl,rfl,rfl,aE,λk hk=>World.putObj_heap_other (λe=>by have:=yS.o;omega)⟩) (Below.refl _ _) (λ_=>rfl)
  (λpre W=>(∃u far,LK w W2 u w1 (Ql xs pre).1 (Ql xs pre).2 far W/\0<=far/\far<=pre.length)/\W.heap[W2.heap.size+1]?=some (.cells #[.pointer (some W2)] 345 (0,0))/\W.heap[W2.heap.size+2]?=some (.cells #[.slice a xs c] 215 (0,0)))
  (λ_ _ _=>False)
  (λs A B row hs hg hr=> ?hI1)
  (λ_ _ _ _ _ hs _ _=>hs)
  ⟨⟨_,0,HL5.o,Int.le_refl _,aE⟩,HN.o.1,HN.o.2⟩
  (λx a' W=>∃Bx,W2.heap.size+3<=Bx/\W.heap[Bx]?=some (.cells #[.int .u16 (xs[x].c:Int),.int .u32 (xs[x].k:Int),.int .i64 xs[x].th,.int .i64 xs[x].el] 407 (0,0))/\
   a'= {tmps:= #[.slice a xs c,undef,.pointer none,.bool false,.pointer (some ⟨W2+1,0,none⟩),.int .i64 ((x:Nat):Int),.pointer (some Bx),.slice a xs c,.bool true,.bool false,.slice a xs c,.int .i64 xs.length,
    .slice (some w1) xs xs.length,.agg #[.slice none 0 0,.slice (some w1) xs xs.length,.int .i64 0],.pointer (some W2),.slice a xs c,
    .func (.func 357) #[] #[.pointer (some ⟨W2+2,0,none⟩)],.int .i64 ((x:Nat):Int),zh xs[x],undef,undef,undef,undef,undef,undef,undef,undef,undef,undef,undef,undef,undef,undef,undef],defers:= []})
  (λx a' _ X Y row hs hg hr=> ?hI2)
  ?assign ?body ?done ?stop
 case hI1=>
  obtain⟨⟨u,far,h1,h2,h3⟩,h4,h5⟩:=hs;have hr2:=λr e=>(hr r e).2
  exact⟨⟨u,far,h1.row hg hr2 (λk e=>by have:=(hr k e).1;have:=yS.o;omega),h2,h3⟩,iY h4 hg hr2,iY h5 hg hr2⟩
 case hI2=>exact sx
 case assign=>rintro l pre x W K ⟨⟨u,far,h1,h2,h3⟩,h4,h5⟩ hK;have hsz:=(aB.1 h5).1;have hwz:=h1.ext.size;unfold zh;gi_wp2;have hst:=(aB.1 h5).1;exact hK _ _ ((KeepsOthers.alloc _ _).from _) (Keep.of_below ((Below.refl W W).alloc (aD _) _) (λk hk=>by rcases hk with hk|hk<;>omega)) ⟨⟨u,far,h1.ext' ((aj _).alloc _),h2,h3⟩,aI h4 ((aj _).alloc _),aI h5 ((aj _).alloc _)⟩ ⟨W.heap.size,aq,aC W _,rfl⟩
 case body=>
  rintro l pre x a' W hl ⟨r,hr⟩ ⟨⟨u,far,h1,h2,h3⟩,h4,h5⟩ ⟨Bx,hBx,bX,rfl⟩ hlt;obtain⟨q,hq⟩:=x;simp only[Fin.getElem_fin]at bX⊢;obtain⟨hi1,hi2,hi3⟩:=age xs pre;have hsn:=Qk xs pre ⟨q,hq⟩;have hone:=YW h1 xs[q] aq h2 aq (ai3 (jO.jZ HM.o hq) hi1 hi3);obtain⟨⟨b0,b1,b2,b3⟩,-⟩:=pO bX;have cK:=aG h4 0
  change W.cell? ⟨W2+1,0,none⟩=some _ at cK
  unfold Ew at hsn;dsimp only at hsn;obtain⟨bk,hbk⟩:∃bk,bk=(Ql xs pre).1:=⟨_,rfl⟩;obtain⟨pl,hpl⟩:∃pl,pl=(Ql xs pre).2:=⟨_,rfl⟩;rw[<-hbk]at h1 hone hsn hi2 hi3;rw[<-hpl]at h1 hone hsn hi1 hi3;obtain⟨z,hz⟩:∃z,z=xs[q]:=⟨_,rfl⟩;simp only[<-hz]at bX b0 b1 b2 b3 hone hsn⊢;clear hz hbk hpl;have apU:=ah hone;have HSN:=ah hsn;have H0:=ah (ak h4 (ak h5 h1));have hlp:=Il (EI bk.length pl) z;have ap1:=ah (ak h2 h3);clear hone hsn h1 h2 h3 h4 h5 bX hi3 hr;unfold zh at apU;unfold zh;gi_wp2_with(refine⟨trivial,?_⟩;refine tI (CallsIn.inRound l (bM.2 apU.o)) ?_;rintro w2 ⟨v',far',hlk,htk,hf1,hf2⟩;have S6:=ah (ak hlk htk);have cK2:=aG (htk.blk H0.o.1 (.inr rfl)) 0;change w2.cell? ⟨W2+1,0,none⟩=some _ at cK2;clear hlk htk);obtain⟨au,cu,rfl⟩:=bU S6.o.1.own;have c0:w2.cell? W2=some (.slice au (bk++(lJ (EI bk.length pl) z).reverse).length cu):=aG S6.o.1.box 0;have c1:w2.cell? ⟨W2,1,none⟩=some (.slice (some w1) pl.length pl.length):=aG S6.o.1.box 1;have c2:=AX S6.o.1.pls (show q<pl.length from aq);have f2:=aP S6.o.1.pls q;have hset:=S6.o.1.placed q (bk++(lJ (EI bk.length pl) z).reverse).length;obtain⟨bk2,hbk2⟩:∃bk2,bk2=bk++(lJ (EI bk.length pl) z).reverse:=⟨_,rfl⟩;rw[<-hbk2]at c0 hset HSN S6;have aha:=ah hset;have ar9:bk2.length<=1000000:=by rw[hbk2];simp;omega
  clear hset hbk2;have c0x:=nV c0;have c1x:=nV c1;have cKx:=nV cK2;have zq:(q:Int)<pl:=aq;refine vH 11 (λX=>∃x:XW w2,X=x.w) ax ?_;have hS0:∃x:XW w2,w2.drew=x.w:=⟨⟨w2.drew,(aj w2).drew⟩,rfl⟩;refine ai 0 rfl hS0 ?_;refine ai 1 rfl hS0 ?_;refine ai 2 rfl hS0 ?_;refine ai 3 rfl hS0 ?_;refine ai 4 rfl hS0 ?_;refine ai 5 rfl hS0 ?_;refine ai 6 rfl hS0 ?_;refine ai 7 rfl hS0 ?_;refine ai 8 rfl hS0 ?_;refine ai 9 rfl hS0 ?_;refine ai 10 rfl hS0 ?_;refine jP 11 ax rfl (λK hK=> ?_);go_simp;refine hK _ _ (λh=>absurd rfl h) ?_;clear hK K;refine yV ax ?_;dsimp only[V.Calm,Exit.then];have t1:TK w tyM W ((w2.setCell ⟨w1,q,none⟩ (.int .i64 bk2)).drew):=(aiu S6.o.2).trans (aha.o.2.trans (TK.drew _));have hw0:=H0.o.2.2.ext.size;have hwW:=(aB.1 H0.o.2.1).1;refine⟨t1.ko.from _,t1.keep (λk hk=> ?_),⟨_,far',by rw[HSN.o];exact aha.o.1.ext' (aj _).drew,by have:=ap1.o.1;omega,by have:=ap1.o.2;simp;omega⟩,t1.blk H0.o.1 (.inr rfl),t1.blk H0.o.2.1 (.inr rfl)⟩;rcases hk with hk|hk
  ·have hk2:k<W:=aq;exact⟨_,dL hk2,.inl hk⟩
  ·subst hk;exact⟨_,H0.o.2.1,.inr (λcs t fr e=>by cases e;rfl)⟩
 case done=>
  rintro D ys W hD rfl ⟨⟨u,far,h1,h2,h3⟩,h4,h5⟩ hK;rw[Qj HM.o xs (aD _),Nat.sub_self]at h1;have cK:=aG h4 0
  change W.cell? ⟨W2+1,0,none⟩=some _ at cK
  have H1:=ah h1;clear h1 h4 h5;gi_wp2;refine⟨aE,.inl ⟨_,_,rfl,run_takeDeferred hK,?_⟩⟩;refine⟨_,i5 (t:=2) (u:=3) rfl _ _ _,?_⟩;refine⟨W2.heap.size,rfl,u,w1.heap.size,List.replicate 0 0++Zm xs 0,far,?_⟩;exact H1.o.row (grownBy_putObj' _ D (.deferred none)) (λr e=>by cases e;exact⟨_,hK,rfl⟩) (λr e=>by cases e;have:=yS.o;omega)
 case stop=>exact mx
end LT
end Go.Proofs.YtopfefhenfineaaGreat
namespace Go.Proofs.YtopfefhenfineaaGreat
open Go.Proofs.Tryz Go.RowKit Go.Shelf V
attribute[local go_sem] Oper.semAt_some
namespace LT
open jO (Sy RO gB eH iM iw jk gF gJ)
theorem Vs(v:aA)(xs:List Sy)(hm:iw xs=true)(w:ay)(hv:Rd w 4 gB v xs):Calls prog 176 #[v] w λe w'=>Ext w w'/\if (mq xs).length<=4096 then∃u,e= .returned (.tuple #[u,.int .i64 0])/\w'.ownsRow w 173 4 u (mq xs).length ((mq xs).flatMap jS)else e= .returned (.tuple #[.slice none 0 0,.int .i64 270]):=by
 have hlen:=uj hm;have hll:=Qn hm;have hL:=Nb v xs hm w hv;obtain⟨R,hR⟩:∃R,R=(mq xs).reverse:=⟨_,rfl⟩;have hRl:R.length=(mq xs).length:=by rw[hR,List.length_reverse]
 have hRr:R.reverse=mq xs:=by rw[hR,List.reverse_reverse]
 rw[<-hR]at hL;rw[<-hRl,<-hRr];rw[<-hRl]at hll;clear hR hRl hRr;obtain⟨a,c,rfl,-,-⟩:=gJ hv;have HL:=ah hL;clear hL hv hm;by_cases hb:R.length<=4096
 ·simp only[aV hb];go_in;go_wp2_with fail;refine HL.o.mono ?_;rintro e w1 ⟨B,u,g,pl,far,rfl,hlk⟩;obtain⟨au,cu,rfl⟩:=bU hlk.own;have c0:w1.cell? B=some (.slice au R cu):=aG hlk.box 0;have hz:¬((4096:Int)<R):=aq;have zR:=aax w _ R aq w1 hlk.own;have HK:=ah hlk;have XP:=ah zR;clear hlk zR;go_wp2_with fail;refine ap XP.o ?_;rintro w2 ⟨ho,ht⟩;have c02:w2.cell? B=some (.slice au R cu):=aG (ht.blk HK.o.box (.inr rfl)) 0;have HO:=ah (ak ho (ht.lX HK.o.ext (aD _)));clear ho ht;go_wp2_with fail;refine aM (i5 rfl _ _ _) rfl ?_;refine⟨HO.o.2,_,rfl,?_⟩;exact HO.o.1
 ·simp only[aN hb];go_in;go_wp2_with fail;refine HL.o.mono ?_;rintro e w1 ⟨B,u,g,pl,far,rfl,hlk⟩;obtain⟨au,cu,rfl⟩:=bU hlk.own;have c0:w1.cell? B=some (.slice au R cu):=aG hlk.box 0;have hz:(4096:Int)<R:=aq;have HK:=ah hlk;clear hlk;go_wp2_with fail;refine aM (i5 rfl _ _ _) rfl ?_;exact⟨HK.o.ext,rfl⟩
end LT
variable{zP:Prop}
def mL(h:zP:=by go_in;go_wp2_with fail;refine aM (i5 rfl _ _ _) rfl ?_;exact kq):zP:=h
def gt(h:zP:=by
 have HB:=ah hb;have a0:=aG hb 0;have a1:=aG hb 1;have a2:=aG hb 2;have a3:=aG hb 3;have a4:=aG hb 4;have a5:=aG hb 5
 change W.cell? wb=some c0 at a0
 change W.cell? ⟨wb,1,none⟩=some c1 at a1
 change W.cell? ⟨wb,2,none⟩=some c2 at a2
 change W.cell? ⟨wb,3,none⟩=some c3 at a3
 change W.cell? ⟨wb,4,none⟩=some c4 at a4
 change W.cell? ⟨wb,5,none⟩=some c5 at a5
 have HIN:=ah hin;clear hb hin;go_in;go_wp2_with fail;refine HIN.o.mono ?_;rintro e w1 ⟨a,n,c,er,rfl,hx,hp⟩;have hb1:=HB.o.ext hx;have f0:=λj=>aP hb1 j
 have f1:=f0 0;have f2:=f0 1;have f3:=f0 2;have f4:=f0 3;have f5:=f0 4;have f6:=f0 5;have b0:=hx.cell a0;have b1:=hx.cell a1;have b2:=hx.cell a2;have b3:=hx.cell a3;have b4:=hx.cell a4;have b5:=hx.cell a5;have HX:=ah hx;have HP:=ah hp;clear hx hp f0 hb1;go_wp2_with fail;go_ret;exact⟨a,n,c,er,w1,rfl,HX.o,HP.o,rfl⟩):zP:=h
namespace LT
variable{W W':ay}{c0 c1 c2 c3 c4 c5:aA}{wb:Nat}
def Vl(W:ay)(wb:Nat)(c0 c1 c2 c3 c4 c5:aA):Prop:=W.heap[wb]?=some (.cells #[c0,c1,c2,c3,c4,c5] 217 (0,0))
def Vl.ext(h:Vl W wb c0 c1 c2 c3 c4 c5)(hx:Ext W W'):Vl W' wb c0 c1 c2 c3 c4 c5:=aI h hx
theorem JZ(hb:Vl W wb c0 c1 c2 c3 c4 c5)(Post:aA->Int->ay->Prop)(hin:Calls prog 176 #[c4] W λe w'=>∃a n c er,e= .returned (.tuple #[.slice a n c,.int .i64 er])/\Ext W w'/\Post (.slice a n c) er w'):Calls prog 125 #[.pointer (some wb)] W λe w''=>∃a n c er w',e= .returned (.int .i64 er)/\Ext W w'/\Post (.slice a n c) er w'/\w''=w'.setCell ⟨wb,5,none⟩ (.slice a n c):=by exact gt
theorem J0(hb:Vl W wb c0 c1 c2 c3 c4 c5)(Post:aA->Int->ay->Prop)(hin:Calls prog 177 #[c4] W λe w'=>∃a n c er,e= .returned (.tuple #[.slice a n c,.int .i64 er])/\Ext W w'/\Post (.slice a n c) er w'):Calls prog 126 #[.pointer (some wb)] W λe w''=>∃a n c er w',e= .returned (.int .i64 er)/\Ext W w'/\Post (.slice a n c) er w'/\w''=w'.setCell ⟨wb,4,none⟩ (.slice a n c):=by exact gt
theorem Mg(hb:Vl W wb c0 c1 c2 c3 c4 c5)(Post:aA->Int->ay->Prop)(hin:Calls prog 175 #[c3] W λe w'=>∃a n c er,e= .returned (.tuple #[.slice a n c,.int .i64 er])/\Ext W w'/\Post (.slice a n c) er w'):Calls prog 124 #[.pointer (some wb)] W λe w''=>∃a n c er w',e= .returned (.int .i64 er)/\Ext W w'/\Post (.slice a n c) er w'/\w''=w'.setCell ⟨wb,4,none⟩ (.slice a n c):=by exact gt
theorem E7(hb:Vl W wb c0 c1 c2 c3 c4 c5)(Post:aA->Int->ay->Prop)(hin:Calls prog 178 #[.agg #[c0,c1,c2]] W λe w'=>∃a n c er,e= .returned (.tuple #[.slice a n c,.int .i64 er])/\Ext W w'/\Post (.slice a n c) er w'):Calls prog 128 #[.pointer (some wb)] W λe w''=>∃a n c er w',e= .returned (.int .i64 er)/\Ext W w'/\Post (.slice a n c) er w'/\w''=w'.setCell ⟨wb,4,none⟩ (.slice a n c):=by exact gt
theorem Bh(hb:Vl W wb c0 c1 c2 c3 c4 c5)(Post:Int->aA->Int->Int->ay->Prop)(hin:Calls prog 179 #[.agg #[c0,c1,c2]] W λe w'=>∃x a n c z er,e= .returned (.tuple #[.agg #[.int .i64 x,.slice a n c,.int .u32 z],.int .i64 er])/\Ext W w'/\Post x (.slice a n c) z er w'):Calls prog 129 #[.pointer (some wb)] W λe w''=>∃x a n c z er w',e= .returned (.int .i64 er)/\Ext W w'/\Post x (.slice a n c) z er w'/\w''=((w'.setCell wb (.int .i64 x)).setCell ⟨wb,1,none⟩ (.slice a n c)).setCell ⟨wb,2,none⟩ (.int .u32 z):=by
 have HB:=ah hb;have a0:=aG hb 0;have a1:=aG hb 1;have a2:=aG hb 2;have a3:=aG hb 3;have a4:=aG hb 4;have a5:=aG hb 5
 change W.cell? wb=some c0 at a0
 change W.cell? ⟨wb,1,none⟩=some c1 at a1
 change W.cell? ⟨wb,2,none⟩=some c2 at a2
 change W.cell? ⟨wb,3,none⟩=some c3 at a3
 change W.cell? ⟨wb,4,none⟩=some c4 at a4
 change W.cell? ⟨wb,5,none⟩=some c5 at a5
 have HIN:=ah hin;clear hb hin;go_in;go_wp2_with fail;refine HIN.o.mono ?_;rintro e w1 ⟨x,a,n,c,z,er,rfl,hx,hp⟩;have hb1:=HB.o.ext hx;have f0:=λj=>aP hb1 j
 have f1:=f0 0;have f2:=f0 1;have f3:=f0 2;have f4:=f0 3;have f5:=f0 4;have f6:=f0 5;have b0:=hx.cell a0;have b1:=hx.cell a1;have b2:=hx.cell a2;have b3:=hx.cell a3;have b4:=hx.cell a4;have b5:=hx.cell a5;have HX:=ah hx;have HP:=ah hp;clear hx hp f0 hb1;go_wp2_with fail;go_ret;exact⟨x,a,n,c,z,er,w1,rfl,HX.o,HP.o,rfl⟩
theorem uL(wb B n:Nat)(fs:Nat->Nat)(hn:n<=10)(J:Nat->ay->Prop)(Bad:Int->ay->Prop)(eg:∀k<n,∀args w,(callFunc (fs k) args).run prog w= .ok (.enter (fs k) args) w)(hJ:∀k W,J k W->∀j<n,W.cell? ⟨B,j,none⟩=some (.func (.func (fs j)) #[.pointer (some wb)] #[]))(hend:∀W,J n W->∃p,W.cell? ⟨wb,5,none⟩=some p)(hst:∀k W,k<n->J k W->Calls prog (fs k) #[.pointer (some wb)] W λe W'=>(∃er,er≠0/\e= .returned (.int .i64 er)/\Bad er W')\/(e= .returned (.int .i64 0)/\J (k+1) W'))(w:ay)(h0:J 0 w):Calls prog 123 #[.pointer (some wb),.slice (some B) n n] w λe w'=>(∃er,er≠0/\e= .returned (.tuple #[.slice none 0 0,.int .i64 er])/\Bad er w')\/(∃p,e= .returned (.tuple #[p,.int .i64 0])/\J n w'/\w'.cell? ⟨wb,5,none⟩=some p):=by
 have HEG:=ah eg;have HJ:=ah hJ;have HEN:=ah hend;have HST:=ah hst;have H0:=ah h0;clear eg hJ hend hst h0;go_in;go_wp2_with fail;go_loopw [11] (λi wr=>∃k:Nat,k<=n/\i= .int .i64 k/\J k wr) (λi _=>n-(intOf i).toNat)
 case atStart=>exact⟨0,aq,rfl,H0.o⟩
 case round=>
  obtain⟨k,hk,rfl,hj⟩:=hrel;by_cases hlt:k<n
  ·have c0:=HJ.o k wr hj k hlt;have hs:=HST.o k wr hlt hj;have eg:=HEG.o k hlt;have HS:=ah hs;clear hs hj;generalize fs k=g at *;go_wp2_with fail;refine HS.o.mono ?_;rintro e w5 (⟨er,hne,rfl,hbad⟩|⟨rfl,hj5⟩)
   ·have hz:(er !=0)=true:=by simpa using hne
    have HB:=ah (ak hne hbad);clear hne hbad;go_wp2_with fail;refine aM (i5 rfl _ _ _) rfl ?_;exact .inl ⟨er,HB.o.1,rfl,HB.o.2⟩
   ·have H5:=ah hj5;clear hj5;go_wp2_with fail;go_roundw
    case rel=>exact⟨k+1,aq,bm,H5.o⟩
    case measure=>exact gO
  ·obtain rfl:k=n:=aq;obtain⟨p,hp⟩:=HEN.o wr hj;have H:=ah hj;clear hj;go_wp2_with fail;refine aM (i5 rfl _ _ _) rfl ?_;exact .inr ⟨p,rfl,H.o,hp⟩
theorem vI(a b:Option Addr)(m n c d:Nat)(e f:Int)(w:ay):Calls prog 127 #[.slice a m c,.int .i64 e,.slice b n d,.int .i64 f] w λr w'=>r= .returned (if f≠0\/(e=0/\m<n)then .tuple #[.slice a m c,.int .i64 e]else .tuple #[.slice b n d,.int .i64 f])/\Ext w w':=by
 by_cases hf:f=0
 ·subst hf;by_cases he:e=0
  ·subst he;by_cases hmn:m<n
   ·have h1:(m:Int)<n:=aq;rw[aV (.inr ⟨rfl,hmn⟩)];exact mL
   ·have h1:¬(m:Int)<n:=aq;rw[aN aq];exact mL
  ·have hz:(e==0)=false:=by rw[bK];exact he
   rw[aN (by simp[he])];exact mL
 ·have hz:(f !=0)=true:=by simpa using hf
  rw[aV (.inl hf)];exact mL
end LT
def rm(h:zP:=by exact .inl ⟨210,az,rfl,⟨.inl rfl,λs=>by rw[hs s]at hm;cases hm⟩,h5.ext,h5.x⟩):zP:=h
def qv(h:zP:=by rintro e w' ⟨v,rfl,hx,h2⟩;obtain⟨a,c,rfl,-,-⟩:=gJ h2;exact⟨a,_,c,0,rfl,hx,rfl,h2⟩):zP:=h
def pi(h:zP:=by rintro e w'' ⟨a,n,c,er,w',rfl,hx,⟨rfl,h2⟩,rfl⟩;exact .inr ⟨rfl,_,(h.ext' hx).TA (j6 a n c),Hg U2 (h.ext' hx).wk h.no h2 _ _⟩):zP:=h
def fw(h:zP:=by exact h.lo):zP:=h
namespace LT
open jO (Sy RO gB eH iM iw jk gF gJ Dat EU)
open lC (Test Rule Filter yJ XG Gc FV kU zG qL pV mH uy Dw uN Ay Az)
open mJ (JL kH most Q9)
open mV (SS)
def J8(f:Filter):List Sy:=(JL f (kH f)).map SS.fin
structure DS where
 cf:Filter->Prop
 cr:List Sy->Prop
 sm:Prop
 hn:∀f,kU f=true->cf f->cf (zG f)
 hr:∀f,yJ f->kU f=true->cf f->cr (J8 f)
 ho:∀r,iw r=true->cr r->cr (vM r)
structure DU(D:DS)(r:List Sy):Prop where
 may:iw r=true
 k:∀s∈r,s.k<4294967296
 of:D.cr r
 sm:D.sm->r.length<=1000
def Jr(D:DS)(p:List Ix):Prop:=TW p=true/\p.length<=4096/\∃r,D.cr r/\p=mq r
def DU.opt{D:DS}{r:List Sy}(h:DU D r):DU D (vM r):=⟨afK h.may,am3 h.may h.k,D.ho _ h.may h.of,λs=>aL (Wv h.may) (h.sm s)⟩
def DU.link{D:DS}{r:List Sy}(h:DU D r)(hl:(mq r).length<=4096):Jr D (mq r):=⟨agf h.may h.k,hl,r,h.of,rfl⟩
def afp{f:Filter}(D:DS)(hD:D.cf f)(hP:D.sm->most f.rules<=900)(hf:yJ f)(hm:kU f=true):DU D (J8 f):=by obtain⟨h1,h2,-⟩:=mJ.U4 hf hm;exact⟨h1,λs hs=>(h2 s hs).k,D.hr _ hf hm hD,λs=>aL (Q9 hf hm) (by have:=hP s;omega)⟩
inductive CG (m:Nat->Bool):List Sy->Prop
 |base:CG m (kN.nN m)
 |opt {r:List Sy}:CG m r->CG m (vM r)
inductive CF (f:Filter):Filter->Prop
 |base:CF f f
 |norm {g:Filter}:CF f g->CF f (zG g)
inductive CR (f:Filter):List Sy->Prop
 |row {g:Filter}:CF f g->CR f (J8 g)
 |opt {r:List Sy}:CR f r->CR f (vM r)
def DG(m:Nat->Bool):DS:=⟨λ_=>False,CG m,True,λ_ _ h=>h,λ_ _ _ h=>h.elim,λ_ _ h=> .opt h⟩
def DF(f:Filter)(P:Prop):DS:=⟨CF f,CR f,P,λ_ _ h=> .norm h,λ_ _ _ h=> .row h,λ_ _ h=> .opt h⟩
def ac9(m:Nat->Bool):DU (DG m) (kN.nN m):=⟨(kN.IK m).1,λs hs=>(kN.ZK m s hs).k,.base,λ_=>aL (kN.IK m).2 az⟩
def agL{r:Rule}(h:XG r):XG (pV r):=by
 have hl:(pV r).tests.length<=r.tests.length:=by have:=uy r.tests r.action;show(uN (mH r.tests r.action).1 _).length<=_;unfold uN;rw[bC];omega
 refine⟨h.n,?_,aL hl h.l,λt ht=>h.t t (lC.Ia ht).1⟩;show(mH r.tests r.action).2<_;rcases Dw r.tests r.action with e|⟨t,ht,e⟩
 ·rw[e];exact h.x
 ·rw[e];exact(h.t t ht).x
def akC{f:Filter}(h:yJ f):yJ (zG f):=by refine⟨h.a1,h.a2,h.d,aL (Ay _ _) h.l,λr hr=> ?_⟩;obtain⟨h5,-⟩:=List.mem_filter.1 hr;obtain⟨s,hs,rfl⟩:=dW.1 h5;exact agL (h.r s hs)
def XI(v:aA):Prop:= ∀c,v≠ .int .u16 c
def G4{W:ay}{p q:Addr}{u:aA}(h:q.block≠p.block):(W.setCell p u).cell? q=W.cell? q:=by unfold World.cell?;rw[aX _ _ _ _ h]
def Hg{α:Type}{n:Nat}{enc:α->List aA}(henc:∀x,∃(c:Int)(r:List aA),enc x= .int .u16 c::r){W:ay}{wb:Nat}{c0 c1 c2 c3 c4 c5:aA}(hb:Vl W wb c0 c1 c2 c3 c4 c5)(hc:∀v∈[c0,c1,c2,c3,c4,c5],XI v){v:aA}{xs:List α}(h:Rd W n enc v xs)(j:Nat)(u:aA):Rd (W.setCell ⟨wb,j,none⟩ u) n enc v xs:=by
 obtain⟨a,c,h1,h2,h3,h4⟩:=h;refine⟨a,c,h1,h2,h3,λi hi=> ?_⟩;obtain⟨b,o,e,k⟩:=h4 i hi;refine⟨b,o,e,λm hm=> ?_⟩;obtain⟨cc,r,he⟩:=henc xs[i];have hne:b≠wb:=λe2=>by
  subst e2;have k0:=k 0 (by rw[he];simp);simp only[he,jc]at k0;have hbb:=aG hb (o+i*n);rw[iB]at k0;rw[k0]at hbb;have hm2:Value.int .u16 cc∈[c0,c1,c2,c3,c4,c5]:=by have:=List.mem_of_getElem? (l:= [c0,c1,c2,c3,c4,c5]) (i:=o+i*n) (by simpa using hbb.symm);exact this
  exact hc _ hm2 cc rfl
 rw[G4 hne];exact k m hm
def U2(s:Sy):∃(c:Int)(r:List aA),gB s= .int .u16 c::r:=⟨_,_,rfl⟩
def fsA(fs:List Nat)(wb:Nat):Array aA:=(fs.map λf=>Value.func (.func f) #[.pointer (some wb)] #[]).toArray
structure Kp(wb:Nat)(X:ay->Prop):Prop where
 e:∀W W',Ext W W'->X W->X W'
 s:∀W j u c0 c1 c2 c3 c4 c5,Vl W wb c0 c1 c2 c3 c4 c5->(∀v∈[c0,c1,c2,c3,c4,c5],XI v)->X W->X (W.setCell ⟨wb,j,none⟩ u)
structure WJ(w0:ay)(wb B:Nat)(fs:List Nat)(X:ay->Prop)(c0 c1 c2 c3 c4 c5:aA)(W:ay):Prop where
 ext:Ext w0 W
 lo:w0.heap.size<=wb
 ne:B≠wb
 kp:Kp wb X
 wk:Vl W wb c0 c1 c2 c3 c4 c5
 no:∀v∈[c0,c1,c2,c3,c4,c5],XI v
 fs:W.heap[B]?=some (.cells (fsA fs wb) 219 (0,0))
 x:X W
def WJ.ext'{w0:ay}{wb B:Nat}{fs:List Nat}{X:ay->Prop}{c0 c1 c2 c3 c4 c5:aA}{W W':ay}(h:WJ w0 wb B fs X c0 c1 c2 c3 c4 c5 W)(hx:Ext W W'):WJ w0 wb B fs X c0 c1 c2 c3 c4 c5 W':=
 ⟨h.ext.trans hx,h.lo,h.ne,h.kp,h.wk.ext hx,h.no,aI h.fs hx,h.kp.e _ _ hx h.x⟩
variable {w0:ay} {wb B:Nat} {fs:List Nat} {X:ay->Prop} {c0 c1 c2 c3 c4 c5:aA} {W:ay}
def j6(a:Option Addr)(n c:Nat):XI (.slice a n c):=λ_ e=>by cases e
def WJ.arm(h:WJ w0 wb B fs X c0 c1 c2 c3 c4 c5 W){u:aA}(hu:XI u):WJ w0 wb B fs X c0 c1 c2 c3 c4 u (W.setCell ⟨wb,5,none⟩ u):=
 ⟨h.ext.setCell fw _,h.lo,h.ne,h.kp,eX h.wk 5 u,(λv hv=>by have:=h.no;simp only[dF,List.not_mem_nil,or_false]at hv this;rcases hv with rfl|rfl|rfl|rfl|rfl|rfl<;>first|exact hu|exact this _ aE),(aX _ _ _ _ h.ne).trans h.fs,h.kp.s _ _ _ _ _ _ _ _ _ h.wk h.no h.x⟩
def WJ.TA(h:WJ w0 wb B fs X c0 c1 c2 c3 c4 c5 W){u:aA}(hu:XI u):WJ w0 wb B fs X c0 c1 c2 c3 u c5 (W.setCell ⟨wb,4,none⟩ u):=
 ⟨h.ext.setCell fw _,h.lo,h.ne,h.kp,eX h.wk 4 u,(λv hv=>by have:=h.no;simp only[dF,List.not_mem_nil,or_false]at hv this;rcases hv with rfl|rfl|rfl|rfl|rfl|rfl<;>first|exact hu|exact this _ aE),(aX _ _ _ _ h.ne).trans h.fs,h.kp.s _ _ _ _ _ _ _ _ _ h.wk h.no h.x⟩
def WJ.set0(h:WJ w0 wb B fs X c0 c1 c2 c3 c4 c5 W){u:aA}(hu:XI u):WJ w0 wb B fs X u c1 c2 c3 c4 c5 (W.setCell wb u):=
 ⟨h.ext.setCell fw _,h.lo,h.ne,h.kp,eX h.wk 0 u,(λv hv=>by have:=h.no;simp only[dF,List.not_mem_nil,or_false]at hv this;rcases hv with rfl|rfl|rfl|rfl|rfl|rfl<;>first|exact hu|exact this _ aE),(aX _ _ _ _ h.ne).trans h.fs,h.kp.s _ _ _ _ _ _ _ _ _ h.wk h.no h.x⟩
def WJ.set1(h:WJ w0 wb B fs X c0 c1 c2 c3 c4 c5 W){u:aA}(hu:XI u):WJ w0 wb B fs X c0 u c2 c3 c4 c5 (W.setCell ⟨wb,1,none⟩ u):=
 ⟨h.ext.setCell fw _,h.lo,h.ne,h.kp,eX h.wk 1 u,(λv hv=>by have:=h.no;simp only[dF,List.not_mem_nil,or_false]at hv this;rcases hv with rfl|rfl|rfl|rfl|rfl|rfl<;>first|exact hu|exact this _ aE),(aX _ _ _ _ h.ne).trans h.fs,h.kp.s _ _ _ _ _ _ _ _ _ h.wk h.no h.x⟩
def WJ.set2(h:WJ w0 wb B fs X c0 c1 c2 c3 c4 c5 W){u:aA}(hu:XI u):WJ w0 wb B fs X c0 c1 u c3 c4 c5 (W.setCell ⟨wb,2,none⟩ u):=
 ⟨h.ext.setCell fw _,h.lo,h.ne,h.kp,eX h.wk 2 u,(λv hv=>by have:=h.no;simp only[dF,List.not_mem_nil,or_false]at hv this;rcases hv with rfl|rfl|rfl|rfl|rfl|rfl<;>first|exact hu|exact this _ aE),(aX _ _ _ _ h.ne).trans h.fs,h.kp.s _ _ _ _ _ _ _ _ _ h.wk h.no h.x⟩
def JG(w0:ay)(X:ay->Prop)(sm:Prop)(er:Int)(W:ay):Prop:=((er=210\/er=270)/\¬sm)/\Ext w0 W/\X W
variable {sm:Prop}
theorem Yr(h:WJ w0 wb B fs X c0 c1 c2 c3 c4 c5 W){row:List Sy}(hm:iw row=true)(hs:sm->row.length<=1000)(hr:Rd W 4 gB c4 row):Calls prog 125 #[.pointer (some wb)] W λe W'=>(∃er,er≠0/\e= .returned (.int .i64 er)/\JG w0 X sm er W')\/(e= .returned (.int .i64 0)/\∃v,WJ w0 wb B fs X c0 c1 c2 c3 c4 v W'/\W'.ownsRow 0 173 4 v (mq row).length ((mq row).flatMap jS)/\(mq row).length<=4096):=by
 refine(JZ h.wk (λu er w'=>(er=270/\¬sm)\/(er=0/\(mq row).length<=4096/\w'.ownsRow W 173 4 u (mq row).length ((mq row).flatMap jS))) ?_).mono ?_
 ·refine(Vs c4 row hm W hr).mono ?_;rintro e w' ⟨hx,h2⟩;split at h2
  ·rename_i hl;obtain⟨u,rfl,ho⟩:=h2;obtain⟨a,c,rfl⟩:=bU ho;exact⟨a,_,c,0,rfl,hx,.inr ⟨rfl,hl,ho⟩⟩
  ·rename_i hl;subst h2;exact⟨none,0,0,270,rfl,hx,.inl ⟨rfl,λs=>hl (aL (Qn hm) (by have:=hs s;omega))⟩⟩
 ·rintro e w'' ⟨a,n,c,er,w',rfl,hx,hp,rfl⟩;have h5:=(h.ext' hx).arm (j6 a n c);rcases hp with⟨rfl,hns⟩|⟨rfl,hl,ho⟩
  ·exact .inl ⟨270,az,rfl,⟨.inr rfl,hns⟩,h5.ext,h5.x⟩
  ·refine .inr ⟨rfl,_,h5,?_,hl⟩;have hwb:wb<W.heap.size:=(aB.1 h.wk).1;exact(lC.nk ho (by exact hwb) _).mono (bP _)
theorem Yt(h:WJ w0 wb B fs X c0 c1 c2 c3 c4 c5 W){row:List Sy}(hm:iw row=true)(hk:∀s∈row,s.k<4294967296)(hr:Rd W 4 gB c4 row):Calls prog 126 #[.pointer (some wb)] W λe W'=>(∃er,er≠0/\e= .returned (.int .i64 er)/\JG w0 X sm er W')\/(e= .returned (.int .i64 0)/\∃v,WJ w0 wb B fs X c0 c1 c2 c3 v c5 W'/\Rd W' 4 gB v (vM row)):=by
 refine(J0 h.wk (λu er w'=>er=0/\Rd w' 4 gB u (vM row)) ?_).mono ?_
 ·refine(aaA c4 row (by have:=uj hm;omega) hm hk W hr).mono ?_;rintro e w' ⟨a,c,rfl,hx,h2⟩;exact⟨a,_,c,0,rfl,hx,rfl,h2⟩
 ·exact pi
theorem afg{f:Filter}{u:aA}(hf:yJ f)(hs:sm->kU f=true)(h:WJ w0 wb B fs X (.int .i64 f.jh) u (.int .u32 f.dflt) c3 c4 c5 W)(hr:JO W 3 (FV W) u f.rules):Calls prog 128 #[.pointer (some wb)] W λe W'=>(∃er,er≠0/\e= .returned (.int .i64 er)/\JG w0 X sm er W')\/(e= .returned (.int .i64 0)/\kU f=true/\∃v,WJ w0 wb B fs X (.int .i64 f.jh) u (.int .u32 f.dflt) c3 v c5 W'/\Rd W' 4 gB v (J8 f)):=by
 cases hm:kU f
 ·refine(E7 h.wk (λu er w'=>er=210) ?_).mono ?_
  ·refine(mJ.aaU f u hf hm W hr).mono ?_;rintro e w' ⟨rfl,hx⟩;exact⟨none,0,0,210,rfl,hx,rfl⟩
  ·rintro e w'' ⟨a,n,c,er,w',rfl,hx,rfl,rfl⟩;have h5:=(h.ext' hx).TA (j6 a n c);exact rm
 ·refine(E7 h.wk (λu er w'=>er=0/\Rd w' 4 gB u (J8 f)) ?_).mono ?_
  ·refine(mJ.VJ f u hf hm W hr).mono ?_;exact qv
  ·rintro e w'' ⟨a,n,c,er,w',rfl,hx,⟨rfl,h2⟩,rfl⟩;exact .inr ⟨rfl,rfl,_,(h.ext' hx).TA (j6 a n c),Hg U2 (h.ext' hx).wk h.no h2 _ _⟩
theorem Yq{f:Filter}{u:aA}(hf:yJ f)(hs:sm->kU f=true)(hlr:∀r∈f.rules,r.tests.length<=1000)(h:WJ w0 wb B fs X (.int .i64 f.jh) u (.int .u32 f.dflt) c3 c4 c5 W)(hr:JO W 3 (FV W) u f.rules):Calls prog 129 #[.pointer (some wb)] W λe W'=>(∃er,er≠0/\e= .returned (.int .i64 er)/\JG w0 X sm er W')\/(e= .returned (.int .i64 0)/\kU f=true/\∃v,WJ w0 wb B fs X (.int .i64 f.jh) v (.int .u32 f.dflt) c3 c4 c5 W'/\JO W' 3 (FV W') v (zG f).rules):=by
 have hwb:wb<W.heap.size:=(aB.1 h.wk).1;cases hm:kU f
 ·refine(Bh h.wk (λx v z er w'=>er=210) ?_).mono ?_
  ·refine(lC.aaC f u hf hm W hr).mono ?_;rintro e w' ⟨rfl,hx⟩;exact⟨0,none,0,0,0,210,rfl,hx,rfl⟩
  ·rintro e w'' ⟨x,a,n,c,z,er,w',rfl,hx,rfl,rfl⟩;have h5:=(((h.ext' hx).set0 (u:= .int .i64 x) (λ_ e=>by cases e)).set1 (j6 a n c)).set2 (u:= .int .u32 z) (λ_ e=>by cases e);exact rm
 ·refine(Bh h.wk (λx v z er w'=>er=0/\x=f.jh/\z=(f.dflt:Int)/\∃ps:List lC.PR,ps.map lC.PR.r=qL f.dflt f.rules/\lC.RF w' W v ps) ?_).mono ?_
  ·refine(lC.Vr f u hf hlr hm W hr).mono ?_;rintro e w' ⟨a,c,ps,rfl,h1,h2,hx⟩;exact⟨_,a,_,c,_,0,rfl,hx,rfl,rfl,rfl,ps,h1,h2⟩
  ·rintro e w'' ⟨x,a,n,c,z,er,w',rfl,hx,⟨rfl,rfl,rfl,ps,h1,h2⟩,rfl⟩;have h5:=(((h.ext' hx).set0 (u:= .int .i64 f.jh) (λ_ e=>by cases e)).set1 (j6 a n c)).set2 (u:= .int .u32 f.dflt) (λ_ e=>by cases e);have h6:=((h2.set (q:=⟨wb,0,none⟩) hwb (.int .i64 f.jh)).set (q:=⟨wb,1,none⟩) hwb (.slice a n c)).set (q:=⟨wb,2,none⟩) hwb (.int .u32 f.dflt);refine .inr ⟨rfl,rfl,_,h5,?_⟩;have h7:=h6.rd;rw[h1]at h7;exact h7
theorem abu{ts:List Int}(h:WJ w0 wb B fs X c0 c1 c2 c3 c4 c5 W)(hl:ts.length<=1000)(hb:ts.any jO.wT=false)(hne:0<ts.length)(hr:Rd W 1 jO.encI c3 ts):Calls prog 124 #[.pointer (some wb)] W λe W'=>(∃er,er≠0/\e= .returned (.int .i64 er)/\JG w0 X sm er W')\/(e= .returned (.int .i64 0)/\∃v,WJ w0 wb B fs X c0 c1 c2 c3 v c5 W'/\Rd W' 4 gB v (kN.nN (kN.Ih ts))):=by
 refine(Mg h.wk (λu er w'=>er=0/\Rd w' 4 gB u (kN.nN (kN.Ih ts))) ?_).mono ?_
 ·refine(kN.Sv c3 ts hl hb hne W hr).mono ?_;exact qv
 ·exact pi
end LT
def vm(h:zP:=by exact enters_of func125 ax rfl):zP:=h
def ot(h:zP:=by intro W h;obtain⟨u,p,k1,-⟩:=PS.end h;exact⟨u,k1⟩):zP:=h
namespace LT
open jO (Sy RO gB eH iM iw jk gF gJ Dat EU wT encI jX)
open mJ (most)
open lC (qL pV uN mH uy Test Rule Filter yJ XG Gc FV kU zG Az p6 mQ)
variable {w0:ay} {wb B:Nat} {fs:List Nat} {X:ay->Prop} {W:ay} {D:DS} {f:Filter}
def FSx(w0:ay)(wb B:Nat)(fs:List Nat)(X:ay->Prop)(D:DS)(f:Filter)(W:ay):Prop:=
 ∃u c3 c4 c5,WJ w0 wb B fs X (.int .i64 f.jh) u (.int .u32 f.dflt) c3 c4 c5 W/\JO W 3 (FV W) u f.rules/\yJ f/\D.cf f/\(D.sm->kU f=true/\most f.rules<=900)
def RS(w0:ay)(wb B:Nat)(fs:List Nat)(X:ay->Prop)(D:DS)(W:ay):Prop:=
 ∃c0 c1 c2 c3 c4 c5 row,WJ w0 wb B fs X c0 c1 c2 c3 c4 c5 W/\DU D row/\Rd W 4 gB c4 row
def PS(w0:ay)(wb B:Nat)(fs:List Nat)(X:ay->Prop)(D:DS)(W:ay):Prop:=
 ∃c0 c1 c2 c3 c4 c5 p,WJ w0 wb B fs X c0 c1 c2 c3 c4 c5 W/\Jr D p/\W.ownsRow 0 173 4 c5 p.length (p.flatMap jS)
def GS(w0:ay)(wb B:Nat)(fs:List Nat)(X:ay->Prop)(ts:List Int)(W:ay):Prop:=
 ∃c0 c1 c2 c3 c4 c5,WJ w0 wb B fs X c0 c1 c2 c3 c4 c5 W/\Rd W 1 jO.encI c3 ts
def StR(w0:ay)(X:ay->Prop)(sm:Prop)(J:ay->Prop)(e:Ending)(W':ay):Prop:=(∃er,er≠0/\e= .returned (.int .i64 er)/\JG w0 X sm er W')\/(e= .returned (.int .i64 0)/\J W')
def Lm(df:Nat):∀rs:List Rule,most (qL df rs)<=most rs
 | []=>aD _
 |r::l=>by
  have ih:=Lm df l;have hl:(pV r).tests.length<=r.tests.length:=by have:=uy r.tests r.action;show(uN (mH r.tests r.action).1 _).length<=_;unfold uN;rw[bC];omega
  unfold qL at ih⊢;rw[bS,List.filter_cons];split<;>(simp only[most];omega)
theorem Am(h:RS w0 wb B fs X D W):Calls prog 125 #[.pointer (some wb)] W (StR w0 X D.sm (PS w0 wb B fs X D)):=by
 obtain⟨c0,c1,c2,c3,c4,c5,row,h1,h2,h3⟩:=h;refine(Yr h1 h2.may h2.sm h3).mono ?_;rintro e w' (h|⟨rfl,v,k1,k2,k3⟩)
 ·exact .inl h
 ·exact .inr ⟨rfl,_,_,_,_,_,_,_,k1,h2.link k3,k2⟩
theorem KY(h:RS w0 wb B fs X D W):Calls prog 126 #[.pointer (some wb)] W (StR w0 X D.sm (RS w0 wb B fs X D)):=by
 obtain⟨c0,c1,c2,c3,c4,c5,row,h1,h2,h3⟩:=h;refine(Yt (sm:=D.sm) h1 h2.may h2.k h3).mono ?_;rintro e w' (h|⟨rfl,v,k1,k2⟩)
 ·exact .inl h
 ·exact .inr ⟨rfl,_,_,_,_,_,_,_,k1,h2.opt,k2⟩
theorem Wm(h:FSx w0 wb B fs X D f W):Calls prog 128 #[.pointer (some wb)] W (StR w0 X D.sm (RS w0 wb B fs X D)):=by
 obtain⟨u,c3,c4,c5,h1,h2,h3,h4,h5⟩:=h;refine(afg h3 (λs=>(h5 s).1) h1 h2).mono ?_;rintro e w' (h|⟨rfl,hm,v,k1,k2⟩)
 ·exact .inl h
 ·have hr:DU D (J8 f):=afp D h4 (λs=>(h5 s).2) h3 hm;exact .inr ⟨rfl,_,_,_,_,_,_,_,k1,hr,k2⟩
theorem Yu(hlr:∀r∈f.rules,r.tests.length<=1000)(h:FSx w0 wb B fs X D f W):Calls prog 129 #[.pointer (some wb)] W (StR w0 X D.sm (FSx w0 wb B fs X D (zG f))):=by
 obtain⟨u,c3,c4,c5,h1,h2,h3,h4,h5⟩:=h;refine(Yq h3 (λs=>(h5 s).1) hlr h1 h2).mono ?_;rintro e w' (h|⟨rfl,hm,v,k1,k2⟩)
 ·exact .inl h
 ·exact .inr ⟨rfl,v,_,_,_,k1,k2,akC h3,D.hn _ hm h4,λs=>⟨Az hm,aL (Lm _ _) (h5 s).2⟩⟩
theorem OX{ts:List Int}(hl:ts.length<=1000)(hb:ts.any wT=false)(hne:0<ts.length)(h:GS w0 wb B fs X ts W):Calls prog 124 #[.pointer (some wb)] W (StR w0 X True (RS w0 wb B fs X (DG (kN.Ih ts)))):=by
 obtain⟨c0,c1,c2,c3,c4,c5,h1,h2⟩:=h;refine(abu (sm:=True) h1 hl hb hne h2).mono ?_;rintro e w' (h|⟨rfl,v,k1,k2⟩)
 ·exact .inl h
 ·exact .inr ⟨rfl,_,_,_,_,_,_,_,k1,ac9 _,k2⟩
def WJ.nQ{c0 c1 c2 c3 c4 c5:aA}(h:WJ w0 wb B fs X c0 c1 c2 c3 c4 c5 W)(j:Nat)(hj:j<fs):W.cell? ⟨B,j,none⟩=some (.func (.func (fs.getD j 0)) #[.pointer (some wb)] #[]):=by
 rw[aG h.fs];unfold fsA;rw[List.getElem?_toArray,List.getElem?_map,aJ hj,bQ,aJ hj]
 rfl
def FSx.nQ(h:FSx w0 wb B fs X D f W)(j:Nat)(hj:j<fs):W.cell? ⟨B,j,none⟩=some (.func (.func (fs.getD j 0)) #[.pointer (some wb)] #[]):=by obtain⟨_,_,_,_,h1,-⟩:=h;exact h1.nQ j hj
def RS.nQ(h:RS w0 wb B fs X D W)(j:Nat)(hj:j<fs):W.cell? ⟨B,j,none⟩=some (.func (.func (fs.getD j 0)) #[.pointer (some wb)] #[]):=by obtain⟨_,_,_,_,_,_,_,h1,-⟩:=h;exact h1.nQ j hj
def PS.nQ(h:PS w0 wb B fs X D W)(j:Nat)(hj:j<fs):W.cell? ⟨B,j,none⟩=some (.func (.func (fs.getD j 0)) #[.pointer (some wb)] #[]):=by obtain⟨_,_,_,_,_,_,_,h1,-⟩:=h;exact h1.nQ j hj
def GS.nQ{ts:List Int}(h:GS w0 wb B fs X ts W)(j:Nat)(hj:j<fs):W.cell? ⟨B,j,none⟩=some (.func (.func (fs.getD j 0)) #[.pointer (some wb)] #[]):=by obtain⟨_,_,_,_,_,_,h1,-⟩:=h;exact h1.nQ j hj
def PS.end(h:PS w0 wb B fs X D W):∃u p,W.cell? ⟨wb,5,none⟩=some u/\Jr D p/\W.ownsRow 0 173 4 u p.length (p.flatMap jS)/\Ext w0 W/\X W:=by obtain⟨_,_,_,_,_,_,p,h1,h2,h3⟩:=h;exact⟨_,p,aG h1.wk 5,h2,h3,h1.ext,h1.x⟩
def aav(w0:ay)(X:ay->Prop)(D:DS)(e:Ending)(w':ay):Prop:=
 Ext w0 w'/\X w'/\((∃er,((er=210\/er=270)/\¬D.sm)/\e= .returned (.tuple #[.slice none 0 0,.int .i64 er]))\/(∃u p,e= .returned (.tuple #[u,.int .i64 0])/\Jr D p/\w'.ownsRow 0 173 4 u p.length (p.flatMap jS)))
def Gq{n:Nat}{J:Nat->ay->Prop}(hJ:∀W,J n W->PS w0 wb B fs X D W){e:Ending}{w':ay}(h:(∃er,er≠0/\e= .returned (.tuple #[.slice none 0 0,.int .i64 er])/\JG w0 X D.sm er w')\/(∃p,e= .returned (.tuple #[p,.int .i64 0])/\J n w'/\w'.cell? ⟨wb,5,none⟩=some p)):aav w0 X D e w':=by
 rcases h with⟨er,-,rfl,h1,h2,h3⟩|⟨q,rfl,h1,h2⟩
 ·exact⟨h2,h3,.inl ⟨er,h1,rfl⟩⟩
 ·obtain⟨u,p,k1,k2,k3,k4,k5⟩:=(hJ _ h1).end;obtain rfl:u=q:=bV (k1.symm.trans h2);exact⟨k4,k5,.inr ⟨u,p,rfl,k2,k3⟩⟩
theorem Cy{w:ay}(h0:(FSx w0 wb B [128,125] X D f) w):Calls prog 123 #[.pointer (some wb),.slice (some B) 2 2] w (aav w0 X D):=by
 refine(uL wb B 2 (λk=>[128,125].getD k 0) az (λk W=>match k with|0=>(FSx w0 wb B [128,125] X D f) W|1=>(RS w0 wb B [128,125] X D) W|_=>(PS w0 wb B [128,125] X D) W) (JG w0 X D.sm) ?_ ?_ ?_ ?_ w h0).mono (λe w' h=>Gq (n:=2) (J:=λk W=>match k with|0=>(FSx w0 wb B [128,125] X D f) W|1=>(RS w0 wb B [128,125] X D) W|_=>(PS w0 wb B [128,125] X D) W) (λW h=>h) h)
 ·intro k hk
  match k,hk with
  |0,_=>exact enters_of func128 ax rfl
  |1,_=>exact vm
 ·intro k W h j hj
  match k,h with
  |0,h=>exact FSx.nQ (fs:= [128,125]) h j hj
  |1,h=>exact RS.nQ (fs:= [128,125]) h j hj
  |(_+2),h=>exact PS.nQ (fs:= [128,125]) h j hj
 ·exact ot
 ·intro k W hk h
  match k,hk,h with
  |0,_,h=>exact Wm h
  |1,_,h=>exact Am h
theorem Cx(hlr:∀r∈f.rules,r.tests.length<=1000){w:ay}(h0:(FSx w0 wb B [129,128,126,125] X D f) w):Calls prog 123 #[.pointer (some wb),.slice (some B) 4 4] w (aav w0 X D):=by
 refine(uL wb B 4 (λk=>[129,128,126,125].getD k 0) az (λk W=>match k with|0=>(FSx w0 wb B [129,128,126,125] X D f) W|1=>(FSx w0 wb B [129,128,126,125] X D (zG f)) W|2=>(RS w0 wb B [129,128,126,125] X D) W|3=>(RS w0 wb B [129,128,126,125] X D) W|_=>(PS w0 wb B [129,128,126,125] X D) W) (JG w0 X D.sm) ?_ ?_ ?_ ?_ w h0).mono (λe w' h=>Gq (n:=4) (J:=λk W=>match k with|0=>(FSx w0 wb B [129,128,126,125] X D f) W|1=>(FSx w0 wb B [129,128,126,125] X D (zG f)) W|2=>(RS w0 wb B [129,128,126,125] X D) W|3=>(RS w0 wb B [129,128,126,125] X D) W|_=>(PS w0 wb B [129,128,126,125] X D) W) (λW h=>h) h)
 ·intro k hk
  match k,hk with
  |0,_=>exact enters_of func129 ax rfl
  |1,_=>exact enters_of func128 ax rfl
  |2,_=>exact enters_of func126 ax rfl
  |3,_=>exact vm
 ·intro k W h j hj
  match k,h with
  |0,h=>exact FSx.nQ (fs:= [129,128,126,125]) h j hj
  |1,h=>exact FSx.nQ (fs:= [129,128,126,125]) h j hj
  |2,h=>exact RS.nQ (fs:= [129,128,126,125]) h j hj
  |3,h=>exact RS.nQ (fs:= [129,128,126,125]) h j hj
  |(_+4),h=>exact PS.nQ (fs:= [129,128,126,125]) h j hj
 ·exact ot
 ·intro k W hk h
  match k,hk,h with
  |0,_,h=>exact Yu hlr h
  |1,_,h=>exact Wm h
  |2,_,h=>exact KY h
  |3,_,h=>exact Am h
theorem MC{ts:List Int}(hl:ts.length<=1000)(hb:ts.any wT=false)(hne:0<ts.length){w:ay}(h0:(GS w0 wb B [124,125] X ts) w):Calls prog 123 #[.pointer (some wb),.slice (some B) 2 2] w (aav w0 X (DG (kN.Ih ts))):=by
 refine(uL wb B 2 (λk=>[124,125].getD k 0) az (λk W=>match k with|0=>(GS w0 wb B [124,125] X ts) W|1=>(RS w0 wb B [124,125] X (DG (kN.Ih ts))) W|_=>(PS w0 wb B [124,125] X (DG (kN.Ih ts))) W) (JG w0 X True) ?_ ?_ ?_ ?_ w h0).mono (λe w' h=>Gq (n:=2) (J:=λk W=>match k with|0=>(GS w0 wb B [124,125] X ts) W|1=>(RS w0 wb B [124,125] X (DG (kN.Ih ts))) W|_=>(PS w0 wb B [124,125] X (DG (kN.Ih ts))) W) (λW h=>h) h)
 ·intro k hk
  match k,hk with
  |0,_=>exact enters_of func124 ax rfl
  |1,_=>exact vm
 ·intro k W h j hj
  match k,h with
  |0,h=>exact GS.nQ (fs:= [124,125]) h j hj
  |1,h=>exact RS.nQ (fs:= [124,125]) h j hj
  |(_+2),h=>exact PS.nQ (fs:= [124,125]) h j hj
 ·exact ot
 ·intro k W hk h
  match k,hk,h with
  |0,_,h=>exact OX hl hb hne h
  |1,_,h=>exact Am h
theorem MB{ts:List Int}(hl:ts.length<=1000)(hb:ts.any wT=false)(hne:0<ts.length){w:ay}(h0:(GS w0 wb B [124,126,125] X ts) w):Calls prog 123 #[.pointer (some wb),.slice (some B) 3 3] w (aav w0 X (DG (kN.Ih ts))):=by
 refine(uL wb B 3 (λk=>[124,126,125].getD k 0) az (λk W=>match k with|0=>(GS w0 wb B [124,126,125] X ts) W|1=>(RS w0 wb B [124,126,125] X (DG (kN.Ih ts))) W|2=>(RS w0 wb B [124,126,125] X (DG (kN.Ih ts))) W|_=>(PS w0 wb B [124,126,125] X (DG (kN.Ih ts))) W) (JG w0 X True) ?_ ?_ ?_ ?_ w h0).mono (λe w' h=>Gq (n:=3) (J:=λk W=>match k with|0=>(GS w0 wb B [124,126,125] X ts) W|1=>(RS w0 wb B [124,126,125] X (DG (kN.Ih ts))) W|2=>(RS w0 wb B [124,126,125] X (DG (kN.Ih ts))) W|_=>(PS w0 wb B [124,126,125] X (DG (kN.Ih ts))) W) (λW h=>h) h)
 ·intro k hk
  match k,hk with
  |0,_=>exact enters_of func124 ax rfl
  |1,_=>exact enters_of func126 ax rfl
  |2,_=>exact vm
 ·intro k W h j hj
  match k,h with
  |0,h=>exact GS.nQ (fs:= [124,126,125]) h j hj
  |1,h=>exact RS.nQ (fs:= [124,126,125]) h j hj
  |2,h=>exact RS.nQ (fs:= [124,126,125]) h j hj
  |(_+3),h=>exact PS.nQ (fs:= [124,126,125]) h j hj
 ·exact ot
 ·intro k W hk h
  match k,hk,h with
  |0,_,h=>exact OX hl hb hne h
  |1,_,h=>exact KY h
  |2,_,h=>exact Am h
end LT
def rh(h:zP:=by rw[IC]at hR2;have HR2:=ah (hR2.mono (λe w' h=>vZ h));clear hx ho hk hR2 hx3 IC;exact gx):zP:=h
def rc(h:zP:=by go_wp2_with fail;refine aM (i5 rfl _ _ _) rfl ?_;exact⟨H1.o.1,a1,m1,c1,FK,rfl,H1.o.2⟩):zP:=h
def pg(h:zP:=by have h:=aC (W1.alloc (.cells (fW f (.slice a f.rules c)) 217)) (.cells (fW f (.slice a f.rules c)) 217);rw[aR]at h;exact aI h (aj _).drew):zP:=h
def lL(h:zP:=by go_wp2_with fail;refine HR1.o.mono ?_;rintro e w1 ⟨hx,-,a1,m1,c1,FK,rfl,ho⟩;have H1:=ah (ak hx ho);clear hx ho;exact rc):zP:=h
def gx(h:zP:=by
 go_wp2_with fail;refine HR2.o.mono ?_;rintro e w2 ⟨hx,ho1,a2,m2,c2,Xv,rfl,ho2⟩;have H2:=ah (ak hx (ak ho1 ho2));have HS:=ah (vI a1 a2 m1 m2 c1 c2 FK Xv w2);clear hx ho1 ho2;go_wp2_with fail;refine ap HS.o ?_;intro w3 hx3;have H3:=ah hx3;clear hx3;by_cases hc:Xv≠0\/(FK=0/\m1<m2)
 ·rw[aV hc];go_wp2_with fail;refine aM (i5 rfl _ _ _) rfl ?_;exact⟨H2.o.1.trans H3.o,a1,m1,c1,FK,rfl,(sH 0 D a1 m1 c1 FK).e _ _ H3.o H2.o.2.1⟩
 ·rw[aN hc];go_wp2_with fail;refine aM (i5 rfl _ _ _) rfl ?_;exact⟨H2.o.1.trans H3.o,a2,m2,c2,Xv,rfl,(sH 0 D a2 m2 c2 Xv).e _ _ H3.o H2.o.2.2⟩):zP:=h
namespace LT
open jO (Sy RO gB eH iM iw jk gF gJ Dat EU wT encI jX)
open lC (Test Rule Filter yJ XG Gc FV kU zG Az p6 mQ)
def ad5(D:DS)(a:Option Addr)(n c:Nat)(er:Int)(W:ay):Prop:=((er=210\/er=270)/\¬D.sm)\/(er=0/\∃p,Jr D p/\n=p.length/\W.ownsRow 0 173 4 (.slice a n c) p.length (p.flatMap jS))
def sH(wb:Nat)(D:DS)(a:Option Addr)(n c:Nat)(er:Int):Kp wb (ad5 D a n c er):=
 ⟨λ_ _ hx h=>h.imp id (λ⟨e,p,h1,h2,h3⟩=>⟨e,p,h1,h2,(TK.ext (n0:=0) (T:=λ_=>false) hx).own h3 rfl⟩),λ_ j u _ _ _ _ _ _ hb _ h=>h.imp id (λ⟨e,p,h1,h2,h3⟩=>⟨e,p,h1,h2,(TK.set (n0:=0) (T:=λx=>x==217) (p:=⟨wb,j,none⟩) hb rfl (bP _) u).own h3 rfl⟩)⟩
def acD{wb wb2:Nat}(hne:wb2≠wb)(d0 d1 d2 d3 d4 d5:aA):Kp wb (λW=>Vl W wb2 d0 d1 d2 d3 d4 d5):=
 ⟨λ_ _ hx h=>h.ext hx,λ_ _ _ _ _ _ _ _ _ _ _ h=>(aX _ _ _ _ hne).trans h⟩
def ad6(D:DS)(e:Ending)(W:ay):Prop:= ∃a n c er,e= .returned (.tuple #[.slice a n c,.int .i64 er])/\ad5 D a n c er W
def vZ{w0:ay}{X:ay->Prop}{D:DS}{e:Ending}{w':ay}(h:aav w0 X D e w'):Ext w0 w'/\X w'/\ad6 D e w':=by
 obtain⟨h1,h2,⟨er,h3,rfl⟩|⟨u,p,rfl,h3,h4⟩⟩:=h
 ·exact⟨h1,h2,none,0,0,er,rfl,.inl h3⟩
 ·obtain⟨a,c,rfl⟩:=bU h4;exact⟨h1,h2,a,_,c,0,rfl,.inr ⟨rfl,p,h3,rfl,h4⟩⟩
def ab9(ar df:Int){c1 c3 c4 c5:aA}(h1:XI c1)(h3:XI c3)(h4:XI c4)(h5:XI c5):∀v∈[.int .i64 ar,c1,.int .u32 df,c3,c4,c5],XI v:=by
 intro v hv;simp only[dF,List.not_mem_nil,or_false]at hv;rcases hv with rfl|rfl|rfl|rfl|rfl|rfl
 ·intro c e;cases e
 ·exact h1
 ·intro c e;cases e
 ·exact h3
 ·exact h4
 ·exact h5
abbrev gW(v:aA):Array aA:= #[.int .i64 0,.slice none 0 0,.int .u32 0,v,.slice none 0 0,.slice none 0 0]
theorem KA(v:aA)(ts:List Int)(hl:ts.length<=1000)(hb:ts.any wT=false)(hne:0<ts.length)(opt:Bool)(w:ay)(hv:Rd w 1 jO.encI v ts):Calls prog 73 #[v,.bool opt] w λe w'=>Ext w w'/\ad6 (DG (kN.Ih ts)) e w':=by
 obtain⟨D,hD⟩:∃D:DS,D=(DG (kN.Ih ts)):=⟨_,rfl⟩;have hv0:=hv;obtain⟨a,c,rfl,-,-⟩:=jX hv;have n1:=aC w (.cells (gW (.slice a ts c)) 217);have n2:=aC (w.alloc (.cells (gW (.slice a ts c)) 217)) (.cells (gW (.slice a ts c)) 217);obtain⟨W2,hW2⟩:∃W2,W2=(w.alloc (.cells (gW (.slice a ts c)) 217)).alloc (.cells (gW (.slice a ts c)) 217):=⟨_,rfl⟩;have hs2:W2.heap.size=w.heap.size+2:=by rw[hW2];simp
 have hx2:Ext w W2:=by rw[hW2];exact((aj w).alloc _).alloc _
 have m1:W2.heap[w.heap.size]?=some (.cells (gW (.slice a ts c)) 217 (0,0)):=by rw[hW2];exact aI n1 ((aj _).alloc _)
 rw[<-hW2,aR]at n2;obtain⟨fs1,IE⟩:∃fs1,fs1=fsA [124,125] w.heap.size:=⟨_,rfl⟩;have n3:=aC W2 (.cells fs1 219);rw[hs2]at n3;have hx3:Ext W2 (W2.alloc (.cells fs1 219)):=(aj _).alloc _;have hno:=ab9 0 0 (j6 none 0 0) (j6 a ts c) (j6 none 0 0) (j6 none 0 0);have Gx:=MC (w0:=w) (wb:=w.heap.size) (B:=w.heap.size+2) (X:=λW=>Vl W (w+1) (.int .i64 0) (.slice none 0 0) (.int .u32 0) (.slice a ts c) (.slice none 0 0) (.slice none 0 0)) hl hb hne (w:=W2.alloc (.cells fs1 219))
  ⟨_,_,_,_,_,_,⟨hx2.trans hx3,aD _,aq,acD aq _ _ _ _ _ _,aI m1 hx3,hno,by rw[<-IE];exact n3,aI n2 hx3⟩,hv0.ext (hx2.trans hx3)⟩
 rw[<-hD]at Gx⊢;have HR1:=ah (Gx.mono (λe w' h=>vZ h));have JC:=ah hno;have HV:=ah hv0;have HD:=ah hD;have HW:=ah (ak hW2 IE);clear Gx hno hv hv0 hD n1 n2 n3 m1 hs2 hx2 hx3 hW2 IE;cases opt
 ·go_in;go_wp2_with fail;have hgoal:=HR1.o;rw[HW.o.1,HW.o.2]at hgoal;refine hgoal.mono ?_;rintro e w1 ⟨hx,-,a1,m1,c1,FK,rfl,ho⟩;have H1:=ah (ak hx ho);clear hx ho hgoal;exact rc
 ·go_in;go_wp2_with fail;have hgoal:=HR1.o;rw[HW.o.1,HW.o.2]at hgoal;refine hgoal.mono ?_;rintro e w1 ⟨hx,hk,a1,m1,c1,FK,rfl,ho⟩;have hwz:=(aB.1 hk).1;obtain⟨Xm,IC⟩:∃Xm,Xm=fsA [124,126,125] (w+1):=⟨_,rfl⟩;have hx3:Ext w1 (w1.alloc (.cells Xm 219)):=(aj _).alloc _;have hR2:=MB (w0:=w) (wb:=w.heap.size+1) (B:=w1.heap.size) (X:=ad5 D a1 m1 c1 FK) hl hb hne (w:=w1.alloc (.cells Xm 219))
   ⟨_,_,_,_,_,_,⟨hx.trans hx3,aq,aq,sH _ _ _ _ _ _,hk.ext hx3,JC.o,by rw[<-IC];exact aC w1 _,(sH (w+1) D a1 m1 c1 FK).e _ _ hx3 ho⟩,HV.o.ext (hx.trans hx3)⟩
  rw[<-HD.o,IC]at hR2;have HR2:=ah (hR2.mono (λe w' h=>vZ h));clear hx ho hgoal hk hR2 hx3 IC;exact gx
abbrev fW(f:Filter)(u:aA):Array aA:= #[.int .i64 f.jh,u,.int .u32 f.dflt,.slice none 0 0,.slice none 0 0,.slice none 0 0]
theorem KN(f:Filter)(u:aA)(hf:yJ f)(hlr:∀r∈f.rules,r.tests.length<=1000)(opt:Bool)(w:ay)(hu:JO w 3 (FV w) u f.rules):Calls prog 74 #[.agg #[.int .i64 f.jh,u,.int .u32 f.dflt],.bool opt] w λe w'=>Ext w w'/\ad6 (DF f (kU f=true/\mJ.most f.rules<=900)) e w':=by
 have hu0:=hu;obtain⟨a,c,rfl,-,-⟩:=p6 hu;have hno:=ab9 f.jh (f.dflt:Int) (j6 a f.rules c) (j6 none 0 0) (j6 none 0 0) (j6 none 0 0);have JC:=ah hno;have HU:=ah hu0;have HF:=ah (ak hf hlr);clear hno hu hu0 hf hlr;obtain⟨D,hD⟩:∃D:DS,D=DF f (kU f=true/\mJ.most f.rules<=900):=⟨_,rfl⟩;have HD:=ah hD;rw[<-hD];clear hD;go_in;go_upto_region 1 with fail;have gK:=ah ((aj w).alloc (.cells #[.int .i64 f.jh,.slice a f.rules c,.int .u32 f.dflt] 73));obtain⟨⟨c0,c1,c2⟩,-⟩:=sO (aC w (.cells #[.int .i64 f.jh,.slice a f.rules c,.int .u32 f.dflt] 73));generalize w.alloc _=W1 at *;have hw1:=gK.o.size;have c0o:=λo=>((aj W1).alloc o).cell c0
 have c1o:=λo=>((aj W1).alloc o).cell c1
 have c2o:=λo=>((aj W1).alloc o).cell c2
 go_region
 ·have m1:(((W1.alloc (.cells (fW f (.slice a f.rules c)) 217)).alloc (.cells (fW f (.slice a f.rules c)) 217)).drew).heap[W1.heap.size]?=some (.cells (fW f (.slice a f.rules c)) 217 (0,0)):=aI (aC W1 _) (((aj _).alloc _).drew);have m2:(((W1.alloc (.cells (fW f (.slice a f.rules c)) 217)).alloc (.cells (fW f (.slice a f.rules c)) 217)).drew).heap[W1.heap.size+1]?=some (.cells (fW f (.slice a f.rules c)) 217 (0,0)):=pg
  have hx2:Ext w (((W1.alloc (.cells (fW f (.slice a f.rules c)) 217)).alloc (.cells (fW f (.slice a f.rules c)) 217)).drew):=((gK.o.alloc _).alloc _).drew;unfold fW at m1 m2 hx2;generalize World.drew _=W2 at *;clear c0 c1 c2 c0o c1o c2o;have hlt:=(aB.1 m2).1;obtain⟨fs1,IE⟩:∃fs1,fs1=fsA [128,125] (W1.heap.size):=⟨_,rfl⟩;have hx3:Ext W2 (W2.alloc (.cells fs1 219)):=(aj _).alloc _;have Gx:=Cy (f:=f) (D:=D) (w0:=w) (wb:=W1.heap.size) (B:=W2.heap.size) (X:=λW=>Vl W (W1+1) (.int .i64 f.jh) (.slice a f.rules c) (.int .u32 f.dflt) (.slice none 0 0) (.slice none 0 0) (.slice none 0 0)) (w:=W2.alloc (.cells fs1 219))
   ⟨_,_,_,_,⟨hx2.trans hx3,aq,aq,acD aq _ _ _ _ _ _,aI m1 hx3,JC.o,by rw[<-IE];exact aC W2 _,aI m2 hx3⟩,mQ (hx2.trans hx3) HU.o,HF.o.1,by rw[HD.o];exact CF.base,λs=>by rw[HD.o]at s;exact s⟩
  rw[IE]at Gx;have HR1:=ah (Gx.mono (λe w' h=>vZ h));clear Gx hx2 hx3 IE m1 m2 hlt;cases opt
  ·exact lL
  ·go_wp2_with fail;refine HR1.o.mono ?_;rintro e w1 ⟨hx,hk,a1,m1,c1,FK,rfl,ho⟩;have hwz:=(aB.1 hk).1;obtain⟨Xm,IC⟩:∃Xm,Xm=fsA [129,128,126,125] (W1+1):=⟨_,rfl⟩;have hx3:Ext w1 (w1.alloc (.cells Xm 219)):=(aj _).alloc _;have hR2:=Cx (f:=f) (D:=D) (w0:=w) (wb:=W1.heap.size+1) (B:=w1.heap.size) (X:=ad5 D a1 m1 c1 FK) HF.o.2 (w:=w1.alloc (.cells Xm 219))
    ⟨_,_,_,_,⟨hx.trans hx3,aq,aq,sH _ _ _ _ _ _,hk.ext hx3,JC.o,by rw[<-IC];exact aC w1 _,(sH (W1+1) D a1 m1 c1 FK).e _ _ hx3 ho⟩,mQ (hx.trans hx3) HU.o,HF.o.1,by rw[HD.o];exact CF.base,λs=>by rw[HD.o]at s;exact s⟩
   exact rh
 ·have m1:(((W1.alloc (.cells (fW f (.slice a f.rules c)) 217)).alloc (.cells (fW f (.slice a f.rules c)) 217)).drew).heap[W1.heap.size]?=some (.cells (fW f (.slice a f.rules c)) 217 (0,0)):=aI (aC W1 _) (((aj _).alloc _).drew);have m2:(((W1.alloc (.cells (fW f (.slice a f.rules c)) 217)).alloc (.cells (fW f (.slice a f.rules c)) 217)).drew).heap[W1.heap.size+1]?=some (.cells (fW f (.slice a f.rules c)) 217 (0,0)):=pg
  have hx2:Ext w (((W1.alloc (.cells (fW f (.slice a f.rules c)) 217)).alloc (.cells (fW f (.slice a f.rules c)) 217)).drew):=((gK.o.alloc _).alloc _).drew;unfold fW at m1 m2 hx2;generalize World.drew _=W2 at *;clear c0 c1 c2 c0o c1o c2o;have hlt:=(aB.1 m2).1;obtain⟨fs1,IE⟩:∃fs1,fs1=fsA [128,125] (W1+1):=⟨_,rfl⟩;have hx3:Ext W2 (W2.alloc (.cells fs1 219)):=(aj _).alloc _;have Gx:=Cy (f:=f) (D:=D) (w0:=w) (wb:=W1.heap.size+1) (B:=W2.heap.size) (X:=λW=>Vl W (W1.heap.size) (.int .i64 f.jh) (.slice a f.rules c) (.int .u32 f.dflt) (.slice none 0 0) (.slice none 0 0) (.slice none 0 0)) (w:=W2.alloc (.cells fs1 219))
   ⟨_,_,_,_,⟨hx2.trans hx3,aq,aq,acD aq _ _ _ _ _ _,aI m2 hx3,JC.o,by rw[<-IE];exact aC W2 _,aI m1 hx3⟩,mQ (hx2.trans hx3) HU.o,HF.o.1,by rw[HD.o];exact CF.base,λs=>by rw[HD.o]at s;exact s⟩
  rw[IE]at Gx;have HR1:=ah (Gx.mono (λe w' h=>vZ h));clear Gx hx2 hx3 IE m1 m2 hlt;cases opt
  ·exact lL
  ·go_wp2_with fail;refine HR1.o.mono ?_;rintro e w1 ⟨hx,hk,a1,m1,c1,FK,rfl,ho⟩;have hwz:=(aB.1 hk).1;obtain⟨Xm,IC⟩:∃Xm,Xm=fsA [129,128,126,125] (W1.heap.size):=⟨_,rfl⟩;have hx3:Ext w1 (w1.alloc (.cells Xm 219)):=(aj _).alloc _;have hR2:=Cx (f:=f) (D:=D) (w0:=w) (wb:=W1.heap.size) (B:=w1.heap.size) (X:=ad5 D a1 m1 c1 FK) HF.o.2 (w:=w1.alloc (.cells Xm 219))
    ⟨_,_,_,_,⟨hx.trans hx3,aq,aq,sH _ _ _ _ _ _,hk.ext hx3,JC.o,by rw[<-IC];exact aC w1 _,(sH (W1.heap.size) D a1 m1 c1 FK).e _ _ hx3 ho⟩,mQ (hx.trans hx3) HU.o,HF.o.1,by rw[HD.o];exact CF.base,λs=>by rw[HD.o]at s;exact s⟩
   exact rh
end LT
def tz(h:zP:=by go_wp2_with fail;go_ret;exact⟨rfl,((aj w).alloc _).trans hx1⟩):zP:=h
def ll(h:zP:=by unfold Rt;go_in;go_wp2_with fail;exact wg):zP:=h
namespace LT
open jO (gF okW)
open xw (known entry iQ enE)
theorem n8(code:Nat)(w:ay):Calls prog 299 #[.int .u16 code] w λr w'=>r= .returned (.bool (known code))/\Ext w w':=by
 have hF:=λW=>xw.Ji code W
 exact ky
def mZ{x:Ix}{left:Nat}(h:F5 x left=true):x.c<65536/\x.jt<256/\x.jf<256/\x.k<4294967296/\known x.c=true/\x.c≠96/\x.c≠97/\x.c≠52/\x.c≠100/\x.c≠116/\iQ x.c≠2/\(x.c=32->x.k%4=0/\x.k<64)/\(x.c=5->x.k<left)/\(x.c≠5->iQ x.c=4->x.jt<left/\x.jf<left):=by
 obtain⟨c,jt,jf,k⟩:=x;simp only[F5,bA,gq,dK,fU]at h;dsimp only at h⊢;obtain⟨⟨h1,h2,h3,h4⟩,h5⟩:=h;refine⟨h1,h2,h3,h4,?_⟩;have k32:known 32=true/\iQ 32=1:=ci;have k84:known 84=true/\iQ 84=3:=ci;have k6:known 6=true/\iQ 6=5:=ci;have k5:known 5=true/\iQ 5=4:=ci;have k21:known 21=true/\iQ 21=4:=ci;have k37:known 37=true/\iQ 37=4:=ci;have k53:known 53=true/\iQ 53=4:=ci;have k69:known 69=true/\iQ 69=4:=ci;rcases h5 with(((⟨e,hw⟩|e)|e)|⟨e,hk⟩)|⟨⟨ha,ha1⟩,ha2⟩
 ·subst e;refine⟨k32.1,aq,aq,aq,aq,aq,aq,λ_=> ?_,aq,aq⟩;simp only[okW,bA,dK,fU]at hw;omega
 ·subst e;exact⟨k84.1,aq,aq,aq,aq,aq,aq,aq,aq,aq⟩
 ·subst e;exact⟨k6.1,aq,aq,aq,aq,aq,aq,aq,aq,aq⟩
 ·subst e;exact⟨k5.1,aq,aq,aq,aq,aq,aq,aq,aq,aq⟩
 ·simp only[gF,gq,fU]at ha;rcases ha with e|e|e|e
  all_goals subst e
  all_goals exact⟨by first|exact k21.1|exact k37.1|exact k53.1|exact k69.1,aq,aq,aq,aq,aq,aq,aq,aq,aq⟩
def ZU{a b:Nat}(h:a≠b):((a:Int)==(b:Int))=false:=by rw[bK];omega
theorem Yb(x:Ix)(left:Nat)(h:F5 x left=true)(w:ay):Rt 298 #[m8 x,.int .i64 left] w (.bool false):=by
 obtain⟨h1,h2,h3,h4,h5,h6,h7,h8,h9,h10,h11,h12,h13,h14⟩:=mZ h;have hK:=λW=>n8 x.c W
 have hO:=λW=>xw.kD x.c W
 rw[h5]at hK;obtain⟨c,jt,jf,k⟩:=x;unfold m8;dsimp only at *;have q11:((iQ c:Int)==2)=false:=ZU h11;have Pf:∀b:Bool,(iQ c==4)=b->((iQ c:Int)==4)=b:=λb hb=>by rw[<-hb,bB];simp;omega
 have YH:((iQ c==4)=true->iQ c=4):=λhb=>by simpa using hb
 generalize hcb:(iQ c==4)=cb at *;have q4:=Pf _ rfl;clear Pf hcb;generalize iQ c=cl at *;have bx:=aC w (.cells #[.int .u16 c,.int .u8 jt,.int .u8 jf,.int .u32 k] 173);have yO:=ah bx;have HK:=ah hK;have HO:=ah hO;clear bx hK hO h;unfold Rt;go_in;go_wp2_with fail;refine ap (HK.o _) ?_;intro w1 hx1;exact tz
theorem Ya(x:Ix)(left:Nat)(h:F5 x left=true)(w:ay):Rt 300 #[m8 x,.int .i64 left] w (.bool false):=by
 obtain⟨h1,h2,h3,h4,h5,h6,h7,h8,h9,h10,h11,h12,h13,h14⟩:=mZ h;have hK:=λW=>n8 x.c W
 have hO:=λW=>xw.kD x.c W
 rw[h5]at hK;obtain⟨c,jt,jf,k⟩:=x;unfold m8;dsimp only at *;have q11:((iQ c:Int)==2)=false:=ZU h11;have Pf:∀b:Bool,(iQ c==4)=b->((iQ c:Int)==4)=b:=λb hb=>by rw[<-hb,bB];simp;omega
 have YH:((iQ c==4)=true->iQ c=4):=λhb=>by simpa using hb
 generalize hcb:(iQ c==4)=cb at *;have q4:=Pf _ rfl;clear Pf hcb;generalize iQ c=cl at *;have bx:=aC w (.cells #[.int .u16 c,.int .u8 jt,.int .u8 jf,.int .u32 k] 173);have yO:=ah bx;have HK:=ah hK;have HO:=ah hO;clear bx hK hO h;by_cases e:c=32
 ·subst e;obtain⟨e1,e2⟩:=h12 rfl;have z1:(k:Int)%4=0:=aq;have z2:¬((64:Int)<=k):=aq;unfold Rt;go_in;go_wp2_with fail;go_ret;exact⟨by first|rfl|(simp;omega),(aj w).alloc _⟩
 ·have z:=ZU e;exact ll
theorem X0(x:Ix)(left:Nat)(h:F5 x left=true)(w:ay):Rt 301 #[m8 x,.int .i64 left] w (.bool false):=by
 obtain⟨h1,h2,h3,h4,h5,h6,h7,h8,h9,h10,h11,h12,h13,h14⟩:=mZ h;have hK:=λW=>n8 x.c W
 have hO:=λW=>xw.kD x.c W
 rw[h5]at hK;obtain⟨c,jt,jf,k⟩:=x;unfold m8;dsimp only at *;have q11:((iQ c:Int)==2)=false:=ZU h11;have Pf:∀b:Bool,(iQ c==4)=b->((iQ c:Int)==4)=b:=λb hb=>by rw[<-hb,bB];simp;omega
 have YH:((iQ c==4)=true->iQ c=4):=λhb=>by simpa using hb
 generalize hcb:(iQ c==4)=cb at *;have q4:=Pf _ rfl;clear Pf hcb;generalize iQ c=cl at *;have bx:=aC w (.cells #[.int .u16 c,.int .u8 jt,.int .u8 jf,.int .u32 k] 173);have yO:=ah bx;have HK:=ah hK;have HO:=ah hO;clear bx hK hO h;have z1:=ZU h6;have z2:=ZU h7;unfold Rt;go_in;go_wp2_with fail;refine ap (HO.o _) ?_;intro w1 hx1;obtain⟨⟨c0,c1,c2,c3⟩,-⟩:=pO (aI yO.o hx1);exact tz
theorem XZ(x:Ix)(left:Nat)(h:F5 x left=true)(w:ay):Rt 302 #[m8 x,.int .i64 left] w (.bool false):=by
 obtain⟨h1,h2,h3,h4,h5,h6,h7,h8,h9,h10,h11,h12,h13,h14⟩:=mZ h;have hK:=λW=>n8 x.c W
 have hO:=λW=>xw.kD x.c W
 rw[h5]at hK;obtain⟨c,jt,jf,k⟩:=x;unfold m8;dsimp only at *;have q11:((iQ c:Int)==2)=false:=ZU h11;have Pf:∀b:Bool,(iQ c==4)=b->((iQ c:Int)==4)=b:=λb hb=>by rw[<-hb,bB];simp;omega
 have YH:((iQ c==4)=true->iQ c=4):=λhb=>by simpa using hb
 generalize hcb:(iQ c==4)=cb at *;have q4:=Pf _ rfl;clear Pf hcb;generalize iQ c=cl at *;have bx:=aC w (.cells #[.int .u16 c,.int .u8 jt,.int .u8 jf,.int .u32 k] 173);have yO:=ah bx;have HK:=ah hK;have HO:=ah hO;clear bx hK hO h;have z1:=ZU h8;exact ll
theorem XY(x:Ix)(left:Nat)(h:F5 x left=true)(w:ay):Rt 303 #[m8 x,.int .i64 left] w (.bool false):=by
 obtain⟨h1,h2,h3,h4,h5,h6,h7,h8,h9,h10,h11,h12,h13,h14⟩:=mZ h;have hK:=λW=>n8 x.c W
 have hO:=λW=>xw.kD x.c W
 rw[h5]at hK;obtain⟨c,jt,jf,k⟩:=x;unfold m8;dsimp only at *;have q11:((iQ c:Int)==2)=false:=ZU h11;have Pf:∀b:Bool,(iQ c==4)=b->((iQ c:Int)==4)=b:=λb hb=>by rw[<-hb,bB];simp;omega
 have YH:((iQ c==4)=true->iQ c=4):=λhb=>by simpa using hb
 generalize hcb:(iQ c==4)=cb at *;have q4:=Pf _ rfl;clear Pf hcb;generalize iQ c=cl at *;have bx:=aC w (.cells #[.int .u16 c,.int .u8 jt,.int .u8 jf,.int .u32 k] 173);have yO:=ah bx;have HK:=ah hK;have HO:=ah hO;clear bx hK hO h;have z1:=ZU h9;have z2:=ZU h10;exact ll
theorem XV(x:Ix)(left:Nat)(h:F5 x left=true)(w:ay):Rt 304 #[m8 x,.int .i64 left] w (.bool false):=by
 obtain⟨h1,h2,h3,h4,h5,h6,h7,h8,h9,h10,h11,h12,h13,h14⟩:=mZ h;have hK:=λW=>n8 x.c W
 have hO:=λW=>xw.kD x.c W
 rw[h5]at hK;obtain⟨c,jt,jf,k⟩:=x;unfold m8;dsimp only at *;have q11:((iQ c:Int)==2)=false:=ZU h11;have Pf:∀b:Bool,(iQ c==4)=b->((iQ c:Int)==4)=b:=λb hb=>by rw[<-hb,bB];simp;omega
 have YH:((iQ c==4)=true->iQ c=4):=λhb=>by simpa using hb
 generalize hcb:(iQ c==4)=cb at *;have q4:=Pf _ rfl;clear Pf hcb;generalize iQ c=cl at *;have bx:=aC w (.cells #[.int .u16 c,.int .u8 jt,.int .u8 jf,.int .u32 k] 173);have yO:=ah bx;have HK:=ah hK;have HO:=ah hO;clear bx hK hO h;by_cases e:c=5
 ·subst e;have e1:=h13 rfl;have z:¬((left:Int)<=k):=aq;exact ll
 ·have z:=ZU e;have e1:=h14 e;have zj0:cb=true->(jt:Int)<left/\(jf:Int)<left:=λhc=>by have:=e1 (YH hc);omega
  cases cb
  all_goals
   unfold Rt;go_in;go_wp2_with fail;refine ap (HO.o _) ?_;intro w1 hx1;obtain⟨⟨c0,c1,c2,c3⟩,-⟩:=pO (aI yO.o hx1)
   try(have zj1:=(zj0 trivial).1;have zj2:=(zj0 trivial).2)
   go_wp2_with fail
   all_goals
    go_ret;exact⟨by first|rfl|(simp;omega),((aj w).alloc _).trans hx1⟩
def uK:Array aA:= #[.int .i64 40,.func (.func 298) #[] #[],.int .i64 41,.func (.func 300) #[] #[],.int .i64 43,.func (.func 301) #[] #[],.int .i64 44,.func (.func 302) #[] #[],.int .i64 45,.func (.func 303) #[] #[],.int .i64 42,.func (.func 304) #[] #[]]
theorem Mc(w:ay):Rt 251 #[] w (.agg uK):=by
 unfold Rt;go_in;go_upto_region 1 with fail;apply wp_region_lit;refine bT 376 1 (#[.int .i64 40,.func (.func 298) #[] #[]]) ?_;refine bT 376 2 (#[.int .i64 41,.func (.func 300) #[] #[]]) ?_;refine bT 376 3 (#[.int .i64 43,.func (.func 301) #[] #[]]) ?_;refine bT 376 4 (#[.int .i64 44,.func (.func 302) #[] #[]]) ?_;refine bT 376 5 (#[.int .i64 45,.func (.func 303) #[] #[]]) ?_;refine bT 376 6 (#[.int .i64 42,.func (.func 304) #[] #[]]) ?_;refine bT 377 7 (uK) ?_;refine wpList_store_rowTo rfl 377 _ _ rfl rfl w.heap.size uK bj bj 377 _ (heap_alloc_last w _) ax ax ax ?_;rw[World.setRow_alloc_new];apply wpList_nil;rename_i hK;refine hK _ _ ?_;have key:∀A:Act,A.tmps.getD 0 undef= .pointer (some w)->A.defers=[]->Code.wp prog Code.ret (bodyPost prog Tryz.f251 λe w'=>e= .returned (.agg uK)/\Ext w w') A (w.alloc (.cells uK 377)):=by intro A h0 hd;go_wp2_with fail;exact aM (v:= .agg uK) (dV results251 _ _ _ _ _ _ _ h0 (heap_alloc_last w _) underlying377 rfl ax) hd ⟨rfl,(aj _).alloc _⟩
 exact tw
end LT
def tg(h:zP:=by exact⟨0,aq,rfl,aj _⟩):zP:=h
namespace LT
def wrF:Nat->Nat
 |0=>298
 |1=>300
 |2=>301
 |3=>302
 |4=>303
 |_=>304
theorem XU(x:Ix)(left:Nat)(h:F5 x left=true)(k:Nat)(hk:k<6)(w:ay):Calls prog (wrF k) #[m8 x,.int .i64 left] w λe w'=>e= .returned (.bool false)/\Ext w w':=by
 match k,hk with
 |0,_=>exact Yb x left h w
 |1,_=>exact Ya x left h w
 |2,_=>exact X0 x left h w
 |3,_=>exact XZ x left h w
 |4,_=>exact XY x left h w
 |5,_=>exact XV x left h w
def wrE(k:Nat):Int:= [40,41,43,44,45,42].getD k 0
theorem aa8(k:Nat)(h:k<6)(w:ay):(Instr.index 377 (.agg uK) (.int .i64 k)).run prog w= .ok (.agg #[.int .i64 (wrE k),.func (.func (wrF k)) #[] #[]]) w:=by
 rw[rD (n:=6) (sz:=2) underlying377 underlying376 ax _ k h]
 match k,h with
 |0,_|1,_|2,_|3,_|4,_|5,_=>rfl
theorem XT(k:Nat)(h:k<6):∀args w,(callFunc (wrF k) args).run prog w= .ok (.enter (wrF k) args) w:=by
 match k,h with
 |0,_=>exact enters_of func298 ax rfl
 |1,_=>exact enters_of func300 ax rfl
 |2,_=>exact enters_of func301 ax rfl
 |3,_=>exact enters_of func302 ax rfl
 |4,_=>exact enters_of func303 ax rfl
 |5,_=>exact enters_of func304 ax rfl
theorem aaB(x:Ix)(left:Nat)(hl:left<=1000000)(h:F5 x left=true)(w:ay):Rt 187 #[m8 x,.int .i64 left] w (.int .i64 0):=by
 have HF:=ah (XU x left h);have HW:=ah Mc;obtain⟨c,jt,jf,k0⟩:=x;unfold m8 at HF⊢;dsimp only at *;have bx:=aC w (.cells #[.int .u16 c,.int .u8 jt,.int .u8 jf,.int .u32 k0] 173);have yO:=ah bx;have zl:(0:Int)<=left:=aq;clear bx h;unfold Rt;go_in;go_wp2_with fail;refine ap (HW.o _) ?_;intro w1 hx1;have HB1:=ah (aI yO.o hx1);have gK:=ah (((aj w).alloc _).trans hx1);clear hx1;have HIX:=ah aa8;generalize uK=wv at *;go_wp2_with fail;go_loopw [8] (λi wr=>∃k:Nat,k<=6/\i= .int .i64 k/\Ext w1 wr) (λi _=>6-(intOf i).toNat)
 case atStart=>exact tg
 case round=>
  obtain⟨k,hk,rfl,hx⟩:=hrel;by_cases hlt:k<6
  ·have hf:=HF.o k hlt;obtain⟨⟨c0,c1,c2,c3⟩,-⟩:=pO (aI HB1.o hx);have c0o:=λo=>((aj wr).alloc o).cell c0
   have c1o:=λo=>((aj wr).alloc o).cell c1
   have c2o:=λo=>((aj wr).alloc o).cell c2
   have c3o:=λo=>((aj wr).alloc o).cell c3
   have HX:=ah hx;have HFk:=ah hf;clear hf hx;have hix:=HIX.o k hlt;have eg:=XT k hlt;generalize wrF k=g at *;generalize wrE k=we at *;go_wp2_with fail;refine ap (HFk.o _) ?_;intro w5 hx5;have kM:=ah (((HX.o.alloc _).trans hx5));clear hx5;go_wp2_with fail;go_roundw
   case rel=>exact⟨k+1,aq,bm,kM.o⟩
   case measure=>exact gO
  ·obtain rfl:k=6:=aq;have HX:=ah hx;clear hx;go_wp2_with fail;go_ret;exact⟨rfl,gK.o.trans HX.o⟩
open xw (iQ)
theorem O8(x:Ix)(h1:x.c≠96)(h2:x.c≠97)(w:ay):Rt 254 #[m8 x] w (.int .u16 0):=by
 obtain⟨c,jt,jf,k⟩:=x;unfold m8;dsimp only at *;have z1:((c:Int) !=96)=true:=by rw[bne_iff_ne];omega
 have z2:((c:Int) !=97)=true:=by rw[bne_iff_ne];omega
 clear h1 h2;exact ll
theorem Me(x:Ix)(h:iQ x.c≠2)(w:ay):Rt 307 #[m8 x] w (.int .u16 0):=by
 have hO:=λW=>xw.kD x.c W
 obtain⟨c,jt,jf,k⟩:=x;unfold m8;dsimp only at *;have z:((iQ c:Int) !=2)=true:=by rw[bne_iff_ne];omega
 generalize iQ c=cl at *;have HO:=ah hO;clear h hO;unfold Rt;go_in;go_wp2_with fail;refine ap (HO.o _) ?_;intro w1 hx1;have HX:=ah (((aj w).alloc _).trans hx1);clear hx1;exact pZ
theorem S9(x:Ix)(at_ size:Nat)(w:ay):Calls prog 306 #[m8 x,.int .i64 at_,.int .i64 size] w λe w'=>e= .returned (.func (.func 375) #[] #[.pointer (some w),.pointer (some ⟨w+1,0,none⟩),.pointer (some ⟨w+2,0,none⟩)])/\w'=((w.alloc (.cells #[.int .u16 x.c,.int .u8 x.jt,.int .u8 x.jf,.int .u32 x.k] 173)).alloc (.cells #[.int .i64 at_] 3)).alloc (.cells #[.int .i64 size] 3):=by obtain⟨c,jt,jf,k⟩:=x;unfold m8;go_in;exact im
def uf{w:ay}{v:aA}{xs:List Ix}(h:Rd w 4 jS v xs):∃a c,v= .slice a xs c/\xs.length<=c/\∀i,(hi:i<xs.length)->∃b o,a=some ⟨b,o,none⟩/\w.cell? ⟨b,o+i*4,none⟩=some (.int .u16 (xs[i].c:Int))/\w.cell? ⟨b,o+i*4+1,none⟩=some (.int .u8 (xs[i].jt:Int))/\w.cell? ⟨b,o+i*4+2,none⟩=some (.int .u8 (xs[i].jf:Int))/\w.cell? ⟨b,o+i*4+3,none⟩=some (.int .u32 (xs[i].k:Int)):=by obtain⟨a,c,h1,h2,h3,h4⟩:=h;refine⟨a,c,h1,h2,λi hi=> ?_⟩;obtain⟨b,o,e,k⟩:=h4 i hi;exact⟨b,o,e,k 0 cY,k 1 cY,k 2 cY,k 3 cY⟩
def Rv(s:Int):bits BinOp.andNot IntKind.u16 0 s=0:=by
 simp[bits]
 rfl
theorem J2(P:Nat)(v:aA)(xs:List Ix)(hP:∀x∈xs,x.c≠96/\x.c≠97)(i:Nat)(s:Int)(hi:i<xs)(C:aA)(w:ay)(hv:Rd w 4 jS v xs)(hb:w.cell? P=some v):Rt 253 #[.int .i64 i,.int .u16 s,.pointer (some P),C] w (.tuple #[]):=by
 obtain⟨a,c,rfl,hac,hca⟩:=uf hv;obtain⟨b,o,rfl,r0,r1,r2,r3⟩:=hca i hi;obtain⟨p1,p2⟩:=hP _ (aW hi);have hR:=λW=>O8 xs[i] p1 p2 W
 have hz:(i:Int)<xs:=aq;have hz0:(bits BinOp.andNot IntKind.u16 0 s !=0)=false:=by rw[Rv];rfl
 generalize xs[i]=x at *;obtain⟨xc,xjt,xjf,xk⟩:=x;unfold m8 at hR;dsimp only at *;have HR:=ah hR;clear hca hv hP hR p1 p2;unfold Rt;go_in;go_wp2_with fail;refine ap (HR.o _) ?_;intro w1 hx1;have HX:=ah hx1;clear hx1;go_wp2_with fail
 first|go_end0|refine aM (bH rfl _ _ _) rfl ?_
 exact⟨rfl,HX.o⟩
def usA(l:List Int):Array aA:=(l.map λx=>Value.int .u16 x).toArray
def wS{W:ay}{B:Nat}{l:List Int}{t:dz}(h:W.heap[B]?=some (.cells (usA l) t (0,0))){i:Nat}(hi:i<l):W.cell? ⟨B,i,none⟩=some (.int .u16 (l.getD i 0)):=by rw[aG h];simp[usA,aJ hi,bQ]
def ae3(l:List Int)(i:Nat)(x:Int):(usA l).setIfInBounds i (.int .u16 x)=usA (l.set i x):=by simp[usA,List.map_set]
def VU(t:Nat):Bool:=t==4||t==171
structure CW(R S rb sb n:Nat)(bl:List Bool)(sl:List Int)(W:ay):Prop where
 cR:W.heap[R]?=some (.cells #[.slice (some rb) n n] 425 (0,0))
 cS:W.heap[S]?=some (.cells #[.slice (some sb) n n] 424 (0,0))
 b:W.heap[rb]?=some (.cells (JM bl) 4 (0,0))
 s:W.heap[sb]?=some (.cells (usA sl) 171 (0,0))
 lb:bl.length=n
 ls:sl.length=n
variable {R S rb sb n:Nat} {bl:List Bool} {sl:List Int} {W:ay}
def CW.aiN(h:CW R S rb sb n bl sl W){n0:Nat}(hn:n0<=sb)(i:Nat)(x:Int):CW R S rb sb n bl (sl.set i x) (W.setCell ⟨sb,i,none⟩ (.int .u16 x))/\TK n0 VU W (W.setCell ⟨sb,i,none⟩ (.int .u16 x)):=by have k1:TK n0 (D5 171) W (W.setCell ⟨sb,i,none⟩ (.int .u16 x)):=TK.set (p:=⟨sb,i,none⟩) h.s rfl hn _;have hs:=eX h.s i (.int .u16 x);rw[ae3]at hs;exact⟨⟨k1.blk h.cR (.inr rfl),k1.blk h.cS (.inr rfl),k1.blk h.b (.inr rfl),hs,h.lb,by rw[dO];exact h.ls⟩,k1.mono (aD _) (λt ht=>by unfold VU at ht;unfold D5;simp at ht⊢;exact ht.2)⟩
def CW.J7(h:CW R S rb sb n bl sl W){n0:Nat}(hn:n0<=rb)(i:Nat)(x:Bool):CW R S rb sb n (bl.set i x) sl (W.setCell ⟨rb,i,none⟩ (.bool x))/\TK n0 VU W (W.setCell ⟨rb,i,none⟩ (.bool x)):=by
 have k1:TK n0 (D5 4) W (W.setCell ⟨rb,i,none⟩ (.bool x)):=TK.set (p:=⟨rb,i,none⟩) h.b rfl hn _;have hs:=eX h.b i (.bool x);have e:(JM bl).setIfInBounds i (.bool x)=JM (bl.set i x):=by simp[JM,List.map_set]
 rw[e]at hs;exact⟨⟨k1.blk h.cR (.inr rfl),k1.blk h.cS (.inr rfl),hs,k1.blk h.s (.inr rfl),by rw[dO];exact h.lb,h.ls⟩,k1.mono (aD _) (λt ht=>by unfold VU at ht;unfold D5;simp at ht⊢;exact ht.1)⟩
theorem U6(h:CW R S rb sb n bl sl W){n0:Nat}(h1:n0<=rb)(h2:n0<=sb)(i:Nat)(hi:i<n)(m:Int):Calls prog 305 #[.int .i64 i,.int .u16 m,.pointer (some R),.pointer (some S)] W λe w'=>e= .returned (.tuple #[])/\∃bl' sl',CW R S rb sb n bl' sl' w'/\TK n0 VU W w':=by
 have hz:(i:Int)<n:=aq;have a1:=aG h.cR 0;have a2:=aG h.cS 0
 change W.cell? R=some _ at a1
 change W.cell? S=some _ at a2
 have a3:=lF h.b (show i<bl.length by rw[h.lb];exact hi);have a4:=wS h.s (show i<sl.length by rw[h.ls];exact hi);have f1:=aP h.b i;have f2:=aP h.s i;cases hr:bl.getD i false
 ·rw[hr]at a3;obtain⟨k1,t1⟩:=h.aiN h2 i 65535;obtain⟨k2,t2⟩:=k1.J7 h1 i true;have b1:=aG k1.cR 0;have b3:=lF k1.b (show i<bl.length by rw[k1.lb];exact hi);have b4:=aP k1.b i;have d1:=aG k2.cS 0;have d3:=wS k2.s (show i<(sl.set i 65535).length by rw[k2.ls];exact hi);have d4:=aP k2.s i;have e3:(sl.set i 65535).getD i 0=65535:=by simp[bQ,h.ls,hi]
  rw[e3]at d3
  change World.cell? _ ⟨R,0,none⟩=some _ at b1
  change World.cell? _ ⟨S,0,none⟩=some _ at d1
  have H:=ah (λx:Int=>(k2.aiN h2 i x));have HT:=ah (ak t1 t2);clear h k1 k2 t1 t2 hr e3;go_in;go_wp2_with fail
  first|go_end0|refine aM (bH rfl _ _ _) rfl ?_
  exact⟨rfl,_,_,(H.o _).1,(HT.o.1.trans HT.o.2).trans (H.o _).2⟩
 ·rw[hr]at a3;obtain⟨k2,t2⟩:=h.J7 h1 i true;have d1:=aG k2.cS 0;have d3:=wS k2.s (show i<sl.length by rw[k2.ls];exact hi);have d4:=aP k2.s i
  change World.cell? _ ⟨S,0,none⟩=some _ at d1
  have H:=ah (λx:Int=>(k2.aiN h2 i x));have HT:=ah t2;clear h k2 t2 hr;go_in;go_wp2_with fail
  first|go_end0|refine aM (bH rfl _ _ _) rfl ?_
  exact⟨rfl,_,_,(H.o _).1,HT.o.trans (H.o _).2⟩
end LT
end Go.Proofs.YtopfefhenfineaaGreat
namespace Go.Proofs.YtopfefhenfineaaGreat
open Go.Proofs.Tryz Go.RowKit Go.Shelf V
namespace LT
def wR(d:Array Int):∀m,m<=d.size->∀x∈Lib.compactUpTo d m,x∈d.toList
 |0,_,x,h=>by simp[Lib.compactUpTo]at h
 |m+1,hm,x,h=>by
  rw[Lib.compactUpTo_succ]at h;rcases dJ.1 h with h2|h2
  ·exact wR d m aq x h2
  ·split at h2
   ·rw[e8.1 h2,getElem!_pos d m aq];simp
   ·cases h2
def ND{zs:List Int}{x:Int}(h:x∈Lib.compact zs):x∈zs:=by have:=wR zs.toArray zs aE x h;exact sd
def QS(l:List Int):l.flatMap jO.encI=l.map (Value.int .i64):=by
 induction l with
 |nil=>rfl
 |cons x r ih=>rw[eP,bS,ih];rfl
theorem nS(W0:Nat)(w:ay)(v:aA)(l:List Int)(hl:l.length<=10000000)(h:w.ownsRow W0 3 1 v l (l.flatMap jO.encI)):Calls prog 376 #[v] w λe w'=>Below W0 w w'/\∃(v':aA)(l':List Int),e= .returned v'/\l'.length<=l/\(∀n∈l',n∈l)/\w'.ownsRow W0 3 1 v' l' (l'.flatMap jO.encI):=by
 by_cases hv:v= .slice none 0 0
 ·subst hv;have hn:l=[]:=pj
  subst hn;refine ap (Tryz.slices_Compact_int_empty none 0 w) ?_;exact sy
 ·rw[QS]at h;obtain⟨g,cap,rfl,hg,hlt,hn,hm,hlen,hH⟩:=Lib.holds_of_ownsRow h hv;refine ap (Tryz.slices_Compact_int g 0 cap l w hH aq hn) ?_;rintro w' ⟨n,rfl⟩;have hle:=Lib.compact_length_le l;have ho:=Lib.ownsRow_putRow (q:=n) (ys:=Lib.compact l++List.replicate (l.length-(Lib.compact l).length) 0) h (by rw[aH,gV];omega) hle;rw[List.take_left]at ho;refine⟨Lib.below_putRow (Below.refl W0 w) hg,_,Lib.compact l,rfl,hle,(λx hx=>ND hx),?_⟩;rw[QS];exact ho
end LT
end Go.Proofs.YtopfefhenfineaaGreat
