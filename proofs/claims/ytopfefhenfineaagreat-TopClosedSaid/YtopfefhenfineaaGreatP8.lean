import Derived.Test.YtopfefhenfineaaGreatP7
import Derived.Laws.BitsAllLaws
import Derived.Shelf.Abstract
set_option linter.all false
set_option maxRecDepth 100000
set_option maxHeartbeats 8000000
namespace Go.Proofs.YtopfefhenfineaaGreat
open Go.Proofs.Tryz Go.RowKit V
attribute[local go_sem] Oper.semAt_some
namespace LT
def S3(e:Ca):aA:= .agg #[.string (str e.nm),.int .i64 e.n0,.int .i64 e.n1,.int .i64 e.n2,.int .i64 e.n3,.int .i64 e.n4,.int .i64 e.n5]
def sN(e:Ca):List aA:= [.string (str e.nm),.int .i64 e.n0,.int .i64 e.n1,.int .i64 e.n2,.int .i64 e.n3,.int .i64 e.n4,.int .i64 e.n5]
def aac(e:Ca):(sN e).length=7:=rfl
def BF:Array aA:=(kZ.flatMap sN).toArray
def cA(k:Nat):Array aA:=((sN (kZ.getD k yF)).drop 1).toArray
def cB(k:Nat):Array aA:=(sN (kZ.getD k yF)).toArray
def adM:BF=(kZ.flatMap sN).toArray:=rfl
theorem Rl(w:ay):Rt 195 #[] w (.agg BF):=by
 unfold Rt;go_in;go_upto_region 1 with fail;apply wp_region_lit;refine bT 247 1 (cA 0) ?_;refine bT 249 2 (cB 0) ?_;refine bT 247 3 (cA 1) ?_;refine bT 249 4 (cB 1) ?_;refine bT 247 5 (cA 2) ?_;refine bT 249 6 (cB 2) ?_;refine bT 247 7 (cA 3) ?_;refine bT 249 8 (cB 3) ?_;refine bT 247 9 (cA 4) ?_;refine bT 249 10 (cB 4) ?_;refine bT 247 11 (cA 5) ?_;refine bT 249 12 (cB 5) ?_;refine bT 247 13 (cA 6) ?_;refine bT 249 14 (cB 6) ?_;refine bT 247 15 (cA 7) ?_;refine bT 249 16 (cB 7) ?_;refine bT 247 17 (cA 8) ?_;refine bT 249 18 (cB 8) ?_;refine bT 247 19 (cA 9) ?_;refine bT 249 20 (cB 9) ?_;refine bT 247 21 (cA 10) ?_;refine bT 249 22 (cB 10) ?_;refine bT 247 23 (cA 11) ?_;refine bT 249 24 (cB 11) ?_;refine bT 247 25 (cA 12) ?_;refine bT 249 26 (cB 12) ?_;refine bT 247 27 (cA 13) ?_;refine bT 249 28 (cB 13) ?_;refine bT 247 29 (cA 14) ?_;refine bT 249 30 (cB 14) ?_;refine bT 247 31 (cA 15) ?_;refine bT 249 32 (cB 15) ?_;refine bT 247 33 (cA 16) ?_;refine bT 249 34 (cB 16) ?_;refine bT 247 35 (cA 17) ?_;refine bT 249 36 (cB 17) ?_;refine bT 247 37 (cA 18) ?_;refine bT 249 38 (cB 18) ?_;refine bT 247 39 (cA 19) ?_;refine bT 249 40 (cB 19) ?_;refine bT 247 41 (cA 20) ?_;refine bT 249 42 (cB 20) ?_;refine bT 247 43 (cA 21) ?_;refine bT 249 44 (cB 21) ?_;refine bT 247 45 (cA 22) ?_;refine bT 249 46 (cB 22) ?_;refine bT 247 47 (cA 23) ?_;refine bT 249 48 (cB 23) ?_;refine bT 247 49 (cA 24) ?_;refine bT 249 50 (cB 24) ?_;refine bT 247 51 (cA 25) ?_;refine bT 249 52 (cB 25) ?_;refine bT 247 53 (cA 26) ?_;refine bT 249 54 (cB 26) ?_;refine bT 247 55 (cA 27) ?_;refine bT 249 56 (cB 27) ?_;refine bT 247 57 (cA 28) ?_;refine bT 249 58 (cB 28) ?_;refine bT 247 59 (cA 29) ?_;refine bT 249 60 (cB 29) ?_;refine bT 247 61 (cA 30) ?_;refine bT 249 62 (cB 30) ?_;refine bT 247 63 (cA 31) ?_;refine bT 249 64 (cB 31) ?_;refine bT 247 65 (cA 32) ?_;refine bT 249 66 (cB 32) ?_;refine bT 247 67 (cA 33) ?_;refine bT 249 68 (cB 33) ?_;refine bT 247 69 (cA 34) ?_;refine bT 249 70 (cB 34) ?_;refine bT 247 71 (cA 35) ?_;refine bT 249 72 (cB 35) ?_;refine bT 247 73 (cA 36) ?_;refine bT 249 74 (cB 36) ?_;refine bT 247 75 (cA 37) ?_;refine bT 249 76 (cB 37) ?_;refine bT 247 77 (cA 38) ?_;refine bT 249 78 (cB 38) ?_;refine bT 247 79 (cA 39) ?_;refine bT 249 80 (cB 39) ?_;refine bT 312 81 BF ?_;refine wpList_store_rowTo rfl 312 _ _ rfl rfl w.heap.size BF bj bj 312 _ (heap_alloc_last w _) ax ax ax ?_;rw[World.setRow_alloc_new];apply wpList_nil;rename_i hK;refine hK _ _ ?_;have key:∀A:Act,A.tmps.getD 0 undef= .pointer (some w)->A.defers=[]->Code.wp prog Code.ret (bodyPost prog Tryz.f195 λe w'=>e= .returned (.agg BF)/\Ext w w') A (w.alloc (.cells BF 312)):=by intro A h0 hd;go_wp2_with fail;exact aM (v:= .agg BF) (dV results195 _ _ _ _ _ _ _ h0 (heap_alloc_last w _) underlying312 rfl ax) hd ⟨rfl,(aj _).alloc _⟩
 exact tw
end LT
variable{zP:Prop}
def gR(h:zP:=by obtain rfl:k=xs.length:=aq;have HS:Hid (iG p xs 0= -1):=ah dj;clear hx;exact pd):zP:=h
def gw(h:zP:=by
 cases hm:p x
 ·have HS:Hid (iG p xs 0=iG p (xs.drop (k+1)) (k+1)):=ah cD;go_wp2_with fail;go_roundw
  case rel=>exact⟨k+1,aq,bm,gK.o,HS.o⟩
  case measure=>simp[intOf];omega
 ·have HS:Hid (iG p xs 0=(k:Int)):=ah cL;go_wp2_with fail;go_ret;rw[HS.o];exact⟨rfl,gK.o⟩):zP:=h
def eN(h:zP:=by simp[sN]):zP:=h
def cD(h:zP:=by rw[HE.o,HST.o];conv=>lhs;unfold iG;rw[hm];simp):zP:=h
def dj(h:zP:=by rw[HE.o,dQ];rfl):zP:=h
def cL(h:zP:=by rw[HE.o,HST.o];unfold iG;rw[hm];rfl):zP:=h
namespace LT
def K8{w:ay}{v:aA}{xs:List Ca}(h:Rd w 7 sN v xs):∃a c,v= .slice a xs c/\xs.length<=c/\∀i,(hi:i<xs.length)->∃b o,a=some ⟨b,o,none⟩/\w.cell? ⟨b,o+i*7,none⟩=some (.string (str xs[i].nm))/\w.cell? ⟨b,o+i*7+1,none⟩=some (.int .i64 xs[i].n0)/\w.cell? ⟨b,o+i*7+2,none⟩=some (.int .i64 xs[i].n1)/\w.cell? ⟨b,o+i*7+3,none⟩=some (.int .i64 xs[i].n2)/\w.cell? ⟨b,o+i*7+4,none⟩=some (.int .i64 xs[i].n3)/\w.cell? ⟨b,o+i*7+5,none⟩=some (.int .i64 xs[i].n4)/\w.cell? ⟨b,o+i*7+6,none⟩=some (.int .i64 xs[i].n5):=by obtain⟨a,c,h1,h2,h3,h4⟩:=h;refine⟨a,c,h1,h2,λi hi=> ?_⟩;obtain⟨b,o,e,k⟩:=h4 i hi;exact⟨b,o,e,k 0 eN,k 1 eN,k 2 eN,k 3 eN,k 4 eN,k 5 eN,k 6 eN⟩
theorem Sg(g:Nat)(Bc0:aA)(eg:∀args w,(callFunc g args).run prog w= .ok (.enter g args) w)(p:Ca->Bool)(v:aA)(xs:List Ca)(hl:xs.length<=1000000)(w:ay)(hv:Rd w 7 sN v xs)(his:∀x∈xs,∀W,Ext w W->Calls prog g #[S3 x,Bc0] W λr w'=>r= .returned (.bool (p x))/\Ext W w'):Rt 196 #[v,.func (.func g) #[] #[Bc0]] w (.int .i64 (iG p xs 0)):=by
 obtain⟨a,c,rfl,hac,hca⟩:=K8 hv;clear hv;unfold S3 at his;have HIS:=ah his;have tO:=ah hca;clear his hca;unfold Rt;go_in;go_wp2_with fail;go_loopw [5,8] (λ_ i wr=>∃k:Nat,k<=xs/\i= .int .i64 k/\Ext w wr/\iG p xs 0=iG p (xs.drop k) k) (λ_ i _=>xs.length-(intOf i).toNat)
 case atStart=>exact kf
 case round=>
  obtain⟨k,hk,rfl,hx,heq⟩:=hrel;have HX:=ah hx;have HE:=ah heq;clear heq;by_cases hlt:k<xs
  ·obtain⟨b,o,rfl,h0,h1,h2,h3,h4,h5,h6⟩:=tO.o k hlt;replace h0:=hx.cell h0;replace h1:=hx.cell h1;replace h2:=hx.cell h2;replace h3:=hx.cell h3;replace h4:=hx.cell h4;replace h5:=hx.cell h5;replace h6:=hx.cell h6;have HST:=ah (bJ hlt);have KI:=ah (HIS.o xs[k] (aW hlt));clear hx;generalize xs[k]=x at *;go_wp2_with fail;refine ap (KI.o _ HX.o) ?_;intro w1 hx1;have gK:=ah (HX.o.trans hx1);clear hx1 h0 h1 h2 h3 h4 h5 h6;exact gw
  ·exact gR
theorem FN(g:Nat)(Bc:aA)(eg:∀args w,(callFunc g args).run prog w= .ok (.enter g args) w)(p:Ca->Bool)(w:ay)(his:∀x∈kZ,∀W,Ext w W->Calls prog g #[S3 x,Bc] W λr w'=>r= .returned (.bool (p x))/\Ext W w'):Calls prog 154 #[.func (.func g) #[] #[Bc]] w λr w'=>r= .returned (.tuple #[S3 ((kZ.find? p).getD yF),.bool (kZ.find? p).isSome])/\Ext w w':=by
 have hI:=λv W (hx:Ext w W) (hv:Rd W 7 sN v kZ)=>Sg g Bc eg p v kZ az W hv (λx hx2 W2 h2=>his x hx2 W2 (hx.trans h2))
 obtain⟨R,hR⟩:∃R,R=kZ.find? p:=⟨_,rfl⟩;rw[<-hR];have hcs:=qX p kZ 0;rw[<-hR]at hcs;generalize iG p kZ 0=ix at *;have HI:=ah hI;clear hI his hR;go_in;go_wp2_with fail;refine ap (Rl _) ?_;intro w1 hx1;have hb0:=aI (aC w (.cells #[.string ⟨#[]⟩,.int .i64 0,.int .i64 0,.int .i64 0,.int .i64 0,.int .i64 0,.int .i64 0] 249)) hx1;have gK:=ah (((aj w).alloc _).trans hx1);have HB:=ah hb0;clear hx1 hb0;go_wp2_with(refine wpList_store_rowTo rfl 312 _ _ rfl rfl w1.heap.size BF bj bj 312 _ (heap_alloc_last w1 _) ax ax ax ?_;rw[World.setRow_alloc_new]);have hrd:Rd (w1.alloc (.cells BF 312)) 7 sN (.slice (some w1) 40 40) kZ:=by rw[adM];exact gI aac w1 kZ _ _ rfl
 generalize BF=EV at *;refine ap (HI.o _ _ (gK.o.alloc _) hrd) ?_;intro w2 hx2;have hb2:=aI (aI HB.o ((aj _).alloc _)) hx2;have HB2:=ah hb2;have jm:=ah ((gK.o.alloc _).trans hx2);have anI:=hrd.ext hx2;obtain⟨a2,c2,ha2,-,hca⟩:=K8 anI;simp only[aU]at ha2;obtain⟨rfl,-,rfl⟩:=ha2;clear hx2 hrd anI hb2;have key:∀(A:Act) (cs:Array aA) (b:Bool) (W3:ay),A.tmps.getD 2 undef= .pointer (some w)->A.tmps.getD 3 undef= .bool b->A.defers=[]->W3.heap[w.heap.size]?=some (.cells cs 249 (0,0))->cs.size=7->Ext w W3-> .agg cs=S3 (R.getD yF)->b=R.isSome->
  bodyPost prog Tryz.f154 (λr w'=>r= .returned (.tuple #[S3 (R.getD yF),.bool R.isSome])/\Ext w w') .ret A W3:=by
  intro A cs b W3 h2 h3 hd hg hs hE hc hb;refine aM (fG results154 A.tmps W3 w 249 cs (0,0) _ h2 hg underlying249 rfl (by rw[hs];kernel_rfl)) hd ?_;rw[h3,hb,hc];exact⟨rfl,hE⟩
 have ST:=λ(cs:Array aA) (hs:cs.size=7) (h1:cs.all (·.oneCell')=true)=>ah (ak hs h1)
 rcases hcs with⟨rfl,rfl,-⟩|⟨i,hi,rfl,rfl,-,-⟩
 ·clear hca;go_wp2_with(refine wpList_store_rowTo rfl 249 _ _ rfl rfl w.heap.size #[.string ⟨#[]⟩,.int .i64 0,.int .i64 0,.int .i64 0,.int .i64 0,.int .i64 0,.int .i64 0] bj bj 249 _ HB2.o ax ax ax ?_);exact key _ #[.string ⟨#[]⟩,.int .i64 0,.int .i64 0,.int .i64 0,.int .i64 0,.int .i64 0,.int .i64 0] false _ rfl rfl rfl (dH _ _ _ _ _ _ HB2.o) rfl (eB jm.o (aD _) _) rfl rfl
 ·obtain⟨b,o,JK,h0,h1,h2,h3,h4,h5,h6⟩:=hca i hi;simp only[dw,gD,and_true]at JK;obtain⟨rfl,rfl⟩:=JK;have d1:decide (i<40)=true:=aQ hi;have hi2:(i:Int)<40:=by have:i<40:=hi;omega
  simp only[cO]at h0 h1 h2 h3 h4 h5 h6⊢;generalize he:kZ[i]=e at *;have HE:=ah he;clear he;go_wp2_with(refine wpList_store_rowTo rfl 249 _ _ rfl rfl w.heap.size #[.string (str e.nm),.int .i64 e.n0,.int .i64 e.n1,.int .i64 e.n2,.int .i64 e.n3,.int .i64 e.n4,.int .i64 e.n5] bj bj 249 _ HB2.o ax ax ax ?_);rw[HE.o];exact key _ #[.string (str e.nm),.int .i64 e.n0,.int .i64 e.n1,.int .i64 e.n2,.int .i64 e.n3,.int .i64 e.n4,.int .i64 e.n5] true _ rfl rfl rfl (dH _ _ _ _ _ _ HB2.o) rfl (eB jm.o (aD _) _) rfl rfl
end LT
open Go.Shelf
def ti(h:zP:=by go_in;go_wp2_with fail;go_ret2;exact kz):zP:=h
def sX(h:zP:=by clear hx hbx;go_in;go_wp2_with fail;go_ret2;exact⟨aE,(aj _).alloc _⟩):zP:=h
def qi(h:zP:=by rw[aV (.inr hx)]at hn;subst hn;have d0:decide (x<0)=true:=aQ hx;exact ti):zP:=h
def mt(h:zP:=by have hlt:B<w.heap.size:=aY _ _ hB;have hq:=sU (str e.nm) s;rw[iE]at hq;unfold S3;generalize(e.nm==bytes s)=b at *;go_in;go_wp2_with fail;go_ret;exact⟨by rw[<-hq];rfl,(aj _).alloc _⟩):zP:=h
def gv(h:zP:=by
 by_cases hx:x<0
 ·exact qi
 ·rw[aN aq,aN az]at hn;have d0:decide (x<0)=false:=aT hx;obtain⟨n,rfl⟩:∃n:Nat,x=(n:Int):=⟨x.toNat,aq⟩;rw[dR]at hn;subst hn;have hw:IntKind.u32.wrap (n:Int)=n:=by simp[IntKind.wrap,IntKind.signed,IntKind.bits];omega
  exact sX):zP:=h
namespace LT
theorem Ng(e:Ca)(s:aK)(B:Nat)(w:ay)(hB:w.cell? B=some (.string s)):Calls prog 155 #[S3 e,.pointer (some B)] w λr w'=>r= .returned (.bool (e.nm==bytes s))/\Ext w w':=by exact mt
theorem Kh(e:Ca)(s:aK)(B:Nat)(w:ay)(hB:w.cell? B=some (.string s)):Calls prog 248 #[S3 e,.pointer (some B)] w λr w'=>r= .returned (.bool (e.nm==bytes s))/\Ext w w':=by exact mt
theorem yg(s:aK)(w:ay):Calls prog 99 #[.string s] w λr w'=>r= .returned (.bool (lu (bytes s)))/\Ext w w':=by have hF:=FN 155 (.pointer (some w)) (enters_of func155 ax rfl) (λe=>e.nm==bytes s) (w.alloc (.cells #[.string s] 9)) (λx _ W hx=>Ng x s _ W (hx.cell aE));have hk:lu (bytes s)=(kZ.find? (λe=>e.nm==bytes s)).isSome:=rfl;rw[hk];generalize kZ.find? (λe=>e.nm==bytes s)=R at *;generalize R.getD yF=e at *;unfold S3 at hF;have Cj:=ah hF;clear hF hk;go_in;go_wp2_with fail;refine ap Cj.o ?_;intro w1 hx1;go_wp2_with fail;go_ret;exact⟨rfl,(((aj w).alloc _).trans hx1).alloc _⟩
def or_bit(n:Nat)(h:n<4294967296):bits .or .u32 n 1073741824=((n|||1073741824:Nat):Int):=u32_or_nat n 1073741824 h az
theorem Kz(e:Ca)(he:e∈kZ\/e=yF)(a:Int)(w:ay):Calls prog 249 #[S3 e,.int .i64 a] w λr w'=>r= .returned (.tuple #[.int .u32 ((Wx e a).1:Int),.bool (Wx e a).2])/\Ext w w':=by
 have hn:Wx e a=if (a<0\/6<=a)\/e.nr a<0 then(0,false)else(if a=2 then(e.nr a).toNat|||1073741824 else(e.nr a).toNat,true):=rfl
 have hb:e.n0<1000/\e.n1<1000/\e.n2<1000/\e.n3<1000/\e.n4<1000/\e.n5<1000:=by
  rcases he with h|rfl
  ·exact(Rm e h).2
  ·decide
 obtain⟨R,hR⟩:∃R,R=Wx e a:=⟨_,rfl⟩;rw[<-hR];rw[<-hR]at hn;clear hR he;unfold S3;generalize str e.nm=sn at *;by_cases h0:a<0
 ·rw[aV (.inl (.inl h0))]at hn;subst hn;have d0:decide (a<0)=true:=aQ h0;exact ti
 by_cases h6:6<=a
 ·rw[aV (.inl (.inr h6))]at hn;subst hn;have d0:decide (a<0)=false:=aT h0;have d1:decide (6<=a)=true:=aQ h6;exact ti
 obtain⟨b0,b1,b2,b3,b4,b5⟩:=hb;rcases(show a=0\/a=1\/a=2\/a=3\/a=4\/a=5 from aq)with rfl|rfl|rfl|rfl|rfl|rfl
 ·rw[show e.nr 0=e.n0 from rfl]at hn;have hbx:=b0;clear b0 b1 b2 b3 b4 b5;generalize e.n0=x at *;exact gv
 ·rw[show e.nr 1=e.n1 from rfl]at hn;have hbx:=b1;clear b0 b1 b2 b3 b4 b5;generalize e.n1=x at *;exact gv
 ·rw[show e.nr 2=e.n2 from rfl]at hn;have hbx:=b2;clear b0 b1 b2 b3 b4 b5;generalize e.n2=x at *;by_cases hx:x<0
  ·exact qi
  ·rw[aN aq,aV rfl]at hn;have d0:decide (x<0)=false:=aT hx;obtain⟨n,rfl⟩:∃n:Nat,x=(n:Int):=⟨x.toNat,aq⟩;rw[dR]at hn;subst hn;have hw:IntKind.u32.wrap (n:Int)=n:=by simp[IntKind.wrap,IntKind.signed,IntKind.bits];omega
   have ho:=or_bit n aq;exact sX
 ·rw[show e.nr 3=e.n3 from rfl]at hn;have hbx:=b3;clear b0 b1 b2 b3 b4 b5;generalize e.n3=x at *;exact gv
 ·rw[show e.nr 4=e.n4 from rfl]at hn;have hbx:=b4;clear b0 b1 b2 b3 b4 b5;generalize e.n4=x at *;exact gv
 ·rw[show e.nr 5=e.n5 from rfl]at hn;have hbx:=b5;clear b0 b1 b2 b3 b4 b5;generalize e.n5=x at *;exact gv
def ado{α:Type}{p:α->Bool}{l:List α}{x:α}(h:l.find? p=some x):x∈l:=List.mem_of_find?_eq_some h
theorem KC(a:Int)(s:aK)(w:ay):Calls prog 180 #[.int .i64 a,.string s] w λr w'=>r= .returned (.tuple #[.int .u32 ((Es a (bytes s)).1:Int),.int .i64 ((Es a (bytes s)).2:Int)])/\Ext w w':=by
 have hF:=FN 248 (.pointer (some w)) (enters_of func248 ax rfl) (λe=>e.nm==bytes s) (w.alloc (.cells #[.string s] 9)) (λx _ W hx=>Kh x s _ W (hx.cell aE));have hk:Es a (bytes s)=match kZ.find? (λe=>e.nm==bytes s)with
  |none=>(0,90)
  |some e=>if (Wx e a).2=true then((Wx e a).1,0)else(0,90):=rfl
 rw[hk];clear hk;have hN:∀W,Calls prog 249 #[S3 ((kZ.find? (λe=>e.nm==bytes s)).getD yF),.int .i64 a] W λr w'=>r= .returned (.tuple #[.int .u32 ((Wx ((kZ.find? (λe=>e.nm==bytes s)).getD yF) a).1:Int),.bool (Wx ((kZ.find? (λe=>e.nm==bytes s)).getD yF) a).2])/\Ext W w':=λW=>Kz _ (by
  cases h:kZ.find? (λe=>e.nm==bytes s)with
  |none=>exact .inr rfl
  |some x=>exact .inl (ado h)) a W
 generalize kZ.find? (λe=>e.nm==bytes s)=R at *;cases R with
 |none=>generalize none.getD yF=e at *;generalize Wx e a=nb at *;obtain⟨nb1,nb2⟩:=nb;unfold S3 at hF hN;dsimp only at *;have Cj:=ah hF;have JQ:=ah hN;clear hF hN;go_in;go_wp2_with fail;refine ap Cj.o ?_;intro w1 hx1;go_wp2_with fail;refine ap (JQ.o _) ?_;intro w2 hx2;go_wp2_with fail;go_ret2;exact⟨rfl,((((aj w).alloc _).trans hx1).alloc _).trans hx2⟩
 |some e=>
  rw[show(some e).getD yF=e from rfl]at hF hN;dsimp only;generalize Wx e a=nb at *;obtain⟨nb1,nb2⟩:=nb;unfold S3 at hF hN;dsimp only at *;have Cj:=ah hF;have JQ:=ah hN;clear hF hN;cases nb2
  all_goals
   go_in;go_wp2_with fail;refine ap Cj.o ?_;intro w1 hx1;go_wp2_with fail;refine ap (JQ.o _) ?_;intro w2 hx2;go_wp2_with fail;go_ret2;exact⟨rfl,((((aj w).alloc _).trans hx1).alloc _).trans hx2⟩
end LT
def mu(h:zP:=by
 rcases hcs with⟨rfl,-,rfl⟩|⟨k,-,rfl,-,-,rfl⟩
 all_goals
  unfold Rt;go_in;go_wp2_with fail;refine ap HI.o ?_;intro w1 hx;go_wp2_with fail;go_ret;exact⟨by first|rfl|simp,hx⟩):zP:=h
def AG(h:zP:=by
 obtain⟨a,c,rfl,-,-⟩:=ww hv;cases a with
 |none=>
  obtain⟨a1,c1,e1,h1,h2,h3⟩:=hv;simp only[aU,true_and]at e1;obtain⟨rfl,rfl⟩:=e1;obtain rfl:=h2 rfl;have hb:xs=[]:=bG aq;subst hb;simp only[bD,List.flatMap_nil]at *;have hn:∀W,(binOp .eql wA (.slice none 0 0) (.slice none 0 0)).run prog W= .ok (.bool true) W:=λW=>rfl
  go_in;exact ul
 |some p=>
  have hn:∀W,(binOp .eql wA (.slice (some p) xs c) (.slice none 0 0)).run prog W= .ok (.bool false) W:=λW=>rfl
  have HV:=ah hv;have HB0:=ah (jJ xb w ([]:List xd) xe w w rfl (aD _) cz);clear hv;go_in
  go_wp2_with(at_builtin
              refine jH rfl (.tmp 5) (.tmp 6) _ rfl xf xh rfl az xb xi w _ _ [] xs rfl rfl HB0.o (HV.o.ext ((aj w).alloc _)) bp az ((aj w).alloc _) ?_;intro EN EJ w5 lM hx5;have EY:=ah lM;have kM:=ah hx5;clear lM hx5)
  exact uv):zP:=h
namespace LT
structure Cl where
 nm:List aZ
 act:Nat
def fD(c:Cl):List aA:= [.string (str c.nm),.int .u32 c.act]
def XB(c:Cl):aA:= .agg #[.string (str c.nm),.int .u32 c.act]
def fM(c:Cl):(fD c).length=2:=rfl
def oz(c:Cl):∀u∈fD c,u.oneCell'=true:=by intro u hu;simp[fD]at hu;rcases hu with rfl|rfl<;>rfl
theorem Iu:(Tryz.prog.info? 121).map (λi=>(i.zero,i.size,i.bytes))=some (some (.agg #[.string ⟨#[]⟩,.int .u32 0]),2,24):=ax
def i3(e:Int):List aA:= [.int .i64 e]
def iD(e:Int):(i3 e).length=1:=rfl
def oq(c:Int):∀u∈i3 c,u.oneCell'=true:=by intro u hu;simp[i3]at hu;subst hu;rfl
theorem FC:(Tryz.prog.info? 3).map (λi=>(i.zero,i.size,i.bytes))=some (some (.int .i64 0),1,8):=ax
def i8(n:Nat):List aA:= [.int .u32 n]
def iK(e:Nat):(i8 e).length=1:=rfl
def oo(c:Nat):∀u∈i8 c,u.oneCell'=true:=by intro u hu;simp[i8]at hu;subst hu;rfl
theorem EC:(Tryz.prog.info? 32).map (λi=>(i.zero,i.size,i.bytes))=some (some (.int .u32 0),1,4):=ax
def mY{w:ay}{v:aA}{xs:List Cl}(h:Rd w 2 fD v xs):∃a c,v= .slice a xs c/\xs.length<=c/\∀i,(hi:i<xs.length)->∃b o,a=some ⟨b,o,none⟩/\w.cell? ⟨b,o+i*2,none⟩=some (.string (str xs[i].nm))/\w.cell? ⟨b,o+i*2+1,none⟩=some (.int .u32 (xs[i].act:Int)):=by obtain⟨a,c,h1,h2,h3,h4⟩:=h;refine⟨a,c,h1,h2,λi hi=> ?_⟩;obtain⟨b,o,e,k⟩:=h4 i hi;exact⟨b,o,e,k 0 (by simp[fD]),k 1 (by simp[fD])⟩
def qQ{w:ay}{v:aA}{xs:List Int}(h:Rd w 1 i3 v xs):∃a c,v= .slice a xs c/\xs.length<=c/\∀i,(hi:i<xs.length)->∃b o,a=some ⟨b,o,none⟩/\w.cell? ⟨b,o+i,none⟩=some (.int .i64 xs[i]):=by obtain⟨a,c,h1,h2,h3,h4⟩:=h;refine⟨a,c,h1,h2,λi hi=> ?_⟩;obtain⟨b,o,e,k⟩:=h4 i hi;have k0:=k 0 (by simp[i3]);exact⟨b,o,e,by simpa[i3]using k0⟩
def tJ{w:ay}{v:aA}{xs:List Nat}(h:Rd w 1 i8 v xs):∃a c,v= .slice a xs c/\xs.length<=c/\∀i,(hi:i<xs.length)->∃b o,a=some ⟨b,o,none⟩/\w.cell? ⟨b,o+i,none⟩=some (.int .u32 (xs[i]:Int)):=by obtain⟨a,c,h1,h2,h3,h4⟩:=h;refine⟨a,c,h1,h2,λi hi=> ?_⟩;obtain⟨b,o,e,k⟩:=h4 i hi;have k0:=k 0 (by simp[i8]);exact⟨b,o,e,by simpa[i8]using k0⟩
namespace xj
abbrev ww:=@mY
abbrev wA:Nat:=29
abbrev xb:=@fM
abbrev xd:=@Cl
abbrev xe:Nat:=121
abbrev xf:=@underlying29
abbrev xh:=@Iu
abbrev xi:=@oz
end xj
open xj in
theorem vS(v:aA)(xs:List Cl)(hl:xs.length<=1000000)(w:ay)(hv:Rd w 2 fD v xs):Calls prog 221 #[v] w λe w'=>∃a' c',e= .returned (.slice a' xs c')/\Ext w w'/\w'.ownsRow w 121 2 (.slice a' xs c') xs (xs.flatMap fD):=by exact AG
namespace xl
abbrev ww:=@qQ
abbrev wA:Nat:=28
abbrev xb:=@iD
abbrev xd:=@Int
abbrev xe:Nat:=3
abbrev xf:=@underlying28
abbrev xh:=@FC
abbrev xi:=@oq
end xl
open xl in
theorem D4(v:aA)(xs:List Int)(hl:xs.length<=1000000)(w:ay)(hv:Rd w 1 i3 v xs):Calls prog 219 #[v] w λe w'=>∃a' c',e= .returned (.slice a' xs c')/\Ext w w'/\w'.ownsRow w 3 1 (.slice a' xs c') xs (xs.flatMap i3):=by exact AG
namespace xm
abbrev ww:=@tJ
abbrev wA:Nat:=33
abbrev xb:=@iK
abbrev xd:=@Nat
abbrev xe:Nat:=32
abbrev xf:=@underlying33
abbrev xh:=@EC
abbrev xi:=@oo
end xm
open xm in
theorem D3(v:aA)(xs:List Nat)(hl:xs.length<=1000000)(w:ay)(hv:Rd w 1 i8 v xs):Calls prog 220 #[v] w λe w'=>∃a' c',e= .returned (.slice a' xs c')/\Ext w w'/\w'.ownsRow w 32 1 (.slice a' xs c') xs (xs.flatMap i8):=by exact AG
theorem Sd(v:aA)(xs:List Int)(y:Int)(hl:xs.length<=1000000)(w:ay)(hv:Rd w 1 i3 v xs):Rt 75 #[v,.int .i64 y] w (.int .i64 (iG (λx=>x==y) xs 0)):=by
 obtain⟨a,c,rfl,hac,hca⟩:=qQ hv;clear hv;have tO:=ah hca;clear hca;unfold Rt;go_in;go_wp2_with fail;go_loopw [5,8] (λ_ i wr=>∃k:Nat,k<=xs/\i= .int .i64 k/\Ext w wr/\iG (λx=>x==y) xs 0=iG (λx=>x==y) (xs.drop k) k) (λ_ i _=>xs.length-(intOf i).toNat)
 case atStart=>exact kf
 case round=>
  obtain⟨k,hk,rfl,hx,heq⟩:=hrel;have HX:=ah hx;have HE:=ah heq;clear heq;by_cases hlt:k<xs
  ·obtain⟨b,o,rfl,h0⟩:=tO.o k hlt;replace h0:=hx.cell h0;have HST:=ah (bJ hlt);clear hx;generalize xs[k]=x at *;have hq:((y:Int)==x)=(x==y):=by rw[bB];simp;exact eq_comm
   cases hm:x==y
   ·have HS:Hid (iG (λx=>x==y) xs 0=iG (λx=>x==y) (xs.drop (k+1)) (k+1)):=ah cD;rw[hm]at hq;clear hm;go_wp2_with fail;go_roundw
    case rel=>exact⟨k+1,aq,bm,HX.o,HS.o⟩
    case measure=>exact gO
   ·have HS:Hid (iG (λx=>x==y) xs 0=(k:Int)):=ah cL;rw[hm]at hq;clear hm;exact pd
  ·obtain rfl:k=xs.length:=aq;have HS:Hid (iG (λx=>x==y) xs 0= -1):=ah dj;clear hx;exact pd
theorem SF(v:aA)(xs:List Int)(y:Int)(hl:xs.length<=1000000)(w:ay)(hv:Rd w 1 i3 v xs):Rt 38 #[v,.int .i64 y] w (.bool (xs.any (λx=>x==y))):=by have hI:=Sd v xs y hl w hv;obtain⟨a,c,rfl,-,-⟩:=qQ hv;have hcs:=qX (λx=>x==y) xs 0;generalize iG (λx=>x==y) xs 0=i at *;generalize xs.any (λx=>x==y)=r at *;have HI:=ah hI;clear hv hI;exact mu
def qP(e:Int):Bool:=e==90||(e==110||(e==100||e==161))
def Ye(e:Int): [(90:Int),110,100,161].any (λx=>x==e)=qP e:=by unfold qP;simp only[List.any_cons,List.any_nil,Bool.or_false];rw[bB];simp;omega
theorem FQ(e:Int)(w:ay):Calls prog 20 #[.int .i64 e] w λr w'=>r= .returned (.bool (qP e))/\Ext w w':=by have hC:=SF _ [90,110,100,161] e az _ (gI iD w [90,110,100,161] 43 _ rfl);rw[Ye]at hC;generalize qP e=b at *;have HC:=ah hC;clear hC;go_in;go_wp2_with fail;refine ap HC.o ?_;intro w1 hx;go_wp2_with fail;go_ret;exact⟨rfl,((aj w).alloc _).trans hx⟩
def wV(a:Nat):Bool:=a==0||(a==2147483648||(decide (327680<=a)&&decide (a<=331775)))
theorem NV(a:Nat)(w:ay):Calls prog 100 #[.int .u32 a] w λr w'=>r= .returned (.bool (wV a))/\w'=w:=by
 have q1:((a:Int)==0)=(a==0):=by rw[bB];simp
 have q2:((a:Int)==2147483648)=(a==2147483648):=by rw[bB];simp;omega
 have q3:decide ((327680:Int)<=a)=decide (327680<=a):=by rw[bB];simp;omega
 have q4:decide ((a:Int)<=331775)=decide (a<=331775):=by rw[bB];simp;omega
 unfold wV;generalize(a==0)=b1 at *;generalize(a==2147483648)=b2 at *;generalize decide (327680<=a)=b3 at *;generalize decide (a<=331775)=b4 at *;cases b1<;>cases b2<;>cases b3<;>cases b4
 all_goals
  go_in;go_wp2_with fail;go_ret;exact⟨rfl,rfl⟩
end LT
def ry(h:zP:=by have HRE:=ah hre;clear hre HKP Oq vD;exact jn):zP:=h
def qt(h:zP:=by have HRE:=ah hre;clear hre HKP Oq vD Sr HB3;exact jn):zP:=h
def jn(h:zP:=by
 refine⟨?_,by simp[intOf];omega⟩
 repeat apply Exists.intro
 exact⟨HRE.o,rfl⟩):zP:=h
def ii(h:zP:=by
 refine⟨_,i2,cap,rfl,HB3.o,h7,by rw[<-h6,htl],.inr ⟨_,cap,_,rfl,hBg,Sr.o.1,hic,hcm,?_,?_⟩⟩
 ·rw[bW,length_splice _ _ _ (by rw[hzl,h5];omega),h5]
 ·unfold splice;rw[<-h6]
  first
   |exact List.take_left' htl
   |(simp only[eO]at htl⊢;exact List.take_left' htl)):zP:=h
def ie(h:zP:=by obtain⟨a,c,rfl⟩:=bU ho;have HO:=ah ho;have HI:=ah hI;have HQ:=ah hq;clear ho hI his hq;go_in;go_wp2_with fail;refine ap HI.o ?_;intro w1 hx1;go_wp2_with fail;go_ret;rw[HQ.o];exact⟨a,_,c,rfl,hx1.mono hB,rfl,fO HO.o (Keep.of_below hx1 (λ_ hk=>hk)) (λb e=>(HO.o.lt b e).2)⟩):zP:=h
def ic(h:zP:=by
 have HIS:=ah his;have tO:=ah hca;clear his hca;unfold Rt;go_in;go_wp2_with fail;go_loopw [5,8] (λ_ i wr=>∃k:Nat,k<=xs/\i= .int .i64 k/\Ext w wr/\iG p xs 0=iG p (xs.drop k) k) (λ_ i _=>xs.length-(intOf i).toNat)
 case atStart=>exact⟨0,aq,rfl,aj _,rfl⟩
 case round=>
  obtain⟨k,hk,rfl,hx,heq⟩:=hrel;have HX:=ah hx;have HE:=ah heq;clear heq;by_cases hlt:k<xs
  ·obtain⟨b,o,rfl,h0⟩:=tO.o k hlt;replace h0:=hx.cell h0;have HST:=ah (bJ hlt);have KI:=ah (HIS.o xs[k] (aW hlt));clear hx;generalize xs[k]=x at *;go_wp2_with fail;refine ap (KI.o _ HX.o) ?_;intro w1 hx1;have gK:=ah (HX.o.trans hx1);clear hx1 h0;exact gw
  ·exact gR):zP:=h
def ib(h:zP:=by
 obtain⟨a,c,rfl,hac,hca⟩:=mY hv;clear hv;unfold XB at his;have HIS:=ah his;have tO:=ah hca;clear his hca;unfold Rt;go_in;go_wp2_with fail;go_loopw [5,8] (λ_ i wr=>∃k:Nat,k<=xs/\i= .int .i64 k/\Ext w wr/\iG p xs 0=iG p (xs.drop k) k) (λ_ i _=>xs.length-(intOf i).toNat)
 case atStart=>exact⟨0,aq,rfl,aj _,rfl⟩
 case round=>
  obtain⟨k,hk,rfl,hx,heq⟩:=hrel;have HX:=ah hx;have HE:=ah heq;clear heq;by_cases hlt:k<xs
  ·obtain⟨b,o,rfl,h0,h1⟩:=tO.o k hlt;replace h0:=hx.cell h0;replace h1:=hx.cell h1;have HST:=ah (bJ hlt);have KI:=ah (HIS.o xs[k] (aW hlt));clear hx;generalize xs[k]=x at *;go_wp2_with fail;refine ap (KI.o _ HX.o) ?_;intro w1 hx1;have gK:=ah (HX.o.trans hx1);clear hx1 h0 h1;exact gw
  ·exact gR):zP:=h
def du(h:zP:=by intro u hu;revert u;simp[Value.cells,Value.oneCell']):zP:=h
def fv(h:zP:=by have:=eY 1 (show t+1<=xs.length from ht);omega):zP:=h
def ge(h:zP:=by rw[hsz0];rfl):zP:=h
def eh(h:zP:=by first|exact Sr.o.1|(rw[eO];exact Sr.o.1)):zP:=h
namespace LT
variable{B cap g i j k:Nat}{W W' w:ay}{el:dz}{α:Type}{enc:α->List aA}{p:α->Bool}{xs:List α}
def erV(x:Int):aA:= .int .i64 x
def u3V(x:Nat):aA:= .int .u32 x
def DI(B:Nat)(w:ay)(g cap k:Nat)(xs:List α)(p:α->Bool)(enc:α->List aA)(el:dz)(i j:Nat)(W:ay):Prop:=
 ∃L:List aA,i<j/\j<=xs/\Below B w W/\W.heap[g]?=some (.cells L.toArray el (0,0))/\L.length=cap*k/\L.take (i*k)=((xs.take j).filter (λx=> !p x)).flatMap enc/\i=((xs.take j).filter (λx=> !p x)).length/\
  ∀t,(ht:t<xs.length)->j<=t->∀q,q<k->L[t*k+q]?=(enc xs[t])[q]?
def DI.ext(h:DI B w g cap k xs p enc el i j W)(hg:g<W.heap.size)(hb:Below B W W')(hx:Ext W W'):DI B w g cap k xs p enc el i j W':=by obtain⟨L,h1,h2,h3,h4,h5⟩:=h;exact⟨L,h1,h2,h3.trans hb,(hx.block hg).trans h4,h5⟩
def DI.skip(h:DI B w g cap k xs p enc el i j W)(hj:j<xs)(hp:p xs[j]=true):DI B w g cap k xs p enc el i (j+1) W:=by
 obtain⟨L,h1,h2,h3,h4,h5,h6,h7,h8⟩:=h;have hf:(xs.take (j+1)).filter (λx=> !p x)=(xs.take j).filter (λx=> !p x):=by rw[List.take_add_one,aJ hj,jy];simp[hp]
 exact⟨L,aq,aq,h3,h4,h5,by rw[hf];exact h6,by rw[hf];exact h7,λt ht hjt=>h8 t ht aq⟩
def DI.keep{L:List aA}(henc:∀x,(enc x).length=k)(h1:i<j)(hj:j<xs)(hc:xs.length<=cap)(hp:p xs[j]=false)(h3:Below B w W')(h5:L.length=cap*k)(h6:L.take (i*k)=((xs.take j).filter (λx=> !p x)).flatMap enc)(h7:i=((xs.take j).filter (λx=> !p x)).length)(h8:∀t,(ht:t<xs.length)->j<=t->∀q,q<k->L[t*k+q]?=(enc xs[t])[q]?)(h4:W'.heap[g]?=some (.cells (splice L (i*k) (enc xs[j])).toArray el (0,0))):DI B w g cap k xs p enc el (i+1) (j+1) W':=by
 have hf:(xs.take (j+1)).filter (λx=> !p x)=(xs.take j).filter (λx=> !p x)++[xs[j]]:=by rw[List.take_add_one,aJ hj,jy];simp[hp]
 have hm1:(i+1)*k<=cap*k:=eY _ aq;have hs1:(i+1)*k=i*k+k:=Nat.succ_mul _ _;have hfit:i*k+(enc xs[j]).length<=L.length:=by rw[henc,h5];omega
 have htl:(L.take (i*k)).length=i*k:=by rw[bC,h5];omega
 refine⟨_,aq,aq,h3,h4,by rw[length_splice _ _ _ hfit,h5],?_,by rw[hf,aH,<-h7];rfl,?_⟩
 ·unfold splice;rw[hf,iO,<-h6,<-bI,List.take_left' (by rw[aH,htl,henc,hs1])];simp
 ·intro t ht hjt q hq;have hm2:(i+1)*k<=t*k:=eY _ aq;rw[<-h8 t ht aq q hq];unfold splice;rw[Bk (by rw[htl];omega),Bk (by rw[htl,henc];omega),List.getElem?_drop,htl,henc]
  congr 1
  omega
def uZ{α:Type}(p:α->Bool):∀(l:List α)(k:Nat),(iG p l k= -1/\l.filter (λx=> !p x)=l)\/∃i,i<l.length/\iG p l k=((k+i:Nat):Int)/\(l.take (i+1)).filter (λx=> !p x)=l.take i
 | [],_=> .inl ⟨rfl,rfl⟩
 |x::r,k=>by
  unfold iG;cases hp:p x
  ·rw[aN aE];rcases uZ p r (k+1)with⟨h1,h2⟩|⟨i,hi,h1,h2⟩
   ·exact .inl ⟨h1,by simp only[List.filter_cons,hp];simp;rw[List.filter_eq_self]at h2;exactλa ha=>by simpa using h2 a ha⟩
   ·exact .inr ⟨i+1,by simp;omega,by rw[h1];congr 1;omega,by rw[List.take_succ_cons,List.filter_cons,hp,h2,List.take_succ_cons];rfl⟩
  ·rw[aV rfl];exact .inr ⟨0,aE,rfl,by simp[hp]⟩
theorem NZ(g:Nat)(Bc0:aA)(eg:∀args w,(callFunc g args).run prog w= .ok (.enter g args) w)(p:Cl->Bool)(v:aA)(xs:List Cl)(hl:xs.length<=1000000)(w:ay)(hv:Rd w 2 fD v xs)(his:∀x∈xs,∀W,Ext w W->Calls prog g #[XB x,Bc0] W λr w'=>r= .returned (.bool (p x))/\Ext W w'):Rt 96 #[v,.func (.func g) #[] #[Bc0]] w (.int .i64 (iG p xs 0)):=by exact ib
theorem Sz(B:Nat)(gf:Nat)(Bc:aA)(eg:∀args w,(callFunc gf args).run prog w= .ok (.enter gf args) w)(p:Cl->Bool)(v:aA)(xs:List Cl)(hl:xs.length<=1000000)(w:ay)(ho:w.ownsRow B 121 2 v xs (xs.flatMap fD))(hB:B<=w.heap.size)(his:∀x∈xs,∀W,Below B w W->Calls prog gf #[XB x,Bc] W λr w'=>r= .returned (.bool (p x))/\Ext W w'):Calls prog 384 #[v,.func (.func gf) #[] #[Bc]] w λe w'=>∃au m cu,e= .returned (.slice au m cu)/\Below B w w'/\m=(xs.filter (λx=> !p x)).length/\w'.ownsRow B 121 2 (.slice au m cu) m ((xs.filter (λx=> !p x)).flatMap fD):=by
 obtain⟨i0,hi0,hz0,hzs,hzb⟩:=jo Iu;have hI:=NZ gf Bc eg p v xs hl w (bY fM ho) (λx hx W hW=>his x hx W (hW.mono hB));have hcs:=uZ p xs 0;generalize iG p xs 0=q at *;rcases hcs with⟨rfl,hq⟩|⟨i,hi,rfl,hq⟩
 ·exact ie
 ·rcases ho.2 with⟨-,h0⟩|⟨g,cap,cur,rfl,hBg,hg,hcap,hcm,hsz,hcur⟩
  ·omega
  have hgw:g<w.heap.size:=(aB.1 hg).1;have hDI:DI B w g cap 2 xs p fD 121 i (i+1) w:=by
   refine⟨cur.toList,aq,aq,Below.refl _ _,by simpa using hg,by simpa using hsz,?_,?_,?_⟩
   ·rw[hq,<-mF fM,<-hcur,i6,dI aq]
   ·rw[hq,bC];omega
   ·intro t ht _ q hq2;rw[<-flat_get fM xs t q ht hq2,<-hcur,gH,aV (by have:=eY 2 (show t+1<=xs.length from ht);omega)]
  have HI:=ah hI;have HD:=ah hDI;have HIS:=ah his;have hsz0:(Tryz.prog.info? 121).map (·.size)=some 2:=by rw[hi0];simp[hzs]
  clear ho hI his hq hDI hcur hg hsz;go_in;go_wp2_with fail;refine ap HI.o ?_;intro w1 hx1;have HD1:=ah (HD.o.ext hgw (hx1.mono hB) hx1);clear hx1;go_wp2_with fail;go_loopw [5,6,7] (λiV jV _ wr=>∃i2 j:Nat,iV= .int .i64 i2/\jV= .int .i64 j/\DI B w g cap 2 xs p fD 121 i2 j wr) (λ_ jV _ _=>xs.length-(intOf jV).toNat)
  case atStart=>exact⟨i,i+1,rfl,bm,HD1.o⟩
  case round=>
   obtain⟨i2,j,rfl,rfl,hd⟩:=hrel;clear HI HD HD1;have hij:=hd.choose_spec.1;have hjn:=hd.choose_spec.2.1;have hgr:g<wr.heap.size:=(aB.1 hd.choose_spec.2.2.2.1).1;by_cases hlt:j<xs
   ·obtain⟨L',h1,h2,h3,h4,h5,h6,h7,h8⟩:=id hd;have c0:wr.cell? ⟨g,j*2,none⟩=some (.string (str xs[j].nm)):=by have:=h8 j hlt (aD _) 0 aq;simpa[World.cell?,h4,fD]using this
    have c1:wr.cell? ⟨g,j*2+1,none⟩=some (.int .u32 (xs[j].act:Int)):=by have:=h8 j hlt (aD _) 1 aq;simpa[World.cell?,h4,fD]using this
    have vD:=ah hd;have hic:i2<xs:=aq;have KI:=ah (HIS.o xs[j] (aW hlt));have Oq:=ah (λhp W h=>DI.skip (B:=B) (w:=w) (g:=g) (cap:=cap) (k:=2) (p:=p) (enc:=fD) (el:=121) (i:=i2) (W:=W) h hlt hp);have HKP:=ah (λhp W' hb h4'=>DI.keep (B:=B) (w:=w) (g:=g) (cap:=cap) (k:=2) (p:=p) (enc:=fD) (el:=121) (i:=i2) (W':=W') (L:=L') fM hij hlt hcap hp hb h5 h6 h7 h8 h4');have FZ:=ah (ak h3 (ak h4 h5));clear hd h3 h4 h5 h6 h7 h8 h1 h2;generalize xs[j]=x at *;go_wp2_with(first
     |(refine wpList_store_rowTo rfl 121 (.tmp 7) (.tmp 25) rfl rfl wr.heap.size (fD x).toArray rfl rfl 121 _ (by show(wr.heap.push _)[wr.heap.size]?=_;simp;rfl) ge rfl rfl ?_;simp only[World.setRow_alloc_new]))
    refine ap (KI.o _ (FZ.o.1.alloc aq _)) ?_;intro w2 hx2;have jm:=ah (((aj wr).alloc _).trans hx2);have HB2:=ah ((FZ.o.1.alloc (show B<=wr.heap.size from aq) _).trans (hx2.mono ev));have c2:w2.cell? wr=some (.string (str x.nm)):=hx2.cell (World.cell?_alloc_at (w:=wr) _ _ _ 0 rfl);have c3:w2.cell? ⟨wr,1,none⟩=some (.int .u32 x.act):=hx2.cell (World.cell?_alloc_at (w:=wr) _ _ _ 1 rfl);clear hx2;have H2:=ah ((jm.o.block hgr).trans FZ.o.2.1);have hfit:(i2*2)+(fD x).length<=L'.length:=by rw[fM,FZ.o.2.2];omega
    cases hm:p x
    ·go_wp2_with(refine pq rfl 121 (.tmp 33) (.tmp 32) rfl rfl g (i2*2) (XB x) (fD x) rfl rfl 121 L' H2.o ge rfl hfit (oz x) B w HB2.o hBg ?_;intro w3 Sr hB3;have HB3:=ah hB3;clear hB3);have hre:∃a b:Nat,(Value.int .i64 ((i2:Int)+1))= .int .i64 a/\(Value.int .i64 ((j:Int)+1))= .int .i64 b/\DI B w g cap 2 xs p fD 121 a b w3:=⟨i2+1,j+1,bm,bm,HKP.o hm _ HB3.o eh⟩;exact qt
    ·go_wp2_with fail;have hre:∃a b:Nat,(Value.int .i64 i2)= .int .i64 a/\(Value.int .i64 ((j:Int)+1))= .int .i64 b/\DI B w g cap 2 xs p fD 121 a b w2:=⟨i2,j+1,rfl,bm,Oq.o hm _ (vD.o.ext hgr (jm.o.mono aq) jm.o)⟩;exact ry
   ·obtain⟨L',h1,h2,h3,h4,h5,h6,h7,h8⟩:=hd;obtain rfl:j=xs.length:=aq;rw[bZ]at h6 h7;have H6:=ah (ak h6 (ak h7 h5));have H34:=ah (ak h3 h4);have hfit:(i2*2)+(xs.length-i2)*(.agg #[.string ⟨#[]⟩,.int .u32 0]:aA).cells.size<=L'.length:=by rw[show(.agg #[.string ⟨#[]⟩,.int .u32 0]:aA).cells.size=2 from rfl,h5];omega
    have hi2:0<xs.length-i2:=aq;have hci:¬(cap=i2):=aq;have hic:i2<=cap:=aq;have hil:i2<=xs:=aq;clear h3 h4 h5 h6 h7 h8;go_wp2_with(refine tQ rfl (.tmp 38) 29 rfl 121 i0 _ underlying29 hi0 hz0 g (i2*2) (xs.length-i2) (cap-i2) hi2 rfl 121 L' H34.o.2 hfit du B w H34.o.1 hBg ?_;intro w3 Sr hB3;have HB3:=ah hB3;clear hB3);go_ret;obtain⟨h6,h7,h5⟩:=H6.o;have htl:(L'.take (i2*2)).length=i2*2:=by rw[bC,h5];omega
    have hzl:(Builtin.zeroCells (.agg #[.string ⟨#[]⟩,.int .u32 0]:aA).cells (xs.length-i2)).toList.length=(xs.length-i2)*2:=by simp[Builtin.zeroCells,Value.cells]
    exact ii
theorem Sc(g:Nat)(Bc0:aA)(eg:∀args w,(callFunc g args).run prog w= .ok (.enter g args) w)(p:Int->Bool)(v:aA)(xs:List Int)(hl:xs.length<=1000000)(w:ay)(hv:Rd w 1 i3 v xs)(his:∀x∈xs,∀W,Ext w W->Calls prog g #[erV x,Bc0] W λr w'=>r= .returned (.bool (p x))/\Ext W w'):Rt 280 #[v,.func (.func g) #[] #[Bc0]] w (.int .i64 (iG p xs 0)):=by obtain⟨a,c,rfl,hac,hca⟩:=qQ hv;clear hv;unfold erV at his;exact ic
theorem VL(B:Nat)(gf:Nat)(Bc:aA)(eg:∀args w,(callFunc gf args).run prog w= .ok (.enter gf args) w)(p:Int->Bool)(v:aA)(xs:List Int)(hl:xs.length<=1000000)(w:ay)(ho:w.ownsRow B 3 1 v xs (xs.flatMap i3))(hB:B<=w.heap.size)(his:∀x∈xs,∀W,Below B w W->Calls prog gf #[erV x,Bc] W λr w'=>r= .returned (.bool (p x))/\Ext W w'):Calls prog 345 #[v,.func (.func gf) #[] #[Bc]] w λe w'=>∃au m cu,e= .returned (.slice au m cu)/\Below B w w'/\m=(xs.filter (λx=> !p x)).length/\w'.ownsRow B 3 1 (.slice au m cu) m ((xs.filter (λx=> !p x)).flatMap i3):=by
 obtain⟨i0,hi0,hz0,hzs,hzb⟩:=jo FC;have hI:=Sc gf Bc eg p v xs hl w (bY iD ho) (λx hx W hW=>his x hx W (hW.mono hB));have hcs:=uZ p xs 0;generalize iG p xs 0=q at *;rcases hcs with⟨rfl,hq⟩|⟨i,hi,rfl,hq⟩
 ·exact ie
 ·rcases ho.2 with⟨-,h0⟩|⟨g,cap,cur,rfl,hBg,hg,hcap,hcm,hsz,hcur⟩
  ·omega
  have hgw:g<w.heap.size:=(aB.1 hg).1;have hDI:DI B w g cap 1 xs p i3 3 i (i+1) w:=by
   refine⟨cur.toList,aq,aq,Below.refl _ _,by simpa using hg,by simpa using hsz,?_,?_,?_⟩
   ·rw[hq,<-mF iD,<-hcur,i6,dI aq]
   ·rw[hq,bC];omega
   ·intro t ht _ q hq2;rw[<-flat_get iD xs t q ht hq2,<-hcur,gH,aV fv]
  have HI:=ah hI;have HD:=ah hDI;have HIS:=ah his;have hsz0:(Tryz.prog.info? 3).map (·.size)=some 1:=by rw[hi0];simp[hzs]
  clear ho hI his hq hDI hcur hg hsz;go_in;go_wp2_with fail;refine ap HI.o ?_;intro w1 hx1;have HD1:=ah (HD.o.ext hgw (hx1.mono hB) hx1);clear hx1;go_wp2_with fail;go_loopw [5,6,7] (λiV jV _ wr=>∃i2 j:Nat,iV= .int .i64 i2/\jV= .int .i64 j/\DI B w g cap 1 xs p i3 3 i2 j wr) (λ_ jV _ _=>xs.length-(intOf jV).toNat)
  case atStart=>exact⟨i,i+1,rfl,bm,HD1.o⟩
  case round=>
   obtain⟨i2,j,rfl,rfl,hd⟩:=hrel;clear HI HD HD1;have hij:=hd.choose_spec.1;have hjn:=hd.choose_spec.2.1;have hgr:g<wr.heap.size:=(aB.1 hd.choose_spec.2.2.2.1).1;by_cases hlt:j<xs
   ·obtain⟨L',h1,h2,h3,h4,h5,h6,h7,h8⟩:=id hd;have c0:wr.cell? ⟨g,j,none⟩=some (.int .i64 xs[j]):=by have:=h8 j hlt (aD _) 0 aq;simpa[World.cell?,h4,i3]using this
    have vD:=ah hd;have hic:i2<xs:=aq;have KI:=ah (HIS.o xs[j] (aW hlt));have Oq:=ah (λhp W h=>DI.skip (B:=B) (w:=w) (g:=g) (cap:=cap) (k:=1) (p:=p) (enc:=i3) (el:=3) (i:=i2) (W:=W) h hlt hp);have HKP:=ah (λhp W' hb h4'=>DI.keep (B:=B) (w:=w) (g:=g) (cap:=cap) (k:=1) (p:=p) (enc:=i3) (el:=3) (i:=i2) (W':=W') (L:=L') iD hij hlt hcap hp hb h5 h6 h7 h8 h4');have FZ:=ah (ak h3 (ak h4 h5));clear hd h3 h4 h5 h6 h7 h8 h1 h2;generalize xs[j]=x at *;go_wp2_with fail;refine ap (KI.o _ FZ.o.1) ?_;intro w2 hx2;have jm:=ah hx2;have HB2:=ah (FZ.o.1.trans (hx2.mono aq))
    skip
    clear hx2;have H2:=ah ((jm.o.block hgr).trans FZ.o.2.1);have hfit:i2+(i3 x).length<=L'.length:=by rw[iD,FZ.o.2.2];omega
    cases hm:p x
    ·go_wp2_with(refine pq rfl 3 (.tmp 33) (.tmp 32) rfl rfl g i2 (erV x) (i3 x) rfl rfl 3 L' H2.o ge rfl hfit (oq x) B w HB2.o hBg ?_;intro w3 Sr hB3;have HB3:=ah hB3;clear hB3);have hre:∃a b:Nat,(Value.int .i64 ((i2:Int)+1))= .int .i64 a/\(Value.int .i64 ((j:Int)+1))= .int .i64 b/\DI B w g cap 1 xs p i3 3 a b w3:=⟨i2+1,j+1,bm,bm,HKP.o hm _ HB3.o eh⟩;exact qt
    ·go_wp2_with fail;have hre:∃a b:Nat,(Value.int .i64 i2)= .int .i64 a/\(Value.int .i64 ((j:Int)+1))= .int .i64 b/\DI B w g cap 1 xs p i3 3 a b w2:=⟨i2,j+1,rfl,bm,Oq.o hm _ (vD.o.ext hgr (jm.o.mono aq) jm.o)⟩;exact ry
   ·obtain⟨L',h1,h2,h3,h4,h5,h6,h7,h8⟩:=hd;obtain rfl:j=xs.length:=aq;rw[bZ]at h6 h7;have H6:=ah (ak h6 (ak h7 h5));have H34:=ah (ak h3 h4);have hfit:i2+(xs.length-i2)*(.int .i64 0:aA).cells.size<=L'.length:=by rw[show(.int .i64 0:aA).cells.size=1 from rfl,h5];omega
    have hi2:0<xs.length-i2:=aq;have hci:¬(cap=i2):=aq;have hic:i2<=cap:=aq;have hil:i2<=xs:=aq;clear h3 h4 h5 h6 h7 h8;go_wp2_with(refine tQ rfl (.tmp 38) 28 rfl 3 i0 _ underlying28 hi0 hz0 g i2 (xs.length-i2) (cap-i2) hi2 rfl 3 L' H34.o.2 hfit du B w H34.o.1 hBg ?_;intro w3 Sr hB3;have HB3:=ah hB3;clear hB3);go_ret;obtain⟨h6,h7,h5⟩:=H6.o;have htl:(L'.take (i2*1)).length=i2*1:=by rw[bC,h5];omega
    have hzl:(Builtin.zeroCells (.int .i64 0:aA).cells (xs.length-i2)).toList.length=(xs.length-i2)*1:=by simp[Builtin.zeroCells,Value.cells]
    exact ii
theorem Sb(g:Nat)(Bc0:aA)(eg:∀args w,(callFunc g args).run prog w= .ok (.enter g args) w)(p:Nat->Bool)(v:aA)(xs:List Nat)(hl:xs.length<=1000000)(w:ay)(hv:Rd w 1 i8 v xs)(his:∀x∈xs,∀W,Ext w W->Calls prog g #[u3V x,Bc0] W λr w'=>r= .returned (.bool (p x))/\Ext W w'):Rt 390 #[v,.func (.func g) #[] #[Bc0]] w (.int .i64 (iG p xs 0)):=by obtain⟨a,c,rfl,hac,hca⟩:=tJ hv;clear hv;unfold u3V at his;exact ic
theorem VK(B:Nat)(gf:Nat)(Bc:aA)(eg:∀args w,(callFunc gf args).run prog w= .ok (.enter gf args) w)(p:Nat->Bool)(v:aA)(xs:List Nat)(hl:xs.length<=1000000)(w:ay)(ho:w.ownsRow B 32 1 v xs (xs.flatMap i8))(hB:B<=w.heap.size)(his:∀x∈xs,∀W,Below B w W->Calls prog gf #[u3V x,Bc] W λr w'=>r= .returned (.bool (p x))/\Ext W w'):Calls prog 349 #[v,.func (.func gf) #[] #[Bc]] w λe w'=>∃au m cu,e= .returned (.slice au m cu)/\Below B w w'/\m=(xs.filter (λx=> !p x)).length/\w'.ownsRow B 32 1 (.slice au m cu) m ((xs.filter (λx=> !p x)).flatMap i8):=by
 obtain⟨i0,hi0,hz0,hzs,hzb⟩:=jo EC;have hI:=Sb gf Bc eg p v xs hl w (bY iK ho) (λx hx W hW=>his x hx W (hW.mono hB));have hcs:=uZ p xs 0;generalize iG p xs 0=q at *;rcases hcs with⟨rfl,hq⟩|⟨i,hi,rfl,hq⟩
 ·exact ie
 ·rcases ho.2 with⟨-,h0⟩|⟨g,cap,cur,rfl,hBg,hg,hcap,hcm,hsz,hcur⟩
  ·omega
  have hgw:g<w.heap.size:=(aB.1 hg).1;have hDI:DI B w g cap 1 xs p i8 32 i (i+1) w:=by
   refine⟨cur.toList,aq,aq,Below.refl _ _,by simpa using hg,by simpa using hsz,?_,?_,?_⟩
   ·rw[hq,<-mF iK,<-hcur,i6,dI aq]
   ·rw[hq,bC];omega
   ·intro t ht _ q hq2;rw[<-flat_get iK xs t q ht hq2,<-hcur,gH,aV fv]
  have HI:=ah hI;have HD:=ah hDI;have HIS:=ah his;have hsz0:(Tryz.prog.info? 32).map (·.size)=some 1:=by rw[hi0];simp[hzs]
  clear ho hI his hq hDI hcur hg hsz;go_in;go_wp2_with fail;refine ap HI.o ?_;intro w1 hx1;have HD1:=ah (HD.o.ext hgw (hx1.mono hB) hx1);clear hx1;go_wp2_with fail;go_loopw [5,6,7] (λiV jV _ wr=>∃i2 j:Nat,iV= .int .i64 i2/\jV= .int .i64 j/\DI B w g cap 1 xs p i8 32 i2 j wr) (λ_ jV _ _=>xs.length-(intOf jV).toNat)
  case atStart=>exact⟨i,i+1,rfl,bm,HD1.o⟩
  case round=>
   obtain⟨i2,j,rfl,rfl,hd⟩:=hrel;clear HI HD HD1;have hij:=hd.choose_spec.1;have hjn:=hd.choose_spec.2.1;have hgr:g<wr.heap.size:=(aB.1 hd.choose_spec.2.2.2.1).1;by_cases hlt:j<xs
   ·obtain⟨L',h1,h2,h3,h4,h5,h6,h7,h8⟩:=id hd;have c0:wr.cell? ⟨g,j,none⟩=some (.int .u32 (xs[j]:Int)):=by have:=h8 j hlt (aD _) 0 aq;simpa[World.cell?,h4,i8]using this
    have vD:=ah hd;have hic:i2<xs:=aq;have KI:=ah (HIS.o xs[j] (aW hlt));have Oq:=ah (λhp W h=>DI.skip (B:=B) (w:=w) (g:=g) (cap:=cap) (k:=1) (p:=p) (enc:=i8) (el:=32) (i:=i2) (W:=W) h hlt hp);have HKP:=ah (λhp W' hb h4'=>DI.keep (B:=B) (w:=w) (g:=g) (cap:=cap) (k:=1) (p:=p) (enc:=i8) (el:=32) (i:=i2) (W':=W') (L:=L') iK hij hlt hcap hp hb h5 h6 h7 h8 h4');have FZ:=ah (ak h3 (ak h4 h5));clear hd h3 h4 h5 h6 h7 h8 h1 h2;generalize xs[j]=x at *;go_wp2_with fail;refine ap (KI.o _ FZ.o.1) ?_;intro w2 hx2;have jm:=ah hx2;have HB2:=ah (FZ.o.1.trans (hx2.mono aq))
    skip
    clear hx2;have H2:=ah ((jm.o.block hgr).trans FZ.o.2.1);have hfit:i2+(i8 x).length<=L'.length:=by rw[iK,FZ.o.2.2];omega
    cases hm:p x
    ·go_wp2_with(refine pq rfl 32 (.tmp 33) (.tmp 32) rfl rfl g i2 (u3V x) (i8 x) rfl rfl 32 L' H2.o ge rfl hfit (oo x) B w HB2.o hBg ?_;intro w3 Sr hB3;have HB3:=ah hB3;clear hB3);have hre:∃a b:Nat,(Value.int .i64 ((i2:Int)+1))= .int .i64 a/\(Value.int .i64 ((j:Int)+1))= .int .i64 b/\DI B w g cap 1 xs p i8 32 a b w3:=⟨i2+1,j+1,bm,bm,HKP.o hm _ HB3.o eh⟩;exact qt
    ·go_wp2_with fail;have hre:∃a b:Nat,(Value.int .i64 i2)= .int .i64 a/\(Value.int .i64 ((j:Int)+1))= .int .i64 b/\DI B w g cap 1 xs p i8 32 a b w2:=⟨i2,j+1,rfl,bm,Oq.o hm _ (vD.o.ext hgr (jm.o.mono aq) jm.o)⟩;exact ry
   ·obtain⟨L',h1,h2,h3,h4,h5,h6,h7,h8⟩:=hd;obtain rfl:j=xs.length:=aq;rw[bZ]at h6 h7;have H6:=ah (ak h6 (ak h7 h5));have H34:=ah (ak h3 h4);have hfit:i2+(xs.length-i2)*(.int .u32 0:aA).cells.size<=L'.length:=by rw[show(.int .u32 0:aA).cells.size=1 from rfl,h5];omega
    have hi2:0<xs.length-i2:=aq;have hci:¬(cap=i2):=aq;have hic:i2<=cap:=aq;have hil:i2<=xs:=aq;clear h3 h4 h5 h6 h7 h8;go_wp2_with(refine tQ rfl (.tmp 38) 33 rfl 32 i0 _ underlying33 hi0 hz0 g i2 (xs.length-i2) (cap-i2) hi2 rfl 32 L' H34.o.2 hfit du B w H34.o.1 hBg ?_;intro w3 Sr hB3;have HB3:=ah hB3;clear hB3);go_ret;obtain⟨h6,h7,h5⟩:=H6.o;have htl:(L'.take (i2*1)).length=i2*1:=by rw[bC,h5];omega
    have hzl:(Builtin.zeroCells (.int .u32 0:aA).cells (xs.length-i2)).toList.length=(xs.length-i2)*1:=by simp[Builtin.zeroCells,Value.cells]
    exact ii
end LT
end Go.Proofs.YtopfefhenfineaaGreat
