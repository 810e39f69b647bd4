import Derived.Test.YtopfefhenfineaaGreatP0
import Derived.Laws.BitsAllLaws
import Derived.Shelf.Abstract
set_option linter.all false
set_option maxRecDepth 100000
set_option maxHeartbeats 8000000
namespace Go.Proofs.YtopfefhenfineaaGreat
open Go.Proofs.Tryz Go.RowKit bh
attribute[local go_sem] Oper.semAt_some
namespace LT
def uL(e:tK):K:=bg #[N (str e.nm),H e.n0,H e.n1,H e.n2,H e.n3,H e.n4,H e.n5]
def Ao(e:tK):List K:= [N (str e.nm),H e.n0,H e.n1,H e.n2,H e.n3,H e.n4,H e.n5]
def au6(e:tK):(Ao e).length=7:=rfl
def Ap:Array K:=(kF.flatMap Ao).toArray
def iL(k:Nat):Array K:=((Ao (kF.getD k xP)).drop 1).toArray
def fO(k:Nat):Array K:=(Ao (kF.getD k xP)).toArray
def au7:Ap=(kF.flatMap Ao).toArray:=rfl
theorem au8(w:G):aM 195 #[] w (bg Ap):=by
 unfold aM;go_in;go_upto_region 1 with fail;apply wp_region_lit;refine bG 247 1 (iL 0) ?_;refine bG 249 2 (fO 0) ?_;refine bG 247 3 (iL 1) ?_;refine bG 249 4 (fO 1) ?_;refine bG 247 5 (iL 2) ?_;refine bG 249 6 (fO 2) ?_;refine bG 247 7 (iL 3) ?_;refine bG 249 8 (fO 3) ?_;refine bG 247 9 (iL 4) ?_;refine bG 249 10 (fO 4) ?_;refine bG 247 11 (iL 5) ?_;refine bG 249 12 (fO 5) ?_;refine bG 247 13 (iL 6) ?_;refine bG 249 14 (fO 6) ?_;refine bG 247 15 (iL 7) ?_;refine bG 249 16 (fO 7) ?_;refine bG 247 17 (iL 8) ?_;refine bG 249 18 (fO 8) ?_;refine bG 247 19 (iL 9) ?_;refine bG 249 20 (fO 9) ?_;refine bG 247 21 (iL 10) ?_;refine bG 249 22 (fO 10) ?_;refine bG 247 23 (iL 11) ?_;refine bG 249 24 (fO 11) ?_;refine bG 247 25 (iL 12) ?_;refine bG 249 26 (fO 12) ?_;refine bG 247 27 (iL 13) ?_;refine bG 249 28 (fO 13) ?_;refine bG 247 29 (iL 14) ?_;refine bG 249 30 (fO 14) ?_;refine bG 247 31 (iL 15) ?_;refine bG 249 32 (fO 15) ?_;refine bG 247 33 (iL 16) ?_;refine bG 249 34 (fO 16) ?_;refine bG 247 35 (iL 17) ?_;refine bG 249 36 (fO 17) ?_;refine bG 247 37 (iL 18) ?_;refine bG 249 38 (fO 18) ?_;refine bG 247 39 (iL 19) ?_;refine bG 249 40 (fO 19) ?_;refine bG 247 41 (iL 20) ?_;refine bG 249 42 (fO 20) ?_;refine bG 247 43 (iL 21) ?_;refine bG 249 44 (fO 21) ?_;refine bG 247 45 (iL 22) ?_;refine bG 249 46 (fO 22) ?_;refine bG 247 47 (iL 23) ?_;refine bG 249 48 (fO 23) ?_;refine bG 247 49 (iL 24) ?_;refine bG 249 50 (fO 24) ?_;refine bG 247 51 (iL 25) ?_;refine bG 249 52 (fO 25) ?_;refine bG 247 53 (iL 26) ?_;refine bG 249 54 (fO 26) ?_;refine bG 247 55 (iL 27) ?_;refine bG 249 56 (fO 27) ?_;refine bG 247 57 (iL 28) ?_;refine bG 249 58 (fO 28) ?_;refine bG 247 59 (iL 29) ?_;refine bG 249 60 (fO 29) ?_;refine bG 247 61 (iL 30) ?_;refine bG 249 62 (fO 30) ?_;refine bG 247 63 (iL 31) ?_;refine bG 249 64 (fO 31) ?_;refine bG 247 65 (iL 32) ?_;refine bG 249 66 (fO 32) ?_;refine bG 247 67 (iL 33) ?_;refine bG 249 68 (fO 33) ?_;refine bG 247 69 (iL 34) ?_;refine bG 249 70 (fO 34) ?_;refine bG 247 71 (iL 35) ?_;refine bG 249 72 (fO 35) ?_;refine bG 247 73 (iL 36) ?_;refine bG 249 74 (fO 36) ?_;refine bG 247 75 (iL 37) ?_;refine bG 249 76 (fO 37) ?_;refine bG 247 77 (iL 38) ?_;refine bG 249 78 (fO 38) ?_;refine bG 247 79 (iL 39) ?_;refine bG 249 80 (fO 39) ?_;refine bG 312 81 Ap ?_;refine wpList_store_rowTo rfl 312 _ _ rfl rfl w.heap.size Ap jU jU 312 _ (heap_alloc_last w _) aj aj aj ?_;rw[World.setRow_alloc_new];apply wpList_nil;rename_i am;refine am _ _ ?_;have key:∀aq:Act,aq.tmps.getD 0 undef=aB (some w)->aq.defers=[]->Code.wp prog Code.ret (bodyPost prog Tryz.f195 λe F=>e=aI (bg Ap)/\Ext w F) aq (w.alloc (J Ap 312)):=by intro aq ae hd;go_wp2_with fail;exact cO (v:=bg Ap) (lQ results195 _ _ _ _ _ _ _ ae (heap_alloc_last w _) underlying312 rfl aj) hd ⟨rfl,(O _).alloc _⟩
 exact Du
end LT
variable{S:Prop}
def Qv(h:S:=by obtain rfl:k=A.length:=aE;have bY:Hid (gM p A 0= -1):=z Qw;go_wp2_with fail;go_ret;rw[bY.o];exact⟨rfl,aT.o⟩):S:=h
def Qx(h:S:=by have gg:=z (kQ ad);have ve:=z (oB.o A[k] (eB ad));generalize A[k]=x at *;go_wp2_with fail;refine ak (ve.o _ aT.o) ?_;intro I Q;have bF:=z (aT.o.trans Q);exact Wd):S:=h
def Wd(h:S:=by
 cases R:p x
 ·have bY:Hid (gM p A 0=gM p (A.drop (k+1)) (k+1)):=z aeC;go_wp2_with fail;go_roundw
  case rel=>exact⟨k+1,aE,cZ,bF.o,bY.o⟩
  case measure=>simp[intOf];omega
 ·have bY:Hid (gM p A 0=(k:Int)):=z aeD;go_wp2_with fail;go_ret;rw[bY.o];exact⟨rfl,bF.o⟩):S:=h
def Qw(h:S:=by rw[cI.o,qy];rfl):S:=h
def aeC(h:S:=by rw[cI.o,gg.o];conv=>lhs;unfold gM;rw[R];simp):S:=h
def aeD(h:S:=by rw[cI.o,gg.o];unfold gM;rw[R];rfl):S:=h
def Gd(h:S:=by simp[Ao]):S:=h
namespace LT
def aeE{w:G}{v:K}{A:List tK}(h:aS w 7 Ao v A):∃a c,v=E a A c/\A.length<=c/\∀i,(hi:i<A.length)->∃b o,a=some ⟨b,o,none⟩/\w.cell? ⟨b,o+i*7,none⟩=some (N (str A[i].nm))/\w.cell? ⟨b,o+i*7+1,none⟩=some (H A[i].n0)/\w.cell? ⟨b,o+i*7+2,none⟩=some (H A[i].n1)/\w.cell? ⟨b,o+i*7+3,none⟩=some (H A[i].n2)/\w.cell? ⟨b,o+i*7+4,none⟩=some (H A[i].n3)/\w.cell? ⟨b,o+i*7+5,none⟩=some (H A[i].n4)/\w.cell? ⟨b,o+i*7+6,none⟩=some (H A[i].n5):=by obtain⟨a,c,h1,h2,T,af⟩:=h;refine⟨a,c,h1,h2,λi hi=> ?_⟩;obtain⟨b,o,e,k⟩:=af i hi;exact⟨b,o,e,k 0 Gd,k 1 Gd,k 2 Gd,k 3 Gd,k 4 Gd,k 5 Gd,k 6 Gd⟩
theorem au9(g:Nat)(yl:K)(g1:∀args w,(callFunc g args).run prog w= .ok (.enter g args) w)(p:tK->Bool)(v:K)(A:List tK)(X:A.length<=1000000)(w:G)(hv:aS w 7 Ao v A)(f2:∀x∈A,∀W,Ext w W->Calls prog g #[uL x,yl] W λr F=>r=aI (av (p x))/\Ext W F):aM 196 #[v,.func (.func g) #[] #[yl]] w (H (gM p A 0)):=by
 obtain⟨a,c,rfl,ep,bV⟩:=aeE hv;unfold uL at f2;have oB:=z f2;have gt:=z bV;unfold aM;go_in;go_wp2_with fail;go_loopw [5,8] (λ_ i wr=>∃k:Nat,k<=A/\i=H k/\Ext w wr/\gM p A 0=gM p (A.drop k) k) (λ_ i _=>A.length-(intOf i).toNat)
 case atStart=>exact qO
 case round=>
  obtain⟨k,hk,rfl,D,b4⟩:=hrel;have aT:=z D;have cI:=z b4;by_cases ad:k<A
  ·obtain⟨b,o,rfl,ae,h1,h2,T,af,aQ,a9⟩:=gt.o k ad;replace ae:=D.cell ae;replace h1:=D.cell h1;replace h2:=D.cell h2;replace T:=D.cell T;replace af:=D.cell af;replace aQ:=D.cell aQ;replace a9:=D.cell a9;exact Qx
  ·exact Qv
theorem aeF(g:Nat)(k8:K)(g1:∀args w,(callFunc g args).run prog w= .ok (.enter g args) w)(p:tK->Bool)(w:G)(f2:∀x∈kF,∀W,Ext w W->Calls prog g #[uL x,k8] W λr F=>r=aI (av (p x))/\Ext W F):Calls prog 154 #[.func (.func g) #[] #[k8]] w λr F=>r=aI (bH #[uL ((kF.find? p).getD xP),av (kF.find? p).isSome])/\Ext w F:=by
 have bS:=λv W (D:Ext w W) (hv:aS W 7 Ao v kF)=>au9 g k8 g1 p v kF Y W hv (λx ag a8 h2=>f2 x ag a8 (D.trans h2))
 obtain⟨aH,bd⟩:∃aH,aH=kF.find? p:=⟨_,rfl⟩;rw[<-bd];have kf:=PI p kF 0;rw[<-bd]at kf;generalize gM p kF 0=ava at *;have cg:=z bS;go_in;go_wp;refine ak (au8 _) ?_;intro I Q;have fN:=aJ (bA w (J #[N ⟨#[]⟩,H 0,H 0,H 0,H 0,H 0,H 0] 249)) Q;have bF:=z (((O w).alloc _).trans Q);have ce:=z fN;go_wp2_with(refine wpList_store_rowTo rfl 312 _ _ rfl rfl I.heap.size Ap jU jU 312 _ (heap_alloc_last I _) aj aj aj ?_;rw[World.setRow_alloc_new]);have cX:aS (I.alloc (J Ap 312)) 7 Ao (E (some I) 40 40) kF:=by rw[au7];exact jh au6 I kF _ _ rfl
 generalize Ap=aeG at *;refine ak (cg.o _ _ (bF.o.alloc _) cX) ?_;intro aO ag;have ck:=aJ (aJ ce.o ((O _).alloc _)) ag;have js:=z ck;have ca:=z ((bF.o.alloc _).trans ag);have avb:=cX.ext ag;obtain⟨a2,c2,DX,-,bV⟩:=aeE avb;simp only[eZ]at DX;obtain⟨rfl,-,rfl⟩:=DX;have key:∀(aq:Act) (U:Array K) (b:Bool) (cd:G),aq.tmps.getD 2 undef=aB (some w)->aq.tmps.getD 3 undef=av b->aq.defers=[]->cd.heap[w.heap.size]?=some (J U 249 (0,0))->U.size=7->Ext w cd-> bg U=uL (aH.getD xP)->b=aH.isSome->
  bodyPost prog Tryz.f154 (λr F=>r=aI (bH #[uL (aH.getD xP),av aH.isSome])/\Ext w F) .ret aq cd:=by
  intro aq U b cd h2 T hd hg ab cA ao V;refine cO (tJ results154 aq.tmps cd w 249 U (0,0) _ h2 hg underlying249 rfl (by rw[ab];kernel_rfl)) hd ?_;rw[T,V,ao];exact⟨rfl,cA⟩
 have ST:=λ(U:Array K) (ab:U.size=7) (h1:U.all (·.oneCell')=true)=>z (ah ab h1)
 rcases kf with⟨rfl,rfl,-⟩|⟨i,hi,rfl,rfl,-,-⟩
 ·clear bV;go_wp2_with(refine wpList_store_rowTo rfl 249 _ _ rfl rfl w.heap.size #[N ⟨#[]⟩,H 0,H 0,H 0,H 0,H 0,H 0] jU jU 249 _ js.o aj aj aj ?_);exact key _ #[N ⟨#[]⟩,H 0,H 0,H 0,H 0,H 0,H 0] false _ rfl rfl rfl (gu _ _ _ _ _ _ js.o) rfl (iT ca.o (aZ _) _) rfl rfl
 ·obtain⟨b,o,pD,ae,h1,h2,T,af,aQ,a9⟩:=bV i hi;simp only[jB,pJ,and_true]at pD;obtain⟨rfl,rfl⟩:=pD;have cs:decide (i<40)=true:=dH hi;have p3:(i:Int)<40:=by have:i<40:=hi;omega
  simp only[gF]at ae h1 h2 T af aQ a9⊢;generalize bx:kF[i]=e at *;have cI:=z bx;go_wp2_with(refine wpList_store_rowTo rfl 249 _ _ rfl rfl w.heap.size #[N (str e.nm),H e.n0,H e.n1,H e.n2,H e.n3,H e.n4,H e.n5] jU jU 249 _ js.o aj aj aj ?_);rw[cI.o];exact key _ #[N (str e.nm),H e.n0,H e.n1,H e.n2,H e.n3,H e.n4,H e.n5] true _ rfl rfl rfl (gu _ _ _ _ _ _ js.o) rfl (iT ca.o (aZ _) _) rfl rfl
end LT
open Go.Shelf
def aeH(h:S:=by rw[aF (.inr D)]at hn;subst hn;have dm:decide (x<0)=true:=dH D;go_in;go_wp;go_ret2;exact Dn):S:=h
def aeI(h:S:=by have ad:B<w.heap.size:=gD _ _ hB;have aW:=FP (str e.nm) s;rw[nP]at aW;unfold uL;generalize(e.nm==bytes s)=b at *;go_in;go_wp;go_ret;exact⟨by rw[<-aW];rfl,(O _).alloc _⟩):S:=h
def Mc(h:S:=by
 by_cases D:x<0
 ·exact aeH
 ·rw[au aE,au Y]at hn;have dm:decide (x<0)=false:=dM D;obtain⟨n,rfl⟩:∃n:Nat,x=(n:Int):=⟨x.toNat,aE⟩;rw[kr]at hn;subst hn;have bJ:IntKind.u32.wrap (n:Int)=n:=by simp[IntKind.wrap,IntKind.signed,IntKind.bits];omega
  go_in;go_wp;go_ret2;exact⟨ay,(O _).alloc _⟩):S:=h
namespace LT
theorem avc(e:tK)(s:bn)(B:Nat)(w:G)(hB:w.cell? B=some (N s)):Calls prog 155 #[uL e,aB (some B)] w λr F=>r=aI (av (e.nm==bytes s))/\Ext w F:=by exact aeI
theorem avd(e:tK)(s:bn)(B:Nat)(w:G)(hB:w.cell? B=some (N s)):Calls prog 248 #[uL e,aB (some B)] w λr F=>r=aI (av (e.nm==bytes s))/\Ext w F:=by exact aeI
theorem Wh(s:bn)(w:G):Calls prog 99 #[N s] w λr F=>r=aI (av (oJ (bytes s)))/\Ext w F:=by have co:=aeF 155 (aB (some w)) (enters_of func155 aj rfl) (λe=>e.nm==bytes s) (w.alloc (J #[N s] 9)) (λx _ W D=>avc x s _ W (D.cell ay));have hk:oJ (bytes s)=(kF.find? (λe=>e.nm==bytes s)).isSome:=rfl;rw[hk];generalize kF.find? (λe=>e.nm==bytes s)=aH at *;generalize aH.getD xP=e at *;unfold uL at co;have i8:=z co;go_in;go_wp2_with fail;refine ak i8.o ?_;intro I Q;go_wp2_with fail;go_ret;exact⟨rfl,(((O w).alloc _).trans Q).alloc _⟩
def or_bit(n:Nat)(h:n<4294967296):bits .or .u32 n 1073741824=((n|||1073741824:Nat):Int):=u32_or_nat n 1073741824 h Y
theorem ave(e:tK)(bx:e∈kF\/e=xP)(a:Int)(w:G):Calls prog 249 #[uL e,H a] w λr F=>r=aI (bH #[M ((vI e a).1:Int),av (vI e a).2])/\Ext w F:=by
 have hn:vI e a=if (a<0\/6<=a)\/e.nr a<0 then(0,false)else(if a=2 then(e.nr a).toNat|||1073741824 else(e.nr a).toNat,true):=rfl
 have V:e.n0<1000/\e.n1<1000/\e.n2<1000/\e.n3<1000/\e.n4<1000/\e.n5<1000:=by
  rcases bx with h|rfl
  ·exact(acn e h).2
  ·decide
 obtain⟨aH,bd⟩:∃aH,aH=vI e a:=⟨_,rfl⟩;rw[<-bd];rw[<-bd]at hn;unfold uL;generalize str e.nm=Ge at *;by_cases ae:a<0
 ·rw[aF (.inl (.inl ae))]at hn;subst hn;have dm:decide (a<0)=true:=dH ae;go_in;go_wp;go_ret2;exact Dn
 by_cases a9:6<=a
 ·rw[aF (.inl (.inr a9))]at hn;subst hn;have dm:decide (a<0)=false:=dM ae;have cs:decide (6<=a)=true:=dH a9;go_in;go_wp;go_ret2;exact Dn
 obtain⟨b0,b1,b2,cV,ky,mB⟩:=V;rcases(show a=0\/a=1\/a=2\/a=3\/a=4\/a=5 from aE)with rfl|rfl|rfl|rfl|rfl|rfl
 ·rw[show e.nr 0=e.n0 from rfl]at hn;have hx:=b0;generalize e.n0=x at *;exact Mc
 ·rw[show e.nr 1=e.n1 from rfl]at hn;have hx:=b1;generalize e.n1=x at *;exact Mc
 ·rw[show e.nr 2=e.n2 from rfl]at hn;have hx:=b2;generalize e.n2=x at *;by_cases D:x<0
  ·exact aeH
  ·rw[au aE,aF rfl]at hn;have dm:decide (x<0)=false:=dM D;obtain⟨n,rfl⟩:∃n:Nat,x=(n:Int):=⟨x.toNat,aE⟩;rw[kr]at hn;subst hn;have bJ:IntKind.u32.wrap (n:Int)=n:=by simp[IntKind.wrap,IntKind.signed,IntKind.bits];omega
   have ho:=or_bit n aE;go_in;go_wp;go_ret2;exact⟨ay,(O _).alloc _⟩
 ·rw[show e.nr 3=e.n3 from rfl]at hn;have hx:=cV;generalize e.n3=x at *;exact Mc
 ·rw[show e.nr 4=e.n4 from rfl]at hn;have hx:=ky;generalize e.n4=x at *;exact Mc
 ·rw[show e.nr 5=e.n5 from rfl]at hn;have hx:=mB;generalize e.n5=x at *;exact Mc
def avf{α:Type}{p:α->Bool}{l:List α}{x:α}(h:l.find? p=some x):x∈l:=List.mem_of_find?_eq_some h
theorem avg(a:Int)(s:bn)(w:G):Calls prog 180 #[H a,N s] w λr F=>r=aI (bH #[M ((wM a (bytes s)).1:Int),H ((wM a (bytes s)).2:Int)])/\Ext w F:=by
 have co:=aeF 248 (aB (some w)) (enters_of func248 aj rfl) (λe=>e.nm==bytes s) (w.alloc (J #[N s] 9)) (λx _ W D=>avd x s _ W (D.cell ay));have hk:wM a (bytes s)=match kF.find? (λe=>e.nm==bytes s)with
  |none=>(0,90)
  |some e=>if (vI e a).2=true then((vI e a).1,0)else(0,90):=rfl
 rw[hk];have eV:∀W,Calls prog 249 #[uL ((kF.find? (λe=>e.nm==bytes s)).getD xP),H a] W λr F=>r=aI (bH #[M ((vI ((kF.find? (λe=>e.nm==bytes s)).getD xP) a).1:Int),av (vI ((kF.find? (λe=>e.nm==bytes s)).getD xP) a).2])/\Ext W F:=λW=>ave _ (by
  cases h:kF.find? (λe=>e.nm==bytes s)with
  |none=>exact .inr rfl
  |some x=>exact .inl (avf h)) a W
 generalize kF.find? (λe=>e.nm==bytes s)=aH at *;cases aH with
 |none=>generalize none.getD xP=e at *;generalize vI e a=nb at *;obtain⟨avh,aeJ⟩:=nb;unfold uL at co eV;dsimp only at *;have i8:=z co;have si:=z eV;go_in;go_wp2_with fail;refine ak i8.o ?_;intro I Q;go_wp2_with fail;refine ak (si.o _) ?_;intro aO ag;go_wp2_with fail;go_ret2;exact⟨rfl,((((O w).alloc _).trans Q).alloc _).trans ag⟩
 |some e=>
  rw[show(some e).getD xP=e from rfl]at co eV;dsimp only;generalize vI e a=nb at *;obtain⟨avh,aeJ⟩:=nb;unfold uL at co eV;dsimp only at *;have i8:=z co;have si:=z eV;cases aeJ
  all_goals
   go_in;go_wp2_with fail;refine ak i8.o ?_;intro I Q;go_wp2_with fail;refine ak (si.o _) ?_;intro aO ag;go_wp2_with fail;go_ret2;exact⟨rfl,((((O w).alloc _).trans Q).alloc _).trans ag⟩
end LT
namespace yK
variable{B:Nat}{bz t:dD}{W w I:G}{a b c v x y aR:K}
def xU(e:xQ):K:=bg #[bf e.c,N (str e.nm),aC e.cl]
def BU:Array K:= #[bf 32,N ⟨#[108,100,97,98,115]⟩,aC 1,bf 128,N ⟨#[108,100,108,101,110]⟩,aC 1,bf 0,N ⟨#[108,100,105]⟩,aC 1,bf 96,N ⟨#[108,100,109]⟩,aC 1,bf 129,N ⟨#[108,100,120,108,101,110]⟩,aC 1,bf 1,N ⟨#[108,100,120,105]⟩,aC 1,bf 97,N ⟨#[108,100,120,109]⟩,aC 1,bf 2,N ⟨#[115,116]⟩,aC 2,bf 3,N ⟨#[115,116,120]⟩,aC 2,bf 4,N ⟨#[97,100,100]⟩,aC 3,bf 20,N ⟨#[115,117,98]⟩,aC 3,bf 36,N ⟨#[109,117,108]⟩,aC 3,bf 52,N ⟨#[100,105,118]⟩,aC 3,bf 68,N ⟨#[111,114]⟩,aC 3,bf 84,N ⟨#[97,110,100]⟩,aC 3,bf 100,N ⟨#[108,115,104]⟩,aC 3,bf 116,N ⟨#[114,115,104]⟩,aC 3,bf 164,N ⟨#[120,111,114]⟩,aC 3,bf 12,N ⟨#[97,100,100,120]⟩,aC 3,bf 28,N ⟨#[115,117,98,120]⟩,aC 3,bf 44,N ⟨#[109,117,108,120]⟩,aC 3,bf 60,N ⟨#[100,105,118,120]⟩,aC 3,bf 76,N ⟨#[111,114,120]⟩,aC 3,bf 92,N ⟨#[97,110,100,120]⟩,aC 3,bf 108,N ⟨#[108,115,104,120]⟩,aC 3,bf 124,N ⟨#[114,115,104,120]⟩,aC 3,bf 172,N ⟨#[120,111,114,120]⟩,aC 3,bf 132,N ⟨#[110,101,103]⟩,aC 3,bf 5,N ⟨#[106,97]⟩,aC 4,bf 21,N ⟨#[106,101,113]⟩,aC 4,bf 37,N ⟨#[106,103,116]⟩,aC 4,bf 53,N ⟨#[106,103,101]⟩,aC 4,bf 69,N ⟨#[106,115,101,116]⟩,aC 4,bf 29,N ⟨#[106,101,113,120]⟩,aC 4,bf 45,N ⟨#[106,103,116,120]⟩,aC 4,bf 61,N ⟨#[106,103,101,120]⟩,aC 4,bf 77,N ⟨#[106,115,101,116,120]⟩,aC 4,bf 6,N ⟨#[114,101,116]⟩,aC 5,bf 22,N ⟨#[114,101,116,97]⟩,aC 5,bf 7,N ⟨#[116,97,120]⟩,aC 6,bf 135,N ⟨#[116,120,97]⟩,aC 6]
def avi:sN.length=41:=rfl
theorem avj(i:Nat)(h:i<sN)(W:G):(Instr.index 382 (bg BU) (H i)).run prog W= .ok (xU sN[i]) W:=by
 match i,h with
 |0,_=>rfl
 |1,_=>rfl
 |2,_=>rfl
 |3,_=>rfl
 |4,_=>rfl
 |5,_=>rfl
 |6,_=>rfl
 |7,_=>rfl
 |8,_=>rfl
 |9,_=>rfl
 |10,_=>rfl
 |11,_=>rfl
 |12,_=>rfl
 |13,_=>rfl
 |14,_=>rfl
 |15,_=>rfl
 |16,_=>rfl
 |17,_=>rfl
 |18,_=>rfl
 |19,_=>rfl
 |20,_=>rfl
 |21,_=>rfl
 |22,_=>rfl
 |23,_=>rfl
 |24,_=>rfl
 |25,_=>rfl
 |26,_=>rfl
 |27,_=>rfl
 |28,_=>rfl
 |29,_=>rfl
 |30,_=>rfl
 |31,_=>rfl
 |32,_=>rfl
 |33,_=>rfl
 |34,_=>rfl
 |35,_=>rfl
 |36,_=>rfl
 |37,_=>rfl
 |38,_=>rfl
 |39,_=>rfl
 |40,_=>rfl
 |n+41,h=>exact absurd h (by rw[avi];omega)
theorem avk(w:G):aM 255 #[] w (bg BU):=by
 unfold aM;go_in;go_upto_region 1 with fail;apply wp_region_lit;refine bG 239 1 #[bf 32,N ⟨#[108,100,97,98,115]⟩,aC 1] ?_;refine bG 239 2 #[bf 128,N ⟨#[108,100,108,101,110]⟩,aC 1] ?_;refine bG 239 3 #[bf 0,N ⟨#[108,100,105]⟩,aC 1] ?_;refine bG 239 4 #[bf 96,N ⟨#[108,100,109]⟩,aC 1] ?_;refine bG 239 5 #[bf 129,N ⟨#[108,100,120,108,101,110]⟩,aC 1] ?_;refine bG 239 6 #[bf 1,N ⟨#[108,100,120,105]⟩,aC 1] ?_;refine bG 239 7 #[bf 97,N ⟨#[108,100,120,109]⟩,aC 1] ?_;refine bG 239 8 #[bf 2,N ⟨#[115,116]⟩,aC 2] ?_;refine bG 239 9 #[bf 3,N ⟨#[115,116,120]⟩,aC 2] ?_;refine bG 239 10 #[bf 4,N ⟨#[97,100,100]⟩,aC 3] ?_;refine bG 239 11 #[bf 20,N ⟨#[115,117,98]⟩,aC 3] ?_;refine bG 239 12 #[bf 36,N ⟨#[109,117,108]⟩,aC 3] ?_;refine bG 239 13 #[bf 52,N ⟨#[100,105,118]⟩,aC 3] ?_;refine bG 239 14 #[bf 68,N ⟨#[111,114]⟩,aC 3] ?_;refine bG 239 15 #[bf 84,N ⟨#[97,110,100]⟩,aC 3] ?_;refine bG 239 16 #[bf 100,N ⟨#[108,115,104]⟩,aC 3] ?_;refine bG 239 17 #[bf 116,N ⟨#[114,115,104]⟩,aC 3] ?_;refine bG 239 18 #[bf 164,N ⟨#[120,111,114]⟩,aC 3] ?_;refine bG 239 19 #[bf 12,N ⟨#[97,100,100,120]⟩,aC 3] ?_;refine bG 239 20 #[bf 28,N ⟨#[115,117,98,120]⟩,aC 3] ?_;refine bG 239 21 #[bf 44,N ⟨#[109,117,108,120]⟩,aC 3] ?_;refine bG 239 22 #[bf 60,N ⟨#[100,105,118,120]⟩,aC 3] ?_;refine bG 239 23 #[bf 76,N ⟨#[111,114,120]⟩,aC 3] ?_;refine bG 239 24 #[bf 92,N ⟨#[97,110,100,120]⟩,aC 3] ?_;refine bG 239 25 #[bf 108,N ⟨#[108,115,104,120]⟩,aC 3] ?_;refine bG 239 26 #[bf 124,N ⟨#[114,115,104,120]⟩,aC 3] ?_;refine bG 239 27 #[bf 172,N ⟨#[120,111,114,120]⟩,aC 3] ?_;refine bG 239 28 #[bf 132,N ⟨#[110,101,103]⟩,aC 3] ?_;refine bG 239 29 #[bf 5,N ⟨#[106,97]⟩,aC 4] ?_;refine bG 239 30 #[bf 21,N ⟨#[106,101,113]⟩,aC 4] ?_;refine bG 239 31 #[bf 37,N ⟨#[106,103,116]⟩,aC 4] ?_;refine bG 239 32 #[bf 53,N ⟨#[106,103,101]⟩,aC 4] ?_;refine bG 239 33 #[bf 69,N ⟨#[106,115,101,116]⟩,aC 4] ?_;refine bG 239 34 #[bf 29,N ⟨#[106,101,113,120]⟩,aC 4] ?_;refine bG 239 35 #[bf 45,N ⟨#[106,103,116,120]⟩,aC 4] ?_;refine bG 239 36 #[bf 61,N ⟨#[106,103,101,120]⟩,aC 4] ?_;refine bG 239 37 #[bf 77,N ⟨#[106,115,101,116,120]⟩,aC 4] ?_;refine bG 239 38 #[bf 6,N ⟨#[114,101,116]⟩,aC 5] ?_;refine bG 239 39 #[bf 22,N ⟨#[114,101,116,97]⟩,aC 5] ?_;refine bG 239 40 #[bf 7,N ⟨#[116,97,120]⟩,aC 6] ?_;refine bG 239 41 #[bf 135,N ⟨#[116,120,97]⟩,aC 6] ?_;refine bG 382 42 (BU) ?_;refine wpList_store_rowTo rfl 382 _ _ rfl rfl w.heap.size BU jU jU 382 _ (heap_alloc_last w _) aj aj aj ?_;rw[World.setRow_alloc_new];apply wpList_nil;rename_i am;refine am _ _ ?_;have key:∀aq:Act,aq.tmps.getD 0 undef=aB (some w)->aq.defers=[]->Code.wp prog Code.ret (bodyPost prog Tryz.f255 λe F=>e=aI (bg BU)/\Ext w F) aq (w.alloc (J BU 382)):=by intro aq ae hd;go_wp;exact cO (v:=bg BU) (lQ results255 _ _ _ _ _ _ _ ae (heap_alloc_last w _) underlying382 rfl aj) hd ⟨rfl,(O _).alloc _⟩
 exact Du
def vN(D:Ext (w.alloc (J #[a,b,c] t)) I):I.cell? w=some a/\I.cell? ⟨w,1,none⟩=some b/\I.cell? ⟨w,2,none⟩=some c/\I.frozen? w=false/\I.frozen? ⟨w,1,none⟩=false/\I.frozen? ⟨w,2,none⟩=false/\w.heap.size<I:=by exact acs
def Wi(x y aR:K)(c0:I.cell? B=some a)(c1:I.cell? ⟨B,1,none⟩=some b)(c2:I.cell? ⟨B,2,none⟩=some c):(((I.setCell B x).setCell ⟨B,1,none⟩ y).setCell ⟨B,2,none⟩ aR).cell? B=some x/\(((I.setCell B x).setCell ⟨B,1,none⟩ y).setCell ⟨B,2,none⟩ aR).cell? ⟨B,1,none⟩=some y/\(((I.setCell B x).setCell ⟨B,1,none⟩ y).setCell ⟨B,2,none⟩ aR).cell? ⟨B,2,none⟩=some aR:=by exact acu
theorem acp(bL:(Tryz.prog.info? t).map (·.size)=some 3)(a6:∃fs,Tryz.prog.underlying t=some (.struct fs))(c0:W.cell? B=some x)(c1:W.cell? ⟨B,1,none⟩=some y)(c2:W.cell? ⟨B,2,none⟩=some aR):(loadVar t ⟨B,0,none⟩).run prog W= .ok (bg #[x,y,aR]) W:=by
 obtain⟨fs,a6⟩:=a6;cases aW:Tryz.prog.info? t with
 |none=>simp[aW]at bL
 |some i=>simp[aW]at bL;simp[loadVar,isAgg,sizeOf,typeInfo,underlying,aW,bL,a6,loadCells,loadCellsFrom,go_sem,c0,c1,c2]
theorem Wj{fn:Func}{aq:Act}{bI:Ending->G->Prop}(hr:fn.results= #[.cell 2 bz,.tmp 3])(bL:(Tryz.prog.info? bz).map (·.size)=some 3)(a6:∃fs,Tryz.prog.underlying bz=some (.struct fs))(h2:aq.tmps.getD 2 undef=aB (some B))(T:aq.tmps.getD 3 undef=v)(hd:aq.defers=[])(c0:W.cell? B=some a)(c1:W.cell? ⟨B,1,none⟩=some b)(c2:W.cell? ⟨B,2,none⟩=some c)(cA:Ext w W)(hB:w.heap.size<=B)(Mb:∀aa,Ext w aa->bI (aI (bH #[bg #[x,y,aR],v])) aa):bodyPost prog fn bI .ret aq (((W.setCell B x).setCell ⟨B,1,none⟩ y).setCell ⟨B,2,none⟩ aR):=by obtain⟨tA,dl,gS⟩:=Wi x y aR c0 c1 c2;refine cO (v:=bH #[bg #[x,y,aR],v]) ?_ hd (Mb _ (((cA.setCell hB _).setCell hB _).setCell hB _));exact aco
def xO{α:Type}{p:α->Bool}:∀ {l:List α} {i:Nat} (h:i<l),(∀(j:Nat)(Z:j<l),j<i->p l[j]=false)->p l[i]=true->l.find? p=some l[i]
 |x::r,0,_,_,ac=>by simp at ac;simp[List.find?,ac]
 |x::r,i+1,h,hn,ac=>by have ae:p x=false:=hn 0 ay aE;have:=xO (p:=p) (l:=r) (i:=i) (Nat.lt_of_succ_lt_succ h) (λj Z lr=>hn (j+1) (Nat.succ_lt_succ Z) aE) ac;simp[List.find?,ae,this]
def FR{α:Type}{p:α->Bool}{l:List α}(h:∀(j:Nat)(Z:j<l),p l[j]=false):l.find? p=none:=Pw
theorem avl(e:xQ)(code k8:Nat)(w:G)(hB:w.cell? k8=some (bf code)):Calls prog 190 #[xU e,aB (some k8)] w λr F=>r=aI (av (e.c==code))/\Ext w F:=by
 have ad:k8<w.heap.size:=gD _ _ hB;have aW:((e.c:Int)==(code:Int))=(e.c==code):=by rw[dW];simp;omega
 obtain⟨c,nm,cl⟩:=e;unfold xU;dsimp only at *;cases bx:c==code
 all_goals
  rw[bx]at aW;have IA:=z bx;generalize str nm=Ge at *;go_in;go_wp;go_ret;exact⟨rfl,(O _).alloc _⟩
theorem avm(code:Nat)(k8:Nat)(w:G)(hB:w.cell? k8=some (bf code)):Calls prog 189 #[.func (.func 190) #[] #[aB (some k8)]] w λr F=>r=aI (bH #[xU ((sN.find? (λe=>e.c==code)).getD acv),av (sN.find? (λe=>e.c==code)).isSome])/\Ext w F:=by
 obtain⟨aH,bd⟩:∃aH,aH=sN.find? (λe=>e.c==code):=⟨_,rfl⟩;rw[<-bd];have cD:=z bd;have ce:=z hB;clear bd hB;go_in;go_wp2_with fail;refine ak (avk _) ?_;intro I Q;have bF:=z Q;clear Q;generalize gh:w.alloc (J #[bf 0,N ⟨#[]⟩,aC 0] 239)=bX at *;have vs:=z gh;clear gh;go_wp2_with fail;go_loopw [7] (λi wr=>∃k:Nat,k<=41/\i=H k/\Ext bX wr/\∀(j:Nat) (Z:j<sN),j<k->(λe:xQ=>e.c==code) sN[j]=false) (λi _=>41-(intOf i).toNat)
 case atStart=>exact⟨0,aE,rfl,bF.o,λj _ h=>aE⟩
 case round=>
  obtain⟨k,hk,rfl,D,hp⟩:=hrel;have aT:=z D;have nF:=z hp;clear hp D;have gi:Ext w wr:=by
   have h1:Ext w bX:=by rw[<-vs.o];exact(O _).alloc _
   exact h1.trans aT.o
  have nU:Ext (w.alloc (J #[bf 0,N ⟨#[]⟩,aC 0] 239)) wr:=by rw[vs.o];exact aT.o
  have vt:=z gi;have u':=z nU;clear gi nU;by_cases ad:k<41
  ·have ID:k<sN:=ad;have oe:=λW=>avj k ID W
   have b8:(λe:xQ=>e.c==code) sN[k]=true->aH=some sN[k]:=λh=>by rw[cD.o];exact xO ID nF.o h
   have dT:(λe:xQ=>e.c==code) sN[k]=false->∀(j:Nat) (Z:j<sN.length),j<k+1->(λe:xQ=>e.c==code) sN[j]=false:=λai j Z h=>by
    by_cases e:j=k
    ·subst e;exact ai
    ·exact nF.o j Z aE
   generalize sN[k]=e at *;have am:=λW (h:Ext w W)=>avl e code k8 W (h.cell ce.o)
   dsimp only at *;have Md:=z b8;have V':=z dT;have ag:∀o,Ext w (wr.alloc o):=λo=>vt.o.alloc o
   have ca:=z ag;cases ac:e.c==code
   ·rw[ac]at am;have avn:=z (V'.o ac);have d2:=z am;obtain⟨c,nm,cl⟩:=e;unfold xU at oe d2;dsimp only at oe d2;generalize str nm=Ge at *;generalize BU=aeG at *;go_wp2_with fail;refine ak (d2.o _ (ca.o _)) ?_;intro bj a';have cL:=z ((aT.o.alloc _).trans a');go_wp2_with fail;go_roundw
    case rel=>exact⟨k+1,aE,cZ,cL.o,avn.o⟩
    case measure=>exact eO
   ·rw[ac]at am;have avo:=Md.o ac;subst avo;have d2:=z am;obtain⟨c,nm,cl⟩:=e;unfold xU at oe d2;dsimp only at oe d2;generalize BU=aeG at *;go_wp2_with fail;refine ak (d2.o _ (ca.o _)) ?_;intro bj a';obtain⟨cG,aK,aV,-,-,-,-⟩:=vN a';obtain⟨c0,c1,c2,f0,dg,fg,-⟩:=vN ((u'.o.alloc _).trans a');have cL:=z ((vt.o.alloc _).trans a');go_wp2_with fail;exact Wj results189 aj ⟨_,underlying239⟩ rfl rfl rfl c0 c1 c2 cL.o (aZ _) (λaa h=>⟨rfl,h⟩)
  ·obtain rfl:k=41:=aE;have It:aH=none:=by rw[cD.o];exact FR (λj Z=>nF.o j Z Z)
   subst It;obtain⟨c0,c1,c2,f0,dg,fg,-⟩:=vN u'.o;go_wp2_with fail;exact Wj results189 aj ⟨_,underlying239⟩ rfl rfl rfl c0 c1 c2 vt.o (aZ _) (λaa h=>⟨rfl,h⟩)
end yK
def aeK(h:S:=by generalize entry code=e at *;generalize known code=b at *;obtain⟨c,nm,cl⟩:=e;unfold xU at *;dsimp only at *;generalize str nm=Ge at *;have i8:=z co;go_in;go_wp2_with fail;refine ak (i8.o _) ?_;intro I Q;go_wp2_with fail;go_ret;exact⟨rfl,Q.alloc _⟩):S:=h
namespace yK
def avp(w:G)(t e0:dD)(v:K)(U:Array K):((w.alloc (J #[v] t)).alloc (J U e0)).cell? w=some v:=((Boxed.new w t v).alloc _).cell
theorem Kz(code:Nat)(w:G):Calls prog 147 #[bf code] w λr F=>r=aI (bH #[xU (entry code),av (known code)])/\Ext w F:=by
 have co:=λk8 W h=>avm code k8 W h
 change∀k8 W,W.cell? ⟨k8,0,none⟩=some (bf code)->Calls prog 189 #[.func (.func 190) #[] #[aB (some ⟨k8,0,none⟩)]] W λr F=>r=aI (bH #[xU (entry code),av (known code)])/\Ext W F at co
 generalize entry code=e at *;generalize known code=b at *;obtain⟨c,nm,cl⟩:=e;unfold xU at *;dsimp only at *;generalize str nm=Ge at *;have i8:=z co;go_in;go_wp2_with fail;refine ak (i8.o _ _ (avp _ _ _ _ _)) ?_;intro I Q;obtain⟨c0,c1,c2,f0,dg,fg,-⟩:=vN Q;rw[dR]at c0 c1 c2 f0 dg fg;have bF:=z (((O w).alloc _ |>.alloc _).trans Q);go_wp2_with fail;exact Wj results147 aj ⟨_,underlying239⟩ rfl rfl rfl c0 c1 c2 bF.o (Nat.le_succ _) (λaa h=>⟨rfl,h⟩)
theorem jT(code:Nat)(w:G):Calls prog 92 #[bf code] w λr F=>r=aI (aC (i3 code:Int))/\Ext w F:=by
 have co:=λW=>Kz code W
 unfold i3;exact aeK
theorem Bq(code:Nat)(ao:code<65536)(w:G):Calls prog 257 #[bf code] w λr F=>r=aI (av (wx code))/\Ext w F:=by
 have co:=λW=>Kz code W
 have V:=u16_and_nat code 8 ao Y;have R:(((code&&&8:Nat):Int) !=0)=(code&&&8 !=0):=by rw[dW];simp
 have cA:wx code=(known code&&((i3 code==3||i3 code==4)&&(code&&&8 !=0))):=rfl;rw[cA];unfold i3;generalize entry code=e at *;generalize known code=b at *;generalize code&&&8=m at *;generalize(m !=0)=bb at *;obtain⟨c,nm,cl⟩:=e;unfold xU at *;dsimp only at *;generalize str nm=Ge at *;have T:((cl:Int)==3)=(cl==3):=by rw[dW];simp;omega
 have af:((cl:Int)==4)=(cl==4):=by rw[dW];simp;omega
 generalize(cl==3)=cV at *;generalize(cl==4)=ky at *;have ck:bits .and .u16 code 8=(m:Int):=V;have i8:=z co;cases b<;>cases cV<;>cases ky<;>cases bb
 all_goals
  go_in;go_wp2_with fail;refine ak (i8.o _) ?_;intro I Q;go_wp2_with fail;go_ret;exact⟨rfl,Q.alloc _⟩
end yK
def aeL(h:S:=by
 have cg:=z bS;rcases kf with⟨rfl,-,rfl⟩|⟨k,-,rfl,-,-,rfl⟩
 all_goals
  unfold aM;go_in;go_wp2_with fail;refine ak cg.o ?_;intro I D;go_wp2_with fail;go_ret;exact⟨by first|rfl|simp,D⟩):S:=h
def Wm(h:S:=by
 obtain⟨a,c,rfl,-,-⟩:=Wn hv;cases a with
 |none=>
  obtain⟨a1,c1,aK,h1,h2,T⟩:=hv;simp only[eZ,true_and]at aK;obtain⟨rfl,rfl⟩:=aK;obtain rfl:=h2 rfl;have V:A=[]:=nN aE;subst V;simp only[fu,List.flatMap_nil]at *;have hn:∀W,(binOp .eql QA (E none 0 0) (E none 0 0)).run prog W= .ok (av true) W:=λW=>rfl
  go_in;go_wp;exact UA
 |some p=>
  have hn:∀W,(binOp .eql QA (E (some p) A c) (E none 0 0)).run prog W= .ok (av false) W:=λW=>rfl
  have k1:=z hv;have Bi:=z (qQ QB w ([]:List Wo) Wp w w rfl (aZ _) vF);go_in
  go_wp2_with(at_builtin
              refine Dr rfl (.tmp 5) (.tmp 6) _ rfl Wq Ws rfl Y QB Wt w _ _ [] A rfl rfl Bi.o (k1.o.ext ((O w).alloc _)) dU Y ((O w).alloc _) ?_;intro ri rj bQ d0 bR;have rk:=z d0;have c9:=z bR;clear d0 bR)
  exact UC):S:=h
namespace LT
structure dQ where
 nm:List aL
 act:Nat
def dY(c:dQ):List K:= [N (str c.nm),M c.act]
def vO(c:dQ):K:=bg #[N (str c.nm),M c.act]
def oN(c:dQ):(dY c).length=2:=rfl
def IG(c:dQ):∀u∈dY c,u.oneCell'=true:=by intro u a6;simp[dY]at a6;rcases a6 with rfl|rfl<;>rfl
theorem Me:(Tryz.prog.info? 121).map (λi=>(i.zero,i.size,i.bytes))=some (some (bg #[N ⟨#[]⟩,M 0]),2,24):=aj
def iB(e:Int):List K:= [H e]
def vP(e:Int):(iB e).length=1:=rfl
def II(c:Int):∀u∈iB c,u.oneCell'=true:=by intro u a6;simp[iB]at a6;subst a6;rfl
theorem DY:(Tryz.prog.info? 3).map (λi=>(i.zero,i.size,i.bytes))=some (some (H 0),1,8):=aj
def iC(n:Nat):List K:= [M n]
def sQ(e:Nat):(iC e).length=1:=rfl
def DZ(c:Nat):∀u∈iC c,u.oneCell'=true:=by intro u a6;simp[iC]at a6;subst a6;rfl
theorem D5:(Tryz.prog.info? 32).map (λi=>(i.zero,i.size,i.bytes))=some (some (M 0),1,4):=aj
def Aq{w:G}{v:K}{A:List dQ}(h:aS w 2 dY v A):∃a c,v=E a A c/\A.length<=c/\∀i,(hi:i<A.length)->∃b o,a=some ⟨b,o,none⟩/\w.cell? ⟨b,o+i*2,none⟩=some (N (str A[i].nm))/\w.cell? ⟨b,o+i*2+1,none⟩=some (M (A[i].act:Int)):=by obtain⟨a,c,h1,h2,T,af⟩:=h;refine⟨a,c,h1,h2,λi hi=> ?_⟩;obtain⟨b,o,e,k⟩:=af i hi;exact⟨b,o,e,k 0 (by simp[dY]),k 1 (by simp[dY])⟩
def Gf{w:G}{v:K}{A:List Int}(h:aS w 1 iB v A):∃a c,v=E a A c/\A.length<=c/\∀i,(hi:i<A.length)->∃b o,a=some ⟨b,o,none⟩/\w.cell? ⟨b,o+i,none⟩=some (H A[i]):=by obtain⟨a,c,h1,h2,T,af⟩:=h;refine⟨a,c,h1,h2,λi hi=> ?_⟩;obtain⟨b,o,e,k⟩:=af i hi;have eK:=k 0 (by simp[iB]);exact⟨b,o,e,by simpa[iB]using eK⟩
def IJ{w:G}{v:K}{A:List Nat}(h:aS w 1 iC v A):∃a c,v=E a A c/\A.length<=c/\∀i,(hi:i<A.length)->∃b o,a=some ⟨b,o,none⟩/\w.cell? ⟨b,o+i,none⟩=some (M (A[i]:Int)):=by obtain⟨a,c,h1,h2,T,af⟩:=h;refine⟨a,c,h1,h2,λi hi=> ?_⟩;obtain⟨b,o,e,k⟩:=af i hi;have eK:=k 0 (by simp[iC]);exact⟨b,o,e,by simpa[iC]using eK⟩
namespace ij
abbrev Wn:=@Aq
abbrev QA:Nat:=29
abbrev QB:=@oN
abbrev Wo:=@dQ
abbrev Wp:Nat:=121
abbrev Wq:=@underlying29
abbrev Ws:=@Me
abbrev Wt:=@IG
end ij
open ij in
theorem Wu(v:K)(A:List dQ)(X:A.length<=1000000)(w:G)(hv:aS w 2 dY v A):Calls prog 221 #[v] w λe F=>∃bu c',e=aI (E bu A c')/\Ext w F/\F.ownsRow w 121 2 (E bu A c') A (A.flatMap dY):=by exact Wm
namespace ik
abbrev Wn:=@Gf
abbrev QA:Nat:=28
abbrev QB:=@vP
abbrev Wo:=@Int
abbrev Wp:Nat:=3
abbrev Wq:=@underlying28
abbrev Ws:=@DY
abbrev Wt:=@II
end ik
open ik in
theorem aeM(v:K)(A:List Int)(X:A.length<=1000000)(w:G)(hv:aS w 1 iB v A):Calls prog 219 #[v] w λe F=>∃bu c',e=aI (E bu A c')/\Ext w F/\F.ownsRow w 3 1 (E bu A c') A (A.flatMap iB):=by exact Wm
namespace il
abbrev Wn:=@IJ
abbrev QA:Nat:=33
abbrev QB:=@sQ
abbrev Wo:=@Nat
abbrev Wp:Nat:=32
abbrev Wq:=@underlying33
abbrev Ws:=@D5
abbrev Wt:=@DZ
end il
open il in
theorem aeN(v:K)(A:List Nat)(X:A.length<=1000000)(w:G)(hv:aS w 1 iC v A):Calls prog 220 #[v] w λe F=>∃bu c',e=aI (E bu A c')/\Ext w F/\F.ownsRow w 32 1 (E bu A c') A (A.flatMap iC):=by exact Wm
theorem avq(v:K)(A:List Int)(y:Int)(X:A.length<=1000000)(w:G)(hv:aS w 1 iB v A):aM 75 #[v,H y] w (H (gM (λx=>x==y) A 0)):=by
 obtain⟨a,c,rfl,ep,bV⟩:=Gf hv;have gt:=z bV;unfold aM;go_in;go_wp;go_loopw [5,8] (λ_ i wr=>∃k:Nat,k<=A/\i=H k/\Ext w wr/\gM (λx=>x==y) A 0=gM (λx=>x==y) (A.drop k) k) (λ_ i _=>A.length-(intOf i).toNat)
 case atStart=>exact qO
 case round=>
  obtain⟨k,hk,rfl,D,b4⟩:=hrel;have aT:=z D;have cI:=z b4;by_cases ad:k<A
  ·obtain⟨b,o,rfl,ae⟩:=gt.o k ad;replace ae:=D.cell ae;have gg:=z (kQ ad);generalize A[k]=x at *;have aW:((y:Int)==x)=(x==y):=by rw[dW];simp;exact eq_comm
   cases R:x==y
   ·have bY:Hid (gM (λx=>x==y) A 0=gM (λx=>x==y) (A.drop (k+1)) (k+1)):=z aeC;rw[R]at aW;go_wp;go_roundw
    case rel=>exact⟨k+1,aE,cZ,aT.o,bY.o⟩
    case measure=>exact eO
   ·have bY:Hid (gM (λx=>x==y) A 0=(k:Int)):=z aeD;rw[R]at aW;go_wp;go_ret;rw[bY.o];exact wL
  ·obtain rfl:k=A.length:=aE;have bY:Hid (gM (λx=>x==y) A 0= -1):=z Qw;go_wp;go_ret;rw[bY.o];exact wL
theorem avr(v:K)(A:List Int)(y:Int)(X:A.length<=1000000)(w:G)(hv:aS w 1 iB v A):aM 38 #[v,H y] w (av (A.any (λx=>x==y))):=by have bS:=avq v A y X w hv;obtain⟨a,c,rfl,-,-⟩:=Gf hv;have kf:=PI (λx=>x==y) A 0;generalize gM (λx=>x==y) A 0=i at *;generalize A.any (λx=>x==y)=r at *;exact aeL
def zi(e:Int):Bool:=e==90||(e==110||(e==100||e==161))
def avs(e:Int): [(90:Int),110,100,161].any (λx=>x==e)=zi e:=by unfold zi;simp only[List.any_cons,List.any_nil,Bool.or_false];rw[dW];simp;omega
theorem avt(e:Int)(w:G):Calls prog 20 #[H e] w λr F=>r=aI (av (zi e))/\Ext w F:=by have cq:=avr _ [90,110,100,161] e Y _ (jh vP w [90,110,100,161] 43 _ rfl);rw[avs]at cq;generalize zi e=b at *;have dt:=z cq;go_in;go_wp2_with fail;refine ak dt.o ?_;intro I D;go_wp2_with fail;go_ret;exact⟨rfl,((O w).alloc _).trans D⟩
def wP(a:Nat):Bool:=a==0||(a==2147483648||(decide (327680<=a)&&decide (a<=331775)))
theorem avu(a:Nat)(w:G):Calls prog 100 #[M a] w λr F=>r=aI (av (wP a))/\F=w:=by
 have ef:((a:Int)==0)=(a==0):=by rw[dW];simp
 have cY:((a:Int)==2147483648)=(a==2147483648):=by rw[dW];simp;omega
 have eh:decide ((327680:Int)<=a)=decide (327680<=a):=by rw[dW];simp;omega
 have hL:decide ((a:Int)<=331775)=decide (a<=331775):=by rw[dW];simp;omega
 unfold wP;generalize(a==0)=b1 at *;generalize(a==2147483648)=b2 at *;generalize decide (327680<=a)=cV at *;generalize decide (a<=331775)=ky at *;cases b1<;>cases b2<;>cases cV<;>cases ky
 all_goals
  go_in;go_wp2_with fail;go_ret;exact⟨rfl,rfl⟩
end LT
end Go.Proofs.YtopfefhenfineaaGreat
