import Derived.Test.YtopfefhenfineaaGreatP29
set_option linter.all false
set_option maxRecDepth 100000
set_option maxHeartbeats 8000000
namespace Go.Proofs.YtopfefhenfineaaGreat
open Go.Proofs.Tryz Go.RowKit Go.Shelf V
attribute[local go_sem] Oper.semAt_some
namespace LT
open lC
variable{A B W W' w0:ay}{T:Nat->Bool}{d n0:Nat}
def kG(p:iZ)(d:Nat)(a:Int):Bool:=(decide (0<d)&&vR.inA p.ar a)&&af8 p d
def JD(p:iZ)(d:Nat)(a:Int)(f:Filter)(u:aA)(W:ay):Prop:=f.jh=a/\f.dflt=M7 p d/\JO W 3 (FV W) u f.rules/\f.rules.Perm (Um p a d)/\f.rules.Pairwise (λx y=>x.nr<=y.nr)
def GJ(p:iZ)(d:Nat)(a:Int)(w:ay)(e:Ending)(w':ay):Prop:=Ext w w'/\∃(f:Filter)(b:Option Addr)(n c:Nat),e= .returned (.tuple #[.agg #[.int .i64 f.jh,.slice b n c,.int .u32 f.dflt],.bool (kG p d a)])/\
 (kG p d a=true->JD p d a f (.slice b n c) w')
theorem Ad(p:iZ)(s:iF)(d:Nat)(hd:d<8)(a:Int)(ha:0<=a/\a<6)(h:kL p)(w:ay)(hr:yt w p s):Calls prog 23 #[m6 p s,.int .i64 d,.int .i64 a] w λe w'=>GJ p d a w e w':=by
 have hla:=h.la;have hlf:=h.lf;have hN:=λW=>vR.Js a W
 have hne:(vR.wB a).toList.isEmpty=false:=by unfold vR.wB;rw[aV ha];exact tA
 have hM:=λW (hx:Ext w W)=>Ht p s h W (hr.ext hx) aq aq
 have hI:=λW (hx:Ext w W)=>vR.RY _ p.ar a aq W (hr.ar.ext hx)
 generalize hact:vR.inA p.ar a=act at *;obtain⟨nm,hnm⟩:∃nm,vR.wB a=nm:=⟨_,rfl⟩;rw[hnm]at hne hN;have z1:(0:Int)<=d:=aq;have z2:(d:Int)<8:=aq;have HN:=ah hN;have HM:=ah hM;have HI:=ah hI;have HR:=ah (ak h hr);have HA:=ah hact;have b:=aC w (.cells (fA p s).toArray 36);unfold m6 fA at *;obtain⟨y0,y1,y2,y3,y4,y5,y6,y7,y8,y9,y10,y11,y12⟩:=oI b;have HB:=ah b;clear hN hM hI h hr hact hnm b;have zd1:decide ((d:Int)<0)=false:=aT aq;have zd2:decide ((8:Int)<=d)=false:=aT aq;have b6:=aC (w.alloc (.cells (fA p s).toArray 36)) (.cells #[.int .i64 0,.slice none 0 0,.int .u32 0] 73);unfold fA at b6;rw[aR]at b6;have HB6:=ah b6;clear b6;cases act
 ·go_in;go_wp2_with(first
   |(go_at_call 41;refine ap (HN.o _) ?_;intro w1 hx1;have gK:=ah (ak ((((aj w).alloc _).alloc _).trans hx1) (aI HB6.o hx1));obtain⟨c0,c1,c2,c3,c4,c5,c6,c7,c8,c9,c10,c11,c12⟩:=oI (aI HB.o (((aj _).alloc _).trans hx1));clear hx1)
   |(go_at_call 30;refine ap (HM.o _ gK.o.1) ?_;intro w2 hx2;have jm:=ah (ak (gK.o.1.trans hx2) (aI gK.o.2 hx2));replace c0:=hx2.cell c0;clear hx2)
   |(go_at_call 12;refine ap (HI.o _ jm.o.1) ?_;intro w3 hx3;have kg:=ah (ak (jm.o.1.trans hx3) (aI jm.o.2 hx3));obtain⟨⟨g0,g1,g2⟩,gf⟩:=sO kg.o.2;have gf0:=gf 0;have gf1:=gf 1;have gf2:=gf 2;clear hx3 gf))
  have hh:=eX (eX (eX kg.o.2 0 (.int .i64 0)) 1 (.slice none 0 0)) 2 (.int .u32 0);refine aM (v:= .tuple #[.agg #[.int .i64 0,.slice none 0 0,.int .u32 0],.bool false]) (fG results23 _ _ (w+1) _ #[.int .i64 0,.slice none 0 0,.int .u32 0] (0,0) _ rfl hh underlying73 rfl ax) rfl ?_;have e0:kG p d a=false:=by unfold kG;rw[HA.o];simp
  refine⟨((kg.o.1.setCell cx _).setCell cx _).setCell cx _,⟨0,[],0⟩,none,0,0,by rw[e0];rfl,λh=>by rw[e0]at h;cases h⟩
 ·go_in;go_upto_region 4 with(first
   |(go_at_call 41;refine ap (HN.o _) ?_;intro w1 hx1;have gK:=ah (ak ((((aj w).alloc _).alloc _).trans hx1) (aI HB6.o hx1));obtain⟨c0,c1,c2,c3,c4,c5,c6,c7,c8,c9,c10,c11,c12⟩:=oI (aI HB.o (((aj _).alloc _).trans hx1));clear hx1)
   |(go_at_call 30;refine ap (HM.o _ gK.o.1) ?_;intro w2 hx2;have jm:=ah (ak (gK.o.1.trans hx2) (aI gK.o.2 hx2));replace c0:=hx2.cell c0;replace c1:=hx2.cell c1;replace c2:=hx2.cell c2;replace c3:=hx2.cell c3;replace c4:=hx2.cell c4;replace c5:=hx2.cell c5;replace c6:=hx2.cell c6;replace c7:=hx2.cell c7;replace c8:=hx2.cell c8;replace c9:=hx2.cell c9;replace c10:=hx2.cell c10;replace c11:=hx2.cell c11;replace c12:=hx2.cell c12;clear hx2)
   |(go_at_call 12;refine ap (HI.o _ jm.o.1) ?_;intro w3 hx3;have kg:=ah (ak (jm.o.1.trans hx3) (aI jm.o.2 hx3));obtain⟨⟨g0,g1,g2⟩,gf⟩:=sO kg.o.2;replace c0:=hx3.cell c0;replace c1:=hx3.cell c1;replace c2:=hx3.cell c2;replace c3:=hx3.cell c3;replace c4:=hx3.cell c4;replace c5:=hx3.cell c5;replace c6:=hx3.cell c6;replace c7:=hx3.cell c7;replace c8:=hx3.cell c8;replace c9:=hx3.cell c9;replace c10:=hx3.cell c10;replace c11:=hx3.cell c11;replace c12:=hx3.cell c12;clear hx3 gf))
  obtain⟨W4,rH⟩:∃W4,W4=w3.alloc (.cells (mkC p s a (.slice none 0 0) 2147418112) 103):=⟨_,rfl⟩;have hx4:Ext w3 W4:=by rw[rH];exact(aj _).alloc _
  have hmk:MK w3 w3 p s a (.slice none 0 0) 2147418112 [] W4:=by rw[rH];exact⟨aD _,aC _ _,⟨rfl,.inl aE⟩,λ_ h=>by cases h⟩
  have hres:=aI kg.o.2 hx4;have hxw:=kg.o.1.trans hx4;unfold mkC at rH;rw[show((2147418112:Nat):Int)=2147418112 from rfl]at rH;rw[<-rH];have H4:=ah (ak hmk (ak hres hxw));have hsz:w.heap.size+2<=w3.heap.size:=by have:=(aB.1 kg.o.2).1;omega
  clear rH hmk hres hxw hx4 g0 g1 g2 c0 c1 c2 c3 c4 c5 c6 c7 c8 c9 c10 c11 c12;rcases Nat.eq_zero_or_pos d with rfl|h1
  ·have hix:∀W,(Instr.index 105 (.agg acd) (.int .i64 0)).run prog W= .ok .nilFunc W:=λW=>rfl
   have heq:∀W,(binOp .eql 104 .nilFunc .nilFunc).run prog W= .ok (.bool true) W:=λW=>rfl
   go_wp2_with(refine ap (xK _) ?_;intro w5 hx5;have kM:=ah (ak (H4.o.2.2.trans hx5) (aI H4.o.2.1 hx5));obtain⟨⟨g0,g1,g2⟩,gf⟩:=sO kM.o.2;have gf0:=gf 0;have gf1:=gf 1;have gf2:=gf 2;clear hx5 gf);have hh:=eX (eX (eX kM.o.2 0 (.int .i64 0)) 1 (.slice none 0 0)) 2 (.int .u32 0);refine aM (v:= .tuple #[.agg #[.int .i64 0,.slice none 0 0,.int .u32 0],.bool false]) (fG results23 _ _ (w+1) _ #[.int .i64 0,.slice none 0 0,.int .u32 0] (0,0) _ rfl hh underlying73 rfl ax) rfl ?_;have e0:kG p 0 a=false:=rfl;exact⟨((kM.o.1.setCell cx _).setCell cx _).setCell cx _,⟨0,[],0⟩,none,0,0,by rw[e0];rfl,λh=>by rw[e0]at h;cases h⟩
  ·have hix:=λW=>Zk d h1 hd W
   have heq:∀W,(binOp .eql 104 (.func (.func (Zd d)) #[] #[]) .nilFunc).run prog W= .ok (.bool false) W:=λW=>rfl
   have eg:=Zc d h1 hd;have hq:kG p d a=af8 p d:=by unfold kG;rw[HA.o,aQ h1];rfl
   have hm:=λW (hx:Ext W4 W)=>Qa d h1 hd HR.o.1 hlf (H4.o.1.ext' hx) w (H4.o.2.2.trans hx) aq (aL (Nat.le_of_lt H4.o.1.lt) hx.size) HR.o.2
   have HMK:=ah hm;have HQ:=ah hq;clear hm hq;obtain⟨F,hF⟩:∃F,F=Zd d:=⟨_,rfl⟩;rw[<-hF]at hix heq eg HMK;clear hF;unfold yu at HMK;generalize af8 p d=b at *;cases b
   ·go_wp2_with(first
     |(refine ap (xK _) ?_;intro w5 hx5;have kM:=ah hx5;clear hx5)
     |(refine ap (HMK.o _ kM.o) ?_;rintro w6 ⟨-,Da⟩;have ZB:=Da.blk (aI H4.o.2.1 kM.o) (.inr rfl);have sD:=ah (ak (Da.lX (H4.o.2.2.trans kM.o) aq) ZB);obtain⟨⟨g0,g1,g2⟩,gf⟩:=sO ZB;have gf0:=gf 0;have gf1:=gf 1;have gf2:=gf 2;clear Da ZB gf))
    have hh:=eX (eX (eX sD.o.2 0 (.int .i64 0)) 1 (.slice none 0 0)) 2 (.int .u32 0);refine aM (v:= .tuple #[.agg #[.int .i64 0,.slice none 0 0,.int .u32 0],.bool false]) (fG results23 _ _ (w+1) _ #[.int .i64 0,.slice none 0 0,.int .u32 0] (0,0) _ rfl hh underlying73 rfl ax) rfl ?_;exact⟨((sD.o.1.setCell cx _).setCell cx _).setCell cx _,⟨0,[],0⟩,none,0,0,by rw[HQ.o];rfl,λh=>by rw[HQ.o]at h;cases h⟩
   ·go_wp2_with(first
     |(refine ap (xK _) ?_;intro w5 hx5;have kM:=ah hx5;clear hx5)
     |(refine ap (HMK.o _ kM.o) ?_;rintro w6 ⟨⟨u6,rs6,anD,hm6⟩,Da⟩;have ZB:=Da.blk (aI H4.o.2.1 kM.o) (.inr rfl);have sD:=ah (ak (Da.lX (H4.o.2.2.trans kM.o) aq) ZB);have c14:w6.cell? ⟨w3,14,none⟩=some u6:=aG hm6.b 14;obtain⟨au,cu,rfl⟩:=bU hm6.own;have HM6:=ah (ak anD hm6);clear Da ZB anD hm6)
     |(refine(RJ _ rs6 w3.heap.size _ (by have:=(WU HR.o.1 a d).1;rw[<-HM6.o.1,aS]at this;omega) HM6.o.2.own).mono ?_;rintro e w7 ⟨rfl,ys,hp,hpw,qY,JJ⟩
       have hr7:=JJ.blk sD.o.2 (.inr rfl);have oM:=JJ.blk HM6.o.2.b (.inr rfl);have hpl:=hp.length_eq;have DY:=ah (ak (JJ.lX sD.o.1 aq) (ak hr7 (ak hp (ak hpw (ak qY (λr hr=>JJ.own (HM6.o.2.ts r hr) rfl))))));have c13:w7.cell? ⟨w3,13,none⟩=_:=aG oM 13;have aoY:w7.cell? ⟨w3,14,none⟩=_:=aG oM 14;have c15:w7.cell? ⟨w3,15,none⟩=_:=aG oM 15;obtain⟨⟨g0,g1,g2⟩,gf⟩:=sO hr7;have gf0:=gf 0;have gf1:=gf 1;have gf2:=gf 2;simp only[mkC]at c13 aoY c15;clear hp hpw qY JJ hr7 oM gf))
    have hh:=eX (eX (eX DY.o.2.1 0 (.int .i64 a)) 1 (.slice au rs6 cu)) 2 (.int .u32 (M7 p d:Int));refine aM (v:= .tuple #[.agg #[.int .i64 a,.slice au rs6 cu,.int .u32 (M7 p d:Int)],.bool true]) (fG results23 _ _ (w+1) _ #[.int .i64 a,.slice au rs6 cu,.int .u32 (M7 p d:Int)] (0,0) _ rfl hh underlying73 rfl ax) rfl ?_;obtain⟨k1,-,k3,k4,k5,k6⟩:=DY.o;have ks:∀ {b e n k:Nat} {v:aA} {zs:List aA} {W:ay} (j:Nat) (u:aA),W.ownsRow b e n v k zs->w3.heap.size<=b->(W.setCell ⟨w+1,j,none⟩ u).ownsRow b e n v k zs:=λj u h hb=>nk h da u
    refine⟨((k1.setCell cx _).setCell cx _).setCell cx _,⟨a,ys.map PR.r,M7 p d⟩,au,rs6.length,cu,by rw[HQ.o],λ_=>⟨rfl,rfl,?_,?_,?_⟩⟩
    ·refine ML (bY mR (ks _ _ (ks _ _ (ks _ _ k5 (aD _)) (aD _)) (aD _))) (λr hr=> ?_);exact bY j5 (ks _ _ (ks _ _ (ks _ _ (k6 r (k3.mem_iff.1 hr)) (aD _)) (aD _)) (aD _))
    ·rw[<-HM6.o.1];exact k3.map _
    ·exact List.pairwise_map.2 k4
def JD.ext{p:iZ}{a:Int}{f:Filter}{u:aA}(h:JD p d a f u W)(hx:Ext W W'):JD p d a f u W':=⟨h.1,h.2.1,mQ hx h.2.2.1,h.2.2.2⟩
theorem Oa(p:iZ)(s:iF)(d:Nat)(hd:d<8)(a:Int)(ha:0<=a/\a<6)(h:kL p)(w:ay)(hr:yt w p s):Rt 11 #[m6 p s,.int .i64 d,.int .i64 a] w (.bool (kG p d a)):=by
 have hL:=λW (hx:Ext w W)=>Ad p s d hd a ha h W (hr.ext hx)
 have b:=aC w (.cells (fA p s).toArray 36);unfold GJ at hL;unfold m6 fA at *;generalize kG p d a=A at *;obtain⟨y0,y1,y2,y3,y4,y5,y6,y7,y8,y9,y10,y11,y12⟩:=oI b;have HL:=ah hL;clear hL h hr b;unfold Rt;go_in;go_wp2_with(refine(HL.o _ ((aj w).alloc _)).mono ?_;rintro e w1 ⟨hx1,f,b1,n1,c1,rfl,-⟩;have HX:=ah (((aj w).alloc _).trans hx1);clear hx1);go_ret;exact⟨rfl,HX.o.alloc _⟩
def nE(p:iZ)(d k:Nat):List (Nat×Nat):=((List.range d).flatMap λe=>((List.range 6).filter λa:Nat=>kG p e (a:Int)).map λa=>(e,a))++((List.range k).filter λa:Nat=>kG p d (a:Int)).map λa=>(d,a)
def EP(p:iZ)(d k:Nat):nE p d (k+1)=nE p d k++if kG p d (k:Int)=true then [(d,k)]else []:=by
 unfold nE;rw[show List.range (k+1)=List.range k++[k]from List.range_succ,jy,bL,bI]
 congr 2
 cases h:kG p d (k:Int)<;>simp[h]
def tN(p:iZ)(d:Nat):nE p (d+1) 0=nE p d 6:=by unfold nE;rw[show List.range (d+1)=List.range d++[d]from List.range_succ,iO];simp
def wU(p:iZ)(k:Nat):∀d,(nE p d k).length<=6*d+k
 |0=>by unfold nE;rw[List.range_zero,List.flatMap_nil,dA,aS];exact aL (ji _ _) aE
 |d+1=>by have h:=wU p k d;have h1:((List.range k).filter λa:Nat=>kG p (d+1) (a:Int)).length<=k:=aL (ji _ _) aE;have h2:=wU p 6 d;rw[<-tN]at h2;unfold nE at h2⊢;simp only[List.range_zero,List.filter_nil,eU,fH]at h2;rw[aH,aS];omega
structure FU where
 ar:Int
 a:Option Addr
 n:Nat
 c:Nat
 d:Nat
def Q7(x:FU):List aA:= [.int .i64 x.ar,.slice x.a x.n x.c,.int .u32 x.d]
def LV(x:FU):(Q7 x).length=3:=rfl
def aab(x:FU):∀u∈Q7 x,u.oneCell'=true:=by intro u hu;simp[Q7]at hu;rcases hu with rfl|rfl|rfl<;>rfl
theorem aju:(Tryz.prog.info? 73).map (λi=>(i.zero,i.size,i.bytes))=some (some (.agg #[.int .i64 0,.slice none 0 0,.int .u32 0]),3,40):=ax
theorem xg(p:iZ)(s:iF)(h:kL p)(w:ay)(hr:yt w p s):Calls prog 10 #[m6 p s] w λe w'=>(∃a c,e= .returned (.slice a (nE p 8 0).length c))/\Ext w w':=by
 have hL:=λ(d:Nat) (hd:d<8) (k:Nat) (hk:k<6) W (hx:Ext w W)=>Ad p s d hd (k:Int) aq h W (hr.ext hx)
 have hB:=aC w (.cells (fA p s).toArray 36);unfold GJ at hL;unfold m6 fA at *;have HL:=ah hL;have HB:=ah hB;have hA:∀d k,d<=8->k<=6->(nE p d k).length<=60:=λd k h1 h2=>by have:=wU p k d;omega
 have HA:=ah hA;clear hL h hr hB hA;go_in;go_wp2_with fail;obtain⟨W1,hW1⟩:∃W1,W1=w.alloc (.cells (fA p s).toArray 36):=⟨_,rfl⟩;unfold fA at hW1;rw[<-hW1];have gK:=ah (show Ext w W1 by rw[hW1];exact(aj _).alloc _);rw[<-hW1]at HB;clear hW1;go_loopw [3,9] (λu i wr=>∃d:Nat,d<=8/\i= .int .i64 d/\Ext W1 wr/\∃L:List FU,L.length=(nE p d 0).length/\wr.ownsRow W1.heap.size 73 3 u L (L.flatMap Q7)) (λ_ i _=>8-(intOf i).toNat)
 case atStart=>exact⟨0,aq,rfl,aj _,[],rfl,dB _ _ _ _⟩
 case round=>
  obtain⟨d,hd,rfl,hx,L,rJ,ho⟩:=hrel;by_cases hlt:d<8
  ·have zd:(d:Int)<8:=aq;have HX:=ah hx;have HO:=ah (ak rJ ho);clear hx rJ ho;go_wp2_with(refine(aaE.xg _).mono ?_;rintro e w2 ⟨g,c,rfl,hx2,⟨cur,hgb⟩,hg⟩);have jm:=ah hx2;have HG:=ah (ak hgb hg);clear hx2 hg hgb;go_loopw [3,14] (λu i wr=>∃k:Nat,k<=6/\i= .int .i64 k/\TK W1 (Tf 73) w2 wr/\Ext W1 wr/\∃L:List FU,L.length=(nE p d k).length/\wr.ownsRow W1 73 3 u L (L.flatMap Q7)) (λ_ i _=>6-(intOf i).toNat)
   case atStart=>exact⟨0,aq,rfl,TK.refl _ _ _,HX.o.trans jm.o,L,HO.o.1,oG HO.o.2 jm.o⟩
   case round=>
    obtain⟨k,hk,rfl,hx2,hx1,L,rJ,ho⟩:=hrel;by_cases UF:k<6
    ·have zk:(k:Int)<6:=aq;have c0:wr.cell? ⟨g,k,none⟩=some (.int .i64 k):=by rw[aG (hx2.blk HG.o.1 (.inr rfl)),<-aG HG.o.1];exact HG.o.2 k UF
     obtain⟨y0,y1,y2,y3,y4,y5,y6,y7,y8,y9,y10,y11,y12⟩:=oI (aI HB.o hx1);have hlow:=HL.o d hlt k UF wr (gK.o.trans hx1);have hst:=EP p d k;have hlen:=HA.o d k aq aq;obtain⟨au,cu,rfl⟩:=bU ho;have qO:=ah (ak hx2 hx1);have Sq:=ah (ak rJ ho);generalize kG p d (k:Int)=A at *;have N7:=ah hlow;have HST:=ah hst;have ay8:L.length<=60:=by rw[rJ];exact hlen
     have hsz:=hx1.size;clear hlow hst hlen hx2 hx1 rJ ho;cases A
     ·go_wp2_with(refine N7.o.mono ?_;rintro e w3 ⟨hx3,f,b3,n3,c3,rfl,-⟩;have kg:=ah hx3;clear hx3);go_roundw
      case rel=>exact⟨k+1,aq,bm,qO.o.1.trans (.ext (kg.o.alloc _)),(qO.o.2.trans kg.o).alloc _,L,by rw[HST.o,Sq.o.1];simp,oG Sq.o.2 (kg.o.alloc _)⟩
      case measure=>exact gO
     ·go_wp2_with(first
       |(refine N7.o.mono ?_;rintro e w3 ⟨hx3,f,b3,n3,c3,rfl,-⟩;have kg:=ah hx3;clear hx3)
       |(at_builtin;refine iX rfl (.tmp 26) (.tmp 28) 47 rfl underlying47 aju rfl az LV aab W1.heap.size (.slice au L.length cu) _ L [⟨f.jh,b3,n3,c3,f.dflt⟩] rfl rfl (dM (dM (oG Sq.o.2 kg.o) _) _) (gI LV _ [⟨f.jh,b3,n3,c3,f.dflt⟩] 73 _ (by rw[aR])) bp az (by have:=kg.o.size;simp;omega) ?_;intro au6 cu6 w6 uF AO
         have A0:=ah uF;have HG6:=ah (ak (TK.grown (n0:=W1.heap.size) (T:=Tf 73) (dM (dM (oG Sq.o.2 kg.o) _) _) AO rfl (aD _)) ((((qO.o.2.trans kg.o).alloc _).alloc _).grown AO (λr e=>(Sq.o.2.lt r e).1)));clear uF AO))
      go_roundw
      case rel=>exact⟨k+1,aq,bm,(qO.o.1.trans (.ext ((kg.o.alloc _).alloc _))).trans HG6.o.1,HG6.o.2,L++[⟨f.jh,b3,n3,c3,f.dflt⟩],by rw[HST.o,aH,aH,Sq.o.1];rfl,by rw[aH];exact A0.o⟩
      case measure=>exact gO
    ·obtain rfl:k=6:=aq;have qO:=ah hx1;have Sq:=ah (ak rJ ho);clear hx2 hx1 rJ ho;go_wp2_with fail;go_roundw
     case rel=>exact⟨d+1,aq,bm,qO.o,L,by rw[tN];exact Sq.o.1,Sq.o.2⟩
     case measure=>exact gO
  ·obtain rfl:d=8:=aq;obtain⟨au,cu,rfl⟩:=bU ho;have qO:=ah (ak hx rJ);clear hx ho;go_wp2_with fail;go_ret;exact⟨⟨au,cu,by rw[<-qO.o.2];rfl⟩,gK.o.trans qO.o.1⟩
open lC (Rule Filter)
structure Pt where
 d:Nat
 a:Nat
 f:Filter
 b:Option Addr
 n:Nat
 c:Nat
def ptV(x:Pt):aA:= .agg #[.int .i64 x.d,.int .i64 x.a,.int .i64 x.f.jh,.slice x.b x.n x.c,.int .u32 x.f.dflt]
def uE(p:iZ)(x:Pt)(W:ay):Prop:=(x=⟨0,6,⟨0,[],0⟩,none,0,0⟩/\0<p.ar.length)\/(kG p x.d (x.a:Int)=true/\x.d<8/\x.a<6/\JD p x.d (x.a:Int) x.f (.slice x.b x.n x.c) W)
def Pt.at(x:Pt):Nat×Nat:=(x.d,x.a)
def zC(p:iZ):List (Nat×Nat):=if 0<p.ar.length then [(0,6)]else []
def SQ(p:iZ):List (Nat×Nat):=zC p++nE p 8 0
def Kc.lX(hx:Ext w0 A)(h:Kc n0 T A B)(hn:w0.heap.size<=n0):Ext w0 B:=
 ⟨h.os.trans hx.os,h.tape.trans hx.tape,h.output.trans hx.output,aL hx.size h.size,λk hk=>by have hk':k<w0:=hk;rw[h.low k aq (gY hk' hx.size)];exact hx.block hk⟩
def Kc.ext(h:Ext A B):Kc n0 T A B:=Kc.of (.ext h)
def wM(h:Ext A B):A.grownBy B none:=⟨h.os,h.tape,h.output,h.size,λ_ hk _=>h.block hk⟩
theorem YN(l Bp:Nat)(p:iZ)(s:iF)(hok:kL p)(w0:ay)(hr:yt w0 p s)(T:Nat->Bool)(hT:T 3=false/\T 36=false)(J Jx:List Pt->ay->Prop)(W:ay)(hb:W.heap[Bp]?=some (.cells (fA p s).toArray 36 (0,0)))(hx0:Ext w0 W)(hJ:AbidesFrom W J)(hY:∀(pre:List Pt)(y:Pt) W1,J pre W1->uE p y W1->pre.length<60->YieldAt Fence.wide (3-1) prog l #[ptV y] W1 λe W'=>(e= .returned (.bool true)/\J (pre++[y]) W'/\Kc w0 T W1 W')\/(e= .returned (.bool false)/\Jx (pre++[y]) W'))(h0:J [] W):CallsIn Fence.wide 3 prog 61 #[.func (.yield l) #[] #[],.pointer (some Bp)] W λe W'=>(∃v,e= .returned v)/\((∃ys:List Pt,ys.map Pt.at=SQ p/\J ys W')\/(∃pre:List Pt,True/\Jx pre W')):=by
 have hL:=λ(d:Nat) (hd:d<8) (k:Nat) (hk:k<6) W (hx:Ext w0 W)=>Ad p s d hd (k:Int) aq hok W (hr.ext hx)
 unfold GJ at hL;unfold m6 fA at *;have HL:=ah hL;have HB:=ah hb;have HJ:=ah (ak hJ hY);have HX0:=ah hx0;have hA:∀d k,d<=8->k<=6->(nE p d k).length<=48+6:=λd k h1 h2=>by have:=wU p k d;omega
 have HA:=ah hA;obtain⟨y0,-⟩:=oI hb;have hstart:(∃y,0<p.ar.length/\zC p=[(0,6)]/\y=(⟨0,6,⟨0,[],0⟩,none,0,0⟩:Pt))\/(p.ar.length=0/\zC p=[]):=by
  unfold zC;by_cases hz:0<p.ar.length
  ·exact .inl ⟨_,hz,aV hz,rfl⟩
  ·exact .inr ⟨aq,aN hz⟩
 have hpl:SQ p=zC p++nE p 8 0:=rfl;generalize SQ p=PL at *;have HPL:=ah hpl;clear hL hb hr hJ hx0 hA hpl;refine kX func61 rfl trivial ?_ rfl;simp only[ntmps61,bW,aO,bD,Nat.reduceAdd,Nat.reduceSub,dU,dS,fq,dZ,dA,dh];have HT:=ah hT;clear hT hY;have hgo:∀(A B:ay) (pre:List Pt),J pre A->Ext A B->J pre B:=λ_ _ _ hj hx=>HJ.o.1 _ _ _ none hj (wM hx) (λr e=>by cases e)
 have HG:=ah hgo;clear hgo;rcases hstart with⟨y,hz,hp0,hy0⟩|⟨hz,hp0⟩
 case' inl=>
  obtain⟨fn,tmps,assign,body,hy,hR⟩:=HJ.o.2 [] y W h0 (.inl ⟨hy0,hz⟩) az;subst hy0;unfold ptV at hy;dsimp only at hy;rw[show((0:Nat):Int)=0 from rfl,show((6:Nat):Int)=6 from rfl]at hy;have zz:(0:Int)<p.ar:=aq;have HR:=ah hR;clear hR h0;gi_wp2;refine HR.o.mono ?_;rintro e W3 (⟨rfl,hJ0,hk0⟩|⟨rfl,hJx3⟩)
  case' inr=>gi_wp2;refine aM (bH rfl _ _ _) rfl ?_;exact⟨⟨_,rfl⟩,.inr ⟨_,trivial,hJx3⟩⟩
  have H0:=ah (show(∃pre:List Pt,pre.map Pt.at=zC p/\J pre W3)/\Ext w0 W3/\W3.heap[Bp]?=some (.cells (fA p s).toArray 36 (0,0))from⟨⟨_,by rw[hp0];rfl,hJ0⟩,hk0.lX HX0.o (aD _),hk0.kept _ _ _ _ HB.o HT.o.2⟩);clear hJ0 hk0 hy y0 zz hp0 hz
 case' inr=>have zz:¬(0:Int)<p.ar:=aq;gi_wp2;refine⟨(λf h=>by cases h),?_⟩;have H0:=ah (show(∃pre:List Pt,pre.map Pt.at=zC p/\J pre W)/\Ext w0 W/\W.heap[Bp]?=some (.cells (fA p s).toArray 36 (0,0))from⟨⟨_,by rw[hp0];rfl,h0⟩,HX0.o,HB.o⟩);clear y0 zz hp0 hz h0
 all_goals
  obtain⟨⟨arw,hm0,hj0⟩,hx0,hb0⟩:=H0.o;gi_wp2;gi_loopw [19] (λi wr=>∃(d:Nat) (pre:List Pt),d<=8/\i= .int .i64 d/\J pre wr/\(Ext w0 wr/\wr.heap[Bp]?=some (.cells (fA p s).toArray 36 (0,0)))/\pre.map Pt.at=zC p++nE p d 0) (λi _=>8-(intOf i).toNat)
  case atStart=>exact⟨0,arw,aq,rfl,hj0,⟨hx0,hb0⟩,by rw[hm0];unfold nE;simp⟩
  case round=>
   obtain⟨d,pre,hd,rfl,hJs,hxs,hms⟩:=hrel;by_cases hlt:d<8
   ·have zd:(d:Int)<8:=aq;have HS:=ah (ak hJs (ak hxs hms));clear hJs hxs hms hj0 hx0 hm0 hb0;gi_wp2_with(refine⟨trivial,?_⟩;refine(bM.2 (aaE.xg _)).mono ?_;rintro e w2 ⟨g,c,rfl,hx2,⟨cur,hgb⟩,hg⟩;have HG2:=ah (ak hx2 (ak hgb hg));clear hx2 hgb hg);gi_loopw [24] (λi wr=>∃(k:Nat) (pre:List Pt),k<=6/\i= .int .i64 k/\J pre wr/\(Ext w0 wr/\wr.heap[Bp]?=some (.cells (fA p s).toArray 36 (0,0)))/\wr.heap[g]?=some (.cells cur 3 (0,0))/\pre.map Pt.at=zC p++nE p d k) (λi _=>6-(intOf i).toNat)
    case atStart=>exact⟨0,pre,aq,rfl,HG.o _ _ _ HS.o.1 HG2.o.1,⟨HS.o.2.1.1.trans HG2.o.1,aI HS.o.2.1.2 HG2.o.1⟩,HG2.o.2.1,HS.o.2.2⟩
    case round=>
     obtain⟨k,pre,hk,rfl,hJs,hxs,hgs,hms⟩:=hrel;by_cases UF:k<6
     ·have zk:(k:Int)<6:=aq;have c0:wr.cell? ⟨g,k,none⟩=some (.int .i64 k):=by rw[aG hgs,<-aG HG2.o.2.1];exact HG2.o.2.2 k UF
      obtain⟨y0,y1,y2,y3,y4,y5,y6,y7,y8,y9,y10,y11,y12⟩:=oI hxs.2;have hlow:=HL.o d hlt k UF wr hxs.1;have hst:=EP p d k;have hlen:pre.length<60:=by
       have h1:=HA.o d k aq aq;have h2:(zC p).length<=1:=by unfold zC;split<;>simp
       rw[<-aS (f:=Pt.at),hms,aH];omega
      obtain⟨A,hA⟩:∃A,kG p d (k:Int)=A:=⟨_,rfl⟩;rw[hA]at hlow hst;have N7:=ah hlow;have HST:=ah hst;have HI:=ah (ak hJs (ak hxs (ak hgs (ak hms hA))));clear hlow hst hJs hxs hgs hms hA;cases A
      ·gi_wp2_with(refine⟨trivial,?_⟩;refine(bM.2 N7.o).mono ?_;rintro e w3 ⟨hx3,f,b3,n3,c3,rfl,-⟩;have kg:=ah hx3;clear hx3)
       first|refine⟨(λf h=>by cases h),?_⟩|skip
       gi_wp2;have hx4:=kg.o.alloc (.cells #[.int .i64 f.jh,.slice b3 n3 c3,.int .u32 f.dflt] 73);go_roundw
       case rel=>exact⟨k+1,pre,aq,bm,HG.o _ _ _ HI.o.1 hx4,⟨HI.o.2.1.1.trans hx4,aI HI.o.2.1.2 hx4⟩,aI HI.o.2.2.1 hx4,by rw[HST.o,HI.o.2.2.2.1];simp⟩
       case measure=>simp[intOf];omega
      ·gi_wp2_with(refine⟨trivial,?_⟩;refine(bM.2 N7.o).mono ?_;rintro e w3 ⟨hx3,f,b3,n3,c3,rfl,hf⟩
                   have hx4:=hx3.alloc (.cells #[.int .i64 f.jh,.slice b3 n3 c3,.int .u32 f.dflt] 73);obtain⟨fn,tmps,assign,body,hy,hR⟩:=HJ.o.2 pre ⟨d,k,f,b3,n3,c3⟩ _ (HG.o _ _ _ HI.o.1 hx4) (.inr ⟨HI.o.2.2.2.2,hlt,UF,(hf rfl).ext ((aj _).alloc _)⟩) hlen;unfold ptV at hy;dsimp only at hy;have HR:=ah hR;have Ck:=ah hx4;clear hR hx4 hx3 hf)
       refine HR.o.mono ?_;rintro e W5 (⟨rfl,hJ5,hk5⟩|⟨rfl,asl⟩)
       ·have H5:=ah (ak hJ5 hk5);clear hJ5 hk5 hy;gi_wp2;go_roundw
        case rel=>exact⟨k+1,_,aq,bm,H5.o.1,⟨H5.o.2.lX (HI.o.2.1.1.trans Ck.o) (aD _),H5.o.2.kept _ _ _ _ (aI HI.o.2.1.2 Ck.o) HT.o.2⟩,H5.o.2.kept _ _ _ _ (aI HI.o.2.2.1 Ck.o) HT.o.1,by rw[HST.o,bL,HI.o.2.2.2.1,bI];rfl⟩
        case measure=>simp[intOf];omega
       ·gi_wp2
        first|go_end0|refine aM (bH rfl _ _ _) rfl ?_
        exact⟨⟨_,rfl⟩,.inr ⟨_,trivial,asl⟩⟩
     ·obtain rfl:k=6:=aq;gi_wp2;go_roundw
      case rel=>exact⟨d+1,pre,aq,bm,hJs,hxs,by rw[tN];exact hms⟩
      case measure=>simp[intOf];omega
   ·obtain rfl:d=8:=aq;gi_wp2
    first|go_end0|refine aM (bH rfl _ _ _) rfl ?_
    exact⟨⟨_,rfl⟩,.inl ⟨_,by rw[HPL.o];exact hms,hJs⟩⟩
end LT
variable{zP:Prop}
def eE(h:zP:=by show _≠w.heap.size+1+1+1;omega):zP:=h
def eK(h:zP:=by show _≠w.heap.size+1+1;omega):zP:=h
def gi(h:zP:=by have:=hok.la;omega):zP:=h
namespace LT
open lC (Rule Filter kU)
open jO (Dat encI wT)
theorem Px(Bp:Nat)(p:iZ)(s:iF)(hok:kL p)(w0:ay)(hr:yt w0 p s)(T:Nat->Bool)(hT:T 3=false/\T 36=false)(w2:ay)(hx:Ext w0 w2)(hb:w2.heap[Bp]?=some (.cells (fA p s).toArray 36 (0,0))):L5 (uE p) Fence.wide 3 prog 61 #[.pointer (some Bp)] (λy=> #[ptV y]) (Kc w0 T) (λys=>ys.map Pt.at=SQ p) (λ_=>True) 60 w2:=
 λl J Jx W hb0 hJ _ hY h0=>YN l Bp p s hok w0 hr T hT J Jx W (aI hb hb0) (hx.trans hb0) hJ hY h0
theorem Py(p:iZ)(s:iF)(w:ay):Calls prog 31 #[m6 p s] w λe w'=>e= .returned (.func (.func 61) #[] #[.pointer (some w)])/\w'=w.alloc (.cells (fA p s).toArray 36):=by unfold m6 fA;go_in;exact im
def Kc.grow{A B:ay}{row:Option Nat}(hg:A.grownBy B row)(hr:∀r,row=some r->∃o:Obj,A.heap[r]?=some o/\o.isCells=false):Kc 0 (λ_=>false) A B:=
 ⟨hg.os,hg.tape,hg.output,hg.size,λ_ hk _=>absurd hk (Nat.not_lt_zero _),λ_ _ _ _ h _=>iY h hg hr⟩
def Kc.cell{A B:ay}(h:Kc 0 (λ_=>false) A B){q:Addr}{v:aA}(hc:A.cell? q=some v):B.cell? q=some v:=by
 unfold World.cell? at hc⊢;split at hc
 ·rename_i cs t fr he;rw[h.kept _ _ _ _ he rfl];exact hc
 ·cases hc
def Kc.rd{α:Type}{A B:ay}(h:Kc 0 (λ_=>false) A B){n:Nat}{enc:α->List aA}{v:aA}{xs:List α}(hr:Rd A n enc v xs):Rd B n enc v xs:=by obtain⟨a,c,h1,h2,h3,h4⟩:=hr;exact⟨a,c,h1,h2,h3,λi hi=>by obtain⟨b,o,e,hat⟩:=h4 i hi;exact⟨b,o,e,λj hj=>h.cell (hat j hj)⟩⟩
def Kc.arr{A B:ay}(h:Kc 0 (λ_=>false) A B){v:aA}{rs:List Rule}(hr:JO A 3 (lC.FV A) v rs):JO B 3 (lC.FV B) v rs:=by obtain⟨ps,rfl,h1,h2⟩:=lC.afN hr;exact lC.ML (h.rd h1) λp hp=>h.rd (h2 p hp)
def uE.kc{p:iZ}{y:Pt}{A B:ay}(hg:uE p y A)(h:Kc 0 (λ_=>false) A B):uE p y B:=hg.imp id λ⟨h1,h2,h3,h4,h5,h6,h7⟩=>⟨h1,h2,h3,h4,h5,h.arr h6,h7⟩
def uE.ext{p:iZ}{y:Pt}{A B:ay}(hg:uE p y A)(h:Ext A B):uE p y B:=hg.imp id λ⟨h1,h2,h3,h4⟩=>⟨h1,h2,h3,h4.ext h⟩
def L4(p:iZ)(d:Nat):(nE p (d+1) 0).length<=6*d:=by
 induction d with
 |zero=>
  rw[tN];have h:∀a:Nat,kG p 0 (a:Int)=false:=λa=>rfl
  unfold nE;simp[h]
 |succ d ih=>
  rw[tN];have h1:nE p (d+1) 6=nE p (d+1) 0++((List.range 6).filter λa:Nat=>kG p (d+1) (a:Int)).map λa=>(d+1,a):=by unfold nE;simp
  rw[h1,aH,aS];have h2:((List.range 6).filter λa:Nat=>kG p (d+1) (a:Int)).length<=6:=aL (ji _ _) aE;omega
def afB(p:iZ):(SQ p).length<=43:=by
 unfold SQ;have h1:(nE p 8 0).length<=42:=L4 p 7;have h2:(zC p).length<=1:=by unfold zC;split<;>simp
 rw[aH];omega
def CP(p:iZ)(y:Pt)(q:List Ix):Prop:= ∃r,(if y.d=0 then CG (kN.Ih p.ar) r else CR y.f r)/\q=mq r
theorem GL{α:Type}{F:Fence}{n:Nat}{P:Program}{W:ay}{ops:Array Oper}{rest:List Oper}{o:Oper}{a:Act}{Q:Exit->Act->ay->Prop}(hgd:o.guard=none)(s x:Operand)(t:dz)(ho:o.op= .call {callee:= .builtin .append,args:= #[s,x],argTypes:= #[t,t]}){e:dz}{m bytes:Nat}{z:aA}(hu:P.underlying t=some (.slice e))(hinfo:(P.info? e).map (λi=>(i.zero,i.size,i.bytes))=some (some z,m,bytes))(hzs:z.cells.size=m)(hn:0<m){enc:α->List aA}(henc:∀x,(enc x).length=m)(hone:∀x,∀u∈enc x,u.oneCell'=true)(base:Nat)(u v:aA)(xs ys:List α)(hs:a.eval s=u)(hx:a.eval x=v)(hown:W.ownsRow base e m u xs (xs.flatMap enc))(hrd:Rd W m enc v ys)(h63:xs.length+ys<=100000000)(hbytes:bytes<=1000000)(hbase:base<=W.heap.size)(h:∀au cu w',w'.ownsRow base e m (.slice au (xs.length+ys) cu) (xs.length+ys) ((xs++ys).flatMap enc)->W.grownBy w' u.ownBlock->wpListIn F n P ops Q rest (a.put o.dst (.slice au (xs.length+ys) cu)) w'):wpListIn F n P ops Q (o::rest) a W:=by
 refine wpListIn_plain hgd λK hK=> ?_
 have h1:=xB (F:=F) (n:=n) (ops:=ops) (K:=K) (Q:=Q) (E:=True) hgd s x t ho hu hinfo hzs hn henc hone base u v xs ys hs hx hown hrd h63 hbytes hbase (λau cu w' h2 h3=>hK _ _ (h au cu w' h2 h3));rw[aV (by simp[Region.wanted,hgd])]at h1;exact h1
def Jq(p:iZ)(y:Pt):Prop:=(y.d=0/\y.a=6/\0<p.ar.length)\/(kG p y.d (y.a:Int)=true/\0<y.d/\y.d<8/\y.a<6/\y.f.jh=y.a/\y.f.dflt=M7 p y.d/\y.f.rules.Perm (Um p (y.a:Int) y.d)/\y.f.rules.Pairwise (λa b=>a.nr<=b.nr))
def uE.ok{p:iZ}{y:Pt}{W:ay}(h:uE p y W):Jq p y:=by
 rcases h with⟨rfl,h⟩|⟨h1,h2,h3,h4,h5,-,h7,h8⟩
 ·exact .inl ⟨rfl,rfl,h⟩
 ·refine .inr ⟨h1,?_,h2,h3,h4,h5,h7,h8⟩;rcases Nat.eq_zero_or_pos y.d with e|e
  ·rw[e]at h1;cases h1
  ·exact e
def SmP(p:iZ):Prop:= ∀y,Jq p y->y.d≠0->kU y.f=true/\mJ.most y.f.rules<=900
structure yj(p:iZ)(y:Pt)(x:Pg):Prop where
 dr:x.dr=y.d
 ar:x.ar=y.a
 ok:TW x.p=true
 len:x.p.length<=4096
 of:CP p y x.p
def yP{α β:Type}(R:α->β->Prop):List α->List β->Prop
 | [],[]=>True
 |a::l,b::m=>R a b/\yP R l m
 |_,_=>False
def yP.snoc{α β:Type}{R:α->β->Prop}{a:α}{b:β}(hab:R a b):∀ {l:List α} {m:List β},yP R l m->yP R (l++[a]) (m++[b])
 | [],[],_=>⟨hab,trivial⟩
 |_::_,_::_,⟨h1,h2⟩=>⟨h1,h2.snoc hab⟩
def yP.len{α β:Type}{R:α->β->Prop}:∀ {l:List α} {m:List β},yP R l m->l.length=m
 | [],[],_=>rfl
 |_::_,_::_,⟨_,h⟩=>by rw[aO,aO,h.len]
theorem ajr:(Tryz.prog.info? 53).map (λi=>(i.zero,i.size,i.bytes))=some (some (.agg #[.int .i64 0,.int .i64 0,.slice none 0 0]),3,40):=ax
def yP.mem{α β:Type}{R:α->β->Prop}:∀ {l:List α} {m:List β},yP R l m->∀b∈m,∃a∈l,R a b
 | [],[],_,_,h=>by cases h
 |a::_,b::_,⟨h1,h2⟩,x,hx=>by
  rcases dF.1 hx with rfl|hx
  ·exact⟨a,aE,h1⟩
  ·obtain⟨y,hy,k⟩:=h2.mem x hx;exact⟨y,by simp[hy],k⟩
def Jp(W:ay)(v:aA)(l:List Pg):Prop:=W.ownsRow 0 53 3 v l (l.flatMap vo)/\l.length<=48/\∀x∈l,agW x/\W.ownsRow 0 173 4 (.slice x.a x.p.length x.c) x.p.length (x.p.flatMap jS)
def Jp.ok{W:ay}{v:aA}{l:List Pg}(h:Jp W v l):Jo W v l:=⟨bY wQ h.1,h.2.1,λx hm=>⟨(h.2.2 x hm).1,bY rZ (h.2.2 x hm).2⟩⟩
def ai0{W:ay}{base e n k:Nat}{u:aA}{zs:List aA}(h:W.ownsRow base e n u k zs):W.ownsRow 0 e n u k zs:=by
 obtain⟨h1,h2⟩:=h;refine⟨h1,?_⟩;rcases h2 with h2|⟨g,cap,cur,hv,-,r⟩
 ·exact .inl h2
 ·exact .inr ⟨g,cap,cur,hv,bP _,r⟩
def tyB(t:Nat):Bool:=t==53||t==37
structure BI(w:ay)(p:iZ)(s:iF)(opt:Bool)(n0 Bo:Nat)(pre:List Pt)(W:ay):Prop where
 ext:Ext w W
 pb:W.heap[w.heap.size]?=some (.cells (fA p s).toArray 36 (0,0))
 ob:W.heap[w.heap.size+1]?=some (.cells #[.bool opt] 4 (0,0))
 r4:W.heap[w.heap.size+2]?=some (.cells #[.slice none 0 0] 37 (0,0))
 r5:W.heap[w.heap.size+3]?=some (.cells #[.int .i64 0] 43 (0,0))
 hB:w.heap.size+3<Bo
 o:∃(u:aA) (L:List Pg),W.heap[Bo]?=some (.cells #[u] 37 (0,0))/\W.ownsRow n0 53 3 u L (L.flatMap vo)/\yP (yj p) pre L/\∀x∈L,W.ownsRow 0 173 4 (.slice x.a x.p.length x.c) x.p.length (x.p.flatMap jS)
section
variable {w:ay} {p:iZ} {s:iF} {opt:Bool} {n0 Bo:Nat} {pre:List Pt} {W W':ay}
def BI.ext'(h:BI w p s opt n0 Bo pre W)(hx:Ext W W'):BI w p s opt n0 Bo pre W':=by obtain⟨u,L,h1,h2,h3,h4⟩:=h.o;have k:=TK.ext (n0:=0) (T:=λ_=>false) hx;exact⟨h.ext.trans hx,aI h.pb hx,aI h.ob hx,aI h.r4 hx,aI h.r5 hx,h.hB,u,L,aI h1 hx,k.own h2 rfl,h3,λx hm=>k.own (h4 x hm) rfl⟩
def BI.grow(h:BI w p s opt n0 Bo pre W){row:Option Nat}(hg:W.grownBy W' row)(hr:∀r,row=some r->w.heap.size<=r/\∃o:Obj,W.heap[r]?=some o/\o.isCells=false):BI w p s opt n0 Bo pre W':=by
 have hr2:=λr e=>(hr r e).2
 have k:=Kc.grow hg hr2;obtain⟨u,L,h1,h2,h3,h4⟩:=h.o;exact⟨h.ext.grown hg (λr e=>(hr r e).1),iY h.pb hg hr2,iY h.ob hg hr2,iY h.r4 hg hr2,iY h.r5 hg hr2,h.hB,u,L,iY h1 hg hr2,k.own h2 rfl,h3,λx hm=>k.own (h4 x hm) rfl⟩
end
theorem Ah(p:iZ)(s:iF)(opt:Bool)(hok:kL p)(w:ay)(hr:yt w p s):Calls prog 37 #[m6 p s,.bool opt] w λe w'=>Ext w w'/\((e= .returned (.tuple #[.slice none 0 0,.int .i64 270])/\¬SmP p)\/∃(a:Option Addr)(c:Nat)(L:List Pg)(ys:List Pt),e= .returned (.tuple #[.slice a L c,.int .i64 0])/\Jp w' (.slice a L c) L/\ys.map Pt.at=SQ p/\yP (yj p) ys L/\∀y∈ys,Jq p y):=by
 have hM:=λW (hx:Ext w W)=>Ht p s hok W (hr.ext hx) gi (by have:=hok.lf;omega)
 have HM:=ah hM;have HR:=ah hr;have hP:=λW=>Py p s W
 have b:=aC w (.cells (fA p s).toArray 36);unfold m6 fA at *;have HP:=ah hP;obtain⟨y0,y1,y2,y3,y4,y5,y6,y7,y8,y9,y10,y11,y12⟩:=oI b;clear hM hP hr;refine(bM (n:=4)).1 ?_;refine callsIn_of_wp_marks func37 rfl trivial ?_ rfl;simp only[ntmps37,bW,aO,bD,Nat.reduceAdd,Nat.reduceSub,dU,dS,fq,dZ,dA,dh];gi_upto_region 3 with(refine⟨trivial,?_⟩;refine tI (bM.2 (HM.o _ (((((aj w).alloc _).alloc _).alloc _).alloc _))) ?_;intro w1 hx1)
 have hpb:=aI b (((((aj _).alloc _).alloc _).alloc _).trans hx1);have hx:=(((((aj w).alloc _).alloc _).alloc _).alloc _).trans hx1;have n1:=aC (w.alloc (.cells #[.slice s.a p.ar s.c,.int .u8 p.fm,.slice s.fa p.fc s.fc,.int .u32 p.dn,.int .u8 p.lm,.slice s.la p.lc s.lc,.slice s.ga p.fa s.gc,.int .u8 p.fd,.int .u64 (p.sp:Int),.bool p.we,.bool p.pe,.bool p.rt,.bool p.np] 36)) (.cells #[.bool opt] 4);have n2:=aC (World.alloc (w.alloc (.cells #[.slice s.a p.ar s.c,.int .u8 p.fm,.slice s.fa p.fc s.fc,.int .u32 p.dn,.int .u8 p.lm,.slice s.la p.lc s.lc,.slice s.ga p.fa s.gc,.int .u8 p.fd,.int .u64 (p.sp:Int),.bool p.we,.bool p.pe,.bool p.rt,.bool p.np] 36)) (.cells #[.bool opt] 4)) (.cells #[.slice none 0 0] 37);have n3:=aC (World.alloc (World.alloc (w.alloc (.cells #[.slice s.a p.ar s.c,.int .u8 p.fm,.slice s.fa p.fc s.fc,.int .u32 p.dn,.int .u8 p.lm,.slice s.la p.lc s.lc,.slice s.ga p.fa s.gc,.int .u8 p.fd,.int .u64 (p.sp:Int),.bool p.we,.bool p.pe,.bool p.rt,.bool p.np] 36)) (.cells #[.bool opt] 4)) (.cells #[.slice none 0 0] 37)) (.cells #[.int .i64 0] 43);simp only[aR]at n1 n2 n3;replace n1:=aI n1 ((((aj _).alloc _).alloc _).trans hx1);replace n2:=aI n2 (((aj _).alloc _).trans hx1);replace n3:=aI n3 hx1;have HW:=ah (ak hpb (ak n1 (ak n2 (ak n3 hx))));obtain⟨z0,z1,z2,z3,z4,z5,z6,z7,z8,z9,z10,z11,z12⟩:=oI (aI hpb ((aj w1).alloc (.cells #[.slice none 0 0] 37)));clear hx1 hpb n1 n2 n3 hx b y0 y1 y2 y3 y4 y5 y6 y7 y8 y9 y10 y11 y12;gi_upto_region 5 with(refine⟨trivial,?_⟩;refine tI (bM.2 (HP.o _)) ?_;rintro w2 rfl)
 obtain⟨W2,hW2⟩:∃W2,W2=(w1.alloc (.cells #[.slice none 0 0] 37)).alloc (.cells (fA p s).toArray 36):=⟨_,rfl⟩;have hx2:Ext w1 W2:=by rw[hW2];exact((aj _).alloc _).alloc _
 have ho2:W2.heap[w1.heap.size]?=some (.cells #[.slice none 0 0] 37 (0,0)):=by rw[hW2];exact aI (aC w1 _) ((aj _).alloc _)
 have hb2:W2.heap[w1.heap.size+1]?=some (.cells (fA p s).toArray 36 (0,0)):=by
  rw[hW2];have:=aC (w1.alloc (.cells #[.slice none 0 0] 37)) (.cells (fA p s).toArray 36)
  rwa [aR]at this
 have hs2:W2.heap.size=w1+2:=by rw[hW2];simp
 have hs1:w.heap.size+4<=w1.heap.size:=by have:=(aB.1 HW.o.2.2.2.1).1;omega
 have hBI:BI w p s opt w1 w1 [] W2:=⟨HW.o.2.2.2.2.trans hx2,aI HW.o.1 hx2,aI HW.o.2.1 hx2,aI HW.o.2.2.1 hx2,aI HW.o.2.2.2.1 hx2,aq,_,[],ho2,⟨rfl,.inl aE⟩,trivial,λ_ h=>by cases h⟩;unfold fA at hW2;rw[<-hW2];have HS:=ah (ak hs1 (ak hs2 hx2));clear hW2 z0 z1 z2 z3 z4 z5 z6 z7 z8 z9 z10 z11 z12;have n4:1<=4:=aq;refine yU (w0:=W2) rfl n4 (gf:=61) (lb:= #[.pointer (some ⟨w1+1,0,none⟩)]) rfl trivial (enters_of func61 ax rfl)
  (Px (w1+1) p s hok w1 (HR.o.ext HW.o.2.2.2.2) tyB ⟨rfl,rfl⟩ W2 hx2 hb2) (λh k=>h.trans k) (λW' l o o' hl ho hc _=>Kc.putObj aq ho hc) (Below.refl _ _) (λ_=>rfl)
  (λpre W=>BI w p s opt w1 w1 pre W/\∀y∈pre,Jq p y)
  (λc pre W=>c= .ret/\Ext w W/\(W.heap[w.heap.size+2]?=some (.cells #[.slice none 0 0] 37 (0,0))/\W.heap[w.heap.size+3]?=some (.cells #[.int .i64 270] 43 (0,0)))/\¬SmP p)
  (λs A B row hs hg hr=>⟨hs.1.grow hg (λr e=>⟨by have:=(hr r e).1;omega,(hr r e).2⟩),hs.2⟩)
  (λc s A B row hs hg hr=>⟨hs.1,hs.2.1.grown hg (λr e=>by have:=(hr r e).1;omega),⟨iY hs.2.2.1.1 hg (λr e=>(hr r e).2),iY hs.2.2.1.2 hg (λr e=>(hr r e).2)⟩,hs.2.2.2⟩)
  ⟨hBI,λ_ h=>by cases h⟩
  (λy a' W=>∃Bx,w1.heap.size<Bx/\W.heap[Bx]?=some (.cells #[.int .i64 y.d,.int .i64 y.a,.int .i64 y.f.jh,.slice y.b y.n y.c,.int .u32 y.f.dflt] 87 (0,0))/\uE p y W/\
   ∃v10 v11 v12 v13 v15,a'= {tmps:= #[.agg #[.slice s.a p.ar s.c,.int .u8 p.fm,.slice s.fa p.fc s.fc,.int .u32 p.dn,.int .u8 p.lm,.slice s.la p.lc s.lc,.slice s.ga p.fa s.gc,.int .u8 p.fd,.int .u64 (p.sp:Int),.bool p.we,.bool p.pe,.bool p.rt,.bool p.np],.bool opt,.pointer (some w),.pointer (some ⟨w+1,0,none⟩),.pointer (some ⟨w+1+1,0,none⟩),.pointer (some ⟨w+1+1+1,0,none⟩),.pointer (some w1),.pointer (some Bx),undef,undef,v10,v11,v12,v13,.func (.func 61) #[] #[.pointer (some ⟨w1+1,0,none⟩)],v15,undef,undef,undef,undef,undef,undef,undef,undef,undef,undef,undef,undef,undef,undef,undef,undef,undef,undef,undef,undef,undef,undef,undef,undef,undef,undef,undef,undef,undef],defers:= []})
  (λy a' _ A B row hs hg hr=> ?hI2)
  ?assign ?body ?done ?stop
 case hI2=>obtain⟨Bx,k1,k2,k3,k4⟩:=hs;exact⟨Bx,k1,iY k2 hg (λr e=>(hr r e).2),k3.kc (Kc.grow hg λr e=>(hr r e).2),k4⟩
 case assign=>
  rintro l pre y W K ⟨h1,h2⟩ hG hK;have hsz:w1.heap.size<W:=by obtain⟨u,L,h3,-⟩:=h1.o;exact(aB.1 h3).1
  unfold ptV;gi_wp2;exact hK _ _ ((KeepsOthers.alloc _ _).from _) (Kc.ext ((aj _).alloc _)) ⟨h1.ext' ((aj _).alloc _),h2⟩ ⟨W.heap.size,hsz,aC W _,hG.ext ((aj _).alloc _),_,_,_,_,_,rfl⟩
 case body=>
  rintro l pre y a' W hl-⟨h1,h2⟩ ⟨Bx,hBx,bX,hG,v10,v11,v12,v13,v15,rfl⟩ hlt;have x0:W.cell? Bx=some (.int .i64 y.d):=aG bX 0;have x1:W.cell? ⟨Bx,1,none⟩=some (.int .i64 y.a):=aG bX 1;have x2:W.cell? ⟨Bx,2,none⟩=some (.int .i64 y.f.jh):=aG bX 2;have x3:W.cell? ⟨Bx,3,none⟩=some (.slice y.b y.n y.c):=aG bX 3;have x4:W.cell? ⟨Bx,4,none⟩=some (.int .u32 y.f.dflt):=aG bX 4;obtain⟨q0,-⟩:=oI h1.pb;have q1:W.cell? ⟨w+1,0,none⟩=some (.bool opt):=aG h1.ob 0;have hPt:=hG.ok;have hpl:(y.d=0/\y.a=6)\/(0<y.d/\y.d<8/\y.a<6):=by
   rcases hPt with⟨h,k,-⟩|⟨-,h3,h4,h5,-⟩
   ·exact .inl ⟨h,k⟩
   ·exact .inr ⟨h3,h4,h5⟩
  have H:=ah (ak h1 (ak h2 (ak hPt (ak bX (ak hpl hBx)))));have hcall:(y.d=0/\∃D:DS,(∀r,D.cr r->CP p y (mq r))/\(SmP p->D.sm)/\Calls prog 73 #[.slice s.a p.ar s.c,.bool opt] W λe w'=>Ext W w'/\ad6 D e w')\/
   (y.d≠0/\∃D:DS,(∀r,D.cr r->CP p y (mq r))/\(SmP p->D.sm)/\Calls prog 74 #[.agg #[.int .i64 y.f.jh,.slice y.b y.n y.c,.int .u32 y.f.dflt],.bool opt] W λe w'=>Ext W w'/\ad6 D e w'):=by
   by_cases hd:y.d=0
   ·refine .inl ⟨hd,DG (kN.Ih p.ar),λr h=>⟨r,by rw[aV hd];exact h,rfl⟩,λ_=>trivial,?_⟩;have hne:0<p.ar.length:=by
     rcases hPt with⟨-,-,h⟩|⟨-,h,-⟩
     ·exact h
     ·omega
    refine KA _ p.ar gi ?_ hne opt W (HR.o.ext h1.ext).ar;rw[List.any_eq_false];intro a ha;have:=hok.ar.1 a ha;unfold wT;simp;omega
   ·refine .inr ⟨hd,DF y.f (kU y.f=true/\mJ.most y.f.rules<=900),λr h=>⟨r,by rw[aN hd];exact h,rfl⟩,λhs=>hs y hPt hd,?_⟩;rcases hG with⟨rfl,-⟩|⟨-,-,h4,hf,Xh,hrd,hpm,-⟩
    ·exact absurd rfl hd
    ·obtain⟨hl,hro⟩:=WU hok (y.a:Int) y.d;have anE:∀r∈y.f.rules,GR r:=λr hr=>hro r (hpm.mem_iff.1 hr)
     exact KN y.f _ ⟨by rw[hf];omega,by rw[hf];omega,by rw[Xh];exact af7 hok _,by rw[hpm.length_eq];omega,λr hr=>(anE r hr).1⟩ (λr hr=>by have:=(anE r hr).2;omega) opt W hrd
  clear h1 h2 hPt bX hpl hG;rcases hcall with⟨hd,D,hD,hsm,hc⟩|⟨hd,D,hD,hsm,hc⟩
  case' inl=>have zd:((y.d:Int)==0)=true:=by rw[hd];rfl
  case' inr=>have zd:((y.d:Int)==0)=false:=bK.2 aq
  all_goals
   have HC:=ah hc;have HD:=ah (ak hD hsm);clear hc hD hsm hd;gi_wp2;refine⟨trivial,?_⟩;refine(CallsIn.inRound l (bM.2 HC.o)).mono ?_;rintro e w5 ⟨hx5,a5,n5,c5,er5,rfl,lM⟩;have hb5:=H.o.1.ext' hx5;have bX5:=aI H.o.2.2.2.1 hx5;have kM:=ah hx5;rcases lM with⟨her,hns⟩|⟨rfl,pr,hpr,rfl,hown5⟩
   ·have ze:(er5 !=0)=true:=by rcases her with rfl|rfl<;>rfl
    have e4:w5.cell? ⟨w+1+1,0,none⟩=some _:=aG hb5.r4 0;have e5:w5.cell? ⟨w+1+1+1,0,none⟩=some _:=aG hb5.r5 0;have f4:w5.frozen? ⟨w+1+1,0,none⟩=false:=aP hb5.r4 0;have f5:w5.frozen? ⟨w+1+1+1,0,none⟩=false:=aP hb5.r5 0;have E0:=ah (ak hb5 hns);clear hb5 bX5 her hns hx5;gi_wp2;have arE:=E0.o.1.ext;have g4:(w5.setCell ⟨w+1+1,0,none⟩ (.slice none 0 0)).heap[w.heap.size+2]?=some (.cells #[.slice none 0 0] 37 (0,0)):=eX E0.o.1.r4 0 _;have g5:(w5.setCell ⟨w+1+1,0,none⟩ (.slice none 0 0)).heap[w.heap.size+3]?=some (.cells #[.int .i64 0] 43 (0,0)):=(aX _ _ _ _ eK).trans E0.o.1.r5;exact⟨(((TK.ext (n0:=0) (T:=λ_=>false) kM.o).ko.trans (KeepsOthers.setCell _ _ _)).trans (KeepsOthers.setCell _ _ _)).from _,rfl,(arE.setCell eM _).setCell (by show _<=w.heap.size+1+1+1;omega) _,⟨(aX _ _ _ _ eE).trans g4,eX g5 0 _⟩,λh=>E0.o.2 (HD.o.2 h)⟩
   ·obtain⟨u,L,hBo,hown,hall,hins⟩:=hb5.o;obtain⟨au,cu,rfl⟩:=bU hown;obtain⟨zx,hzx⟩:∃zx:Pg,zx=⟨y.d,y.a,pr,a5,c5⟩:=⟨_,rfl⟩;have o0:w5.cell? w1=some (.slice au L cu):=aG hBo 0;have x0':=hx5.cell x0;have x1':=hx5.cell x1;have rJ:L.length<=60:=by rw[<-hall.len];omega
    have hrd:∀W':ay,Rd (W'.alloc (.cells #[.int .i64 y.d,.int .i64 y.a,.slice a5 pr c5] 53)) 3 vo (.slice (some ⟨W'.heap.size,0,none⟩) 1 1) [zx]:=λW'=>by have:=gI wQ W' [zx] 53 _ rfl;rw[hzx]at this⊢;exact this
    have HO:=ah (ak hb5 (ak hBo (ak hown (ak hall (ak hins (ak hown5 (ak hpr hzx)))))));have HRD:=ah hrd;have hws:=hx5.size;have hwl:=(aB.1 hBo).1;clear hb5 bX5 hx5 hBo hown hall hins hown5 hpr hrd hzx x0 x1 x2 x3 x4 q0 q1
    gi_wp2_with(gi_at_builtin;refine GL rfl (.tmp 35) (.tmp 42) 37 rfl underlying37 ajr rfl az wQ ZV w1.heap.size (.slice au L.length cu) _ L [zx] rfl rfl (dM HO.o.2.2.1 _) (HRD.o _) bp az bp ?_;intro a6 c6 w6 uF AO
                have k6:TK w1 tyB w5 w6:=(TK.alloc _ _).trans ((TK.grown (dM HO.o.2.2.1 _) AO rfl (aD _)));have hB6:=(TK.grown (n0:=w1.heap.size) (T:=λx=>x==53) (dM HO.o.2.2.1 _) AO rfl (aD _)).blk (aI HO.o.2.1 ((aj _).alloc _)) (.inr rfl);have s0:w6.cell? w1=some (.slice au L cu):=aG hB6 0;have sf:=aP hB6 0;have A0:=ah (ak uF (ak k6 hB6));clear uF k6 AO hB6)
    have t6:TK w1 tyB w5 (w6.setCell w1 (.slice a6 (L+1) c6)):=A0.o.2.1.trans (TK.set (p:=w1) A0.o.2.2 rfl (aD _) _);have t5:TK w1 tyB W _:=(TK.ext kM.o).trans t6;have hb5:=HO.o.1;have hpr:=HO.o.2.2.2.2.2.2.1;have ary:(w6.setCell w1 (.slice a6 (L+1) c6)).ownsRow w1 53 3 (.slice a6 (L+1) c6) (L+1) ((L++[zx]).flatMap vo):=(TK.set (n0:=w1.heap.size) (T:=λx=>x==37) (p:=w1) A0.o.2.2 rfl (aD _) _).own A0.o.1 rfl;have hzx:=HO.o.2.2.2.2.2.2.2;refine⟨t5.ko.from _,Kc.of t5,⟨⟨t6.lX hb5.ext aq,t6.blk hb5.pb (.inr rfl),t6.blk hb5.ob (.inr rfl),t6.blk hb5.r4 (.inl aq),t6.blk hb5.r5 (.inl aq),hb5.hB,_,L++[zx],eX A0.o.2.2 0 _,by rw[aH];exact ary,yP.snoc ?_ HO.o.2.2.2.1,λx hm=> ?_⟩,λx hm=> ?_⟩⟩
    ·rw[hzx];exact⟨rfl,rfl,hpr.1,hpr.2.1,by obtain⟨r,h1,h2⟩:=hpr.2.2;rw[h2];exact HD.o.1 r h1⟩
    ·rcases dJ.1 hm with h|h
     ·exact t6.own (HO.o.2.2.2.2.1 x h) rfl
     ·rw[e8.1 h,hzx];exact t6.own HO.o.2.2.2.2.2.1 rfl
    ·rcases dJ.1 hm with h|h
     ·exact H.o.2.1 x h
     ·rw[e8.1 h];exact H.o.2.2.1
 case done=>
  rintro D ys W hD hys ⟨h1,h2⟩ hk;obtain⟨u,L,hBo,hown,hall,hins⟩:=h1.o;obtain⟨au,cu,rfl⟩:=bU hown;have o0:W.cell? w1=some (.slice au L cu):=aG hBo 0;have e4:W.cell? ⟨w+1+1,0,none⟩=some _:=aG h1.r4 0;have e5:W.cell? ⟨w+1+1+1,0,none⟩=some _:=aG h1.r5 0;have f4:W.frozen? ⟨w+1+1,0,none⟩=false:=aP h1.r4 0;have f5:W.frozen? ⟨w+1+1+1,0,none⟩=false:=aP h1.r5 0;have H:=ah (ak h1 (ak h2 (ak hown (ak hall hins))));clear h1 h2 hown hall hins hBo;gi_wp2;have H1:=H.o.1;have g4:(W.setCell ⟨w+1+1,0,none⟩ (.slice au L cu)).heap[w.heap.size+2]?=some (.cells #[.slice au L cu] 37 (0,0)):=eX H1.r4 0 _;have g5:(W.setCell ⟨w+1+1,0,none⟩ (.slice au L cu)).heap[w.heap.size+3]?=some (.cells #[.int .i64 0] 43 (0,0)):=(aX _ _ _ _ eK).trans H1.r5;have hx:Ext w ((W.setCell ⟨w+1+1,0,none⟩ (.slice au L cu)).setCell ⟨w+1+1+1,0,none⟩ (.int .i64 0)):=(H1.ext.setCell eM _).setCell (by show _<=w.heap.size+1+1+1;omega) _;have hkd:((W.setCell ⟨w+1+1,0,none⟩ (.slice au L cu)).setCell ⟨w+1+1+1,0,none⟩ (.int .i64 0)).heap[D]?=some (.deferred (some [])):=(aX _ _ _ _ eE).trans ((aX _ _ _ _ eK).trans hk);have g4':=(aX _ ⟨w+1+1+1,0,none⟩ (.int .i64 0) (w+2) eE).trans g4;have g5':=eX g5 0 (.int .i64 0);have tk2:TK 0 (λx=>x==37||x==43) W ((W.setCell ⟨w+1+1,0,none⟩ (.slice au L cu)).setCell ⟨w+1+1+1,0,none⟩ (.int .i64 0)):=(TK.set (p:=⟨w+1+1,0,none⟩) H1.r4 rfl (bP _) _).trans (TK.set (p:=⟨w+1+1+1,0,none⟩) g5 rfl (bP _) _);generalize(W.setCell ⟨w+1+1,0,none⟩ (.slice au L cu)).setCell ⟨w+1+1+1,0,none⟩ (.int .i64 0)=W9 at *;refine⟨aE,.inl ⟨_,_,rfl,run_takeDeferred hkd,?_⟩⟩;have hgr:=grownBy_putObj' W9 D (.deferred none);have hgn:∀r,some D=some r->∃o:Obj,W9.heap[r]?=some o/\o.isCells=false:=λr e=>by cases e;exact⟨_,hkd,rfl⟩
  have kk:=Kc.grow hgr hgn;have c4:=aG (kk.kept _ _ _ _ g4' rfl) 0;have c5:=aG (kk.kept _ _ _ _ g5' rfl) 0
  change World.cell? _ ⟨w+1+1,0,none⟩=_ at c4
  change World.cell? _ ⟨w+1+1+1,0,none⟩=_ at c5
  refine⟨.tuple #[.slice au L cu,.int .i64 0],by simp[results,results37,go_sem,c4,c5],?_⟩;refine⟨hx.grown hgr (λr e=>by cases e;omega),.inr ⟨au,cu,L,ys,rfl,⟨ai0 (kk.own (tk2.own H.o.2.2.1 rfl) rfl),?_,λx hm=> ?_⟩,hys,H.o.2.2.2.1,H.o.2.1⟩⟩
  ·rw[<-H.o.2.2.2.1.len,<-aS (f:=Pt.at),hys];exact aL (afB p) az
  ·obtain⟨y,hy,hT⟩:=H.o.2.2.2.1.mem x hm;refine⟨⟨hT.ok,hT.len,?_⟩,kk.own (tk2.own (H.o.2.2.2.2 x hm) rfl) rfl⟩;rw[hT.dr,hT.ar];rcases H.o.2.1 y hy with⟨h,k,-⟩|⟨-,h3,h4,h5,-⟩
   ·exact .inl ⟨h,k⟩
   ·exact .inr ⟨h3,h4,h5⟩
 case stop=>
  rintro D c pre W hD-⟨rfl,h1,⟨h2,h3⟩,h4⟩ hk;have HN:=ah (ak h1 h4);clear h1 h4;gi_wp2;refine⟨aE,.inl ⟨_,_,rfl,run_takeDeferred hk,?_⟩⟩;have hgr:=grownBy_putObj' W D (.deferred none);have hgn:∀r,some D=some r->∃o:Obj,W.heap[r]?=some o/\o.isCells=false:=λr e=>by cases e;exact⟨_,hk,rfl⟩
  have kk:=Kc.grow hgr hgn;have c4:=aG (kk.kept _ _ _ _ h2 rfl) 0;have c5:=aG (kk.kept _ _ _ _ h3 rfl) 0
  change World.cell? _ ⟨w+1+1,0,none⟩=_ at c4
  change World.cell? _ ⟨w+1+1+1,0,none⟩=_ at c5
  refine⟨.tuple #[.slice none 0 0,.int .i64 270],by simp[results,results37,go_sem,c4,c5],?_⟩;exact⟨HN.o.1.grown hgr (λr e=>by cases e;omega),.inl ⟨rfl,HN.o.2⟩⟩
end LT
end Go.Proofs.YtopfefhenfineaaGreat
