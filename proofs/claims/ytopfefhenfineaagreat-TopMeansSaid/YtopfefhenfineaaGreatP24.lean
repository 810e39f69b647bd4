import Derived.Test.YtopfefhenfineaaGreatP22
import Derived.Defers
import Derived.Recover
set_option linter.all false
set_option maxRecDepth 100000
set_option maxHeartbeats 8000000
namespace Go.Proofs.YtopfefhenfineaaGreat
open Go.Proofs.Tryz Go.RowKit bh
attribute[local go_sem] Oper.semAt_some
variable{S:Prop}
def aj2(h:S:=by
 match i with
 |0=>rfl
 |1=>rfl
 |2=>rfl
 |3=>rfl
 |4=>rfl
 |5=>rfl
 |6=>rfl
 |7=>rfl
 |8=>rfl
 |9=>rfl
 |10=>rfl
 |11=>rfl
 |12=>rfl
 |13=>rfl
 |n+14=>rfl):S:=h
namespace LT
def G7:Array K:= #[bf 4,.func (.func 310) #[] #[],.nilFunc,bf 20,.func (.func 311) #[] #[],.nilFunc,bf 36,.func (.func 312) #[] #[],.nilFunc,bf 52,.func (.func 313) #[] #[],.nilFunc,bf 68,.func (.func 314) #[] #[],.nilFunc,bf 84,.func (.func 315) #[] #[],.nilFunc,bf 100,.func (.func 316) #[] #[],.nilFunc,bf 116,.func (.func 317) #[] #[],.nilFunc,bf 164,.func (.func 318) #[] #[],.nilFunc,bf 132,.func (.func 319) #[] #[],.nilFunc,bf 21,.nilFunc,.func (.func 320) #[] #[],bf 37,.nilFunc,.func (.func 321) #[] #[],bf 53,.nilFunc,.func (.func 322) #[] #[],bf 69,.nilFunc,.func (.func 323) #[] #[]]
theorem aAa(w:G):aM 258 #[] w (bg G7):=by
 unfold aM;go_in;go_upto_region 1 with fail;apply wp_region_lit;refine bG 309 1 (#[bf 4,.func (.func 310) #[] #[],.nilFunc]) ?_;refine bG 309 2 (#[bf 20,.func (.func 311) #[] #[],.nilFunc]) ?_;refine bG 309 3 (#[bf 36,.func (.func 312) #[] #[],.nilFunc]) ?_;refine bG 309 4 (#[bf 52,.func (.func 313) #[] #[],.nilFunc]) ?_;refine bG 309 5 (#[bf 68,.func (.func 314) #[] #[],.nilFunc]) ?_;refine bG 309 6 (#[bf 84,.func (.func 315) #[] #[],.nilFunc]) ?_;refine bG 309 7 (#[bf 100,.func (.func 316) #[] #[],.nilFunc]) ?_;refine bG 309 8 (#[bf 116,.func (.func 317) #[] #[],.nilFunc]) ?_;refine bG 309 9 (#[bf 164,.func (.func 318) #[] #[],.nilFunc]) ?_;refine bG 309 10 (#[bf 132,.func (.func 319) #[] #[],.nilFunc]) ?_;refine bG 309 11 (#[bf 21,.nilFunc,.func (.func 320) #[] #[]]) ?_;refine bG 309 12 (#[bf 37,.nilFunc,.func (.func 321) #[] #[]]) ?_;refine bG 309 13 (#[bf 53,.nilFunc,.func (.func 322) #[] #[]]) ?_;refine bG 309 14 (#[bf 69,.nilFunc,.func (.func 323) #[] #[]]) ?_;refine bG 386 15 (G7) ?_;refine wpList_store_rowTo rfl 386 _ _ rfl rfl w.heap.size G7 jU jU 386 _ (heap_alloc_last w _) aj aj aj ?_;rw[World.setRow_alloc_new];apply wpList_nil;rename_i am;refine am _ _ ?_;have key:∀aq:Act,aq.tmps.getD 0 undef=aB (some w)->aq.defers=[]->Code.wp prog Code.ret (bodyPost prog Tryz.f258 λe F=>e=aI (bg G7)/\Ext w F) aq (w.alloc (J G7 386)):=by intro aq ae hd;go_wp;exact cO (v:=bg G7) (lQ results258 _ _ _ _ _ _ _ ae (heap_alloc_last w _) underlying386 rfl aj) hd ⟨rfl,(O _).alloc _⟩
 exact Du
def aAb:List Nat:= [4,20,36,52,68,84,100,116,164,132,21,37,53,69]
def aj3:List K:= [.func (.func 310) #[] #[],.func (.func 311) #[] #[],.func (.func 312) #[] #[],.func (.func 313) #[] #[],.func (.func 314) #[] #[],.func (.func 315) #[] #[],.func (.func 316) #[] #[],.func (.func 317) #[] #[],.func (.func 318) #[] #[],.func (.func 319) #[] #[],.nilFunc,.nilFunc,.nilFunc,.nilFunc]
def aj4:List K:= [.nilFunc,.nilFunc,.nilFunc,.nilFunc,.nilFunc,.nilFunc,.nilFunc,.nilFunc,.nilFunc,.nilFunc,.func (.func 320) #[] #[],.func (.func 321) #[] #[],.func (.func 322) #[] #[],.func (.func 323) #[] #[]]
def uX(k:Nat):Nat:=aAb.getD k 0
def G8(k:Nat):K:=aj3.getD k .nilFunc
def G9(k:Nat):K:=aj4.getD k .nilFunc
theorem aAc(i:Nat)(h:i<14)(W:G):(Instr.index 386 (bg G7) (H i)).run prog W= .ok (bg #[bf (uX i:Int),G8 i,G9 i]) W:=by
 match i,h with
 |0,_=>rfl
 |1,_=>rfl
 |2,_=>rfl
 |3,_=>rfl
 |4,_=>rfl
 |5,_=>rfl
 |6,_=>rfl
 |7,_=>rfl
 |8,_=>rfl
 |9,_=>rfl
 |10,_=>rfl
 |11,_=>rfl
 |12,_=>rfl
 |13,_=>rfl
 |n+14,h=>exact absurd h aE
def aAd:∀i,i<14->uX i<65536:=Y
def aAe:∀i,i<14->∀k,k<i->uX k≠uX i:=Y
def aAf(i:Nat):(G8 i).oneCell'=true:=by
 unfold G8 aj3
 exact aj2
def aAg(i:Nat):(G9 i).oneCell'=true:=by
 unfold G9 aj4
 exact aj2
def Yb{a ax bC:K}(ae:a.oneCell'=true)(h1:ax.oneCell'=true)(h2:bC.oneCell'=true):(#[a,ax,bC]:Array K).all (·.oneCell')=true:=by rw[<-Array.all_toList];simp only[List.all_cons,List.all_nil,ae,h1,h2,Bool.and_self]
theorem R5:(Tryz.prog.info? 309).map (·.size)=some 3:=aj
theorem aj5(j:Nat)(Z:j<14)(bJ:yK.wx (uX j)=false)(w:G):aM 193 #[bf (uX j:Int)] w (bg #[bf (uX j:Int),G8 j,G9 j]):=by
 have g9:=λW=>yK.Bq (uX j) (aAd j Z) W
 rw[bJ]at g9;have e1:=λW=>aAa W
 have bO:=aAe j Z;have fN:=bA w (J #[bf 0,.nilFunc,.nilFunc] 309);obtain⟨bX,gh⟩:∃bX,bX=w.alloc (J #[bf 0,.nilFunc,.nilFunc] 309):=⟨_,rfl⟩;have d6:Ext w bX:=by rw[gh];exact(O _).alloc _
 rw[<-gh]at fN;have vs:=z gh;have Bi:=z (ah fN d6);have aAh:=z g9;have tM:=z e1;have El:=z bO;clear g9 e1 bO bJ gh fN d6;unfold aM;go_in;go_upto_region 1 with fail;rw[<-vs.o];go_wp2_with fail;refine ak (aAh.o _) ?_;intro I Q;have bF:=z Q;clear Q;go_wp2_with fail;refine ak (tM.o _) ?_;intro aO ag;have ca:=z (bF.o.trans ag);go_wp2_with fail;go_loopw [10] (λi wr=>∃k:Nat,k<=j/\i=H k/\Ext bX wr) (λi _=>14-(intOf i).toNat)
 case atStart=>exact⟨0,aE,rfl,ca.o⟩
 case round=>
  obtain⟨k,hk,rfl,D⟩:=hrel;have aAi:k<14:=aE;have bL:(k:Int)<14:=aE;have oe:=aAc k aAi;have cs:=aAf k;have h1:=aAg k;have aT:=z D;have m6:=aJ Bi.o.1 D;have cD:=z m6;have BB:k<j->uX k≠uX j:=λh=>El.o k h
  by_cases Wf:k=j
  ·subst Wf;generalize aAj:uX k=pc at *;generalize cE:G8 k=ax at *;generalize h9:G9 k=bC at *;have cI:=z (ah aAj (ah cE h9));have Yc:=bA wr (J #[bf pc,ax,bC] 309);obtain⟨⟨c0,c1,c2⟩,-⟩:=tL Yc;have hg:((wr.alloc (J #[bf pc,ax,bC] 309))).heap[w.heap.size]?=_:=aJ m6 ((O _).alloc _);go_wp2_with(first
    |(refine wpList_store_rowTo rfl 309 (.tmp 4) (.tmp 12) rfl rfl wr.heap.size #[bf pc,ax,bC] rfl rfl 309 _ (bA wr _) R5 rfl (Yb rfl cs h1) ?_;simp only[World.setRow_alloc_new])
    |(refine wpList_store_rowTo rfl 309 (.tmp 2) (.tmp 17) rfl rfl w.heap.size #[bf pc,ax,bC] rfl rfl 309 _ hg R5 rfl (Yb rfl cs h1) ?_))
   rw[cI.o.1,cI.o.2.1,cI.o.2.2];exact cO (v:=bg #[bf pc,ax,bC]) (lQ results193 _ _ _ _ _ _ _ rfl (gu _ _ _ _ _ _ hg) underlying309 rfl R5) rfl
    ⟨rfl,iT ((Bi.o.2.trans aT.o).alloc _) (aZ _) _⟩
  ·have ad:k<j:=aE;have bO:((uX k:Int)==(uX j:Int))=false:=by have:=BB ad;exact iH.2 aE
   generalize uX k=pc at *;generalize G8 k=ax at *;generalize G9 k=bC at *;have Yc:=bA wr (J #[bf pc,ax,bC] 309);obtain⟨⟨c0,c1,c2⟩,-⟩:=tL Yc;go_wp2_with(refine wpList_store_rowTo rfl 309 (.tmp 4) (.tmp 12) rfl rfl wr.heap.size #[bf pc,ax,bC] rfl rfl 309 _ (bA wr _) R5 rfl (Yb rfl cs h1) ?_;simp only[World.setRow_alloc_new]);go_roundw
   case rel=>exact⟨k+1,aE,cZ,aT.o.alloc _⟩
   case measure=>exact eO
end LT
def aj6(h:S:=by clear Q D R;go_wp2_with fail;refine ak ec.o ?_;rintro aO ⟨hg,eS⟩;have cI:=z (ah (Np (Nq aT.o _) hg) eS);clear hg eS;go_wp2_with fail;go_ret;exact⟨rfl,cI.o⟩):S:=h
def aj7(h:S:=by go_wp2_with fail;refine ak ec.o ?_;intro aO ag;have cI:=z (ah (Nq (aT.o.1.trans ag) (some bb)) (show zB aO bb a d t false from aJ aT.o.2 ag));clear ag;go_wp2_with fail;go_ret;exact⟨rfl,cI.o⟩):S:=h
namespace LT
open jG (Dat gW fT wd okW Vh)
open yK (i3 wx Bq)
abbrev R6(a:Nat)(d:Dat)(t:Nat)(o:Bool):Array K:= #[M a,M 0,M 0,M 0,M 0,M 0,M 0,M 0,M 0,M 0,M 0,M 0,M 0,M 0,M 0,M 0,M 0,M 0,
 M d.nr,M d.ar,aA (d.ip:Int),aA (d.a0:Int),aA (d.a1:Int),aA (d.a2:Int),aA (d.a3:Int),aA (d.a4:Int),aA (d.a5:Int),M t,av o]
def zB(W:G)(bb a:Nat)(d:Dat)(t:Nat)(o:Bool):Prop:=W.heap[bb]?=some (J (R6 a d t o) 167 (0,0))
def Nq{W aO:G}(h:Ext W aO)(r:Option Nat):W.grownBy aO r:=⟨h.os,h.tape,h.output,h.size,λ_ hk _=>h.block hk⟩
def Np{aq B C:G}{r:Option Nat}(h:aq.grownBy B r)(k:B.grownBy C r):aq.grownBy C r:=⟨k.os.trans h.os,k.tape.trans h.tape,k.output.trans h.output,cB h.size k.size,λi hi hn=>(k.block i (vw hi h.size) hn).trans (h.block i hi hn)⟩
def R7(W:G)(b k:Nat)(v:K):W.grownBy (W.setCell ⟨b,k,none⟩ v) (some b):=⟨rfl,rfl,rfl,ay,λi _ hn=>fI _ _ _ _ (λe=>hn (by rw[e]))⟩
theorem aj8(x:Ix)(D:wx x.c=false)(ao:x.c<65536)(p:K)(W:G):aM 192 #[p,iO x] W (M x.k):=by
 have cn:=λW=>Bq x.c ao W
 rw[D]at cn;obtain⟨c,jt,jf,k⟩:=x;unfold iO;have b0:=bA W (J #[bf c,aC jt,aC jf,M k] 173);have ce:=z b0;have cx:=z cn;clear cn b0 D;unfold aM;go_in;go_wp2_with fail;refine ak (cx.o _) ?_;intro I Q;obtain⟨⟨-,-,-,c3⟩,-⟩:=jY (aJ ce.o Q);have aT:=z (((O W).alloc _).trans Q);clear Q;exact FH
theorem aAk(d:Dat)(hd:fT d)(jt jf k:Nat)(hk:okW k=true)(a t bb:Nat)(W:G)(R:zB W bb a d t false):Calls prog 148 #[aB (some bb),(bg #[bf 32,aC jt,aC jf,M k])] W λe F=>e=aI (bH #[])/\W.grownBy F (some bb)/\zB F bb (wd d k) d t false:=by
 have cn:=λW=>Vh d hd k W
 have aK:jG.zR d k=(wd d k,0):=by unfold jG.zR;rw[aF hk]
 rw[aK]at cn;dsimp only at cn;generalize wd d k=x at *;obtain⟨az,b7⟩:∃az,az=W.alloc (J #[bf 32,aC jt,aC jf,M k] 173):=⟨_,rfl⟩;have Q:Ext W az:=by rw[b7];exact(O _).alloc _
 have eN:=aJ R Q;have b1:az.heap[W.heap.size]?=some (J #[bf 32,aC jt,aC jf,M k] 173 (0,0)):=by rw[b7];exact bA W _
 obtain⟨⟨c0,-,-,c3⟩,-⟩:=jY b1;have aAl:=aG eN 18;have aAm:=aG eN 19;have aAn:=aG eN 20;have aAo:=aG eN 21;have aAp:=aG eN 22;have aAq:=aG eN 23;have aAr:=aG eN 24;have aAs:=aG eN 25;have aAt:=aG eN 26;simp only[R6,List.getElem?_toArray,List.getElem?_cons_succ,List.getElem?_cons_zero]at aAl aAm aAn aAo aAp aAq aAr aAs aAt;have d2:=z (cn az.drew);unfold gW at d2;have aT:=z (ah Q eN);have eo:=z b7;clear cn R aK Q eN b7;go_in;go_upto_region 2 with fail;rw[<-eo.o];go_wp2_with fail;go_region_with(refine ak d2.o ?_;intro aO ag;have ca:=z ag;have fS:=aJ aT.o.2 ((O _).drew.trans ca.o);have y0:aO.cell? bb=some (M a):=aG fS 0;have f0:=dw fS 0;have cW:=z fS;clear ag fS)
 all_goals
  go_wp2_with fail
  first|go_end0|refine cO (gq rfl _ _ _) rfl ?_
  exact⟨rfl,Np (Nq (aT.o.1.trans ((O _).drew.trans ca.o)) _) (R7 _ _ _ _),fH cW.o 0 _⟩
def aj9{a b:Nat}(bT:a<4294967296)(V:b<4294967296):bits .and .u32 a (b:Int)=((a&&&b:Nat):Int):=by rw[u32_and _ _ aE aE aE aE];simp
theorem aAu(a b:Nat)(bT:a<4294967296)(V:b<4294967296)(w:G):Calls prog 315 #[M a,M b] w λe F=>e=aI (M ((a&&&b:Nat):Int))/\F=w:=by have h:=aj9 bT V;go_in;exact Iu
def af1(c:Nat):Nat:=if c=21 then 10 else if c=37 then 11 else if c=53 then 12 else 13
theorem akb(c k a jt jf:Nat)(bT:a<4294967296)(V:k<4294967296)(ao:jG.gK c=true)(w:G):∃g,G9 (af1 c)= .func (.func g) #[] #[]/\(∀args w,(callFunc g args).run prog w= .ok (.enter g args) w)/\Calls prog g #[M a,M k] w λe F=>e=aI (av (yh ⟨c,jt,jf,k⟩ a))/\F=w:=by
 simp only[jG.gK,qM,jC]at ao;unfold yh jG.hld;rcases ao with rfl|rfl|rfl|rfl
 ·refine⟨320,rfl,enters_of func320 aj rfl,?_⟩;go_in;go_wp2_with fail;go_ret;exact⟨(by show Ending.returned (av ((a:Int)==(k:Int)))=_;congr 2;rw[dW];simp;omega),rfl⟩
 ·refine⟨321,rfl,enters_of func321 aj rfl,?_⟩;go_in;exact Iu
 ·refine⟨322,rfl,enters_of func322 aj rfl,?_⟩;go_in;exact Iu
 ·refine⟨323,rfl,enters_of func323 aj rfl,?_⟩;have h:=aj9 bT V;have h2:(((a&&&k:Nat):Int) !=0)=((a&&&k) !=0):=by rw[dW];simp
  go_in;exact Iu
theorem aAv(d:Dat)(jt jf k:Nat)(hk:k<4294967296)(a t bb:Nat)(bT:a<4294967296)(W:G)(R:zB W bb a d t false):Calls prog 150 #[aB (some bb),(bg #[bf 84,aC jt,aC jf,M k])] W λe F=>e=aI (bH #[])/\W.grownBy F (some bb)/\zB F bb (a&&&k) d t false:=by
 have hS:=λW=>aj8 ⟨84,jt,jf,k⟩ (show wx 84=false from jE) (show 84<65536 from Y) (aB (some bb)) W
 have hB:=λW=>aj5 5 Y jE W
 have bl:=λW=>aAu a k bT hk W
 have g1:=enters_of func315 aj rfl
 change∀W,Calls prog 193 #[bf 84] W λe F=>e=aI (bg #[bf 84,.func (.func 315) #[] #[],.nilFunc])/\Ext W F at hB
 have ai:∀W,(Instr.field 309 (bg #[bf 84,.func (.func 315) #[] #[],.nilFunc]) 1).run prog W= .ok (.func (.func 315) #[] #[]) W:=λ_=>rfl
 generalize a&&&k=y at *;have b1:=bA W (J #[bf 84,aC jt,aC jf,M k] 173);obtain⟨⟨c0,c1,c2,c3⟩,-⟩:=jY b1;have cW:=z (ah R b1);unfold iO at hS;have bY:=z hS;have ce:=z hB;have nj:=z bl;clear hS hB bl R b1;go_in;go_wp2_with fail;refine ak (bY.o _) ?_;intro I Q;have aT:=z (((O W).alloc _).trans Q);have eN:=aJ cW.o.1 aT.o;have y0:I.cell? bb=some (M a):=aG eN 0;have dm:=Q.cell c0;have aAw:=z eN;clear Q eN c0 c1 c2 c3;go_wp2_with fail;go_region_with(first|(go_at_call 193;refine ak (ce.o _) ?_;intro aO ag;have ca:=z ag;have fS:=aJ aAw.o ((O _).drew.trans ag);have fR:aO.cell? bb=some (M a):=aG fS 0;have f0:=dw fS 0;have G1:=z fS;clear ag fS)|(go_at_call 315;refine ak (nj.o _) ?_;rintro bj rfl))
 all_goals
  go_wp2_with fail
  first|go_end0|refine cO (gq rfl _ _ _) rfl ?_
  exact⟨rfl,Np (Nq (aT.o.trans ((O _).drew.trans ca.o)) _) (R7 _ _ _ _),fH G1.o 0 _⟩
def Ye{k:Nat}(hk:k<4294967296):wrap64 (k:Int)=k:=by simp[wrap64];omega
theorem aAx(jt jf k:Nat)(hk:k<4294967296)(p:K)(W:G):aM 151 #[p,(bg #[bf 5,aC jt,aC jf,M k])] W (H k):=by obtain⟨⟨c0,c1,c2,c3⟩,-⟩:=jY (bA W (J #[bf 5,aC jt,aC jf,M k] 173));unfold aM;go_in;go_wp2_with fail;go_ret;exact⟨by rw[<-Ye hk];rfl,(O _).alloc _⟩
theorem aAy(c jt jf k:Nat)(ao:jG.gK c=true)(hk:k<4294967296)(ag8:jt<256)(ahz:jf<256)(d:Dat)(a t bb:Nat)(bT:a<4294967296)(W:G)(R:zB W bb a d t false):Calls prog 151 #[aB (some bb),(bg #[bf c,aC jt,aC jf,M k])] W λe F=>e=aI (H ((if yh ⟨c,jt,jf,k⟩ a=true then jt else jf:Nat):Int))/\Ext W F:=by
 have aW:af1 c<14/\uX (af1 c)=c/\wx c=false/\c<65536/\c≠5:=by simp only[jG.gK,qM,jC]at ao;rcases ao with rfl|rfl|rfl|rfl<;>decide+kernel
 obtain⟨ef,cY,eh,hL,s4⟩:=aW;have hS:=λW=>aj8 ⟨c,jt,jf,k⟩ eh hL (aB (some bb)) W
 have hB:=λW=>aj5 (af1 c) ef (by rw[cY];exact eh) W
 obtain⟨g,hg,g1,-⟩:=akb c k a jt jf bT hk ao W;have h9:=λw=>akb c k a jt jf bT hk ao w
 rw[hg,cY]at hB;have akc:∀w,Calls prog g #[M a,M k] w λe F=>e=aI (av (yh ⟨c,jt,jf,k⟩ a))/\F=w:=λw=>by obtain⟨dv,aV,-,h2⟩:=h9 w;rw[hg]at aV;cases aV;exact h2
 have ai:∀ax W,(Instr.field 309 (bg #[bf c,ax,.func (.func g) #[] #[]]) 2).run prog W= .ok (.func (.func g) #[] #[]) W:=λ_ _=>rfl
 have tc:((c:Int)==5)=false:=iH.2 aE;have ej:wrap64 (jt:Int)=jt:=Ye aE;have eR:wrap64 (jf:Int)=jf:=Ye aE;generalize yh ⟨c,jt,jf,k⟩ a=V at *;generalize G8 (af1 c)=ax at *;obtain⟨az,b7⟩:∃az,az=W.alloc (J #[bf c,aC jt,aC jf,M k] 173):=⟨_,rfl⟩;have Q:Ext W az:=by rw[b7];exact(O _).alloc _
 have b1:=bA W (J #[bf c,aC jt,aC jf,M k] 173);rw[<-b7]at b1;obtain⟨⟨c0,c1,c2,c3⟩,-⟩:=jY b1;have y0:az.cell? bb=some (M a):=aG (aJ R Q) 0;unfold iO at hS;have bY:=z hS;have ce:=z hB;have nj:=z akc;have aT:=z Q;have eo:=z b7;clear hS hB akc R Q h9 hg b7 b1 ao ef cY eh hL s4;go_in;go_upto_region 3 with fail;rw[<-eo.o];have WM:=dh c0;have Mo:=dh c1;have QY:=dh c2;have afP:=dh c3;have aAz:=dh y0;refine qR aj aj ?_
 repeat(any_goals(first|go_big_quiet_step ((first|(go_at_call 193;with_reducible exact fA (ce.o _))|(go_at_call 192;with_reducible exact fA (bY.o _))|with_reducible exact fA ((nj.o _).mono λ_ _ h=>⟨h.1,h.2▸O _⟩)))|quiet_step ((first|(go_at_call 193;with_reducible exact fA (ce.o _))|(go_at_call 192;with_reducible exact fA (bY.o _))|with_reducible exact fA ((nj.o _).mono λ_ _ h=>⟨h.1,h.2▸O _⟩)))))
 all_goals(refine qN ?_;intro _ jb;obtain⟨x,ii⟩:=jb;subst ii)
 have afQ:=x.h.cell c1;have aAA:=x.h.cell c2;have ca:=z (aT.o.trans x.h);clear WM Mo QY afP aAz c0 c1 c2 c3 y0;generalize x.w=aO at *;clear x;cases V
 ·go_wp2_with fail;go_ret;exact⟨by rw[<-eR];rfl,ca.o⟩
 ·go_wp2_with fail;go_ret;exact⟨by rw[<-ej];rfl,ca.o⟩
def tZ(d:Dat)(x:Ix)(a t:Nat):(Nat×Nat×Bool)×Nat:=if x.c=6 then((a,x.k,true),0)else if x.c=32 then((wd d x.k,t,false),0)else if x.c=84 then((a&&&x.k,t,false),0)
 else if x.c=5 then((a,t,false),x.k)else((a,t,false),if yh x a=true then x.jt else x.jf)
def aAB(d:Dat)(W F:G)(bb:Nat)(e:Ending)(s:(Nat×Nat×Bool)×Nat):Prop:=e=aI (H s.2)/\W.grownBy F (some bb)/\zB F bb s.1.1 d s.1.2.1 s.1.2.2
theorem aAC(x:Ix)(left:Nat)(D:mY x left=true)(d:Dat)(hd:fT d)(a t bb:Nat)(bT:a<4294967296)(W:G)(R:zB W bb a d t false):Calls prog 93 #[aB (some bb),iO x] W λe F=>aAB d W F bb e (tZ d x a t):=by
 have cn:=λW=>yK.jT x.c W
 obtain⟨c,jt,jf,k⟩:=x;simp only[mY,dV,qM,iM,jC]at D;unfold iO;dsimp only at D cn⊢;obtain⟨⟨h1,h2,T,af⟩,aQ⟩:=D;have b1:=bA W (J #[bf c,aC jt,aC jf,M k] 173);have p1:Ext W (W.alloc (J #[bf c,aC jt,aC jf,M k] 173)):=(O _).alloc _;have zZ:∀I,Ext (W.alloc (J #[bf c,aC jt,aC jf,M k] 173)) I->
  ((I.cell? W=some (bf c)/\I.cell? ⟨W,1,none⟩=some (aC jt)/\I.cell? ⟨W,2,none⟩=some (aC jf)/\I.cell? ⟨W,3,none⟩=some (M k))/\Ext W I/\zB I bb a d t false):=
  λI h=>⟨(jY (aJ b1 h)).1,p1.trans h,aJ R (p1.trans h)⟩
 have g4:=z zZ;have cx:=z cn;have fj:=z hd;clear cn R b1 p1 zZ hd;rcases aQ with((((⟨rfl,bk⟩|rfl)|rfl)|⟨rfl,bk⟩)|⟨⟨bk,bW⟩,d7⟩)
 ·have e:tZ d ⟨32,jt,jf,k⟩ a t=((wd d k,t,false),0):=rfl;rw[e];have q:i3 32=1:=jE;rw[q]at cx;go_in;go_wp2_with fail;refine ak (cx.o _) ?_;intro I Q;obtain⟨⟨c0,c1,c2,c3⟩,D,R⟩:=g4.o I Q;have aT:=z D;have ec:=z (aAk d fj.o jt jf k bk a t bb I R);exact aj6
 ·have e:tZ d ⟨84,jt,jf,k⟩ a t=((a&&&k,t,false),0):=rfl;rw[e];have q:i3 84=3:=jE;rw[q]at cx;go_in;go_wp2_with fail;refine ak (cx.o _) ?_;intro I Q;obtain⟨⟨c0,c1,c2,c3⟩,D,R⟩:=g4.o I Q;have aT:=z D;have ec:=z (aAv d jt jf k af a t bb bT I R);exact aj6
 ·have e:tZ d ⟨6,jt,jf,k⟩ a t=((a,k,true),0):=rfl;rw[e];have q:i3 6=5:=jE;rw[q]at cx;go_in;go_wp2_with fail;refine ak (cx.o _) ?_;intro I Q;obtain⟨⟨c0,c1,c2,c3⟩,D,R⟩:=g4.o I Q;have y0:I.cell? ⟨bb,27,none⟩=some (M t):=aG R 27;have y1:I.cell? ⟨bb,28,none⟩=some (av false):=aG R 28;have f0:=dw R 27;have dg:=dw R 28;have aT:=z D;have cW:=z (fH (fH R 27 (M k)) 28 (av true));clear Q D R;go_wp2_with fail;go_ret;exact⟨rfl,Np (Np (Nq aT.o _) (R7 _ _ _ _)) (R7 _ _ _ _),cW.o⟩
 ·have e:tZ d ⟨5,jt,jf,k⟩ a t=((a,t,false),k):=rfl;rw[e];have q:i3 5=4:=jE;rw[q]at cx;go_in;go_wp2_with fail;refine ak (cx.o _) ?_;intro I Q;obtain⟨⟨c0,c1,c2,c3⟩,D,R⟩:=g4.o I Q;have aT:=z (ah D R);have ec:=z (aAx jt jf k af (aB (some bb)) I);clear Q D R;exact aj7
 ·obtain⟨m,Cr⟩:∃m,(if yh ⟨c,jt,jf,k⟩ a=true then jt else jf)=m:=⟨_,rfl⟩;have e:tZ d ⟨c,jt,jf,k⟩ a t=((a,t,false),m):=by have:=vQ bk;unfold tZ;dsimp only;rw[au this.2.2.1,au this.1,au this.2.1,au this.2.2.2,Cr]
  rw[e];have q:i3 c=4:=by simp only[jG.gK,qM,jC]at bk;rcases bk with rfl|rfl|rfl|rfl<;>decide+kernel
  rw[q]at cx;go_in;go_wp2_with fail;refine ak (cx.o _) ?_;intro I Q;obtain⟨⟨c0,c1,c2,c3⟩,D,R⟩:=g4.o I Q;have aT:=z (ah D R);have X:=aAy c jt jf k bk af h2 T d a t bb bT I R;rw[Cr]at X;have ec:=z X;clear Q D R bk q e Cr X;exact aj7
end LT
def Yf(h:S:=by show _<=w.heap.size+1+1;omega):S:=h
namespace LT
open jG (Dat gW fT wd okW)
variable{W aa w:G}{a bu f i t A':Nat}{d:Dat}{o fe:Bool}{tr Yg:List Int}{v e7:K}
def aAD(hd:fT d){p:List Ix}(ac:uW p=true)(hi:i<p)(ai:p.length-i<=f)(a t:Nat)(bT:a<4294967296):(p[i].c=6/\kV d f (p.drop i) a=p[i].k/\tZ d p[i] a t=((a,p[i].k,true),0))\/(i+1+(tZ d p[i] a t).2<p.length/\kV d f (p.drop i) a=kV d (f-1) (p.drop (i+1+(tZ d p[i] a t).2)) (tZ d p[i] a t).1.1/\(tZ d p[i] a t).1.2=(t,false)/\(tZ d p[i] a t).1.1<4294967296):=by
 unfold uW at ac;rw[dV]at ac;obtain⟨ab,X⟩:=ac;have D:=JE ab hi;obtain⟨g,rfl⟩:∃g,f=g+1:=⟨f-1,aE⟩;have aAE:=kQ hi;rw[aAE,yX];have m2:p[i].c≠6->i+1<p:=λa9=>by
  by_cases e:i+1<p
  ·exact e
  ·exfalso;have:i=p.length-1:=aE;subst this;rw[List.getLast?_eq_getElem?,dK hi]at X;exact a9 Dq
 generalize AH:p[i]=x at *;obtain⟨c,jt,jf,k⟩:=x;simp only[mY,dV,qM,iM,jC]at D;dsimp only at D m2⊢;obtain⟨⟨h1,h2,T,af⟩,aQ⟩:=D;rcases aQ with((((⟨rfl,bk⟩|rfl)|rfl)|⟨rfl,bk⟩)|⟨⟨bk,bW⟩,d7⟩)
 ·exact .inr ⟨m2 Y,akd rfl,rfl,jG.Qz hd _⟩
 ·exact .inr ⟨m2 Y,ake rfl,rfl,Nat.lt_of_le_of_lt (Nat.and_le_left) bT⟩
 ·exact .inl ⟨rfl,akf rfl,rfl⟩
 ·exact .inr ⟨by show i+1+k<_;omega,(R8 rfl).trans (by rw[List.drop_drop];rfl),rfl,bT⟩
 ·have h:=vQ bk;have e:tZ d ⟨c,jt,jf,k⟩ a t=((a,t,false),if yh ⟨c,jt,jf,k⟩ a=true then jt else jf):=by unfold tZ;dsimp only;rw[au h.2.2.1,au h.1,au h.2.1,au h.2.2.2]
  rw[e];refine .inr ⟨?_,?_,rfl,bT⟩
  ·show i+1+(if _ then _ else _)<_;split<;>omega
  ·rw[Yh bk,List.drop_drop]
structure yj(w:G)(a:Nat)(d:Dat)(t:Nat)(o:Bool)(v:K)(tr:List Int)(W:G):Prop where
 ext:Ext w W
 c1:Boxed W (w+1) 32 (M 0)
 c2:Boxed W (w+2) 43 (H 0)
 m:zB W (w+3) a d t o
 tr:W.ownsRow (w+4) 3 1 v tr (tr.flatMap iB)
def yj.do(h:yj w a d t o v tr W)(hg:W.grownBy aa (some (w.heap.size+3)))(R:zB aa (w+3) bu d A' fe):yj w bu d A' fe v tr aa:=
 ⟨h.ext.grown hg (λk e=>by cases e;omega),h.c1.kept hg ay,h.c2.kept hg ay,R,h.tr.kept hg (.inr λe=>by have:=(h.tr.lt _ e).1;omega)⟩
def yj.app(h:yj w a d t o v tr W)(hg:W.grownBy aa v.ownBlock)(ho:aa.ownsRow (w+4) 3 1 e7 Yg (Yg.flatMap iB)):yj w a d t o e7 Yg aa:=by
 have X:∀k,v.ownBlock=some k->w.heap.size+4<=k:=λk e=>(h.tr.lt k e).1
 refine⟨h.ext.grown hg (λk e=>by have:=X k e;omega),h.c1.kept hg (λe=>by have:=X _ e.symm;omega),h.c2.kept hg (λe=>by have:=X _ e.symm;omega),?_,ho⟩;have ad:=(dG.1 h.m).1;exact(hg.block _ ad (λe=>by have:=X _ e.symm;omega)).trans h.m
def yj.ext'(h:yj w a d t o v tr W)(D:Ext W aa):yj w a d t o v tr aa:=
 ⟨h.ext.trans D,aJ h.c1 D,aJ h.c2 D,aJ h.m D,(bq.ext (n0:=0) (bz:=λ_=>false) D).own h.tr rfl⟩
theorem aAF(p q:Addr)(w:G):CallsD prog 90 #[aB (some p),aB (some q)] .returning w λe d1 F=>e=aI (bH #[])/\d1= .returning/\F=w:=by
 refine callsD_of_wpS func90 rfl λaAG U a6=> ?_
 apply wpS_seq;apply wpS_region;simp[wpOpsS,go_sem,recoverD,a6,ntmps90,Exit.thenS];apply wpS_seq;apply wpS_region;simp[wpOpsS,go_sem,Exit.thenS];refine wpS_cond (t:=false) (by simp[Act.eval,Array.replicate]) ?_;refine wpS_of_wp (wp_skip ?_);cases aAG
 simp_all[bodyPostS,results,results90]
theorem aAH(v:K)(p:List Ix)(X:p.length<=4096)(ac:uW p=true)(d:Dat)(hd:fT d)(w:G)(hv:aS w 4 iD v p):Calls prog 50 #[v,gW d] w λe F=>Ext w F/\∃(aw:Nat)(u:K),e=aI (bH #[M (rC d p:Int),H aw,u,H 0]):=by
 have Yi:∀(fn:Fn) (first cap:Array K) (w:G),(Instr.makeFunc fn first cap).run prog w= .ok (.func fn first cap) w:=λ_ _ _ _=>rfl
 have ey:0<p.length:=by
  rcases p with _|⟨x,r⟩
  ·cases ac
  ·simp
 have oE:=hv;obtain⟨a,c,rfl,ep,bV⟩:=G6 hv;obtain⟨aH,bd⟩:∃aH,rC d p=aH:=⟨_,rfl⟩;have ae:yj w 0 d 0 false (E none 0 0) [] ((((w.alloc (J #[M d.nr,M d.ar,aA (d.ip:Int),aA (d.a0:Int),aA (d.a1:Int),aA (d.a2:Int),aA (d.a3:Int),aA (d.a4:Int),aA (d.a5:Int)] 57)).alloc (J #[M 0] 32)).alloc (J #[H 0] 43)).alloc (J (R6 0 d 0 false) 167)):=by
  obtain⟨az,b7⟩:∃az,az=w.alloc (J #[M d.nr,M d.ar,aA (d.ip:Int),aA (d.a0:Int),aA (d.a1:Int),aA (d.a2:Int),aA (d.a3:Int),aA (d.a4:Int),aA (d.a5:Int)] 57):=⟨_,rfl⟩;have Q:Ext w az:=by rw[b7];exact(O _).alloc _
  have dp:az.heap.size=w+1:=by rw[b7];simp
  rw[<-b7];have b1:=bA az (J #[M 0] 32);have b2:=bA (az.alloc (J #[M 0] 32)) (J #[H 0] 43);have cV:=bA ((az.alloc (J #[M 0] 32)).alloc (J #[H 0] 43)) (J (R6 0 d 0 false) 167);simp only[dR,dp]at b1 b2 cV;exact⟨((Q.alloc _).alloc _).alloc _,aJ b1 (((O _).alloc _).alloc _),aJ b2 ((O _).alloc _),cV,⟨rfl,.inl ay⟩⟩
 have eb:=z (ah ac (ah hd (ah oE bd)));have gt:=z bV;have H0:=z ae;rw[bd];clear ac hd hv oE bd bV ae;unfold gW;go_enter_defers func50,ntmps50;go_wp2_with fail;go_loopw [5,6,9,10] (λJG G2 Gu No wr=>∃(i aw a t:Nat) (akg:Int) (AI:Bool) (tr:List Int),JG=H aw/\Gu=H akg/\No=H i/\yj w a d t AI G2 tr wr/\tr.length=aw/\aw<=i/\i<=p/\a<4294967296/\(AI=false->i<p/\∃f,p.length-i<=f/\kV d f (p.drop i) a=aH)/\(AI=true->t=aH)) (λ_ _ _ No _=>p.length-(intOf No).toNat)
 case atStart=>exact⟨0,0,0,0,46,false,[],rfl,rfl,rfl,H0.o,rfl,aZ _,eG _,Y,λ_=>⟨ey,p.length,Nat.sub_le _ _,eb.o.2.2.2⟩,λh=>by cases h⟩
 case round=>
  obtain⟨i,aw,ry,Cs,akg,AI,tr,rfl,rfl,rfl,hr,f7,bU,hi,bT,h1,h2⟩:=hrel;have aAI:wr.cell? ⟨w+3,28,none⟩=some (av AI):=aG hr.m 28;have pk:=(dG.1 hr.m).1;obtain⟨bv,bp,rfl⟩:=dP hr.tr;subst f7;cases AI
  ·obtain⟨ad,f,ai,akh⟩:=h1 rfl;obtain⟨b,o,rfl,r0,dq,ei,eM⟩:=gt.o i ad;have r8:=aAD eb.o.2.1 eb.o.1 ad ai ry Cs bT;have kt:=eb.o.1;unfold uW at kt;rw[dV]at kt;have G3:=λW R=>aAC p[i] _ (JE kt.1 ad) d eb.o.2.1 ry Cs (w+1+1+1) bT W R
   have cn:=λW=>yK.jT p[i].c W
   rw[akh]at r8;obtain⟨x,D⟩:∃x,p[i]=x:=⟨_,rfl⟩;simp only[D]at r8 G3 cn r0 dq ei eM;clear D kt akh h1 h2;obtain⟨c0,jt,jf,eK⟩:=x;unfold iO at G3;dsimp only at G3 cn r0 dq ei eM;generalize yK.i3 c0=cl at *;have aAJ:(p:Int)<=i↔False:=by simp;omega
   have aAK:(i:Int)<p:=aE;have cD:=z hr;have fj:=z G3;have cx:=z cn;have bY:=z r8;have dt:=z (λ(W:G) (h:Ext w W)=>ah (h.cell r0) (ah (h.cell dq) (ah (h.cell ei) (h.cell eM))));clear hr G3 cn r8 r0 dq ei eM
   go_wp2_with(at_builtin;refine vG rfl (.tmp 28) (.tmp 30) 28 rfl underlying28 DY rfl Y vP II (w.heap.size+4) (E bv tr.length bp) _ tr [(i:Int)] rfl rfl (cD.o.ext' ((O _).alloc _)).tr (jh vP wr [(i:Int)] 3 _ rfl) dU Y dU ?_;intro ri rj bQ d0 hA
               have t8:yj w ry d Cs false (E ri (tr.length+[(i:Int)].length) rj) (tr++[(i:Int)]) bQ:=(cD.o.ext' ((O _).alloc _)).app hA (by rw[dA];exact d0);have aki:=z t8;obtain⟨cG,aK,aV,cC⟩:=dt.o bQ t8.ext;clear d0 hA t8 aAI)
   refine ak (cx.o _) ?_;intro cT dX;have v0:=aki.o.ext' dX;have akj:=z v0;have akk:=z (fj.o cT v0.m);replace cG:=dX.cell cG;replace aK:=dX.cell aK;replace aV:=dX.cell aV;replace cC:=dX.cell cC;clear v0 dX;generalize hg:tZ d ⟨c0,jt,jf,eK⟩ ry Cs=sp at *;obtain⟨⟨bu,A',fe⟩,g5⟩:=sp;have cI:Hid ((ry<4294967296->bu<4294967296)/\i+1+g5<=p.length/\g5<=p.length/\(fe=false->i+1+g5<p.length/\∃f,p.length-(i+1+g5)<=f/\kV d f (p.drop (i+1+g5)) bu=aH)/\(fe=true->A'=aH)):=by
    refine z ?_;rcases bY.o with⟨-,h1,h2⟩|⟨h1,h2,T,af⟩
    ·simp only[Prod.mk.injEq]at h2;obtain⟨⟨rfl,rfl,rfl⟩,rfl⟩:=h2;exact⟨id,aE,aE,(λh=>by cases h),λ_=>h1.symm⟩
    ·simp only[Prod.mk.injEq]at h1 h2 T af;obtain⟨rfl,rfl⟩:=T;exact⟨λ_=>af,aE,aE,λ_=>⟨h1,f-1,aE,h2.symm⟩,(λh=>by cases h)⟩
   have akl:wrap64 (1+(g5:Int))=1+(g5:Int):=by have:=cI.o.2.2.1;simp[wrap64];omega
   have akm:wrap64 ((i:Int)+(1+(g5:Int)))=((i+1+g5:Nat):Int):=by have:=cI.o.2.2.1;simp[wrap64];omega
   clear hg;cases aW:((cl:Int)==4)
   all_goals
    go_wp2_with fail;refine ak akk.o ?_;rintro dy ⟨k7,EO⟩;have Ct:=z (akj.o.do k7 EO);clear k7 EO cG aK aV cC aAJ aAK bY fj cx dt akk aki akj;obtain⟨m,R⟩:∃m:Int,m=(g5:Int):=⟨_,rfl⟩;have cW:=z (ah R (ah akl akm));rw[<-R];clear akl akm R;go_wp2_with fail;obtain⟨rfl,ed,eq⟩:=cW.o;rw[ed,eq];obtain⟨dc,dv,g',k3,mb⟩:=cI.o;refine⟨⟨i+1+g5,tr.length+1,bu,A',_,fe,tr++[(i:Int)],congrArg (Value.int .i64) (by push_cast;rfl),rfl,rfl,Ct.o,ay,cB (Nat.succ_le_succ bU) (rO _ _),dv,dc bT,k3,mb⟩,?_⟩;simp only[intOf,kr];exact Nat.sub_lt_sub_left ad (vw (Nat.lt_succ_self i) (rO _ _))
  ·have an:Cs=aH:=h2 rfl;subst an;have aNw:wr.cell? ⟨w+3,27,none⟩=some (M Cs):=aG hr.m 27;have y1:wr.cell? ⟨w+1,0,none⟩=some (M 0):=aG hr.c1 0;have y2:wr.cell? ⟨w+2,0,none⟩=some (H 0):=aG hr.c2 0;have dg:=dw hr.c1 0;have fg:=dw hr.c2 0;have cD:=z hr;clear hr h1 h2 pk;go_wp2_with fail;refine leaves_cons (f:=90) (args:= #[aB (some ⟨w+1,0,none⟩),aB (some ⟨w+1+1,0,none⟩)]) ay fC ?_;have ef:=Boxed.cell ((cD.o.c1.set (M Cs)).other (B':=w.heap.size+1+1) aE (H 0));have cY:=Boxed.cell ((cD.o.c2.other (B':=w.heap.size+1) aE (M Cs)).set (H 0));have D:Ext w ((wr.setCell ⟨w+1,0,none⟩ (M Cs)).setCell ⟨w+1+1,0,none⟩ (H 0)):=(cD.o.ext.setCell uH _).setCell Yf _
   change(World.setCell _ ⟨w+1+1,0,none⟩ _).cell? ⟨w+1+1,0,none⟩=_ at cY
   generalize World.setCell _ _ _=aAL at *;refine(aAF ⟨w+1,0,none⟩ ⟨w+1+1,0,none⟩ aAL).mono ?_;rintro e d1 oT ⟨rfl,rfl,rfl⟩;simp[Leaves,settle,results,results50,go_sem,ef,cY];exact⟨D,tr.length,rfl⟩
theorem aAM(v:K)(p:List Ix)(X:p.length<=4096)(ac:uW p=true)(d:Dat)(hd:fT d)(w:G)(hv:aS w 4 iD v p):Calls prog 28 #[v,gW d] w λe F=>Ext w F/\∃aw:Nat,e=aI (bH #[M (rC d p:Int),H aw,H 0]):=by
 have hr:=λW (D:Ext w W)=>aAH v p X ac d hd W (hv.ext D)
 obtain⟨a,c,rfl,-,-⟩:=G6 hv;unfold gW at hr⊢;have cD:=z hr;go_in;go_wp2_with fail;refine(cD.o _ ((O _).alloc _)).mono ?_;rintro e I ⟨Q,aw,u,rfl⟩;have aT:=z (((O w).alloc _).trans Q);go_wp2_with fail;refine cO (results_tmp3 rfl _ _ _) rfl ?_;exact⟨aT.o,aw,rfl⟩
end LT
open Go.Shelf
def akn(h:S:=by
 rw[set2 qr.o];go_roundw
 case rel=>exact⟨q+1,a5,c5,cZ,Yj,by rw[gg.o];exact cI.o.1,cI.o.2⟩
 case measure=>exact eO):S:=h
namespace LT
open oh (jo eF)
variable{B e g k m cM n n0:Nat}{W aa w:G}{a b u d1 v x y:K}{U d':List dQ}{t:dD}
def ako(p:Nat->Bool)(s:bn):∀(f pos:Nat)(aw:Option Nat)(acc:List (Nat×Nat)),(Lib.spansFromP p s f pos aw acc).1.length<=acc.length+f
 |0,_,_,_=>by simp[Lib.spansFromP]
 |f+1,pos,aw,acc=>by
  unfold Lib.spansFromP;have h:=λpos aw acc=>ako p s f pos aw acc
  (repeat' split)<;>first|(refine cB (h _ _ _) ?_;first|(rw[dA,xG];omega)|omega)|(dsimp only;omega)
def Ba(p:Nat->Bool)(s:bn):(Lib.goFieldsP p s).length<=s.size+1:=by
 unfold Lib.goFieldsP Lib.spansOfP Lib.closeSpans;have h:=ako p s s.size 0 none [];rw[dL];simp only[fu,gF]at h;split
 ·rw[dA,xG];omega
 ·omega
def R9(p:Nat->Bool)(s:bn):∀x∈Lib.goFieldsP p s,x.size<=s.size:=λx D=>by unfold Lib.goFieldsP at D;obtain⟨q,-,rfl⟩:=iJ.1 D;rw[ByteArray.size_extract];omega
def set2(h:W.heap[B]?=some (J #[a,b] t (0,0))):(W.setCell B x).setCell ⟨B,1,none⟩ y=W.setRow B #[x,y]:=by
 rw[sH _ _ _ _ _ _ _ h,sH _ _ _ _ _ _ _ (gu _ _ _ _ _ _ h),setRow_setRow]
 rfl
def eX{base:Nat}{b3:List K}(h:W.ownsRow base e n v k b3){old:Array K}(hg:W.heap[g]?=some (J old t (0,0)))(bO:e≠t)(U:Array K):(W.setRow g U).ownsRow base e n v k b3:=
 (bq.setRow (n0:=0) (bz:=λx=>x==t) hg ay (eG _) U).own h (by simpa using bO)
structure tu(w:G)(m:Nat)(u:K)(U:List dQ)(W:G):Prop where
 ext:Ext w W
 bo:W.heap[w.heap.size]?=some (J #[aC m,u] 31 (0,0))
 res:W.heap[w.heap.size+1]?=some (J #[aC 0,E none 0 0] 31 (0,0))
 own:W.ownsRow 0 121 2 u U (U.flatMap dY)
def tu.ext'(h:tu w m u U W)(D:Ext W aa):tu w m u U aa:=⟨h.ext.trans D,aJ h.bo D,aJ h.res D,(bq.ext (n0:=0) (bz:=λ_=>false) D).own h.own rfl⟩
def tu.put(h:tu w m u U W)(ho:W.ownsRow 0 121 2 d1 d' (d'.flatMap dY)):tu w cM d1 d' (W.setRow w #[aC cM,d1]):=
 ⟨iT h.ext (aZ _) _,gu _ _ _ _ _ _ h.bo,(mo _ _ _ _ aE).trans h.res,eX ho h.bo Y _⟩
def tu.tk(h:tu w m u U W){bz:Nat->Bool}(an:bq n0 bz W aa)(hn:w.heap.size<=n0)(h1:bz 31=false)(h2:bz 121=false):tu w m u U aa:=⟨an.lX h.ext hn,an.blk h.bo (.inr h1),an.blk h.res (.inr h1),an.own h.own h2⟩
def tu.cells(h:tu w m u U W):(W.cell? w=some (aC m)/\W.cell? ⟨w,1,none⟩=some u)/\(W.frozen? w=false/\W.frozen? ⟨w,1,none⟩=false)/\(W.cell? ⟨w+1,0,none⟩=some (aC 0)/\W.cell? ⟨w+1,1,none⟩=some (E none 0 0))/\W.frozen? ⟨w+1,0,none⟩=false/\W.frozen? ⟨w+1,1,none⟩=false:=
 ⟨⟨aG h.bo 0,aG h.bo 1⟩,⟨dw h.bo 0,dw h.bo 1⟩,⟨aG h.res 0,aG h.res 1⟩,dw h.res 0,dw h.res 1⟩
structure akp(w:G)(m:Nat)(i2 dZ:Bool)(U:List dQ)(L:List bn)(ek:Nat)(br:Option Addr)(wd k:Nat)(ml:List dQ)(gR:List dB)(W:G):Prop where
 hk:k<=L
 ix:∃a c,tu w m (E a ml c) ml W
 nb:∃hW,x9 w ek hW gR W
 ow:W.ownsRow 0 9 1 (E br L wd) L (L.flatMap oh.A8)
 fo:mE (vU i2 dZ m) (L.take k) (U,[]) (ml,gR)
 my:iE m ml=true
 nl:gR.length<=k
theorem aAN(m:Nat)(a0:Option Addr)(c0:Nat)(U:List dQ)(v:bn)(i2:Bool)(hv:v.size<=100000)(R:iE m U=true)(w:G)(hr:aS w 2 dY (E a0 U c0) U):Calls prog 268 #[q9 m (E a0 U c0),N v,av i2] w λe F=>∃(cM:Nat)(d':List dQ)(ns:List dB)(a:Option Addr)(c:Nat)(hW:K),e=aI (bH #[q9 cM (E a d' c),hW])/\Ext w F/\pX i2 m U v cM d' ns/\F.ownsRow 0 121 2 (E a d' c) d' (d'.flatMap dY)/\F.ownsRow w 45 4 hW ns (ns.flatMap iP):=by
 have Cu:=xZ R;have dt:=z (λW (D:Ext w W)=>XP m _ U aE W (hr.ext D));have cW:=z (λu W (h:aS W 2 dY u U)=>by have:=MK m u U aE W h;rw[R]at this;exact this);have eo:=z (λW=>oh.oM v aE W);have gz:Hid (∀W,Calls prog 274 #[N v] W λe F=>e=aI (bH #[N (str (Lib.trimPrefix (bytes v) [126])),av (Lib.hasPrefix (bytes v) [126])])/\F=W):=z (λW=>oh.EP v W);have da:=Ba eF v;have hS:pX i2 m U v=pX i2 m U v:=rfl;have fN:=bA w (J #[aC m,E a0 U c0] 31);have m6:=bA (w.alloc (J #[aC m,E a0 U c0] 31)) (J #[aC 0,E none 0 0] 31);rw[dR]at m6;have ce:=z (ah fN m6);unfold q9 at *;clear hr fN m6;go_in
 go_upto_region 2 with(refine(dt.o _ (((O w).alloc _).alloc _)).mono ?_;rintro e I ⟨a1,c1,rfl,Q,d4⟩
                       have mC:=aJ ce.o.1 (((O _).alloc _).trans Q);have akq:=aJ ce.o.2 Q;obtain⟨hs,dc⟩:=oU mC;have EQ:=dw mC 0;have ES:=dw mC 1;have H1:=z (ah ((((O w).alloc _).alloc _).trans Q) (ah mC (ah akq d4)));clear Q mC akq d4)
 rw[set2 H1.o.2.1];have jn:tu w m (E a1 U c1) U (I.setRow w #[aC m,E a1 U c1]):=
  ⟨iT H1.o.1 (aZ _) _,gu _ _ _ _ _ _ H1.o.2.1,(mo _ _ _ _ aE).trans H1.o.2.2.1,eX (H1.o.2.2.2.mono (eG _)) H1.o.2.1 Y _⟩
 generalize I.setRow w #[aC m,E a1 U c1]=az at *;clear H1 hs dc EQ ES;obtain⟨⟨hs,dc⟩,-,-,-⟩:=jn.cells;have R1:=z jn;clear jn;by_cases bL:(Lib.goFieldsP eF v).length=0
 ·go_wp2_with(first
   |(go_at_call 59;refine ak (cW.o _ _ (eD oN R1.o.own)) ?_;intro aO ag;have eW:=z (R1.o.ext' ag);clear ag)
   |(go_at_call 270;refine(eo.o _).mono ?_;rintro e bj ⟨AG,rfl,a',nz⟩;obtain⟨V9,wc,rfl⟩:=dP nz;have hC:=z (eW.o.ext' a');obtain⟨-,-,⟨r0,dq⟩,aAO,akr⟩:=hC.o.cells;clear a' nz))
  rw[set2 hC.o.res];have be:=gu _ _ _ #[aC 0,E none 0 0] _ _ hC.o.res;refine cO (v:=bH #[bg #[aC 0,E none 0 0],E none 0 0]) (tJ results268 _ _ (w+1) _ #[aC 0,E none 0 0] (0,0) _ rfl be underlying31 rfl aj) rfl ?_;refine⟨0,[],[],none,0,_,rfl,iT hC.o.ext aE _,?_,⟨rfl,.inl ay⟩,⟨rfl,.inl ay⟩⟩;unfold pX;rw[au (by rw[R];decide),aF (nN bL)];exact⟨rfl,rfl,rfl⟩
 ·have nv:Lib.goFieldsP eF v≠[]:=λh=>bL (by rw[h];rfl)
  have RK:(((Lib.goFieldsP eF v).length:Int)==0)=false:=iH.2 aE;obtain⟨dZ,D2⟩:∃dZ,dZ=Lib.hasPrefix (bytes v) [126]:=⟨_,rfl⟩;obtain⟨AK,i7⟩:∃AK,AK=str (Lib.trimPrefix (bytes v) [126]):=⟨_,rfl⟩;obtain⟨cM,zW⟩:∃cM,cM=(if m=0 then(if dZ=true then 2 else 1)else m):=⟨_,rfl⟩;have DU:Hid (∀d' ns,mE (vU i2 dZ cM) (Lib.goFieldsP eF AK) (U,[]) (d',ns)->pX i2 m U v cM d' ns):=z λd' ns h=>by unfold pX;rw[au (by rw[R];decide),au nv,<-D2];exact⟨zW,by rw[<-i7];exact h⟩
  rw[<-D2,<-i7]at gz;have yo:AK.size<=100000:=by rw[i7,vH];refine cB ?_ hv;rw[<-jS];exact PE
  have eS:m<=2:=by unfold iE at R;simp only[dV,iM]at R;exact R.1
  have jx:iE cM U=true/\(cM=1\/cM=2):=by
   rw[zW];by_cases e:m=0
   ·rw[aF e];subst e;obtain rfl:U=[]:=by unfold iE at R;simpa using(by simpa using R:_/\_).1
    cases dZ<;>exact⟨rfl,Y⟩
   ·rw[au e];exact⟨R,aE⟩
  have ET:=z jx;have aAP:=z zW;have h':=z (λW=>oh.oM AK aE W);have sv:=z (ah (Ba eF AK) (R9 eF AK));clear i7 D2 nv zW jx da hS;generalize Lib.goFieldsP eF v=mL at *;generalize aAQ:Lib.goFieldsP eF AK=pr at *;clear aAQ;go_upto_if 37 with(first
   |(go_at_call 59;refine ak (cW.o _ _ (eD oN R1.o.own)) ?_;intro aO ag;have eW:=z (R1.o.ext' ag);clear ag)
   |(go_at_call 270;refine(eo.o _).mono ?_;rintro e bj ⟨AG,rfl,a',nz⟩;obtain⟨V9,wc,rfl⟩:=dP nz;have hC:=z (eW.o.ext' a');clear a' nz)
   |(go_at_call 274;refine ak (gz.o _) ?_;rintro dC rfl))
  obtain⟨way,G4⟩:∃way:Nat,way=if dZ=true then 1 else 0:=⟨_,rfl⟩
  go_cut [10] (λNo wx=>No=H way/\dC=wx)
  case first=>
   cases dZ
   all_goals
    go_wp2_with fail;go_meet;exact⟨by rw[G4];rfl,rfl⟩
  case rest=>
   obtain⟨rfl,rfl⟩:=hcut;obtain⟨⟨hs,dc⟩,⟨EQ,ES⟩,-,-⟩:=hC.o.cells;have Cr:cM=if m=0 then 1+way else m:=by rw[aAP.o,G4];cases dZ<;>rfl
   have Mz:way<=1:=by rw[G4];split<;>omega
   go_upto_if 40 with fail;go_cut [] (λwx=>∃W,W=wx/\tu w cM (E a1 U c1) U W)
   case first=>
    by_cases e:m=0
    ·rw[aF e]at Cr;have aks:((m:Int)==0)=true:=by subst e;rfl
     have ac:=λk:Nat=>hC.o.put (cM:=k) hC.o.own
     have ab:∀x,dC.setCell w x=dC.setRow w #[x,E a1 U c1]:=λx=>sH _ _ _ _ _ _ _ hC.o.bo
     have p2:way=0\/way=1:=aE;rcases p2 with h|h
     all_goals
      clear G4;subst h;go_wp2_with fail;go_meet;exact⟨_,rfl,by rw[Cr];exact ac _⟩
    ·rw[au e]at Cr;have aks:((m:Int)==0)=false:=iH.2 aE;go_wp2_with fail;go_meet;exact⟨_,rfl,by rw[Cr];exact hC.o⟩
   case rest=>
    obtain⟨lz,GS⟩:=ET.o;obtain⟨eL,rfl,i1⟩:=hcut;have aAR:=z G4;have ia:=z i1;clear G4 i1 hs dc EQ ES eW Cr RK bL;go_wp2_with(go_at_call 270;refine(h'.o _).mono ?_;rintro e cT ⟨AG,rfl,dX,gC⟩;obtain⟨br,wd,rfl⟩:=dP gC);have pT:=aJ (bA eL (J #[E none 0 0] 38)) dX;have ks:=ia.o.ext' (((O _).alloc _).trans dX);have akt:w.heap.size<=eL:=ia.o.ext.size;obtain⟨ek,aku⟩:∃ek,ek=eL.heap.size:=⟨_,rfl⟩;rw[<-aku]at pT akt⊢;have kq:=z (ah ks (ah pT (gC.mono (eG _))));clear dX gC pT ks aku ia;go_loopw [48] (λi wr=>∃(k:Nat) (ml:List dQ) (gR:List dB),i=H k/\akp w cM i2 dZ U pr ek br wd k ml gR wr) (λi _=>pr.length-(intOf i).toNat)
    case atStart=>exact⟨0,U,[],rfl,aE,⟨a1,c1,kq.o.1⟩,⟨_,akt,kq.o.2.1,⟨rfl,.inl ay⟩⟩,kq.o.2.2,rfl,lz,ay⟩
    case round=>
     obtain⟨k,ml,gR,rfl,hk,⟨a,c,jn⟩,⟨hW,pT⟩,g6,gp,Ax,hy⟩:=hrel;by_cases ad:k<pr
     ·obtain⟨bu,c',cU,-,-,af⟩:=eD (show∀x,(oh.A8 x).length=1 fromλ_=>rfl) g6;simp only[eZ,true_and]at cU;obtain⟨rfl,rfl⟩:=cU;obtain⟨b,o,rfl,b8⟩:=af k ad;have r0:=b8 0 (Nat.succ_pos _);rw[qA,nO]at r0
      change wr.cell? _=some (N pr[k])at r0
      have ci:=sv.o.2 _ (eB ad);have co:=λt (h:vU i2 dZ cM pr[k] (ml,gR) t)=>mE.take ad gp h
      clear af b8;generalize pr[k]=s at *;have cX:∀W,Calls prog 335 #[N s] W λe F=>e=aI (bH #[bg #[N (str (jo (bytes s)).1.1),M ((jo (bytes s)).1.2.1:Int),av (jo (bytes s)).1.2.2],H (jo (bytes s)).2])/\Ext W F:=λW=>oh.XE s aE W
      have JH:=ahR (bytes s);have ep:=XZ (bytes s);unfold vU at co;generalize jo (bytes s)=aH at *;obtain⟨⟨nm,cP,ab⟩,er⟩:=aH;dsimp only at co cX JH ep;obtain⟨hY,rfl⟩:∃hY:Nat,er=(hY:Int):=⟨er.toNat,aE⟩;have AE:∀W,Ext (wr.alloc (J #[N s] 9)) W->Boxed W wr 9 (N s):=λW D=>aJ (bA _ _) D
      have hp:=λ(e:Nat) W (D:Ext (wr.alloc (J #[N s] 9)) W)=>ayV w ek wr hW gR s aE e W (pT.ext (((O _).alloc _).trans D)) (by have:=jn.ext.size;have:=D.size;rw[dR]at this;omega) (by have:=sv.o.1;omega) (AE W D)
      have nU:∀W,Ext (wr.alloc (J #[N s] 9)) W->Ext wr W:=λW D=>((O _).alloc _).trans D
      have nc:(k:Int)<pr:=aE;have o':=sv.o.1;have d2:=z (ah jn (ah pT (ah g6 (ah Ax hy))));have tI:=z cX;have nF:=z hp;have eb:=z co;have akv:=z ep;have aT:=z nU;have PA:∀(e:Nat) W (D:Ext (wr.alloc (J #[N s] 9)) W) G' hz,x9 w ek G' (gR++[⟨[],0,e,(bytes s).take 60⟩]) hz->bq w RH W hz->mE (vU i2 dZ cM) (pr.take (k+1)) (U,[]) (ml,gR++[⟨[],0,e,(bytes s).take 60⟩])->akp w cM i2 dZ U pr ek (some ⟨b,o,none⟩) wd (k+1) ml (gR++[⟨[],0,e,(bytes s).take 60⟩]) hz:=
       λe W D G' hz eA an ai=>⟨aE,⟨_,_,(jn.ext' (nU W D)).tk an (aZ _) rfl rfl⟩,⟨G',eA⟩,an.own ((bq.ext (n0:=0) (bz:=λ_=>false) (nU W D)).own g6 rfl) rfl,ai,Ax,by rw[dA,xG];omega⟩
      have R2:=z PA;clear jn pT g6 gp Ax hy cX hp co ep AE nU PA JH;by_cases aAS:hY=0
      ·subst aAS;have Yk:=λW=>ayK (str nm) W
       rw[nP]at Yk;have aAT:=ahS nm;have Lt:=z (λt h=>eb.o t (by rw[au Y];exact h));have aNx:=R2;clear eb;generalize uS nm=Ha at *;obtain⟨Ha,rfl⟩:∃q:Nat,Ha=(q:Int):=⟨Ha.toNat,aE⟩;have Yl:=z Yk;clear Yk aAT;by_cases jx:Ha=0
       ·subst jx;obtain⟨j,Z⟩:∃j:Nat,cM=j+1:=⟨cM-1,aE⟩;have xa:j<2:=aE;have p2:way<2:=aE;have akw:IntKind.u8.wrap ((cM:Int)-1)=(j:Int):=by
         rw[Z]
         match j,xa with
         |0,_|1,_=>rfl
        have I3:∀W,(Instr.index 448 (bg #[av true,av false,av false,av true]) (aC j)).run prog W= .ok (bg #[av (j==0),av (j==1)]) W:=λW=>by
         match j,xa with
         |0,_|1,_=>rfl
        have p3:∀W,(Instr.index 447 (bg #[av (j==0),av (j==1)]) (H way)).run prog W= .ok (av (j==way)) W:=λW=>by
         match j,xa,way,p2 with
         |0,_,0,_|0,_,1,_|1,_,0,_|1,_,1,_=>rfl
        have akx:(j==way)=((cM==2)==dZ):=by
         rw[aAR.o,Z]
         match j,xa with
         |0,_|1,_=>cases dZ<;>rfl
        have h7:=z (ah Z akx);obtain⟨bi,B0⟩:∃bi,bi=(j==way):=⟨_,rfl⟩;rw[<-B0]at p3 h7;clear B0 Z akx;go_upto_region 23 with(first
         |(go_at_call 335;refine ak (tI.o _) ?_;intro dy en;have aky:=bA dy (J #[N (str nm),M cP,av ab] 442);have mx:=z (ah en aky);clear en aky)
         |(go_at_call 336;refine(Yl.o _).mono ?_;rintro e gn ⟨rx,aAU,ps,rfl,x7,Ex,-,pk,fL⟩;have v5:=z (ah ((mx.o.1.alloc _).trans rx) (ah (aJ mx.o.2 rx) (ah x7 (ah Ex (ah pk fL)))));obtain⟨aAV,aAW,rfl⟩:=dP x7;clear rx x7 Ex fL))
        have akz:=d2.o.1.ext' (aT.o _ v5.o.1);obtain⟨⟨hs,-⟩,-,-,-⟩:=akz.cells;have akA:=dh hs;have cg:=z (λW=>ayM W);refine qR aj aj ?_
        repeat(any_goals(first|go_big_quiet_step ((go_at_call 337;with_reducible exact fA (cg.o _)))|quiet_step ((go_at_call 337;with_reducible exact fA (cg.o _)))))
        all_goals(refine qN ?_;intro _ jb;obtain⟨x,ii⟩:=jb;subst ii)
        have nY:=z (ah (v5.o.1.trans x.h) (ah (aJ v5.o.2.1 x.h) (ah ((bq.ext (n0:=0) (bz:=λ_=>false) x.h).own v5.o.2.2.1 rfl) v5.o.2.2.2)));clear akA hs akz;generalize x.w=Ym at *;clear x;obtain⟨⟨y0,y1,y2⟩,akB⟩:=tL nY.o.2.1;have aAX:=akB 1;clear akB
        iterate 3 go_step
        go_cut [18] (λaAY wx=>∃(W:G) (b2:Bool) (tP:Nat) (oS:List dB) (Yn:K),W=wx/\aAY=av b2/\tu w cM (E a ml c) ml W/\x9 w ek Yn oS W/\W.ownsRow 0 9 1 (E (some ⟨b,o,none⟩) pr wd) pr (pr.flatMap oh.A8)/\W.ownsRow 0 9 1 (E aAV ps aAW) ps (ps.flatMap encStr)/\W.heap[dy.heap.size]?=some (J #[N (str nm),M tP,av ab] 442 (0,0))/\wP tP=true/\oS.length<=k+1/\mE (vU i2 dZ cM) (pr.take (k+1)) (U,[]) (ps.foldl (upd cM b2 tP) ml,oS))
        case first=>
         have nU:=aT.o _ nY.o.1;have Sa:=λt an=>Lt.o t (by rw[au Y];exact⟨ps,nY.o.2.2.2.1,λbe=>nY.o.2.2.2.2.2 be rfl,an⟩)
         have LW:=z Sa;have u':=z nU;clear Sa nU;cases ab
         ·go_wp2_with fail;go_meet;exact⟨Ym,bi,cP,gR,hW,rfl,rfl,d2.o.1.ext' u'.o,d2.o.2.1.ext u'.o,(bq.ext (n0:=0) (bz:=λ_=>false) u'.o).own d2.o.2.2.1 rfl,nY.o.2.2.1,nY.o.2.1,akv.o,by have:=d2.o.2.2.2.2;omega,LW.o _ (by rw[h7.o.2];simp)⟩
         ·by_cases bU:(i2&&dZ)=true
          ·obtain⟨rfl,rfl⟩:i2=true/\dZ=true:=by simpa using bU
           go_wp2_with fail;go_meet;exact⟨Ym,true,cP,gR,hW,rfl,rfl,d2.o.1.ext' u'.o,d2.o.2.1.ext u'.o,(bq.ext (n0:=0) (bz:=λ_=>false) u'.o).own d2.o.2.2.1 rfl,nY.o.2.2.1,nY.o.2.1,akv.o,by have:=d2.o.2.2.2.2;omega,LW.o _ ay⟩
          ·have n9:i2=false\/(i2=true/\dZ=false):=by
            cases i2
            ·exact xI
            ·exact .inr ⟨rfl,by simpa using bU⟩
           have eV:=nF.o 161 Ym nY.o.1;have ev:=z eV;clear eV bU;rcases n9 with rfl|⟨rfl,rfl⟩
           all_goals
            go_wp2_with(refine ak ev.o ?_;rintro hz ⟨G',EV,oy⟩;have MR:=oy.blk nY.o.2.1 (.inr rfl);obtain⟨⟨fR,ed,eq⟩,akC⟩:=tL MR;have aAZ:=akC 1;have j2:=z (ah EV (ah oy MR));clear EV oy MR akC);go_meet;have aA0:w.heap.size<=dy:=by have:=d2.o.1.ext.size;have:=mx.o.1.size;rw[dR]at this;omega
            have ts:bq w (wW 442) hz (hz.setCell ⟨dy,1,none⟩ (M 0)):=bq.set (p:=⟨dy,1,none⟩) j2.o.2.2 rfl aA0 _;exact⟨_,bi,0,_,G',rfl,rfl,((d2.o.1.ext' u'.o).tk j2.o.2.1 (aZ _) rfl rfl).tk ts (aZ _) rfl rfl,j2.o.1.kept ts rfl rfl,ts.own (j2.o.2.1.own ((bq.ext (n0:=0) (bz:=λ_=>false) u'.o).own d2.o.2.2.1 rfl) rfl) rfl,ts.own (j2.o.2.1.own nY.o.2.2.1 rfl) rfl,fH j2.o.2.2 1 _,rfl,by have:=d2.o.2.2.2.2;rw[dA,xG];omega,LW.o _ (by rw[h7.o.2];simp;rfl)⟩
        case rest=>
         obtain⟨W,b2,tP,oS,Yn,rfl,rfl,zc,Sb,akD,akE,Hb,akF,kj,akG⟩:=hcut;have Sc:∀q,iE cM ((ps.take q).foldl (upd cM b2 tP) ml)=true:=λq=>M6 akF aE _ d2.o.2.2.2.1 λn hn=>nY.o.2.2.2.1 n (zT hn)
         have pk:ps.length<=300000:=nY.o.2.2.2.2.1;have bK:=z (ah Sb (ah akD (ah akE (ah Hb (ah akG (ah Sc (ah kj zc)))))));clear Sb akD akE Hb akG zc akF Sc kj y0 y1 y2 aAX v5 nY d2 Lt tI nF R2 Yl;go_wp2_with fail;go_loopw [97] (λi Ml=>∃(q:Nat) (a2:Option Addr) (c2:Nat),i=H q/\q<=ps.length/\tu w cM (E a2 ((ps.take q).foldl (upd cM b2 tP) ml).length c2) ((ps.take q).foldl (upd cM b2 tP) ml) Ml/\bq w (wW 31) W Ml) (λi _=>ps.length-(intOf i).toNat)
         case atStart=>exact⟨0,a,c,rfl,aE,bK.o.2.2.2.2.2.2.2,bq.refl _ _ _⟩
         case round=>
          obtain⟨q,a2,c2,rfl,aW,zc,fi⟩:=hrel;by_cases Yj:q<ps.length
          ·obtain⟨bu,c',cU,hG⟩:=Rc (eD q8 (fi.own bK.o.2.2.1 rfl));simp only[eZ,true_and]at cU;obtain⟨rfl,rfl⟩:=cU;obtain⟨ky,o4,rfl,tA⟩:=hG.2 q Yj;have bU:(ps.take (q+1)).foldl (upd cM b2 tP) ml=upd cM b2 tP ((ps.take q).foldl (upd cM b2 tP) ml) ps[q]:=by rw[mh Yj,uF];rfl
           have aNy:=xZ (bK.o.2.2.2.2.2.1 q);generalize(ps.take q).foldl (upd cM b2 tP) ml=csq at *;generalize ps[q]=nq at *;obtain⟨⟨-,y1,-⟩,-⟩:=tL (fi.blk bK.o.2.2.2.1 (.inr rfl));obtain⟨⟨hs,dc⟩,⟨EQ,ES⟩,-,-⟩:=zc.cells;have e1:=ayE cM _ csq (str nq) tP aE wr (eD oN zc.own);have bE:=ayz cM _ csq (str nq) aE wr (eD oN zc.own);rw[nP]at e1 bE;unfold q9 at e1 bE;have xT:(q:Int)<ps:=aE;have cz:=z e1;have aA1:=z bE;have bY:=z (ah zc fi);have gg:=z bU;clear e1 bE zc fi bU hG;have sA:∀(EW:List dQ) (a5:Option Addr) (c5:Nat) (bQ:G),Ext wr bQ->bQ.ownsRow wr 121 2 (E a5 EW.length c5) EW.length (EW.flatMap dY)->tu w cM (E a5 EW.length c5) EW (bQ.setRow w #[aC cM,E a5 EW.length c5])/\bq w (wW 31) W (bQ.setRow w #[aC cM,E a5 EW.length c5]):=λEW a5 c5 bQ D ho=>⟨(bY.o.1.ext' D).put (ho.mono (eG _)),(bY.o.2.trans (.ext D)).trans (bq.setRow (bY.o.1.ext' D).bo rfl (aZ _) _)⟩
           have akH:=z sA;clear sA;cases b2
           ·go_wp2_with(refine aA1.o.mono ?_;rintro e bQ ⟨a5,c5,rfl,bR,d0⟩;have Hc:=(bY.o.1.ext' bR);obtain⟨⟨eK,bk⟩,⟨aA2,aA3⟩,-,-⟩:=Hc.cells;have cI:=z (akH.o _ _ _ _ bR d0);have qr:=z Hc.bo;clear bR d0 Hc);exact akn
           ·go_wp2_with(refine cz.o.mono ?_;rintro e bQ ⟨a5,c5,rfl,bR,d0⟩;have Hc:=(bY.o.1.ext' bR);obtain⟨⟨eK,bk⟩,⟨aA2,aA3⟩,-,-⟩:=Hc.cells;have cI:=z (akH.o _ _ _ _ bR d0);have qr:=z Hc.bo;clear bR d0 Hc);exact akn
          ·obtain rfl:q=ps.length:=aE;rw[iR]at zc;have bY:=z (ah zc fi);have Yi:=bK.o.2.2.2.2.2.1 ps.length;rw[iR]at Yi;clear zc fi;go_wp2_with fail;go_roundw
           case rel=>exact⟨k+1,_,oS,cZ,ad,⟨a2,c2,bY.o.1⟩,⟨Yn,bK.o.1.kept bY.o.2 rfl rfl⟩,bY.o.2.own bK.o.2.1 rfl,bK.o.2.2.2.2.1,Yi,bK.o.2.2.2.2.2.2.1⟩
           case measure=>exact eO
       ·have v9:(((Ha:Int) !=0)=true):=by rw[bne_iff_ne];omega
        go_wp2_with(first
         |(go_at_call 335;refine ak (tI.o _) ?_;intro dy en;have mx:=z en;clear en)
         |(go_at_call 336;refine(Yl.o _).mono ?_;rintro e gn ⟨rx,aAU,ps,rfl,-⟩;have v5:=z ((mx.o.alloc _).trans rx);clear rx)
         |(refine ak (nF.o Ha _ v5.o) ?_;rintro hz ⟨G',EV,oy⟩;have j2:=z (ah EV oy);clear EV oy))
        go_roundw
        case rel=>exact⟨k+1,ml,_,cZ,R2.o Ha _ v5.o _ _ j2.o.1 j2.o.2 (Lt.o _ (by rw[aF aE];rfl))⟩
        case measure=>exact eO
      ·have v9:(((hY:Int) !=0)=true):=by rw[bne_iff_ne];omega
       go_wp2_with(first
        |(go_at_call 335;refine ak (tI.o _) ?_;intro dy en;have mx:=z en;clear en)
        |(refine ak (nF.o hY _ (mx.o.alloc _)) ?_;rintro hz ⟨G',EV,oy⟩;have j2:=z (ah EV oy);clear EV oy))
       go_roundw
       case rel=>exact⟨k+1,ml,_,cZ,R2.o hY _ (mx.o.alloc _) _ _ j2.o.1 j2.o.2 (eb.o _ (by rw[aF aE];rfl))⟩
       case measure=>exact eO
     ·obtain rfl:k=pr.length:=aE;rw[iR]at gp;obtain⟨⟨hs,dc⟩,-,⟨r0,dq⟩,aAO,akr⟩:=jn.cells;have n0:=pT.bo.cell;have bO:ek≠w.heap.size+1:=λe=>by have h1:=pT.bo;rw[e]at h1;exact absurd (jn.res.symm.trans h1) ay
      have n1:∀x,(wr.setCell ⟨w+1,0,none⟩ x).cell? ek=some hW:=λx=>by rw[<-n0];unfold World.cell?;rw[fI _ _ _ _ bO]
      obtain⟨na,akI,rfl⟩:=dP pT.own;have d2:=z (ah jn (ah pT gp));clear jn pT g6 gp Ax;go_wp2_with fail;go_region
      all_goals
       go_wp2_with fail;have be:=gu _ _ _ #[aC cM,E a ml c] _ _ d2.o.1.res;have D:wr.setRow (w+1) #[aC cM,E a ml c]=_:=(set2 d2.o.1.res).symm;rw[D]at be;refine cO (v:=bH #[bg #[aC cM,E a ml c],E na gR akI]) (tJ results268 _ _ (w+1) _ #[aC cM,E a ml c] (0,0) _ rfl be underlying31 rfl aj) rfl ?_;refine⟨cM,ml,gR,a,c,_,rfl,?_,DU.o _ _ d2.o.2.2,?_,?_⟩
       ·exact((d2.o.1.ext.setCell uH _).setCell uH _).drew
       ·show World.ownsRow ((wr.setCell _ _).setCell _ _) _ _ _ _ _ _;rw[<-D];exact eX d2.o.1.own d2.o.1.res Y _
       ·show World.ownsRow ((wr.setCell _ _).setCell _ _) _ _ _ _ _ _;rw[<-D];exact eX d2.o.2.1.own d2.o.1.res Y _
end LT
end Go.Proofs.YtopfefhenfineaaGreat
