import Derived.Test.YtopfefhenfineaaGreatP8
import Derived.Test.YtopfefhenfineaaGreatP4
import Derived.Sort.MapsRangeIn
import Derived.Sort.KeysCollected
import Derived.RangeFuncMany
import Derived.RegionIn
import Derived.Shelf.SlSortCmp.NoneTotal
import Derived.Lib.OwnBridge
import Derived.Maps.OwnSet
set_option linter.all false
set_option maxRecDepth 100000
set_option maxHeartbeats 4000000
namespace Go.Proofs.YtopfefhenfineaaGreat
open Go.Proofs.Tryz Go.RowKit bh
attribute[local go_sem] Oper.semAt_some Option.isSome_some
namespace bM
variable{a w F:G}{b t:Nat}{U:Array K}{x y aR:Bool}
def aG(h:w.heap[b]?=some (J U t (0,0)))(i:Nat):w.cell? ⟨b,i,none⟩=U[i]?:=by simp[World.cell?,h]
def aJ(h:w.heap[b]?=some (J U t (0,0)))(D:Ext w F):F.heap[b]?=some (J U t (0,0)):=(D.block (dG.1 h).1).trans h
structure PF where
 nm:List aL
 dir:Int
 bs:List aL
 a:Option Addr
 c:Nat
instance:Inhabited PF:=⟨⟨[],0,[],none,0⟩⟩
def PF.v(p:PF):K:=E p.a p.bs p.c
def PF.f(p:PF):dz:=(p.nm,p.dir,p.bs)
def qJ(p:PF):List K:= [N (str p.nm),H p.dir,p.v]
def P6(p:PF):(qJ p).length=3:=rfl
def as5(p:PF):∀u∈qJ p,u.oneCell'=true:=by intro u a6;simp[qJ,PF.v]at a6;exact Pt
def iU(p:PF):K:=bg #[N (str p.nm),H p.dir,E p.a p.bs p.c]
def Good(w:G)(p:PF):Prop:=aS w 1 pU p.v p.bs
def Good.ext(h:Ext a w){p:PF}(ac:Good a p):Good w p:=aS.ext h ac
def lq(w:G)(base:Nat)(p:PF):Prop:=w.ownsRow base 5 1 p.v p.bs (p.bs.flatMap pU)
def lq.good{base:Nat}{p:PF}(h:lq w base p):Good w p:=eD Vi h
theorem adj:(Tryz.prog.info? 24).map (λi=>(i.zero,i.size,i.bytes))=some (some (bg #[N ⟨#[]⟩,H 0,E none 0 0]),3,48):=aj
theorem as6:(Tryz.prog.info? 5).map (λi=>(i.zero,i.size,i.bytes))=some (some (aC 0),1,1):=aj
def FU{v:K}{ap:List PF}(h:aS w 3 qJ v ap):∃a c,v=E a ap c/\ap.length<=c/\∀i,(hi:i<ap.length)->∃b o,a=some ⟨b,o,none⟩/\w.cell? ⟨b,o+i*3,none⟩=some (N (str (ap[i]).nm))/\w.cell? ⟨b,o+i*3+1,none⟩=some (H (ap[i]).dir)/\w.cell? ⟨b,o+i*3+2,none⟩=some (E (ap[i]).a (ap[i]).bs.length (ap[i]).c):=by obtain⟨a,c,h1,h2,T,af⟩:=h;refine⟨a,c,h1,h2,λi hi=> ?_⟩;obtain⟨b,o,e,k⟩:=af i hi;exact⟨b,o,e,k 0 (by simp[qJ]),k 1 (by simp[qJ]),k 2 (by simp[qJ])⟩
def as7(c:aL):xS c=(!(decide ((c.toNat:Int)<33)||decide ((126:Int)<c.toNat)||((c.toNat:Int)==47))):=by
 have T:(c==47)=((c.toNat:Int)==47):=by
  rw[dW];simp only[jC];constructor
  ·rintro rfl;rfl
  ·intro h;exact UInt8.toNat_inj.1 (by show c.toNat=47;omega)
 unfold xS;rw[T];rw[dW];simp;omega
def as8(h:true= !(x||y||aR)):x=false/\y=false/\aR=false:=by cases x<;>cases y<;>cases aR<;>simp_all
def as9(h:false= !(x||y||aR)):x=true\/(x=false/\(y=true\/(y=false/\aR=true))):=by cases x<;>cases y<;>cases aR<;>simp_all
theorem pK(s:bn)(ab:s.size<=maxLen)(w:G):aM 114 #[N s] w (av (nk (bytes s))):=by
 have z6:=λW=>Vj W s
 unfold maxLen at ab;have hS:=λW=>Tryz.strings_HasSuffix s ⟨#[46,99,111,110,102]⟩ W aE
 obtain⟨r,hr⟩:∃r,r=nk (bytes s):=⟨_,rfl⟩;rw[<-hr];have m5:=jS s;have cQ:r=(decide (6<=s.size)&&decide (s.size<=60)&&Lib.hasSuffix (bytes s) [46,99,111,110,102]&&(bytes s).all xS):=by rw[hr];unfold nk;rw[m5]
 rw[show s.data.toList=bytes s from rfl,show(⟨#[46,99,111,110,102]⟩:bn).data.toList=[46,99,111,110,102]from rfl]at hS;clear hr;have cX:=λW cap ao fr=>Vk W s cap ao fr
 generalize bytes s=l at *;generalize Lib.hasSuffix l [46,99,111,110,102]=q3 at *;have z7:=z hS;have ata:=z cX;have FG:=z m5;clear hS cX m5;by_cases a9:s.size<6
 ·have:r=false:=by rw[cQ];simp;omega
  subst this;clear cQ;have aK:decide ((s:Int)<6)=true:=dH aE;unfold aM;go_in;exact FN
 have aK:decide ((s:Int)<6)=false:=dM aE;by_cases aLZ:60<s.size
 ·have:r=false:=by rw[cQ];simp;omega
  subst this;clear cQ;have aV:decide ((60:Int)<s)=true:=dH aE;unfold aM;go_in;exact FN
 have aV:decide ((60:Int)<s)=false:=dM aE;have kh:decide (6<=s.size)=true:=dH aE;have adk:decide (s.size<=60)=true:=dH aE;rw[kh,adk]at cQ;clear kh adk;cases q3
 ·have:r=false:=by rw[cQ];rfl
  subst this;clear cQ;unfold aM;go_in;go_wp2_with fail;refine ak (z7.o _) ?_;rintro I rfl;exact FN
 have PP:r=l.all xS:=by rw[cQ];rfl
 have adl:=z PP;clear cQ PP;unfold aM;go_in;go_wp2_with fail;refine ak (z7.o _) ?_;rintro I rfl;go_wp2_with fail;have adn:aS ((I.alloc (J (bytesRow s (grownCap I s.size 0 5)) 5 ((bytesRow s (grownCap I s.size 0 5)).size,(bytesRow s (grownCap I s.size 0 5)).size+1))).drew) 1 pU (E (some I) s.size (grownCap I s.size 0 5)) l:=ata.o I _ (grownCap_ge _ _ _ _) _;have d6:Ext I ((I.alloc (J (bytesRow s (grownCap I s.size 0 5)) 5 ((bytesRow s (grownCap I s.size 0 5)).size,(bytesRow s (grownCap I s.size 0 5)).size+1))).drew):=((O _).alloc _).drew;generalize(I.alloc (J (bytesRow s (grownCap I s.size 0 5)) 5 ((bytesRow s (grownCap I s.size 0 5)).size,(bytesRow s (grownCap I s.size 0 5)).size+1))).drew=bX at *;generalize grownCap I s.size 0 5=cap at *;obtain⟨aL0,pC,hU,wq,iv⟩:=P7 adn;simp only[eZ]at hU;obtain⟨rfl,q4,rfl⟩:=hU;have q5:=z d6;have atb:=z iv;clear d6 adn iv wq z6;go_loopw [4,21] (λ_ i wr=>∃k:Nat,k<=l/\i=H k/\Ext bX wr/\l.all xS=(l.drop k).all xS) (λ_ i _=>l.length-(intOf i).toNat)
 case atStart=>exact qO
 case round=>
  obtain⟨k,hk,rfl,D,b4⟩:=hrel;have aT:=z D;have cI:=z b4;clear D b4;by_cases ad:k<l
  ·obtain⟨b,o,pD,hG⟩:=atb.o k ad;simp only[jB,pJ,and_true]at pD;obtain⟨rfl,rfl⟩:=pD;have s0:=aT.o.cell hG;have bU:l.drop k=l[k]::l.drop (k+1):=kQ ad;have gg:=z bU;have R:=as7 l[k];have aL1:l[k].toNat<256:=l[k].toNat_lt;simp only[gF]at s0;clear hG bU;have LC:(k:Int)<s.size:=by rw[<-FG.o];omega
   have fX:r=(xS l[k]&&(l.drop (k+1)).all xS):=by rw[adl.o,cI.o,gg.o,List.all_cons]
   have Vc:=z fX;have cW:=z R;clear fX R;generalize l[k]=c at *;by_cases Vl:xS c=true
   ·have T:=cW.o;rw[Vl]at T;have af:decide ((c.toNat:Int)<33)=false/\decide ((126:Int)<c.toNat)=false/\((c.toNat:Int)==47)=false:=as8 T;obtain⟨ef,cY,eh⟩:=af;clear T;go_wp2_with fail;go_roundw
    case rel=>exact⟨k+1,aE,cZ,aT.o,by rw[cI.o,gg.o,List.all_cons,Vl,jc]⟩
    case measure=>exact eO
   ·have T:=cW.o;have V:xS c=false:=by cases h:xS c<;>simp_all
    rw[V]at T;have m6:r=false:=by rw[Vc.o,V,Bool.false_and]
    subst m6;have af:decide ((c.toNat:Int)<33)=true\/(decide ((c.toNat:Int)<33)=false/\(decide ((126:Int)<c.toNat)=true\/(decide ((126:Int)<c.toNat)=false/\((c.toNat:Int)==47)=true))):=as9 T;clear T V Vl;rcases af with ef|⟨ef,cY|⟨cY,eh⟩⟩
    all_goals
     go_wp2_with fail;go_ret;exact⟨rfl,q5.o.trans aT.o⟩
  ·obtain rfl:k=l.length:=aE;have k2:r=true:=by rw[adl.o,cI.o,qy];rfl
   subst k2;have LC:¬((l:Int)<s.size):=by rw[<-FG.o];omega
   go_wp2_with fail;go_ret;exact⟨rfl,q5.o.trans aT.o⟩
def Vm(l:List aL):bytes (str l)=l:=by simp[bytes]
def Vo(l:List aL):(str l).size=l.length:=by simp[ByteArray.size]
theorem atc(p:PF)(hn:p.nm.length<=maxLen)(w:G):aM 113 #[iU p] w (av (!nk p.nm)):=by
 have em:=λW=>pK (str p.nm) (by rw[Vo];exact hn) W
 rw[Vm]at em;have x2:=aG (bA w (J #[N (str p.nm),H p.dir,E p.a p.bs p.c] 24)) 0;have Q:Ext w (w.alloc (J #[N (str p.nm),H p.dir,E p.a p.bs p.c] 24)):=(O _).alloc _;have bF:=z Q;unfold iU;simp at x2;have pf:=z em;unfold aM;go_in;go_wp2_with fail;refine ak (pf.o _) ?_;intro I D;go_wp2_with fail;go_ret;exact⟨rfl,bF.o.trans D⟩
def tN:List PF->Nat->Int
 | [],_=> -1
 |p::r,k=>if nk p.nm=true then tN r (k+1)else(k:Int)
def ado:∀(l:List PF)(k:Nat),(l.map PF.f).all (λf=>nk f.1)=true->tN l k= -1
 | [],_,_=>rfl
 |p::r,k,h=>by rw[fK,List.all_cons,dV]at h;unfold tN;rw[aF (show nk p.nm=true from h.1)];exact ado r (k+1) h.2
def Vp:∀(l:List PF)(k:Nat),(l.map PF.f).all (λf=>nk f.1)=false->∃i,∃h:i<l.length,tN l k=((k+i:Nat):Int)/\(l.map PF.f).find? (λf=> !nk f.1)=some l[i].f
 | [],k,h=>by cases h
 |p::r,k,h=>by
  rw[fK,List.all_cons]at h;unfold tN;rw[fK,List.find?_cons];have e:p.f.1=p.nm:=rfl;rw[e]at h⊢;cases R:nk p.nm
  ·rw[au ay];exact⟨0,ay,rfl,rfl⟩
  ·rw[aF rfl];rw[R,jc]at h;obtain⟨i,hi,h1,h2⟩:=Vp r (k+1) h;exact⟨i+1,by simp;omega,by rw[h1];congr 1;omega,h2⟩
theorem atd(v:K)(ap:List PF)(X:ap.length<=1000000)(hn:∀p∈ap,p.nm.length<=maxLen)(w:G)(hv:aS w 3 qJ v ap):aM 112 #[v,.func (.func 113) #[] #[]] w (H (tN ap 0)):=by
 have cJ:=λp (ac:p∈ap) W=>atc p (hn p ac) W
 obtain⟨a,c,rfl,ep,bV⟩:=FU hv;unfold iU at cJ;have rq:=z cJ;have k4:=z bV;unfold aM;go_in;go_wp2_with fail;go_loopw [5,8] (λ_ i wr=>∃k:Nat,k<=ap/\i=H k/\Ext w wr/\tN ap 0=tN (ap.drop k) k) (λ_ i _=>ap.length-(intOf i).toNat)
 case atStart=>exact qO
 case round=>
  obtain⟨k,hk,rfl,D,b4⟩:=hrel;have aT:=z D;have cI:=z b4;by_cases ad:k<ap
  ·obtain⟨b,o,rfl,c0,c1,c2⟩:=k4.o k ad;replace c0:=aT.o.cell c0;replace c1:=aT.o.cell c1;replace c2:=aT.o.cell c2;have bU:ap.drop k=ap[k]::ap.drop (k+1):=kQ ad;have gg:=z bU;have ate:=rq.o ap[k] (eB ad);have ve:=z ate;generalize ap[k]=p at *;go_wp2_with fail;refine ak (ve.o _) ?_;intro I Q;have bF:=z (aT.o.trans Q);cases R:nk p.nm
   ·have ab:tN ap 0=(k:Int):=by rw[cI.o,gg.o];unfold tN;rw[R];rfl
    have bY:=z ab;go_wp2_with fail;go_ret;rw[bY.o];exact⟨rfl,bF.o⟩
   ·have ab:tN ap 0=tN (ap.drop (k+1)) (k+1):=by rw[cI.o,gg.o];conv=>lhs;unfold tN;rw[R];simp
    have bY:=z ab;go_wp2_with fail;go_roundw
    case rel=>exact⟨k+1,aE,cZ,bF.o,bY.o⟩
    case measure=>exact eO
  ·obtain rfl:k=ap.length:=aE;have ab:tN ap 0= -1:=by rw[cI.o,qy];rfl
   have bY:=z ab;go_wp2_with fail;go_ret;rw[bY.o];exact wL
theorem adp(v:K)(ap:List PF)(X:ap.length<=1000000)(hn:∀p∈ap,p.nm.length<=maxLen)(w:G)(hv:aS w 3 qJ v ap):aM 69 #[v] w (H (tN ap 0)):=by have bS:=atd v ap X hn w hv;have it:=z bS;generalize tN ap 0=r at *;unfold aM;go_in;go_wp2_with fail;refine ak it.o ?_;intro I D;go_wp2_with fail;go_ret;exact⟨rfl,D⟩
end bM
variable{S:Prop}
def LG(h:S:=by show w.heap.size<_;omega):S:=h
namespace bM
variable{W aa:G}{b e4 e k n:Nat}
def LH{u:K}{aR:List K}(h:W.ownsRow b e n u k aR)(D:Ext W aa):aa.ownsRow b e n u k aR:=
 qB (a7:=λb=>b<W.heap.size) h (Keep.of_below D (λ_ h=>h)) (λb V=>(h.lt b V).2)
def lq.ext{base:Nat}{p:PF}(h:lq W base p)(D:Ext W aa):lq aa base p:=LH h D
def lq.base{p:PF}(h:lq W b p)(V:e4<=b):lq W e4 p:=kU h V
theorem atf(W:G):(binOp .eql 22 (E none 0 0) (E none 0 0)).run prog W= .ok (av true) W:=by rfl
theorem atg(W:G)(p:Addr)(n c:Nat):(binOp .eql 22 (E (some p) n c) (E none 0 0)).run prog W= .ok (av false) W:=by rfl
theorem wT(a:Option Addr)(c:Nat)(bs:List aL)(X:bs.length<=1000000)(w:G)(hv:aS w 1 pU (E a bs c) bs):Calls prog 157 #[E a bs c] w λe F=>∃bu c',e=aI (E bu bs c')/\Ext w F/\F.ownsRow w 5 1 (E bu bs c') bs (bs.flatMap pU):=by
 cases a with
 |none=>obtain⟨a1,c1,aK,h1,h2,T⟩:=hv;simp only[eZ,true_and]at aK;obtain⟨rfl,rfl⟩:=aK;obtain rfl:=h2 rfl;have V:bs=[]:=nN aE;subst V;simp only[fu,List.flatMap_nil]at *;go_in;have hn:=atf;go_wp;exact UA
 |some p=>
  have hn:=λW=>atg W p bs c
  have k1:=z hv;have Bi:=z (qQ Vi w ([]:List aL) 5 w w rfl (aZ _) vF);go_in
  go_wp2_with(at_builtin
              refine Dr rfl (.tmp 5) (.tmp 6) _ rfl underlying22 as6 rfl Y Vi ath w _ _ [] bs rfl rfl Bi.o (k1.o.ext ((O w).alloc _)) dU Y ((O w).alloc _) ?_;intro ri rj bQ d0 bR;have rk:=z d0;have c9:=z bR;clear d0 bR)
  exact UC
theorem LJ(p:PF)(X:p.bs.length<=1000000)(w:G)(hv:Good w p):Calls prog 106 #[iU p] w λe F=>∃q:PF,e=aI (iU q)/\q.f=p.f/\lq F w q/\Ext w F:=by
 have cq:=λW (D:Ext w W)=>wT p.a p.c p.bs X W (hv.ext D)
 have pH:=bA w (J #[N (str p.nm),H p.dir,E p.a p.bs p.c] 24);obtain⟨az,b7⟩:∃az,az=w.alloc (J #[N (str p.nm),H p.dir,E p.a p.bs p.c] 24):=⟨_,rfl⟩;have Q:Ext w az:=by rw[b7];exact(O _).alloc _
 have dp:az.heap.size=w+1:=by rw[b7];simp
 rw[<-b7]at pH;have FO:=bA az (J #[N ⟨#[]⟩,H 0,E none 0 0] 24);obtain⟨a8,b'⟩:∃a8,a8=az.alloc (J #[N ⟨#[]⟩,H 0,E none 0 0] 24):=⟨_,rfl⟩;have ag:Ext az a8:=by rw[b'];exact(O _).alloc _
 rw[<-b',dp]at FO;replace pH:=aJ pH ag;have c0:=aG pH 0;have c1:=aG pH 1;have c2:=aG pH 2;simp at c0 c1 c2;have sh:=z b7;have h':=z b';have jp:=z dp;have ca:=z (Q.trans ag);have rm:=z pH;have x3:=z FO;clear b7 b' dp Q ag pH FO hv;unfold iU;have hb:=z cq;go_in;go_upto_region 1 with fail;rw[<-sh.o,<-h'.o];have z9:=c2;go_wp2_with fail;refine(hb.o _ ca.o).mono ?_;rintro e bj ⟨bu,c',rfl,a',nz⟩;have cL:=z a';have H2:=z nz;replace c0:=a'.cell c0;replace c1:=a'.cell c1;have cH:=aJ rm.o a';have ck:=aJ x3.o a';have ot:=z cH;have js:=z ck;have c2:=aG ot.o 2;have dm:=aG js.o 0;have cs:=aG js.o 1;have eg:=aG js.o 2;simp at c2 dm cs eg;have f0:bj.frozen? ⟨w+1,0,none⟩=false:=by simp[World.frozen?,js.o]
 have dg:bj.frozen? ⟨w+1,1,none⟩=false:=by simp[World.frozen?,js.o]
 have fg:bj.frozen? ⟨w+1,2,none⟩=false:=by simp[World.frozen?,js.o]
 have mw:bj.frozen? ⟨w,2,none⟩=false:=by simp[World.frozen?,ot.o]
 go_wp2_with fail;have eC:a8.heap.size=w+2:=by rw[h'.o,dR,jp.o]
 have fY:=H2.o;rw[eC]at fY;have m5:((((bj.setCell ⟨w,2,none⟩ (E bu p.bs c')).setCell ⟨w+1,0,none⟩ (N (str p.nm))).setCell ⟨w+1,1,none⟩ (H p.dir)).setCell ⟨w+1,2,none⟩ (E bu p.bs c')).heap[w.heap.size+1]?=some (J #[N (str p.nm),H p.dir,E bu p.bs c'] 24 (0,0)):=
  Go.Joins.block_setCell (Go.Joins.block_setCell (Go.Joins.block_setCell ((heap_setCell_other bj ⟨w,2,none⟩ (w+1) _ ay).trans js.o) _) _) _
 have f1:Ext w ((((bj.setCell ⟨w,2,none⟩ (E bu p.bs c')).setCell ⟨w+1,0,none⟩ (N (str p.nm))).setCell ⟨w+1,1,none⟩ (H p.dir)).setCell ⟨w+1,2,none⟩ (E bu p.bs c')):=
  ((((ca.o.trans cL.o).setCell (p:=⟨w,2,none⟩) ay _).setCell (p:=⟨w+1,0,none⟩) ay _).setCell (p:=⟨w+1,1,none⟩) ay _).setCell (p:=⟨w+1,2,none⟩) ay _
 have Vq:((((bj.setCell ⟨w,2,none⟩ (E bu p.bs c')).setCell ⟨w+1,0,none⟩ (N (str p.nm))).setCell ⟨w+1,1,none⟩ (H p.dir)).setCell ⟨w+1,2,none⟩ (E bu p.bs c')).ownsRow (w+2) 5 1 (E bu p.bs c') p.bs (p.bs.flatMap pU):=
  ownsRow_setCell_below (ownsRow_setCell_below (ownsRow_setCell_below (ownsRow_setCell_below fY LG _) Iw _) Iw _) Iw _
 exact cO (v:=bg #[N (str p.nm),H p.dir,E bu p.bs c']) (lQ results106 _ _ _ _ _ _ _ rfl m5 underlying24 rfl aj) rfl ⟨⟨p.nm,p.dir,p.bs,bu,c'⟩,rfl,rfl,kU Vq aE,f1⟩
end bM
def Vr(h:S:=by generalize str a=aL2 at *;generalize str b=ix at *;have si:=z eV;go_in;go_wp2_with fail;refine ak (si.o _ _) ?_;rintro I rfl;go_wp2_with fail;refine ak (si.o _ _) ?_;rintro I rfl;go_wp2_with fail;go_ret;exact⟨rfl,rfl⟩):S:=h
namespace bM
def jZ(a b:List aL):Int:=if lt a b=true then-1 else if lt b a=true then 1 else 0
def adq(l:List aL):(str l).toList=l:=by rw[Lib.toList_data]
theorem P8(s:bn)(w:G):Calls prog 161 #[N s] w λe F=>e=aI (av false)/\F=w:=by go_in;go_wp;exact FM
theorem ati(a b:List aL)(w:G):Calls prog 111 #[N (str a),N (str b)] w λe F=>e=aI (H (jZ a b))/\F=w:=by
 have eV:=λs=>P8 s
 have atj:=adq a;have tb:=adq b;unfold jZ;cases h1:lt a b
 ·rw[au ay];have Zq9:Op.bytesLess a b=false:=h1;cases h2:lt b a
  ·rw[au ay];have iv:(a==b)=true:=by rw[adr h1 h2];simp
   exact Vr
  ·rw[aF rfl];have iv:(a==b)=false:=by rw[iH];rintro rfl;rw[LK]at h2;cases h2
   exact Vr
 ·rw[aF rfl];have Zq9:Op.bytesLess a b=true:=h1;exact Vr
theorem atm(p q:PF)(w:G):Calls prog 110 #[iU p,iU q] w λe F=>e=aI (H (jZ p.nm q.nm))/\F=(w.alloc (J #[N (str p.nm),H p.dir,E p.a p.bs p.c] 24)).alloc (J #[N (str q.nm),H q.dir,E q.a q.bs q.c] 24):=by
 have cq:=λW=>ati p.nm q.nm W
 generalize jZ p.nm q.nm=r at *;unfold iU;have x2:((w.alloc (J #[N (str p.nm),H p.dir,E p.a p.bs p.c] 24)).alloc (J #[N (str q.nm),H q.dir,E q.a q.bs q.c] 24)).cell? w=some (N (str p.nm)):=by have:=aG (aJ (bA w (J #[N (str p.nm),H p.dir,E p.a p.bs p.c] 24)) ((O _).alloc (J #[N (str q.nm),H q.dir,E q.a q.bs q.c] 24))) 0;rw[this];rfl
 have hb:=z cq;go_in;go_wp2_with fail;refine ak (hb.o _) ?_;rintro I rfl;exact Iu
end bM
open Go.Maps Go.Sort Go.Shelf
namespace bM
structure jH where
 nm:List aL
 dir:Int
 a:Option Addr
 n:Nat
 c:Nat
instance:Inhabited jH:=⟨⟨[],0,none,0,0⟩⟩
def encR(r:jH):List K:= [N (str r.nm),H r.dir,E r.a r.n r.c]
def kG(r:jH):K:=bg #[N (str r.nm),H r.dir,E r.a r.n r.c]
def PF.r(p:PF):jH:=⟨p.nm,p.dir,p.a,p.bs.length,p.c⟩
def RF(v:K):Option (DataW K×List MemPlace):=
 match v with
 | .agg ⟨[.string _,.int .i64 _,.slice _ _ _]⟩=>some (.held v,[])
 |_=>none
def Vs(r:jH):RF (kG r)=some (.held (kG r),[]):=rfl
def Vt{v:K}{y:DataW K×List MemPlace}(h:RF v=some y):∃r:jH,v=kG r/\y=(.held (kG r),[]):=by
 unfold RF at h;split at h
 ·rename_i s d a n c;refine⟨⟨s.data.toList,d,a,n,c⟩,?_,?_⟩
  ·simp[kG]
  ·simp only[jB]at h;rw[<-h];simp[kG]
 ·cases h
def P9(D0:DataW K)(A:List jH):Prop:= ∃ap:List (List aL×jH),(ap.map (·.1)).Nodup/\(∀x,x∈ap.map (·.1)↔has D0 (.string x)=true)/\(∀p∈ap,∀pL,D0.atKey (.string p.1) pL= .held (kG p.2))/\A=ap.map (·.2)/\ap.length<=Maps.size D0
theorem adm(l x4 b nB:Nat)(D0:DataW K)(cm g8:List jH->G->Prop)(hu:∀pre x W,cm pre W->pre.length<Maps.size D0->YieldAt Fence.wide (3-1) prog l #[kG x] W λe aa=>(e= .returned (.bool true)/\cm (pre++[x]) aa/\KeepsWalks W aa)\/(e= .returned (.bool false)/\g8 (pre++[x]) aa))(W:G)(lx:AbidesFrom W cm)(R:W.cell? x4=some (.map (some b)))(cc:W.ownsMap prog 9 RF b nB D0)(ae:cm [] W):CallsIn Fence.wide 3 prog 159 #[.func (.yield l) #[] #[],.pointer (some x4)] W λe aa=>(∃v,e= .returned v)/\((∃A,P9 D0 A/\cm A aa)\/(∃pre,True/\g8 pre aa)):=by
 refine y8 func159 rfl trivial ?_ rfl;simp only[ntmps159,ku,dJ,fu,Nat.reduceAdd,Nat.reduceSub,oD,oC,oH,oG,iq,gZ];gi_wp2_with(first
  |(gi_at_range;refine wpListIn_range_own _ rfl _ 194 rfl 9 24 (string_keyed underlying9) underlying194 _ b nB _ rfl cc ?_;intro w0 atk H3 z')
  |gi_in)
 go_frame;gi_loopw [4] (λ_ wr=>∃(left:Lit->Bool) (cnt:Nat) (ap:List (List aL×jH)),wr.ranges prog 9 RF b W nB D0 left cnt/\ap.length+cnt<=Maps.size D0/\Collected D0 left (ap.map (·.1))/\(∀p∈ap,∀pL,D0.atKey (.string p.1) pL= .held (kG p.2))/\cm (ap.map (·.2)) wr)
  (λ_ wr=>wr.rangeLeft b W)
 case atStart=>exact⟨_,_,[],atk,ay,Collected.start D0,ay,lx [] W w0 none ae H3 (λr e=>by cases e)⟩
 case round=>
  obtain⟨left,cnt,ap,Vu,kf,cq,p6,ll⟩:=hrel;gi_wp2_with(first
   |(gi_at_next;refine wpListIn_next_ranges _ rfl _ rfl 9 (string_keyed underlying9) RF encStr kG (λkey kl hk=>by obtain⟨x,D,_⟩:=Maps.keyOf_str underlying9 hk;exact⟨x,D⟩) (λv y hv=>by obtain⟨c,rfl,_⟩:=Vt hv;exact⟨c,rfl⟩) b W nB _ _ _ rfl Vu ?_ ?_)
   |gi_in)
  ·intro ads Ab;gi_wp2;go_end0;exact⟨⟨_,rfl⟩,.inl ⟨_,⟨ap,cq.1,λx=>by rw[cq.2 x,Ab];simp,p6,rfl,aE⟩,ll⟩⟩
  ·intro x c kl atn aL3 aO ato LE i0 hv b8 atp ad m4 eC LF;obtain⟨PQ,ex,rfl,_⟩:=Maps.keyOf_str underlying9 LE;obtain rfl:x=PQ:=encStr_inj ex;obtain⟨c',atr,ats⟩:=Vt hv;obtain rfl:atn= .held (kG c):=by rw[atr];exact(Prod.mk.inj ats).1
   have att:cm (ap.map (·.2)) aO:=lx _ wr aO (some W.heap.size) ll m4 (λr e=>by cases e;exact⟨aZ _,Vu.iter_walk⟩);have vf:cm (ap.map (·.2)) (aO.alloc (.cells #[.string (str c.nm),.int .i64 c.dir,.slice c.a c.n c.c] 24)):=lx _ aO _ none att (World.grownBy_alloc aO _ none) (λr e=>by cases e);have atu:=atp.alloc (.cells #[.string (str c.nm),.int .i64 c.dir,.slice c.a c.n c.c] 24);obtain⟨fn,tmps,assign,body,bN,bd⟩:=hu (ap.map (·.2)) c _ vf dU;have cD:=z bd;unfold kG at LF bN;gi_wp2;refine cD.o.mono ?_;have PT:Collected D0 (λaR=>left aR&& !aR.sameKey (.string x)) ((ap++[(x,c)]).map (·.1)):=by simpa using cq.step i0 b8
   have atv:∀p∈ap++[(x,c)],∀pL,D0.atKey (.string p.1) pL= .held (kG p.2):=λp ac=>(iZ.1 ac).elim (p6 p) (λe=>by simp at e;subst e;exact b8)
   rintro e cd (⟨rfl,hJ4,hI⟩|⟨rfl,hJx3⟩)
   ·gi_wp2;have adt:=atu.of_walks hI;go_roundw
    case rel=>exact⟨_,ato,ap++[(x,c)],adt,by simp;omega,PT,atv,by simpa using hJ4⟩
    case measure=>rw[adt.left_eq,Vu.left_eq];exact ad
   ·exact ab8
theorem atw(x4 b nB:Nat)(D0:DataW K)(w:G)(atx:x4<w.heap.size)(R:w.cell? x4=some (.map (some b)))(cc:w.ownsMap prog 9 RF b nB D0):SeqStopsK Fence.wide 3 prog 159 #[aB (some x4)] (λx:jH=> #[kG x]) KeepsWalks (P9 D0) (λ_=>True) (Maps.size D0) w:=λl cm g8 W cJ lx _ hu ae=>by
 have DI:W.ownsMap prog 9 RF b nB D0:=by have m5:=cc.lt;obtain⟨km,clock,V,aty,ab,cE⟩:=cc;exact⟨km,clock,(cJ.block b m5).trans V,aty,ab,cE⟩
 exact adm l x4 b nB D0 cm g8 hu W lx ((cJ.cell (p:=⟨x4,0,none⟩) atx).trans R) DI ae
theorem atz(bb:Option Nat)(w:G):Calls prog 108 #[.map bb] w λe F=>e=aI (.func (.func 159) #[] #[aB (some w)])/\F=w.alloc (J #[.map bb] 194):=by go_in;go_wp;exact vE
def Vv(r:jH):(encR r).length=3:=rfl
def adu(r:jH):∀u∈encR r,u.oneCell'=true:=by intro u a6;simp[encR]at a6;exact Pt
def atA{W aa:G}(h:KeepsOthers W aa):KeepsWalks W aa:=⟨h.size,λk o hk ho=>h.same k o hk (by cases o<;>simp_all[Obj.isWalk,Obj.isCells])⟩
def adv{W aa:G}{base e n k:Nat}{u:K}{aR:List K}{row:Option Nat}(h:W.ownsRow base e n u k aR)(hg:W.grownBy aa row)(hr:∀r,row=some r->∃o:Obj,W.heap[r]?=some o/\o.isCells=false):aa.ownsRow base e n u k aR:=by
 refine World.ownsRow.kept h hg ?_;rcases h.2 with⟨rfl,_⟩|⟨g,cap,bm,rfl,_,Bk,_⟩
 ·exact xI
 ·refine .inr λcU=> ?_
  obtain⟨o,ho,ao⟩:=hr g (by simpa[Value.ownBlock]using cU.symm);rw[Bk]at ho;cases ho
  cases ao
theorem atB(gf:Nat)(lb:Array K)(a7:List jH->Prop)(Be:List jH->Prop)(cy:Nat)(eV:cy<=1000000)(w:G)(Ac:∀args w,(callFunc gf args).run prog w= .ok (.enter gf args) w)(FA:SeqStopsK Fence.wide 3 prog gf lb (λx:jH=> #[kG x]) KeepsWalks a7 Be cy w):Calls prog 158 #[E none 0 0,.func (.func gf) #[] lb] w λe F=>∃u A,e=aI u/\a7 A/\Ext w F/\F.ownsRow w 24 3 u A.length (A.flatMap encR):=by
 refine(eP (n:=4)).1 ?_;refine callsIn_of_wp_marks func158 rfl trivial ?_ rfl;simp only[ntmps158,ku,dJ,fu,Nat.reduceAdd,Nat.reduceSub,oD,oC,oH,oG,iq,gZ];gi_wp2;have h1:1<=4:=aE;have FV:=Boxed.new w 25 (E none 0 0);have pM:Ext w (w.alloc (J #[E none 0 0] 25)):=(O w).alloc _;have vh:(w.alloc (J #[E none 0 0] 25)).heap.size=w.heap.size+1:=ay;obtain⟨bX,gh⟩:∃bX,(w.alloc (J #[E none 0 0] 25))=bX:=⟨_,rfl⟩;rw[gh]at FV pM vh⊢;refine wpIn_rangeFunc_ownH (w0:=w) rfl h1 (gf:=gf) (lb:=lb) rfl trivial Ac FA walksK_t walksK_b pM (λ_=>rfl)
  (λpre W=>(∃u,Boxed W w 25 u/\W.ownsRow w 24 3 u pre.length (pre.flatMap encR))/\Below w w W)
  (λ_ _ _=>False)
  (OwnFrom.and (Own.from (λs aq B row ab hg hr=> ?se) _) (ownFrom_below (aZ _) aE))
  (λ_ _ _ _ _ ab _ _=>ab)
  ⟨⟨_,FV,jR _ _ _ _⟩,pM⟩
  (λx bu W=>∃Bx,w.heap.size<Bx/\W.heap[Bx]?=some (J #[N (str x.nm),H x.dir,E x.a x.n x.c] 24 (0,0))/\
   bu= {tmps:= #[E none 0 0,.func (.func gf) #[] lb,aB (some w),undef,E none 0 0,aB (some Bx),.func (.func gf) #[] lb,bg #[N (str x.nm),H x.dir,E x.a x.n x.c],undef,undef,undef,undef,undef],defers:= []})
  (λx bu _ aP Ad row ab hg hr=> ?sk)
  ?assign ?body ?done ?stop
 case se=>obtain⟨u,V,ho⟩:=ab;exact⟨u,boxed_own _ _ (λ(_:Unit)=>u) () aq B row V hg hr,adv ho hg hr⟩
 case sk=>exact ab3
 case assign=>rintro l pre x W aX ⟨⟨u,rr,x5⟩,hB⟩ am;unfold kG;gi_wp2;exact am _ _ ((KeepsOthers.alloc _ _).from _) (KeepsWalks.alloc _ _) ⟨⟨u,rr.alloc _,x5.alloc _⟩,hB.alloc hB.size _⟩ ⟨W.heap.size,rr.lt,bA W _,rfl⟩
 case body=>
  rintro l pre x bu W X ⟨r,hr⟩ ⟨⟨u,rr,x5⟩,hB⟩ ⟨Bx,FW,h3,rfl⟩ ad;have bp:=rr.cell;have FX:=rr.frozen;have ly:=aG h3 0;have g2:=aG h3 1;have ov:=aG h3 2;simp at ly g2 ov;obtain⟨hh,hi,nv,pw,hj⟩:=sJ adj;have atC:=z rr;have adw:=z x5;have ww:=z hB;have P0:=hB.size;gi_wp2_with(first
   |(gi_at_builtin
     refine wpListIn_append_own _ rfl _ _ 25 rfl w.heap.size 24 hh (bg #[N ⟨#[]⟩,H 0,E none 0 0]) 3 48 underlying25 hi nv pw hj rfl Y _ pre (pre.flatMap encR) rfl (adw.o.alloc _) W 1 1 (encR x) rfl rfl (Uz _ _ _ _ ay) (adu _) y9 aE dU ?_;intro d1 I DI pA _;obtain⟨jX,Ld,rfl⟩:=ownsRow_succ DI;obtain⟨bk,bW,d7,g3,hV⟩:=atC.o.appended Y adw.o aE (aZ _) DI pA;have c1:=bk.cell;have dg:=bk.frozen;have atD:=z bW;have atE:=z d7;have adx:=z g3;have Vx:=z hV;go_frame)
   |gi_in)
  refine⟨adx.o.from _,atA adx.o,⟨_,atD.o,?_⟩,ww.o.trans Vx.o⟩;rw[dA,xG,FD,List.flatMap_singleton];exact atE.o
 case done=>rintro ax ys W cE px ⟨⟨u,rr,x5⟩,hB⟩ am;have bp:=rr.cell;gi_wp2;refine⟨ay,.inl ⟨_,_,rfl,run_takeDeferred am,?_⟩⟩;exact⟨_,results_tmp rfl _ _ _,u,ys,rfl,px,hB.trans (belowK_b (w:=w) (aZ _) W ax _ _ aE am rfl rfl),adv x5 (grownBy_putObj' _ ax (.deferred none)) (λr e=>by cases e;exact⟨_,am,rfl⟩)⟩
 case stop=>exact FJ
theorem atF(gf:Nat)(lb:Array K)(a7:List jH->Prop)(Be:List jH->Prop)(cy:Nat)(eV:cy<=1000000)(w:G)(Ac:∀args w,(callFunc gf args).run prog w= .ok (.enter gf args) w)(FA:SeqStopsK Fence.wide 3 prog gf lb (λx:jH=> #[kG x]) KeepsWalks a7 Be cy w):Calls prog 107 #[.func (.func gf) #[] lb] w λe F=>∃u A,e=aI u/\a7 A/\Ext w F/\F.ownsRow w 24 3 u A.length (A.flatMap encR):=by have bl:=atB gf lb a7 Be cy eV w Ac FA;have ee:=z bl;go_in;go_wp2_with fail;refine ee.o.mono ?_;rintro e I ⟨u,A,rfl,h1,h2,T⟩;have H1:=z h1;have bK:=z h2;have es:=z T;go_wp2_with fail;go_ret;exact⟨u,A,rfl,H1.o,bK.o,es.o⟩
end bM
def ady(h:S:=by rw[show pg.extract 0 (x::r).toArray.size=pg by rw[<-et];simp]at k5;simpa using k5):S:=h
def adz(h:S:=by
 rw[FC,aF Z,Array.getElem?_toList,Array.getElem?_toList,aV]at aK;simp only[World.cell?,hg,gF,abY,rM,if_false];rw[aK,getElem!_pos _ j Vy]
 rfl):S:=h
def Vy(h:S:=by rw[size_flatK];exact Z):S:=h
namespace bM
variable{cap e g k q:Nat}{w:G}{α:Type}{enc:α->List K}
def Iz(x y:jH):Int:=jZ x.nm y.nm
def Qa(x y:jH):ltOf Iz x y=lt x.nm y.nm:=by
 unfold ltOf Iz jZ;cases h:lt x.nm y.nm
 ·rw[au ay];split<;>rfl
 ·rfl
def atG:SWO (ltOf Iz)where
 irrefl x:=by rw[Qa];exact LK _
 trans x y aR h k:=by rw[Qa]at *;exact lt_trans h k
 ntrans x y aR h k:=by
  rw[Qa]at *;cases e:lt x.nm aR.nm
  ·rfl
  ·by_cases q:x.nm=y.nm
   ·rw[q]at e;rw[e]at k;cases k
   ·have:=lt_trans (Vz h q) e;rw[this]at k;cases k
def Dj[Inhabited α](hk:∀x,(enc x).length=k)(eK:0<k)(ys:List α):(flatK enc k ys.toArray).toList=ys.flatMap enc:=by
 apply List.ext_getElem?;intro t;rw[Array.getElem?_toList];by_cases h:t<ys.length*k
 ·have hd:t/k<ys.length:=Nat.div_lt_of_lt_mul (by rw[Nat.mul_comm];exact h);have R:t%k<k:=Nat.mod_lt _ eK;rw[sG (by rw[size_flatK];exact h),<-getElem!_pos (flatK enc k ys.toArray) t (by rw[size_flatK];exact h),get_flatK _ _ _ _ h];have hg:=flat_get hk ys (t/k) (t%k) hd R;rw[show t/k*k+t%k=t by rw[Nat.mul_comm];exact Nat.div_add_mod t k]at hg;rw[hg,dK (by rw[hk];exact R)]
  congr 1
  rw[getElem!_pos ys.toArray (t/k) hd];rw[getElem!_pos _ _ (by rw[List.getElem_toArray,hk];exact R)];simp
 ·rw[Il (by rw[size_flatK];exact Nat.le_of_not_lt h),List.getElem?_eq_none (by rw[Dp hk];exact Nat.le_of_not_lt h)]
def take_putCells(aY bm:Array K)(h:aY.size<=bm.size):(putCells id 0 aY bm).toList.take aY.size=aY.toList:=by
 apply List.ext_getElem?;intro j;rw[FC,Array.getElem?_toList,Array.getElem?_toList];by_cases Z:j<aY.size
 ·rw[aF Z];unfold putCells;rw[Array.getElem?_mapIdx,sG aE,kC,aF ⟨aE,aE⟩,sG Z,getElem!_pos aY (j-0) aE]
  rfl
 ·rw[au Z,Il aE]
def Jr[Inhabited α](hk:∀x,(enc x).length=k)(eK:0<k){base:Nat}{A ys:List α}{os:Array Obj}(h:w.ownsRow base e k (E (some g) A cap) A (A.flatMap enc))(bN:ys.length=A):(sortWorldK enc k w g 0 q ys.toArray os).ownsRow base e k (E (some g) A cap) A (ys.flatMap enc)/\Below base w (sortWorldK enc k w g 0 q ys.toArray os):=by
 rcases h.2 with⟨cG,_⟩|⟨jX,Ld,bm,cG,V,hg,hn,R,ab,an⟩
 ·cases cG
 ·injection cG with aK _ cC
  injection aK with aK
  injection aK with aK
  subst aK;subst cC;have adA:(flatK enc k ys.toArray).size=A.length*k:=by rw[size_flatK,ku,bN]
  have ac:(putRow id (Sort.ahead w q) g 0 (flatK enc k ys.toArray)).heap[g]?=some (J (putCells id 0 (flatK enc k ys.toArray) bm) e (0,0)):=by simp[putRow,mapBlock,Sort.ahead,Array.getElem?_modify,hg,onCells]
  have ad:=(dG.1 ac).1;have hB:Below base w (putRow id (Sort.ahead w q) g 0 (flatK enc k ys.toArray)):=Lib.below_putRow ⟨rfl,rfl,rfl,aZ _,λ_ _=>rfl⟩ V;refine⟨⟨by rw[Dp hk,bN],.inr ⟨g,cap,putCells id 0 (flatK enc k ys.toArray) bm,rfl,V,?_,hn,R,?_,?_⟩⟩,?_⟩
  ·unfold sortWorldK putRowK grow;show(_++os)[g]?=_;rw[Array.getElem?_append_left ad];exact ac
  ·rw[<-ab];unfold putCells;rw[Array.size_mapIdx]
  ·rw[<-adA,take_putCells _ _ (by rw[adA,ab];exact pF _ hn),Dj hk eK]
  ·unfold sortWorldK putRowK grow;exact⟨hB.os,hB.tape,hB.output,by have:=hB.size;show _<=(_++os).size;rw[Array.size_append];omega,λj Z=>by
    show(_++os)[j]?=_;have m5:base<=w.heap.size:=by have:=(dG.1 hg).1;omega
    rw[Array.getElem?_append_left (by have:=hB.size;omega)];exact hB.block j Z⟩
def atH{base:Nat}{A:List jH}(h:w.ownsRow base e 3 (E (some g) A cap) A (A.flatMap encR)):HoldsK encR 3 w g 0 A.toArray/\g<w.heap.size:=by
 rcases h.2 with⟨cG,_⟩|⟨jX,Ld,bm,cG,V,hg,hn,R,ab,an⟩
 ·cases cG
 ·injection cG with aK _ cC
  injection aK with aK
  injection aK with aK
  subst aK;subst cC;refine⟨λj Z=> ?_,(dG.1 hg).1⟩;rw[size_flatK,ku]at Z;refine⟨?_,by simp[World.frozen?,hg]⟩;have co:=Dj Vv Y A;have aK:(bm.toList.take (A.length*3))[j]?=(flatK encR 3 A.toArray).toList[j]?:=by rw[co,an]
  have aV:(flatK encR 3 A.toArray)[j]?=some ((flatK encR 3 A.toArray)[j]' Vy):=sG _;exact adz
theorem atI(x y:jH)(w:G):Calls prog 110 #[kG x,kG y] w λe F=>e=aI (H (Iz x y))/\F=(w.alloc (J #[N (str x.nm),H x.dir,E x.a x.n x.c] 24)).alloc (J #[N (str y.nm),H y.dir,E y.a y.n y.c] 24):=by have h:=atm ⟨x.nm,x.dir,List.replicate x.n 0,x.a,x.c⟩ ⟨y.nm,y.dir,List.replicate y.n 0,y.a,y.c⟩ w;unfold iU at h;simp only[zQ]at h;exact h
theorem atJ(g size:Nat)(w:G):CmpLays prog 110 #[] encR 3 Iz g 0 size w:=by
 intro m os atK atL x y;refine(atI x y _).mono ?_;rintro e F ⟨bx,rfl⟩;refine⟨bx,0,#[J #[N (str x.nm),H x.dir,E x.a x.n x.c] 24 (0,0),J #[N (str y.nm),H y.dir,E y.a y.n y.c] 24 (0,0)],?_⟩;rw[alloc_eq_grow,alloc_eq_grow,grow_grow]
 rfl
theorem atM(u:K)(A:List jH)(base:Nat)(w:G)(X:A.length<=1000000)(ho:w.ownsRow base 24 3 u A (A.flatMap encR)):Calls prog 109 #[u,.func (.func 110) #[] #[]] w λe F=>e=aI (bH #[])/\∃ys:List jH,ys.Perm A/\ys.Pairwise (λa b=>lt b.nm a.nm=false)/\F.ownsRow base 24 3 u ys (ys.flatMap encR)/\Below base w F:=by
 cases A with
 |nil=>obtain⟨a,c,rfl⟩:=dP ho;refine(AnyF.slices_SortFunc_none {Tryz.laysSort with} a c (.func (.func 110) #[] #[]) w).mono ?_;rintro e F ⟨bx,rfl⟩;exact⟨bx,[],List.Perm.refl _,List.Pairwise.nil,ho,⟨rfl,rfl,rfl,aZ _,λ_ _=>rfl⟩⟩
 |cons x r=>
  obtain⟨g,cap,rfl⟩:=ownsRow_succ ho;obtain⟨h9,hg⟩:=atH ho;have hS:=AnyQ.slices_SortFunc Tryz.laysSort 3 Tryz.isAgg24 Tryz.sizeOf24 encR Vv adu Iz atG 110 #[] g 0 cap (x::r).toArray w (enters_of func110 aj rfl) (atJ g _ w) h9 hg (by simp at X⊢;omega);refine hS.mono ?_;rintro e F ⟨bx,pg,n,os,ac,ab,rfl⟩;obtain⟨et,fp,k5⟩:=ac;have ci:pg.toList.length=(x::r).length:=by rw[Array.length_toList,et];simp
  have hd:pg=pg.toList.toArray:=ay;rw[hd];obtain⟨bk,bW⟩:=Jr Vv Y (q:=n) (os:=os) ho ci;refine⟨bx,pg.toList,?_,?_,by rw[ci];exact bk,bW⟩
  ·exact ady
  ·rw[zS];intro i j hi Z ox;rw[Array.length_toList]at hi Z;have:=ab i j (eG _) ox (by rw[<-et];exact Z);rw[Qa,getElem!_pos pg j Z,getElem!_pos pg i hi]at this;exact wK
end bM
def adB(h:S:=by first|exact ca.o.drew|exact ca.o|exact ca.o.drewN _):S:=h
def adC(h:S:=by first|exact(O _).drew|exact O _|exact(O _).drewN _):S:=h
namespace bM
variable{ax:DataW K}{W aa w bj gn:G}{b cl e k n:Nat}{fs l:List dz}
structure gI(p:PF):Prop where
 n:p.nm.length<=maxLen
 b:p.bs.length<=1000000
def Qb(ax:DataW K)(i9:List aL->Option PF):Prop:= ∀x,has ax (.string x)=(i9 x).isSome/\∀q,i9 x=some q->∀pL,ax.atKey (.string x) pL= .held (kG q.r)
theorem Qd(s:List aL)(h:s.length<=maxLen):keyOf prog 9 (.string (str s))=some (.string s):=by unfold keyOf mapKey;rw[underlying9];simp[ByteArray.size,h]
def atN{base:Nat}{u:K}{aR:List K}{km:Array MapEntry}(h:W.ownsRow base e n u k aR)(V:W.heap[b]?=some (.map km cl)):u.ownBlock=none\/u.ownBlock≠some b:=by
 rcases h.2 with⟨rfl,_⟩|⟨g,cap,bm,rfl,_,Bk,_⟩
 ·exact xI
 ·refine .inr λcU=> ?_
  have:g=b:=by simpa[Value.ownBlock]using cU
  subst this;rw[Bk]at V;cases V
theorem adD{i9:List aL->Option PF}{p eh:PF}{f8:Obj}(a':Ext w bj)(adE:bj.ownsMap prog 9 RF b k ax)(Bm:Qb ax i9)(lz:Ae fs k (λx=>(i9 x).map PF.f))(x6:∀x q,i9 x=some q->lq bj w q)(aW:eh.f=p.f)(P1:lq bj w eh)(P2:fs[k]?=some p.f)(hn:p.nm.length<=maxLen)(hd:∀q,i9 p.nm=some q->p.dir<q.dir)(x7:gn.ownsMap prog 9 RF b (k+1) (ax.put (.string p.nm) (.held (kG eh.r))))(hg:bj.grownBy gn (some b))(H4:w.heap.size<b)(hx:bj.heap[w.heap.size]?=some f8):∃(H5:DataW K)(FY:List aL->Option PF),Ext w gn/\gn.ownsMap prog 9 RF b (k+1) H5/\Qb H5 FY/\Ae fs (k+1) (λx=>(FY x).map PF.f)/\(∀x q,FY x=some q->lq gn w q)/\gn.heap[w.heap.size]?=some f8:=by
 have adF:=(string_keyed (P:=prog) underlying9).key (Qd p.nm hn);have adG:=adE.isMap;have adH:∀q,lq bj w q->lq gn w q:=λq h=>by
  obtain⟨km,cl,V,-⟩:=adE;refine World.ownsRow.kept h hg ?_;rcases atN h V with e|e
  ·exact .inl e
  ·exact .inr e
 refine⟨_,λx=>if x=p.nm then some eh else i9 x,a'.grown hg (λj e=>by cases e;omega),x7,λx=> ?_,?_,λx q h=> ?_,(hg.block _ (dG.1 hx).1 (λe=>by cases e;omega)).trans hx⟩
 ·dsimp only;by_cases e:x=p.nm
  ·rw[e];refine⟨by rw[has_put_same adG adF,aF rfl];rfl,λq h pL=> ?_⟩;rw[aF rfl]at h;obtain rfl:=gL h;exact atKey_put_same adG adF _ _
  ·have bO:(Lit.string x)≠ .string p.nm:=λh=>e (by injection h)
   refine⟨by rw[has_put_other bO,au e];exact(Bm x).1,λq h pL=> ?_⟩;rw[au e]at h;rw[atKey_put_other bO];exact(Bm x).2 q h pL
 ·have h:=atO lz P2 (λg hg=>by
   have pA:(i9 p.nm).map PF.f=some g:=hg;cases R:i9 p.nm with
   |none=>rw[R]at pA;cases pA
   |some q=>rw[R]at pA;obtain rfl:=gL pA;exact hd q R)
  have bx:(λx=>if x=p.f.1 then some p.f else(i9 x).map PF.f)=λx=>(if x=p.nm then some eh else i9 x).map PF.f:=by
   funext x
   show(if x=p.nm then some p.f else _)=_;by_cases e:x=p.nm
   ·rw[aF e,aF e,<-aW];rfl
   ·rw[au e,au e]
  rw[bx]at h;exact h
 ·dsimp only at h;by_cases e:x=p.nm
  ·rw[aF e]at h;obtain rfl:=gL h;exact adH _ P1
  ·rw[au e]at h;exact adH _ (x6 x q h)
theorem FZ(h:W.ownsMap prog 9 RF b k ax)(D:Ext W aa):aa.ownsMap prog 9 RF b k ax:=by have X:=h.lt;obtain⟨km,cl,V,r⟩:=h;exact⟨km,cl,(D.block X).trans V,r⟩
def atP{r s:jH}(h:kG r=kG s):r=s:=by
 obtain⟨n1,cs,a1,bk,c1⟩:=r;obtain⟨n2,eg,a2,bW,c2⟩:=s;simp[kG]at h;obtain⟨rfl,rfl,rfl,rfl,rfl⟩:=h
 rfl
def adI{P:PF->Prop}:∀(ys:List jH),(∀y∈ys,∃q:PF,P q/\q.r=y)->∃f9:List PF,f9.map PF.r=ys/\∀q∈f9,P q
 | [],_=>⟨[],rfl,ay⟩
 |y::r,h=>by
  obtain⟨q,aW,e⟩:=h y ay;obtain⟨f9,h1,h2⟩:=adI r (λaR bL=>h aR (vv _ bL));refine⟨q::f9,by rw[fK,e,h1],λaR bL=> ?_⟩;rcases iA.1 bL with rfl|bL
  ·exact aW
  ·exact h2 aR bL
def abc{i9:List aL->Option PF}{A ys:List jH}(Bm:Qb ax i9)(lz:Ae fs fs (λx=>(i9 x).map PF.f))(fX:P9 ax A)(ac:ys.Perm A)(ab:ys.Pairwise (λa b=>lt b.nm a.nm=false)):∃f9:List PF,f9.map PF.r=ys/\f9.map PF.f=nR fs/\∀q∈f9,i9 q.nm=some q:=by
 obtain⟨cb,bk,bW,d7,rfl,-⟩:=fX;have m7:∀p∈cb,∃q,i9 p.1=some q/\q.r=p.2/\q.nm=p.1:=λp ac=>by
  have h1:=(bW p.1).1 (iJ.2 ⟨p,ac,rfl⟩);rw[(Bm p.1).1]at h1;obtain⟨q,aW⟩:=Option.isSome_iff_exists.1 h1;have h2:=(Bm p.1).2 q aW (.lit (.bool true));rw[d7 p ac]at h2
  injection h2 with h2
  have T:=lz p.1;dsimp only at T;rw[aW]at T;exact⟨q,aW,(atP h2).symm,T.1⟩
 obtain⟨f9,ef,cY⟩:=adI (P:=λq=>i9 q.nm=some q) ys (λy bN=>by obtain⟨p,pN,rfl⟩:=iJ.1 (ac.mem_iff.1 bN);obtain⟨q,h1,h2,T⟩:=m7 p pN;exact⟨q,by show i9 q.nm=some q;rw[T];exact h1,h2⟩)
 have vi:(cb.map (·.2)).map jH.nm=cb.map (·.1):=by
  rw[List.map_map];apply List.map_congr_left;intro p pN;obtain⟨q,h1,h2,T⟩:=m7 p pN;show p.2.nm=p.1;rw[<-h2,<-T]
  rfl
 have Li:ys.Pairwise (λa b=>a.nm≠b.nm):=by have h1:(ys.map jH.nm).Nodup:=((ac.map jH.nm).nodup_iff).2 (by rw[vi];exact bk);rw[List.Nodup,List.pairwise_map]at h1;exact h1
 have atQ:F3 (f9.map PF.f):=by have h1:ys.Pairwise (λa b=>lt a.nm b.nm=true):=(ab.and Li).imp (λ{a b} h=>Vz h.1 (λe=>h.2 e.symm));rw[<-ef,List.pairwise_map]at h1;unfold F3;rw[List.pairwise_map];exact h1
 refine⟨f9,ef,atS (atT lz atQ (λf=> ?_)),cY⟩;constructor
 ·intro ai;obtain⟨q,aW,rfl⟩:=iJ.1 ai;show(i9 q.nm).map PF.f=some q.f;rw[cY q aW]
  rfl
 ·intro h;have gm:(i9 f.1).map PF.f=some f:=h;cases R:i9 f.1 with
  |none=>rw[R]at gm;cases gm
  |some q=>
   rw[R]at gm;have LI:q.f=f:=gL gm;have be:has ax (.string f.1)=true:=by rw[(Bm f.1).1,R];rfl
   obtain⟨p,pN,e⟩:=iJ.1 ((bW f.1).2 be);obtain⟨aR,ed,eq,q2⟩:=m7 p pN;rw[e,R]at ed;obtain rfl:=gL ed;have bN:q.r∈ys:=ac.mem_iff.2 (by rw[eq];exact iJ.2 ⟨p,pN,rfl⟩);rw[<-ef]at bN;obtain⟨tE,adJ,cU⟩:=iJ.1 bN;have hn:tE.nm=q.nm:=congrArg jH.nm cU;have:=cY tE adJ;rw[hn,q2,e,R]at this;obtain rfl:=gL this;exact iJ.2 ⟨q,adJ,LI⟩
def atV(f9:List PF):(f9.map PF.r).flatMap encR=f9.flatMap qJ:=by rw[List.flatMap_map];rfl
theorem atW(m:PF)(v:K)(ap:List PF)(X:ap.length<=1000000)(DK:gI m)(sl:∀p∈ap,gI p)(w:G)(Bs:Good w m)(hv:aS w 3 qJ v ap)(hg:∀p∈ap,Good w p):Calls prog 68 #[iU m,v] w λe F=>∃(u:K)(f9:List PF),e= .returned (.tuple #[u,.int .i64 (qE (ap.map PF.f):Nat)])/\f9.map PF.f=BO m.f (ap.map PF.f)/\Ext w F/\F.ownsRow w 24 3 u f9 (f9.flatMap qJ)/\∀q∈f9,lq F w q:=by
 obtain⟨a,c,rfl,ep,bV⟩:=FU hv;have cJ:=λW (D:Ext w W)=>adp _ ap X (λp ac=>(sl p ac).n) W (hv.ext D)
 have Q:Ext w (w.alloc (.cells #[.string (str m.nm),.int .i64 m.dir,.slice m.a m.bs m.c] 24)):=(O _).alloc _;have bF:=z Q;unfold iU;by_cases P3:16<ap.length
 ·have cA:qE (ap.map PF.f)=4:=by unfold qE;rw[dL,aF P3]
  have cn:BO m.f (ap.map PF.f)=[]:=by unfold BO;rw[au (by rw[cA];decide)]
  rw[cA,cn];have aK:decide ((16:Int)<ap)=true:=dH aE;have rq:=z cJ;have k4:=z bV;go_in;go_wp2_with fail;go_ret2;exact⟨_,[],rfl,rfl,bF.o,jR _ _ _ _,ay⟩
 have aK:decide ((16:Int)<ap)=false:=dM aE;by_cases LM:(ap.map PF.f).all (λf=>nk f.1)=false
 ·have cA:qE (ap.map PF.f)=140:=by unfold qE;rw[dL,au P3,au (by rw[LM];decide)]
  have cn:BO m.f (ap.map PF.f)=[]:=by unfold BO;rw[au (by rw[cA];decide)]
  rw[cA,cn];obtain⟨i,hi,oe,-⟩:=Vp ap 0 LM;rw[oe]at cJ;have rq:=z cJ;have k4:=z bV;go_in;go_wp2_with fail;refine ak (rq.o _ bF.o) ?_;intro I D;have aT:=z (bF.o.trans D);go_wp2_with fail;go_ret2;exact⟨_,[],rfl,rfl,aT.o,jR _ _ _ _,ay⟩
 have fX:(ap.map PF.f).all (λf=>nk f.1)=true:=by cases h:(ap.map PF.f).all (λf=>nk f.1)<;>simp_all
 have cA:qE (ap.map PF.f)=0:=by unfold qE;rw[dL,au P3,aF fX]
 have cn:BO m.f (ap.map PF.f)=m.f::nR (ap.map PF.f):=by unfold BO;rw[aF cA]
 rw[cA,cn];rw[ado ap 0 fX]at cJ;have rq:=z cJ;have k4:=z bV;have atX:=z sl;have adK:=z hg;have atY:=z Bs;have atZ:=z DK;go_in;go_wp2_with fail;refine ak (rq.o _ bF.o) ?_;intro I D;have lz:∀W,(Instr.makeMap 194 none).run prog W= .ok (.map (some W.heap.size)) (W.alloc (.map #[] 0)):=λ_=>rfl
 have adL:I.heap[w.heap.size]?=some (.cells #[.string (str m.nm),.int .i64 m.dir,.slice m.a m.bs m.c] 24 (0,0)):=aJ (bA w _) D;have adM:w.heap.size<I:=by have:=D.size;simp at this;omega
 have adO:Ext w (I.alloc (.map #[] 0)):=(bF.o.trans D).alloc _;have P4:=(O I).alloc (.map #[] 0);replace P4:=aJ adL P4;have adP:=World.ownsMap_made I prog 9 RF;have at0:=z adO;have at1:=z P4;have at5:=z adP;have at6:=z adM;clear D adO adL P4 adP adM;go_wp2_with fail;have fN:=at6.o;generalize I.heap.size=b at *;generalize vj:I.alloc (.map #[] 0)=bX at *;clear vj;go_loopw [23] (λi wr=>∃(k:Nat) (ax:DataW K) (i9:List aL->Option PF),k<=ap/\i= .int .i64 k/\Ext w wr/\wr.ownsMap prog 9 RF b k ax/\Qb ax i9/\Ae (ap.map PF.f) k (λx=>(i9 x).map PF.f)/\(∀x q,i9 x=some q->lq wr w q)/\wr.heap[w.heap.size]?=some (.cells #[.string (str m.nm),.int .i64 m.dir,.slice m.a m.bs m.c] 24 (0,0))) (λi _=>ap.length-(intOf i).toNat)
 case atStart=>exact⟨0,.map [],λ_=>none,aE,rfl,at0.o,at5.o,λx=>⟨rfl,λq h=>DL⟩,at7 _,λx q h=>DL,at1.o⟩
 case round=>
  obtain⟨k,ax,i9,hk,rfl,D,cc,Bm,adQ,x6,hx⟩:=hrel;have aT:=z D;have LO:=z cc;have H':=z Bm;have By:=z adQ;have Id:=z x6;have h4:=z hx;clear D cc Bm adQ x6 hx;by_cases ad:k<ap
  ·obtain⟨e4,o,rfl,c0,c1,c2⟩:=k4.o k ad;replace c0:=aT.o.cell c0;replace c1:=aT.o.cell c1;replace c2:=aT.o.cell c2;have P2:(ap.map PF.f)[k]?=some ap[k].f:=by rw[List.getElem?_map,dK ad];rfl
   have adR:=atX.o _ (eB ad);have DM:=adK.o _ (eB ad);have F0:=z P2;have If:=z adR;have VA:=z DM;clear P2 adR DM;generalize ap[k]=p at *;obtain⟨az,b7⟩:∃az,az=wr.alloc (.cells #[.string (str p.nm),.int .i64 p.dir,.slice p.a p.bs p.c] 24):=⟨_,rfl⟩;have ft:=bA wr (.cells #[.string (str p.nm),.int .i64 p.dir,.slice p.a p.bs p.c] 24);have Q:Ext wr az:=by rw[b7];exact(O _).alloc _
   have dp:az.heap.size=wr+1:=by rw[b7];simp
   have Af:=LO.o.alloc (.cells #[.string (str p.nm),.int .i64 p.dir,.slice p.a p.bs p.c] 24);rw[<-b7]at ft Af;have dm:=aG ft 0;have cs:=aG ft 1;have eg:=aG ft 2;simp at dm cs eg;obtain⟨v,pls,x8,VB⟩:=Af.look_ok (string_keyed underlying9) underlying194 (Tryz.zeroValue24 az) (Vs ⟨[],0,none,0,0⟩) (Qd p.nm If.o.n);obtain⟨r0,rfl,m6⟩:=Vt VB;have adS:=(H'.o p.nm).1;rw[adS]at x8;have aL4:=z ft;have x':=z Q;have VC:=z Af;have jp:=z dp;have sh:=z b7;have P':=z m6;have tG:=z VB;have F1:=λW (D:Ext w W)=>LJ p If.o.b W (Good.ext D VA.o)
   unfold iU at F1;have adT:=z F1;clear ft Q Af dp b7 m6 VB adS F1;unfold kG at x8;go_upto_region 9 with fail;rw[<-sh.o];cases s6:i9 p.nm with
   |none=>
    rw[s6]at x8;simp only[abY]at x8;go_upto_region 11 with fail;obtain⟨a8,b'⟩:∃a8,a8=az.alloc (.cells #[.string (str r0.nm),.int .i64 r0.dir,.slice r0.a r0.n r0.c] 24):=⟨_,rfl⟩;rw[<-b'];have ag:Ext az a8:=by rw[b'];exact(O _).alloc _
    have F2:=z (FZ VC.o ag);have ca:=z ((aT.o.trans x'.o).trans ag);have F4:Hid (∀x q,i9 x=some q->lq a8 w q):=z (λx q h=>(Id.o x q h).ext (x'.o.trans ag));have vl:=z (aJ h4.o (x'.o.trans ag));replace dm:=ag.cell dm;replace cs:=ag.cell cs;replace eg:=ag.cell eg;clear ag b' c0 c1 c2
    (go_region_law
     (go_simp
      refine(adT.o _ adB).mono ?_;rintro e bj ⟨eh,rfl,DN,nz,a'⟩;have gi:Ext a8 bj:=gP adC a';obtain⟨gn,uC,x7,LP⟩:=(FZ F2.o gi).update (string_keyed underlying9) underlying194 y9 (Qd p.nm If.o.n) (Vs eh.r);have at8:(Instr.mapUpdate 194 (.map (some b)) (.string (str p.nm)) (.agg #[.string (str eh.nm),.int .i64 eh.dir,.slice eh.a eh.bs eh.c])).run prog bj= .ok () gn:=uC;have hs:=gi.cell dm;have dc:=gi.cell cs;have dv:=gi.cell eg;have jn:w.heap.size<=a8:=ca.o.size;have VD:=z (adD (ca.o.trans gi) (FZ F2.o gi) H'.o By.o (λx q h=>(F4.o x q h).ext gi) DN (nz.base (by first|exact jn|(simp;omega))) F0.o If.o.n (λq h=>by rw[s6]at h;cases h) x7 LP fN (aJ vl.o gi));clear uC x7 LP gi a' nz DN))
    all_goals
     have F6:k+1<=1000000:=aE;go_wp2_with fail;go_roundw
     case rel=>obtain⟨H5,FY,dq,ei,eM,r4,r5,wA⟩:=VD.o;exact⟨k+1,H5,FY,aE,cZ,dq,ei,eM,r4,r5,wA⟩
     case measure=>simp[intOf];omega
   |some q=>
    rw[s6]at x8;simp only[arW]at x8;have cG:kG r0=kG q.r:=by
     have h1:=P'.o;have h2:=(H'.o p.nm).2 q s6 (.held (kG ⟨[],0,none,0,0⟩));have T:ax.atKey (.string p.nm) (.held (kG ⟨[],0,none,0,0⟩))= .held (kG r0):=(Prod.mk.inj h1).1;rw[h2]at T
     injection T with T
     exact T.symm
    have adU:Value.agg #[.string (str r0.nm),.int .i64 r0.dir,.slice r0.a r0.n r0.c]= .agg #[.string (str q.nm),.int .i64 q.dir,.slice q.a q.bs q.c]:=cG;rw[adU]at x8;clear cG adU;have aL5:=λo=>((O az).alloc o).cell cs
    by_cases Qf:p.dir<q.dir
    ·have at9:decide (p.dir<q.dir)=true:=dH Qf;go_upto_region 11 with fail;obtain⟨a8,b'⟩:∃a8,a8=az.alloc (.cells #[.string (str q.nm),.int .i64 q.dir,.slice q.a q.bs q.c] 24):=⟨_,rfl⟩;rw[<-b'];have ag:Ext az a8:=by rw[b'];exact(O _).alloc _
     have F2:=z (FZ VC.o ag);have ca:=z ((aT.o.trans x'.o).trans ag);have F4:Hid (∀x q,i9 x=some q->lq a8 w q):=z (λx q h=>(Id.o x q h).ext (x'.o.trans ag));have vl:=z (aJ h4.o (x'.o.trans ag));replace dm:=ag.cell dm;replace cs:=ag.cell cs;replace eg:=ag.cell eg;clear ag b' c0 c1 c2
     (go_region_law
      (go_simp
       refine(adT.o _ adB).mono ?_;rintro e bj ⟨eh,rfl,DN,nz,a'⟩;have gi:Ext a8 bj:=gP adC a';obtain⟨gn,uC,x7,LP⟩:=(FZ F2.o gi).update (string_keyed underlying9) underlying194 y9 (Qd p.nm If.o.n) (Vs eh.r);have at8:(Instr.mapUpdate 194 (.map (some b)) (.string (str p.nm)) (.agg #[.string (str eh.nm),.int .i64 eh.dir,.slice eh.a eh.bs eh.c])).run prog bj= .ok () gn:=uC;have hs:=gi.cell dm;have dc:=gi.cell cs;have dv:=gi.cell eg;have jn:w.heap.size<=a8:=ca.o.size;have VD:=z (adD (ca.o.trans gi) (FZ F2.o gi) H'.o By.o (λx q h=>(F4.o x q h).ext gi) DN (nz.base (by first|exact jn|(simp;omega))) F0.o If.o.n (λtE h=>by rw[s6]at h;cases h;exact Qf) x7 LP fN (aJ vl.o gi));clear uC x7 LP gi a' nz DN))
     all_goals
      have F6:k+1<=1000000:=aE;go_wp2_with fail;go_roundw
      case rel=>obtain⟨H5,FY,dq,ei,eM,r4,r5,wA⟩:=VD.o;exact⟨k+1,H5,FY,aE,cZ,dq,ei,eM,r4,r5,wA⟩
      case measure=>simp[intOf];omega
    ·have at9:decide (p.dir<q.dir)=false:=dM Qf;have ag:Ext az (az.alloc (.cells #[.string (str q.nm),.int .i64 q.dir,.slice q.a q.bs q.c] 24)):=(O _).alloc _;have F2:=z ((FZ VC.o ag).mono (Nat.le_succ k));have ca:=z ((aT.o.trans x'.o).trans ag);have F4:Hid (∀x tE,i9 x=some tE->lq (az.alloc (.cells #[.string (str q.nm),.int .i64 q.dir,.slice q.a q.bs q.c] 24)) w tE):=z (λx tE h=>(Id.o x tE h).ext (x'.o.trans ag));have vl:=z (aJ h4.o (x'.o.trans ag));have aua:=z (aub (g:=q.f) By.o F0.o (by show(i9 p.nm).map PF.f=some q.f;rw[s6];rfl) Qf);clear ag;have F6:k+1<=1000000:=aE;go_wp2_with fail;go_roundw
     case rel=>exact⟨k+1,ax,i9,aE,cZ,ca.o,F2.o,H'.o,aua.o,F4.o,vl.o⟩
     case measure=>exact eO
  ·obtain rfl:k=ap.length:=aE;have aL6:=LO.o.size_le;have Af:=LO.o.alloc (.cells #[.map (some b)] 194);have adV:Ext wr (wr.alloc (.cells #[.map (some b)] 194)):=(O _).alloc _;have z6:(wr.alloc (.cells #[.map (some b)] 194)).cell? wr=some (.map (some b)):=(Boxed.new wr _ _).cell;have Qg:=atw wr b ap ax _ ay z6 Af;have Qh:=atF 159 #[.pointer (some wr)] (P9 ax) (λ_=>True) (Maps.size ax) aE _ (enters_of func159 aj rfl) Qg;have k1:=λW=>atz (some b) W
   have adW:=z adV;have auc:=z Qh;clear Qh Af z6 Qg adV;go_wp2_with fail;refine ak (k1 _) ?_;rintro dC rfl;go_wp2_with fail;refine auc.o.mono ?_;rintro e bQ ⟨u,A,rfl,VE,bR,d0⟩;have q4:A.length<=1000000:=by obtain⟨cb,-,-,-,rfl,F6⟩:=VE;rw[dL];omega
   have adX:=atM u A _ bQ q4 d0;have aud:=z VE;have VF:Ext wr bQ:=adW.o.trans bR;have c9:=z (aT.o.trans VF);have aL7:=z VF;have auf:=z bR;have aug:=z adX;clear adX VE bR d0 VF;go_wp2_with fail;refine ak aug.o ?_;rintro cT ⟨ys,ac,ab,gC,s7⟩;have dX:Ext wr cT:=adW.o.trans (Below.trans auf.o s7);obtain⟨f9,rs,lA,DN⟩:=abc H'.o (by rw[dL];exact By.o) aud.o ac ab;subst rs;rw[atV,dL]at gC;have P1:∀q∈f9,lq cT w q:=λq aW=>(Id.o _ q (DN q aW)).ext dX
   have Qi:=aJ h4.o dX;have x2:=aG Qi 0;have eN:=aG Qi 1;have fS:=aG Qi 2;simp at x2 eN fS;have f':=z (aT.o.trans dX);have F1:=LJ m atZ.o.b cT (Good.ext f'.o atY.o);unfold iU at F1;have auh:=z P1;have kq:=z gC;have adY:=z lA;have aui:=z F1;clear F1 ac ab s7 dX DN P1 gC lA Qi;go_wp2_with fail;refine aui.o.mono ?_;rintro e dy ⟨e3,rfl,s8,DO,en⟩;obtain⟨LQ,LR,rfl⟩:=dP kq.o;have mx:=z (f'.o.trans en);have VG:=mx.o.size;have aL8:f9.length<=1000000:=by rw[<-dL (f:=PF.f),adY.o];have:=Jt (ap.map PF.f);rw[dL]at this;omega
   have auj:=z (DO.base f'.o.size);have auk:Hid (∀q∈f9,lq dy w q):=z (λq aW=>(auh.o q aW).ext en);have tI:=z (eD P6 (LH kq.o en));have aul:=z s8;clear en DO s8
   go_wp2_with(at_builtin
               refine vG rfl (.tmp 56) (.tmp 57) _ rfl underlying25 adj rfl Y P6 as5 w (.slice (some dy) 1 1) _ [e3] f9 rfl rfl (qQ P6 dy [e3] 24 dy w rfl VG vF) (aS.ext ((O _).alloc _) tI.o) dU Y dU ?_;intro LS LU gn rv Ag;have Is:=z rv;have DP:=z Ag;clear rv Ag)
   go_ret2;have j0:Ext dy (dy.alloc (.cells #[.string (str e3.nm),.int .i64 e3.dir,.slice e3.a e3.bs e3.c] 24)):=(O _).alloc _;have rx:Ext w gn:=(mx.o.trans j0).grown DP.o (λk e=>by simp[Value.ownBlock]at e;omega);have Qj:∀q,lq dy w q->lq gn w q:=λq h=>by
    have ad:=h.lt;refine World.ownsRow.kept (h.ext j0) DP.o ?_;cases e:q.v.ownBlock with
    |none=>exact xI
    |some j=>exact .inr (λcU=>by have:=(ad j e).2;simp[Value.ownBlock]at cU;omega)
   refine⟨.slice LS (f9+1) LU,e3::f9,by simp[Nat.add_comm],by rw[fK,aul.o,adY.o],rx,?_,?_⟩
   ·have kv:=Is.o;rw[show [e3].length+f9.length=f9+1 by rw[xG,Nat.add_comm]]at kv;exact kv
   ·intro q aW;rcases iA.1 aW with rfl|aW
    ·exact Qj _ auj.o
    ·exact Qj _ (auk.o q aW)
def kP(x:dN):List K:= [N (str x.1),H x.2.1,N (str x.2.2.1),N (str x.2.2.2.1),N (str x.2.2.2.2)]
def CQ(x:tO):List K:= [N (str x.1),H x.2.1,H x.2.2.1,N (str x.2.2.2)]
def F5(x:dN):(kP x).length=5:=rfl
def Qk(x:tO):(CQ x).length=4:=rfl
def aum(s:dN):∀u∈kP s,u.oneCell'=true:=by intro u a6;simp[kP]at a6;rcases a6 with rfl|rfl|rfl|rfl|rfl<;>rfl
def aun(s:tO):∀u∈CQ s,u.oneCell'=true:=by intro u a6;simp[CQ]at a6;rcases a6 with rfl|rfl|rfl|rfl<;>rfl
def adZ(bs:List aL):(qF bs).1.length<=1001/\(qF bs).2.length<=1001:=by
 have h1:=Ql (jk bs).1 ⟨[],false,[],[]⟩;have h2:=ad1 bs;have T:Ah bs=(jk bs).1.foldl nu ⟨[],false,[],[]⟩:=rfl;rw[<-T]at h1;simp only[fu]at h1;unfold qF;split
 ·simp
 ·split<;>simp<;>omega
def IQ(f:dz):(oK f).length<=1001:=by unfold oK;rw[dL];exact(adZ _).1
def VH(f:dz):(oL f).length<=1001:=by unfold oL;rw[dL];exact(adZ _).2
def auo(f:dz):(qF f.2.2).1.flatMap (DR (str f.1))=(oK f).flatMap kP:=by unfold oK;rw[List.flatMap_map];rfl
def aup(f:dz):(qF f.2.2).2.flatMap (Ai (str f.1))=(oL f).flatMap CQ:=by unfold oL;rw[List.flatMap_map];rfl
def LV{α:Type}(g:dz->List α)(hg:∀f,(g f).length<=1001):∀l:List dz,(l.flatMap g).length<=1001*l.length
 | []=>ay
 |a::l=>by have:=LV g hg l;have:=hg a;rw[sI,dA,dJ];omega
def ad2{α:Type}(g:dz->List α)(h:k<l):(l.take (k+1)).flatMap g=(l.take k).flatMap g++g l[k]:=by rw[List.take_add_one,dK h,FD];simp
theorem Ul(m:PF)(v:K)(ap:List PF)(X:ap.length<=1000000)(DK:gI m)(sl:∀p∈ap,gI p)(w:G)(Bs:Good w m)(hv:aS w 3 qJ v ap)(hg:∀p∈ap,Good w p):Calls prog 35 #[iU m,v] w λe F=>∃ea hW,e=aI (bH #[ea,hW])/\Ext w F/\F.ownsRow w 148 5 ea (fM m.f (ap.map PF.f)).1.length ((fM m.f (ap.map PF.f)).1.flatMap kP)/\F.ownsRow w 45 4 hW (fM m.f (ap.map PF.f)).2.length ((fM m.f (ap.map PF.f)).2.flatMap CQ):=by
 have cn:=λW (D:Ext w W)=>atW m v ap X DK sl W (Good.ext D Bs) (hv.ext D) (λp ac=>Good.ext D (hg p ac))
 obtain⟨a,c,rfl,ep,bV⟩:=FU hv;have cJ:=λW (D:Ext w W)=>adp _ ap X (λp ac=>(sl p ac).n) W (hv.ext D)
 have ft:=bA w (J #[N (str m.nm),H m.dir,E m.a m.bs m.c] 24);have Q:Ext w (w.alloc (J #[N (str m.nm),H m.dir,E m.a m.bs m.c] 24)):=(O _).alloc _;have bF:=z Q;have rm:=z ft;clear Q hv ft;unfold iU at cn⊢;obtain⟨aH,bd⟩:∃aH,aH=fM m.f (ap.map PF.f):=⟨_,rfl⟩;rw[<-bd];have Qm:qE (ap.map PF.f)=0\/qE (ap.map PF.f)=4\/qE (ap.map PF.f)=140:=by unfold qE;split<;>(try split)<;>simp
 rcases Qm with ae|af|DQ
 ·have It:aH=if (m.f::nR (ap.map PF.f)).flatMap oL≠[]then([],(m.f::nR (ap.map PF.f)).flatMap oL)else((m.f::nR (ap.map PF.f)).flatMap oK,[]):=by rw[bd,auq ae]
  have hZ:=Jt (ap.map PF.f);rw[dL]at hZ;have P3:ap.length<=16:=by
   unfold qE at ae;rw[dL]at ae;split at ae
   ·simp at ae
   ·omega
  have ad0:BO m.f (ap.map PF.f)=m.f::nR (ap.map PF.f):=by unfold BO;rw[aF ae]
  rw[ae,ad0]at cn;have vm:∀f∈m.f::nR (ap.map PF.f),f.2.2.length<=1000000:=λf ai=>by
   rcases iA.1 ai with rfl|ai
   ·exact DK.b
   ·obtain⟨j,-,-,Z,-⟩:=((OJ (ap.map PF.f)).2 f).1 ai;obtain⟨p,ac,rfl⟩:=iJ.1 (List.mem_of_getElem? Z);exact(sl p ac).b
  have q4:(m.f::nR (ap.map PF.f)).length<=17:=by rw[dJ];omega
  generalize m.f::nR (ap.map PF.f)=L at *;have P':=z It;have aur:=z vm;have ya:=λk=>LV oK IQ (L.take k)
  have hy:=λk=>LV oL VH (L.take k)
  have VI:=LV oK IQ L;have aL9:=LV oL VH L;clear bd It sl hg ae ad0 vm hZ;have aus:=z ya;have aut:=z hy;clear ya hy;have i':=z cn;have rq:=z cJ;have k4:=z bV;clear cn cJ bV;go_in;go_wp2_with fail;refine(i'.o _ bF.o).mono ?_;rintro e aO ⟨u,f9,rfl,LI,ag,fv,ad3⟩;obtain⟨bv,bp,rfl⟩:=dP fv;have ca:=z (bF.o.trans ag);have Aj:=bF.o.size;have ad4:Hid (f9.length=L):=z (by rw[<-dL (f:=PF.f),LI]);have F7:=z (kU fv Aj);have F4:Hid (∀q∈f9,lq aO w q):=z (λq aW=>(ad3 q aW).base Aj);have auu:=z LI;clear ag fv ad3 LI Aj;go_wp2_with fail;go_loopw [10,11,46] (λea hW i wr=>∃k:Nat,k<=f9/\i=H k/\Ext w wr/\wr.ownsRow w 148 5 ea ((L.take k).flatMap oK).length (((L.take k).flatMap oK).flatMap kP)/\wr.ownsRow w 45 4 hW ((L.take k).flatMap oL).length (((L.take k).flatMap oL).flatMap CQ)/\wr.ownsRow w 24 3 (E bv f9 bp) f9 (f9.flatMap qJ)/\∀q∈f9,lq wr w q) (λ_ _ i _=>f9.length-(intOf i).toNat)
  case atStart=>exact⟨0,aE,rfl,ca.o,jR _ _ _ _,jR _ _ _ _,F7.o,F4.o⟩
  case round=>
   obtain⟨k,hk,rfl,D,VK,De,Qn,x6⟩:=hrel;have aT:=z D;have z2:=z VK;have F8:=z De;have ad5:=z Qn;have Id:=z x6;have ad6:=aus.o k;have BB:=aut.o k;rw[gV]at ad6 BB;by_cases ad:k<f9
   ·have Ak:k<L:=by rw[<-ad4.o];exact ad
    obtain⟨auv,Qo,ad7,-,ad8⟩:=FU (eD P6 Qn);simp only[eZ,true_and]at ad7;obtain⟨rfl,rfl⟩:=ad7;obtain⟨e4,o,rfl,c0,c1,c2⟩:=ad8 k ad;have ad9:f9[k].f=L[k]:=by
     have:=auu.o;have h2:(f9.map PF.f)[k]'(by rw[dL];exact ad)=L[k]:=by simp only[this]
     rw[<-h2,rQ]
    have k6:=aur.o _ (eB Ak);rw[<-ad9]at k6;have DM:=(x6 _ (eB ad)).good;have VM:=ad2 oK Ak;have g0:=ad2 oL Ak;rw[<-ad9]at VM g0;have j1:=z VM;have Al:=z g0;have aMa:=IQ f9[k].f;have VN:=VH f9[k].f;generalize f9[k]=q at *;generalize(L.take k).flatMap oK=VO at *;generalize(L.take k).flatMap oL=LN at *;obtain⟨az,b7⟩:∃az,az=wr.alloc (J #[N (str q.nm),H q.dir,E q.a q.bs q.c] 24):=⟨_,rfl⟩;have ft:=bA wr (J #[N (str q.nm),H q.dir,E q.a q.bs q.c] 24);have Q:Ext wr az:=by rw[b7];exact(O _).alloc _
    rw[<-b7]at ft;have dm:=aG ft 0;have cs:=aG ft 1;have eg:=aG ft 2;simp at dm cs eg;have e1:=Br (str q.nm) q.dir q.v q.bs k6 az (Good.ext Q DM);unfold VP PF.v at e1;rw[show(qF q.bs).1.flatMap (DR (str q.nm))=(oK q.f).flatMap kP from auo q.f,show(qF q.bs).2.flatMap (Ai (str q.nm))=(oL q.f).flatMap CQ from aup q.f,show(qF q.bs).1.length=(oK q.f).length by unfold oK;rw[dL];rfl,show(qF q.bs).2.length=(oL q.f).length by unfold oL;rw[dL];rfl]at e1;generalize oK q.f=auw at *;generalize oL q.f=auy at *;have x':=z Q;have sh:=z b7;have aMb:=aT.o.size;have aMc:=Q.size;have tM:=z e1;clear e1 D VK De Qn x6 ad8 ft b7 Q VM g0 DM;go_upto_region 13 with fail;rw[<-sh.o];go_wp2_with fail;refine tM.o.mono ?_;rintro e bj ⟨aMd,aMe,rfl,a',aeb,aec⟩;have yb:=x'.o.trans a';have cL:=z (aT.o.trans yb);have Iv:=z (LH z2.o yb);have s3:=z (LH F8.o yb);have LW:=z (LH ad5.o yb);have p7:Hid (∀q∈f9,lq bj w q):=z (λq aW=>(Id.o q aW).ext yb);have auz:=z aeb;have auA:=z aec;have aed:=yb.size;clear a' aeb aec yb;go_wp2_with(first
     |(at_builtin
       refine vG rfl (.tmp 55) (.tmp 56) _ rfl underlying64 aee rfl Y F5 aum w _ _ VO auw rfl rfl (by exact Iv.o) (by exact eD F5 auz.o) aE Y aE ?_;intro Qp Qq dy hM k7;have auB:=z hM;have BC:=z (F9 Iv.o s3.o Y k7);have auC:=z (F9 Iv.o LW.o Y k7);have auD:Hid (∀q∈f9,lq dy w q):=z (λq aW=>F9 Iv.o (p7.o q aW) Y k7);have auE:=z (F9 Iv.o auA.o Y k7);have mx:=z (cL.o.grown k7 (λj e=>(Iv.o.lt j e).1));have VG:=k7.size;clear hM k7)
     |(at_builtin
       refine vG rfl (.tmp 58) (.tmp 59) _ rfl underlying38 aef rfl Y Qk aun w _ _ LN auy rfl rfl (by exact BC.o) (by exact eD Qk auE.o) aE Y aE ?_;intro aMf aMg hz qa LX;have auF:=z qa;have auG:=z (F9 BC.o auB.o Y LX);have auH:=z (F9 BC.o auC.o Y LX);have VQ:Hid (∀q∈f9,lq hz w q):=z (λq aW=>F9 BC.o (auD.o q aW) Y LX);have VR:=z (mx.o.grown LX (λj e=>(BC.o.lt j e).1));clear qa LX))
    have F6:k+1<=1000000:=aE;go_roundw
    case rel=>
     refine⟨k+1,aE,cZ,VR.o,?_,?_,auH.o,VQ.o⟩
     ·rw[j1.o,dA];exact auG.o
     ·rw[Al.o,dA];exact auF.o
    case measure=>exact eO
   ·obtain rfl:k=f9.length:=aE;rw[ad4.o,iR]at z2 F8;clear VK De Qn x6 ad6 BB D;generalize L.flatMap oL=LN at *;generalize L.flatMap oK=VO at *;by_cases DT:LN=[]
    ·have s9:aH=(VO,[]):=by rw[P'.o,au (by simp[DT])]
     subst s9;rw[DT]at F8;simp only[fu,List.flatMap_nil]at F8;obtain⟨ry,Qr,rfl⟩:=dP F8.o;obtain⟨tP,auI,rfl⟩:=dP z2.o;go_wp2_with fail;go_ret2;exact⟨_,_,rfl,aT.o,z2.o,jR _ _ _ _⟩
    ·have s9:aH=([],LN):=by rw[P'.o,aF DT]
     subst s9;have oX:0<(LN).length:=by
      cases h:LN with
      |nil=>exact absurd h DT
      |cons x r=>simp
     obtain⟨ry,Qr,rfl⟩:=dP F8.o;obtain⟨tP,auI,rfl⟩:=dP z2.o;have aMh:decide ((0:Int)<((LN).length:Int))=true:=dH aE;go_wp2_with fail;go_ret2;exact⟨_,_,rfl,aT.o,jR _ _ _ _,F8.o⟩
 ·have ph:aH=([],[(m.nm,0,4,[])]):=by
   rw[bd,aeg (by rw[af];decide)];unfold LY;rw[af,au Y]
   rfl
  rw[af]at cn;subst ph;clear bd;have auJ:=z sl;have g4:=z hg;have i':=z cn;have rq:=z cJ;have k4:=z bV;clear cn cJ bV sl hg af;go_in;go_wp2_with fail;refine(i'.o _ bF.o).mono ?_;rintro e aO ⟨u,f9,rfl,-,ag,-,-⟩;have ca:=z (bF.o.trans ag);have ck:=aJ rm.o ag;have x2:=aG ck 0;simp at x2;clear ag ck;go_upto_region 7 with fail;obtain⟨cd,fh⟩:∃cd,cd=aO.alloc (J #[N (str m.nm),H 0,H 4,N ⟨#[]⟩] 45):=⟨_,rfl⟩;have oj:=bA aO (J #[N (str m.nm),H 0,H 4,N ⟨#[]⟩] 45);have cL:Hid (Ext w cd):=z (by rw[fh];exact ca.o.alloc _);rw[<-fh]at oj⊢;have n0:=aG oj 0;have n1:=aG oj 1;have n2:=aG oj 2;have n3:=aG oj 3;simp at n0 n1 n2 n3;clear fh oj;(go_region_law(fail))
  all_goals
   go_wp2_with fail;go_ret2;exact⟨E none 0 0,_,rfl,(cL.o.drew).alloc _,jR _ _ _ _,qQ Qk cd.drew [(m.nm,0,4,[])] 45 _ w rfl cL.o.size vF⟩
 ·have LM:(ap.map PF.f).all (λf=>nk f.1)=false:=by
   cases h:(ap.map PF.f).all (λf=>nk f.1)
   ·rfl
   ·unfold qE at DQ;rw[h]at DQ;split at DQ<;>simp at DQ
  obtain⟨i,hi,oe,aeh⟩:=Vp ap 0 LM;have ph:aH=([],[(m.nm,0,140,ap[i].nm.take 60)]):=by
   rw[bd,aeg (by rw[DQ];decide)];unfold LY;rw[DQ,aF rfl,aeh]
   rfl
  rw[DQ]at cn;rw[oe,gF]at cJ;subst ph;clear bd;have auK:=(sl _ (eB hi)).n;obtain⟨e4,o,rfl,c0,-,-⟩:=bV i hi;have auL:=z c0;have auJ:=z sl;have g4:=z hg;have i':=z cn;have rq:=z cJ;have k4:=z bV;clear cn cJ bV sl hg DQ oe aeh LM c0;generalize ap[i].nm=nm at *;go_in;go_wp2_with fail;refine(i'.o _ bF.o).mono ?_;rintro e aO ⟨u,f9,rfl,-,ag,-,-⟩;have ca:=z (bF.o.trans ag);have ck:=aJ rm.o ag;have x2:=aG ck 0;simp at x2;clear ag ck;have oj:=bA aO (J #[N (str m.nm),H 0,H 140,N ⟨#[]⟩] 45);have a':Ext w (aO.alloc (J #[N (str m.nm),H 0,H 140,N ⟨#[]⟩] 45)):=ca.o.alloc _;have cL:=z a';have s3:=z oj;clear oj a';unfold maxLen at auK;have aMi:min (nm:Int) 60=((min nm.length 60:Nat):Int):=aE;have ci:(str nm).size=nm.length:=Vo nm;have aMj:min nm.length 60<=nm.length:=Nat.min_le_left _ _;have LZ:(str nm).extract 0 (min nm.length 60)=str (nm.take 60):=bytes_inj (by rw[za,Vm,Vm,List.drop_zero,Nat.sub_zero];rw[<-y7,rJ sK]);go_wp2_with fail;refine ak (rq.o _ cL.o) ?_;intro dC cN;have hK:=z (cL.o.trans cN);have c0:=hK.o.cell auL.o;have VS:=z (aJ s3.o cN);have mw:dC.frozen? ⟨aO,3,none⟩=false:=by simp[World.frozen?,VS.o]
  have n3:=aG VS.o 3;simp at n3;have auM:=ca.o.size;clear cN;go_upto_region 7 with fail;have e8:(dC.setCell ⟨aO,3,none⟩ (N (str (nm.take 60)))).heap[aO.heap.size]?=some (J #[N (str m.nm),H 0,H 140,N (str (nm.take 60))] 45 (0,0)):=Go.Joins.block_setCell VS.o _;have bR:Ext w (dC.setCell ⟨aO,3,none⟩ (N (str (nm.take 60)))):=hK.o.setCell (p:=⟨aO,3,none⟩) auM _;generalize dC.setCell ⟨aO,3,none⟩ (N (str (nm.take 60)))=cd at *;clear cL n3 mw;have cL:=z bR;have n0:=aG e8 0;have n1:=aG e8 1;have n2:=aG e8 2;have n3:=aG e8 3;simp at n0 n1 n2 n3;clear e8 bR;(go_region_law(fail))
  all_goals
   go_wp2_with fail;go_ret2;exact⟨E none 0 0,_,rfl,(cL.o.drew).alloc _,jR _ _ _ _,qQ Qk cd.drew [(m.nm,0,140,nm.take 60)] 45 _ w rfl cL.o.size vF⟩
end bM
def aei(h:S:=by intro aO ag;go_wp2_with fail;go_ret;exact⟨rfl,bF.o.trans ag⟩):S:=h
def aej(h:S:=by subst cQ;have aek:=z hq;have VT:=z yd;have k4:=z bV;clear hq yd bV;unfold aM;go_in;go_wp2_with fail;refine ak (VT.o _) ?_;exact aei):S:=h
namespace bM
def pR(f:dz):Bool:=decide (70000<f.2.2.length)||decide (200<f.1.length)
def jd(fs:List dz):Nat:=(fs.map λf=>f.2.2.length).sum
def BP(m:dz)(fs:List dz):Bool:=pR m||decide (20<fs.length)||fs.any pR||decide (100000<m.2.2.length+jd fs)
theorem auN(p:PF)(w:G):aM 34 #[iU p] w (av (pR p.f)):=by
 have e3:(w.alloc (J #[N (str p.nm),H p.dir,E p.a p.bs p.c] 24)).cell? w=some (N (str p.nm)):=BJ w [N (str p.nm),H p.dir,E p.a p.bs p.c] _ 0 _ rfl;have cY:(w.alloc (J #[N (str p.nm),H p.dir,E p.a p.bs p.c] 24)).cell? ⟨w,2,none⟩=some (E p.a p.bs p.c):=BJ w [N (str p.nm),H p.dir,E p.a p.bs p.c] _ 2 _ rfl;have D:=(O w).alloc (J #[N (str p.nm),H p.dir,E p.a p.bs p.c] 24);unfold iU pR;show Calls _ _ _ _ λe F=>e=aI (av (decide (70000<p.bs.length)||decide (200<p.nm.length)))/\Ext w F
 have ci:=Vo p.nm;have aK:decide ((70000:Int)<p.bs)=decide (70000<p.bs.length):=by rw[dW,wJ,wJ];omega
 have aV:decide ((200:Int)<p.nm)=decide (200<p.nm.length):=by rw[dW,wJ,wJ];omega
 cases h1:decide (70000<p.bs.length)<;>cases h2:decide (200<p.nm.length)
 all_goals
  rw[h1]at aK;rw[h2]at aV;have q5:=z D;go_in;go_wp;go_ret;exact⟨rfl,q5.o⟩
def ML{l:List dz}{k:Nat}(h:k<l):jd (l.take (k+1))=jd (l.take k)+l[k].2.2.length:=by unfold jd;rw[List.take_add_one,dK h,fQ,List.sum_append];simp
def ael:∀(l:List dz),(∀f∈l,pR f=false)->jd l<=70000*l.length
 | [],_=>by simp[jd]
 |f::l,h=>by have h1:=ael l (λg hg=>h g (vv _ hg));have h2:=h f ay;unfold pR at h2;simp only[BI,decide_eq_false_iff_not]at h2;unfold jd at *;rw[fK,List.sum_cons,dJ];omega
theorem Mt(m:PF)(v:K)(ap:List PF)(aMk:ap.length<=maxLen)(w:G)(hv:aS w 3 qJ v ap):aM 16 #[iU m,v] w (av (BP m.f (ap.map PF.f))):=by
 have hq:=auN;obtain⟨a,c,rfl,ep,bV⟩:=FU hv;obtain⟨r,hr⟩:∃r,r=BP m.f (ap.map PF.f):=⟨_,rfl⟩;rw[<-hr];have ft:=bA w (J #[N (str m.nm),H m.dir,E m.a m.bs m.c] 24);have Q:Ext w (w.alloc (J #[N (str m.nm),H m.dir,E m.a m.bs m.c] 24)):=(O _).alloc _;have bF:=z Q;have rm:=z ft;clear Q hv ft;have yd:=λW=>hq m W
 unfold iU at hq yd⊢;have hX:(ap.map PF.f).length=ap.length:=dL _;have cQ:r=(pR m.f||decide (20<ap.length)||(ap.map PF.f).any pR||decide (100000<m.bs.length+jd (ap.map PF.f))):=by rw[hr];unfold BP;rw[hX];rfl
 clear hr;cases R:pR m.f
 case true=>rw[R]at cQ yd;simp only[Bool.true_or]at cQ;exact aej
 rw[R]at cQ yd;by_cases aem:20<ap.length
 ·have aK:decide ((20:Int)<ap)=true:=dH aE;rw[dH aem]at cQ;simp only[Bool.or_true,Bool.true_or]at cQ;exact aej
 have aK:decide ((20:Int)<ap)=false:=dM aE;rw[dM aem]at cQ;simp only[Bool.false_or]at cQ;have Ft:m.bs.length<=70000:=by unfold pR at R;simp only[BI,decide_eq_false_iff_not]at R;have h1:¬70000<m.bs.length:=R.1;omega
 have rB:=z cQ;have BE:=λk=>ael ((ap.map PF.f).take k)
 have g0:=λk (h:k<(ap.map PF.f).length)=>ML h
 have w1:=λk (h:k<(ap.map PF.f).length)=>List.take_add_one (l:=ap.map PF.f) (i:=k)
 clear cQ R;have aek:=z hq;have VT:=z yd;clear hq yd;have k4:=z bV;have aen:=z hX;clear bV hX;have auO:=z BE;have K':=z g0;have VU:=z w1;clear BE g0 w1;unfold aM;go_in;go_wp2_with fail;refine ak (VT.o _) ?_;intro aO ag;have ca:=z (bF.o.trans ag);have ck:=aJ rm.o ag;have fS:=aG ck 2;simp at fS;clear ag ck;go_wp2_with fail;go_loopw [5,6] (λn i wr=>∃k:Nat,k<=ap/\i=H k/\n=H ((m.bs.length+jd ((ap.map PF.f).take k):Nat):Int)/\Ext w wr/\∀f∈(ap.map PF.f).take k,pR f=false) (λ_ i _=>ap.length-(intOf i).toNat)
 case atStart=>exact⟨0,aE,rfl,by simp[jd],ca.o,ay⟩
 case round=>
  obtain⟨k,hk,rfl,rfl,D,hp⟩:=hrel;have aT:=z D;have nF:=z hp;have V:=auO.o k hp;rw[gV]at V;clear D hp;by_cases ad:k<ap
  ·obtain⟨b,o,rfl,c0,c1,c2⟩:=k4.o k ad;replace c0:=aT.o.cell c0;replace c1:=aT.o.cell c1;replace c2:=aT.o.cell c2;have Ak:k<(ap.map PF.f).length:=by rw[aen.o];exact ad
   have ab:=K'.o k Ak;rw[rQ]at ab;have bY:=z ab;have qe:ap[k].f∈ap.map PF.f:=iJ.2 ⟨_,eB ad,rfl⟩;have ya:∀f∈(ap.map PF.f).take (k+1),f∈(ap.map PF.f).take k\/f=ap[k].f:=λf ai=>by rw[VU.o k Ak,dK Ak,iZ,rQ]at ai;simpa using ai
   have auP:=z qe;have VV:=z ya;clear ab qe ya;have Qs:=aek.o ap[k];have VA:=z Qs;clear Qs;generalize ap[k]=p at *;generalize jd ((ap.map PF.f).take k)=g5 at *;go_wp2_with fail;refine ak (VA.o _) ?_;intro bj a';replace c2:=a'.cell c2;have cL:=z (aT.o.trans a');clear a' c0 c1;cases L0:pR p.f
   ·have nS:p.bs.length<=70000:=by have h:=L0;unfold pR at h;simp only[BI,decide_eq_false_iff_not]at h;have h1:¬70000<p.bs.length:=h.1;omega
    have L1:g5<=70000*20:=aE;have auQ:=z L0;clear L0;go_wp2_with fail;go_roundw
    case rel=>
     refine⟨k+1,aE,cZ,?_,cL.o,λf ai=> ?_⟩
     ·rw[bY.o];show Value.int .i64 _=_;congr 1;show _=((m.bs.length+(g5+p.bs.length):Nat):Int);omega
     ·rcases VV.o f ai with h|rfl
      ·exact nF.o f h
      ·exact auQ.o
    case measure=>exact eO
   ·have w2:r=true:=by rw[rB.o,List.any_eq_true.2 ⟨p.f,auP.o,L0⟩,Bool.true_or]
    subst w2;clear L0;go_wp2_with fail;go_ret;exact⟨rfl,cL.o⟩
  ·obtain rfl:k=ap.length:=aE;have fi:(ap.map PF.f).take ap.length=ap.map PF.f:=by rw[<-aen.o,iR]
   rw[fi]at nF;rw[fi];have w2:r=decide (100000<m.bs.length+jd (ap.map PF.f)):=by
    rw[rB.o];have:(ap.map PF.f).any pR=false:=by
     rw[List.any_eq_false];intro f ai;rw[nF.o f ai]
     decide
    rw[this,Bool.false_or]
   have VW:decide ((100000:Int)<m.bs+(jd (ap.map PF.f):Int))=decide (100000<m.bs.length+jd (ap.map PF.f)):=by rw[dW,wJ,wJ];omega
   rw[<-w2]at VW;clear fi w2;generalize jd (ap.map PF.f)=g5 at *;exact FH
end bM
end Go.Proofs.YtopfefhenfineaaGreat
