import Derived.Test.YtopfefhenfineaaGreatP4
import Derived.Lib.SmallJoins
import Derived.Sort.MapsRangeIn
import Derived.Sort.KeysCollected
import Derived.RangeFuncMany
import Derived.RegionIn
import Derived.Shelf.SlSortCmp.NoneTotal
import Derived.Lib.OwnBridge
import Derived.Maps.OwnSet
set_option linter.all false
set_option maxRecDepth 100000
set_option maxHeartbeats 4000000
namespace Go.Proofs.YtopfefhenfineaaGreat
open Go.Proofs.Tryz Go.RowKit V
attribute[local go_sem] Oper.semAt_some Option.isSome_some
namespace gZ
variable{a w w':ay}{b t:Nat}{cs:Array aA}{x y z:Bool}
def aG(h:w.heap[b]?=some (.cells cs t (0,0)))(i:Nat):w.cell? ⟨b,i,none⟩=cs[i]?:=by simp[World.cell?,h]
def aI(h:w.heap[b]?=some (.cells cs t (0,0)))(hx:Ext w w'):w'.heap[b]?=some (.cells cs t (0,0)):=(hx.block (aB.1 h).1).trans h
structure PF where
 nm:List aZ
 dir:Int
 bs:List aZ
 a:Option Addr
 c:Nat
instance:Inhabited PF:=⟨⟨[],0,[],none,0⟩⟩
def PF.v(p:PF):aA:= .slice p.a p.bs p.c
def PF.f(p:PF):Fl:=(p.nm,p.dir,p.bs)
def qy(p:PF):List aA:= [.string (str p.nm),.int .i64 p.dir,p.v]
def Du(p:PF):(qy p).length=3:=rfl
def adz(p:PF):∀u∈qy p,u.oneCell'=true:=by intro u hu;simp[qy,PF.v]at hu;exact se
def fV(p:PF):aA:= .agg #[.string (str p.nm),.int .i64 p.dir,.slice p.a p.bs p.c]
def Good(w:ay)(p:PF):Prop:=Rd w 1 m9 p.v p.bs
def Good.ext(h:Ext a w){p:PF}(hp:Good a p):Good w p:=Rd.ext h hp
def qI(w:ay)(base:Nat)(p:PF):Prop:=w.ownsRow base 5 1 p.v p.bs (p.bs.flatMap m9)
def qI.good{base:Nat}{p:PF}(h:qI w base p):Good w p:=bY Dv h
theorem ahA:(Tryz.prog.info? 24).map (λi=>(i.zero,i.size,i.bytes))=some (some (.agg #[.string ⟨#[]⟩,.int .i64 0,.slice none 0 0]),3,48):=ax
theorem ano:(Tryz.prog.info? 5).map (λi=>(i.zero,i.size,i.bytes))=some (some (.int .u8 0),1,1):=ax
def ug{v:aA}{ps:List PF}(h:Rd w 3 qy v ps):∃a c,v= .slice a ps c/\ps.length<=c/\∀i,(hi:i<ps.length)->∃b o,a=some ⟨b,o,none⟩/\w.cell? ⟨b,o+i*3,none⟩=some (.string (str (ps[i]).nm))/\w.cell? ⟨b,o+i*3+1,none⟩=some (.int .i64 (ps[i]).dir)/\w.cell? ⟨b,o+i*3+2,none⟩=some (.slice (ps[i]).a (ps[i]).bs.length (ps[i]).c):=by obtain⟨a,c,h1,h2,h3,h4⟩:=h;refine⟨a,c,h1,h2,λi hi=> ?_⟩;obtain⟨b,o,e,k⟩:=h4 i hi;exact⟨b,o,e,k 0 (by simp[qy]),k 1 (by simp[qy]),k 2 (by simp[qy])⟩
def acg(c:aZ):F6 c=(!(decide ((c.toNat:Int)<33)||decide ((126:Int)<c.toNat)||((c.toNat:Int)==47))):=by
 have h3:(c==47)=((c.toNat:Int)==47):=by
  rw[bB];simp only[fU];constructor
  ·rintro rfl;rfl
  ·intro h;exact UInt8.toNat_inj.1 (by show c.toNat=47;omega)
 unfold F6;rw[h3];rw[bB];simp;omega
def agP(h:true= !(x||y||z)):x=false/\y=false/\z=false:=by cases x<;>cases y<;>cases z<;>simp_all
def adW(h:false= !(x||y||z)):x=true\/(x=false/\(y=true\/(y=false/\z=true))):=by cases x<;>cases y<;>cases z<;>simp_all
theorem oD(s:aK)(hs:s.size<=maxLen)(w:ay):Rt 114 #[.string s] w (.bool (tq (bytes s))):=by
 have hcv:=λW=>Ja W s
 unfold maxLen at hs;have hS:=λW=>Tryz.strings_HasSuffix s ⟨#[46,99,111,110,102]⟩ W aq
 obtain⟨r,hr⟩:∃r,r=tq (bytes s):=⟨_,rfl⟩;rw[<-hr];have hbl:=eD s;have hr2:r=(decide (6<=s.size)&&decide (s.size<=60)&&Lib.hasSuffix (bytes s) [46,99,111,110,102]&&(bytes s).all F6):=by rw[hr];unfold tq;rw[hbl]
 rw[show s.data.toList=bytes s from rfl,show(⟨#[46,99,111,110,102]⟩:aK).data.toList=[46,99,111,110,102]from rfl]at hS;clear hr;have hrd:=λW cap hc fr=>Hl W s cap hc fr
 generalize bytes s=l at *;generalize Lib.hasSuffix l [46,99,111,110,102]=sf at *;have HhS:=ah hS;have ata:=ah hrd;have HBL:=ah hbl;clear hS hrd hbl;by_cases h6:s.size<6
 ·have:r=false:=by rw[hr2];simp;omega
  subst this;clear hr2;have e1:decide ((s:Int)<6)=true:=aQ aq;unfold Rt;go_in;exact oc
 have e1:decide ((s:Int)<6)=false:=aT aq;by_cases h60:60<s.size
 ·have:r=false:=by rw[hr2];simp;omega
  subst this;clear hr2;have e2:decide ((60:Int)<s)=true:=aQ aq;unfold Rt;go_in;exact oc
 have e2:decide ((60:Int)<s)=false:=aT aq;have e6:decide (6<=s.size)=true:=aQ aq;have e60:decide (s.size<=60)=true:=aQ aq;rw[e6,e60]at hr2;clear e6 e60;cases sf
 ·have:r=false:=by rw[hr2];rfl
  subst this;clear hr2;unfold Rt;go_in;go_wp2_with fail;refine ap (HhS.o _) ?_;rintro w1 rfl;exact oc
 have hra:r=l.all F6:=by rw[hr2];rfl
 have HRA:=ah hra;clear hr2 hra;unfold Rt;go_in;go_wp2_with fail;refine ap (HhS.o _) ?_;rintro w1 rfl;go_wp2_with fail;have anJ:Rd ((w1.alloc (.cells (bytesRow s (grownCap w1 s.size 0 5)) 5 ((bytesRow s (grownCap w1 s.size 0 5)).size,(bytesRow s (grownCap w1 s.size 0 5)).size+1))).drew) 1 m9 (.slice (some w1) s.size (grownCap w1 s.size 0 5)) l:=ata.o w1 _ (grownCap_ge _ _ _ _) _;have hx0:Ext w1 ((w1.alloc (.cells (bytesRow s (grownCap w1 s.size 0 5)) 5 ((bytesRow s (grownCap w1 s.size 0 5)).size,(bytesRow s (grownCap w1 s.size 0 5)).size+1))).drew):=((aj _).alloc _).drew;generalize(w1.alloc (.cells (bytesRow s (grownCap w1 s.size 0 5)) 5 ((bytesRow s (grownCap w1 s.size 0 5)).size,(bytesRow s (grownCap w1 s.size 0 5)).size+1))).drew=W0 at *;generalize grownCap w1 s.size 0 5=cap at *;obtain⟨ab,cb,hvb,hcb,hab⟩:=CQ anJ;simp only[aU]at hvb;obtain⟨rfl,hln,rfl⟩:=hvb;have N1:=ah hx0;have HAB:=ah hab;clear hx0 anJ hab hcb hcv;go_loopw [4,21] (λ_ i wr=>∃k:Nat,k<=l/\i= .int .i64 k/\Ext W0 wr/\l.all F6=(l.drop k).all F6) (λ_ i _=>l.length-(intOf i).toNat)
 case atStart=>exact kf
 case round=>
  obtain⟨k,hk,rfl,hx,heq⟩:=hrel;have HX:=ah hx;have HE:=ah heq;clear hx heq;by_cases hlt:k<l
  ·obtain⟨b,o,JK,hcell⟩:=HAB.o k hlt;simp only[dw,gD,and_true]at JK;obtain⟨rfl,rfl⟩:=JK;have hc2:=HX.o.cell hcell;have hst:l.drop k=l[k]::l.drop (k+1):=bJ hlt;have HST:=ah hst;have hm:=acg l[k];have ayU:l[k].toNat<256:=l[k].toNat_lt;simp only[cO]at hc2;clear hcell hst;have hks:(k:Int)<s.size:=by rw[<-HBL.o];omega
   have hall:r=(F6 l[k]&&(l.drop (k+1)).all F6):=by rw[HRA.o,HE.o,HST.o,List.all_cons]
   have alJ:=ah hall;have HM:=ah hm;clear hall hm;generalize l[k]=c at *;by_cases hgood:F6 c=true
   ·have h3:=HM.o;rw[hgood]at h3;have h4:decide ((c.toNat:Int)<33)=false/\decide ((126:Int)<c.toNat)=false/\((c.toNat:Int)==47)=false:=agP h3;obtain⟨q1,q2,q3⟩:=h4;clear h3;go_wp2_with fail;go_roundw
    case rel=>exact⟨k+1,aq,bm,HX.o,by rw[HE.o,HST.o,List.all_cons,hgood,iP]⟩
    case measure=>exact gO
   ·have h3:=HM.o;have hb:F6 c=false:=by cases h:F6 c<;>simp_all
    rw[hb]at h3;have hr0:r=false:=by rw[alJ.o,hb,Bool.false_and]
    subst hr0;have h4:decide ((c.toNat:Int)<33)=true\/(decide ((c.toNat:Int)<33)=false/\(decide ((126:Int)<c.toNat)=true\/(decide ((126:Int)<c.toNat)=false/\((c.toNat:Int)==47)=true))):=adW h3;clear h3 hb hgood;rcases h4 with q1|⟨q1,q2|⟨q2,q3⟩⟩
    all_goals
     go_wp2_with fail;go_ret;exact⟨rfl,N1.o.trans HX.o⟩
  ·obtain rfl:k=l.length:=aq;have hr1:r=true:=by rw[HRA.o,HE.o,dQ];rfl
   subst hr1;have hks:¬((l:Int)<s.size):=by rw[<-HBL.o];omega
   go_wp2_with fail;go_ret;exact⟨rfl,N1.o.trans HX.o⟩
def Cb(l:List aZ):bytes (str l)=l:=by simp[bytes]
def Ee(l:List aZ):(str l).size=l.length:=by simp[ByteArray.size]
theorem Md(p:PF)(hn:p.nm.length<=maxLen)(w:ay):Rt 113 #[fV p] w (.bool (!tq p.nm)):=by
 have hM:=λW=>oD (str p.nm) (by rw[Ee];exact hn) W
 rw[Cb]at hM;have m0:=aG (aC w (.cells #[.string (str p.nm),.int .i64 p.dir,.slice p.a p.bs p.c] 24)) 0;have hx1:Ext w (w.alloc (.cells #[.string (str p.nm),.int .i64 p.dir,.slice p.a p.bs p.c] 24)):=(aj _).alloc _;have gK:=ah hx1;unfold fV;simp at m0;have Jz:=ah hM;clear hM hx1;unfold Rt;go_in;go_wp2_with fail;refine ap (Jz.o _) ?_;intro w1 hx;go_wp2_with fail;go_ret;exact⟨rfl,gK.o.trans hx⟩
def A6:List PF->Nat->Int
 | [],_=> -1
 |p::r,k=>if tq p.nm=true then A6 r (k+1)else(k:Int)
def QA:∀(l:List PF)(k:Nat),(l.map PF.f).all (λf=>tq f.1)=true->A6 l k= -1
 | [],_,_=>rfl
 |p::r,k,h=>by rw[bS,List.all_cons,bA]at h;unfold A6;rw[aV (show tq p.nm=true from h.1)];exact QA r (k+1) h.2
def EF:∀(l:List PF)(k:Nat),(l.map PF.f).all (λf=>tq f.1)=false->∃i,∃h:i<l.length,A6 l k=((k+i:Nat):Int)/\(l.map PF.f).find? (λf=> !tq f.1)=some l[i].f
 | [],k,h=>by cases h
 |p::r,k,h=>by
  rw[bS,List.all_cons]at h;unfold A6;rw[bS,List.find?_cons];have e:p.f.1=p.nm:=rfl;rw[e]at h⊢;cases hm:tq p.nm
  ·rw[aN aE];exact⟨0,aE,rfl,rfl⟩
  ·rw[aV rfl];rw[hm,iP]at h;obtain⟨i,hi,h1,h2⟩:=EF r (k+1) h;exact⟨i+1,by simp;omega,by rw[h1];congr 1;omega,h2⟩
theorem Gg(v:aA)(ps:List PF)(hl:ps.length<=1000000)(hn:∀p∈ps,p.nm.length<=maxLen)(w:ay)(hv:Rd w 3 qy v ps):Rt 112 #[v,.func (.func 113) #[] #[]] w (.int .i64 (A6 ps 0)):=by
 have hW:=λp (hp:p∈ps) W=>Md p (hn p hp) W
 obtain⟨a,c,rfl,hac,hca⟩:=ug hv;clear hv;unfold fV at hW;have Sl:=ah hW;have rz:=ah hca;clear hW hca;unfold Rt;go_in;go_wp2_with fail;go_loopw [5,8] (λ_ i wr=>∃k:Nat,k<=ps/\i= .int .i64 k/\Ext w wr/\A6 ps 0=A6 (ps.drop k) k) (λ_ i _=>ps.length-(intOf i).toNat)
 case atStart=>exact kf
 case round=>
  obtain⟨k,hk,rfl,hx,heq⟩:=hrel;have HX:=ah hx;have HE:=ah heq;clear hx heq;by_cases hlt:k<ps
  ·obtain⟨b,o,rfl,c0,c1,c2⟩:=rz.o k hlt;replace c0:=HX.o.cell c0;replace c1:=HX.o.cell c1;replace c2:=HX.o.cell c2;have hst:ps.drop k=ps[k]::ps.drop (k+1):=bJ hlt;have HST:=ah hst;have hWk:=Sl.o ps[k] (aW hlt);have KI:=ah hWk;clear hst hWk;generalize ps[k]=p at *;go_wp2_with fail;refine ap (KI.o _) ?_;intro w1 hx1;have gK:=ah (HX.o.trans hx1);clear hx1 c0 c1 c2;cases hm:tq p.nm
   ·have hs:A6 ps 0=(k:Int):=by rw[HE.o,HST.o];unfold A6;rw[hm];rfl
    have HS:=ah hs;clear hs;go_wp2_with fail;go_ret;rw[HS.o];exact⟨rfl,gK.o⟩
   ·have hs:A6 ps 0=A6 (ps.drop (k+1)) (k+1):=by rw[HE.o,HST.o];conv=>lhs;unfold A6;rw[hm];simp
    have HS:=ah hs;clear hs;go_wp2_with fail;go_roundw
    case rel=>exact⟨k+1,aq,bm,gK.o,HS.o⟩
    case measure=>exact gO
  ·obtain rfl:k=ps.length:=aq;have hs:A6 ps 0= -1:=by rw[HE.o,dQ];rfl
   have HS:=ah hs;clear hs;exact pd
theorem Bf(v:aA)(ps:List PF)(hl:ps.length<=1000000)(hn:∀p∈ps,p.nm.length<=maxLen)(w:ay)(hv:Rd w 3 qy v ps):Rt 69 #[v] w (.int .i64 (A6 ps 0)):=by have hI:=Gg v ps hl hn w hv;have AZ:=ah hI;clear hI;generalize A6 ps 0=r at *;unfold Rt;go_in;go_wp2_with fail;refine ap AZ.o ?_;intro w1 hx;go_wp2_with fail;go_ret;exact⟨rfl,hx⟩
end gZ
variable{zP:Prop}
def dC(h:zP:=by show w.heap.size<_;omega):zP:=h
namespace gZ
variable{W W':ay}{b b' e k n:Nat}
def zF{u:aA}{z:List aA}(h:W.ownsRow b e n u k z)(hx:Ext W W'):W'.ownsRow b e n u k z:=
 fO (S:=λb=>b<W.heap.size) h (Keep.of_below hx (λ_ h=>h)) (λb hb=>(h.lt b hb).2)
def qI.ext{base:Nat}{p:PF}(h:qI W base p)(hx:Ext W W'):qI W' base p:=zF h hx
def qI.base{p:PF}(h:qI W b p)(hb:b'<=b):qI W b' p:=kK h hb
theorem Uz(W:ay):(binOp .eql 22 (.slice none 0 0) (.slice none 0 0)).run prog W= .ok (.bool true) W:=by rfl
theorem Uy(W:ay)(p:Addr)(n c:Nat):(binOp .eql 22 (.slice (some p) n c) (.slice none 0 0)).run prog W= .ok (.bool false) W:=by rfl
theorem vE(a:Option Addr)(c:Nat)(bs:List aZ)(hl:bs.length<=1000000)(w:ay)(hv:Rd w 1 m9 (.slice a bs c) bs):Calls prog 157 #[.slice a bs c] w λe w'=>∃a' c',e= .returned (.slice a' bs c')/\Ext w w'/\w'.ownsRow w 5 1 (.slice a' bs c') bs (bs.flatMap m9):=by
 cases a with
 |none=>obtain⟨a1,c1,e1,h1,h2,h3⟩:=hv;simp only[aU,true_and]at e1;obtain⟨rfl,rfl⟩:=e1;obtain rfl:=h2 rfl;have hb:bs=[]:=bG aq;subst hb;simp only[bD,List.flatMap_nil]at *;go_in;have hn:=Uz;exact ul
 |some p=>
  have hn:=λW=>Uy W p bs c
  have HV:=ah hv;have HB0:=ah (jJ Dv w ([]:List aZ) 5 w w rfl (aD _) cz);clear hv;go_in
  go_wp2_with(at_builtin
              refine jH rfl (.tmp 5) (.tmp 6) _ rfl underlying22 ano rfl az Dv adB w _ _ [] bs rfl rfl HB0.o (HV.o.ext ((aj w).alloc _)) bp az ((aj w).alloc _) ?_;intro EN EJ w5 lM hx5;have EY:=ah lM;have kM:=ah hx5;clear lM hx5)
  exact uv
theorem qz(p:PF)(hl:p.bs.length<=1000000)(w:ay)(hv:Good w p):Calls prog 106 #[fV p] w λe w'=>∃q:PF,e= .returned (fV q)/\q.f=p.f/\qI w' w q/\Ext w w':=by
 have hC:=λW (hx:Ext w W)=>vE p.a p.c p.bs hl W (hv.ext hx)
 have hnew:=aC w (.cells #[.string (str p.nm),.int .i64 p.dir,.slice p.a p.bs p.c] 24);obtain⟨W1,hW1⟩:∃W1,W1=w.alloc (.cells #[.string (str p.nm),.int .i64 p.dir,.slice p.a p.bs p.c] 24):=⟨_,rfl⟩;have hx1:Ext w W1:=by rw[hW1];exact(aj _).alloc _
 have hs1:W1.heap.size=w+1:=by rw[hW1];simp
 rw[<-hW1]at hnew;have hnew2:=aC W1 (.cells #[.string ⟨#[]⟩,.int .i64 0,.slice none 0 0] 24);obtain⟨W2,hW2⟩:∃W2,W2=W1.alloc (.cells #[.string ⟨#[]⟩,.int .i64 0,.slice none 0 0] 24):=⟨_,rfl⟩;have hx2:Ext W1 W2:=by rw[hW2];exact(aj _).alloc _
 rw[<-hW2,hs1]at hnew2;replace hnew:=aI hnew hx2;have c0:=aG hnew 0;have c1:=aG hnew 1;have c2:=aG hnew 2;simp at c0 c1 c2;have HW1:=ah hW1;have HW2:=ah hW2;have A9:=ah hs1;have jm:=ah (hx1.trans hx2);have N6:=ah hnew;have HN2:=ah hnew2;clear hW1 hW2 hs1 hx1 hx2 hnew hnew2 hv;unfold fV;have yN:=ah hC;clear hC;go_in;go_upto_region 1 with fail;rw[<-HW1.o,<-HW2.o];have hcc:=c2;go_wp2_with fail;refine(yN.o _ jm.o).mono ?_;rintro e w3 ⟨a',c',rfl,hx3,ho3⟩;have kg:=ah hx3;have HO3:=ah ho3;replace c0:=hx3.cell c0;replace c1:=hx3.cell c1;have hb1:=aI N6.o hx3;have hb2:=aI HN2.o hx3;have HB1:=ah hb1;have HB2:=ah hb2;clear c2 hcc ho3 hb1 hb2;have c2:=aG HB1.o 2;have d0:=aG HB2.o 0;have d1:=aG HB2.o 1;have d2:=aG HB2.o 2;simp at c2 d0 d1 d2;have f0:w3.frozen? ⟨w+1,0,none⟩=false:=by simp[World.frozen?,HB2.o]
 have f1:w3.frozen? ⟨w+1,1,none⟩=false:=by simp[World.frozen?,HB2.o]
 have f2:w3.frozen? ⟨w+1,2,none⟩=false:=by simp[World.frozen?,HB2.o]
 have f3:w3.frozen? ⟨w,2,none⟩=false:=by simp[World.frozen?,HB1.o]
 go_wp2_with fail;have hs2:W2.heap.size=w+2:=by rw[HW2.o,aR,A9.o]
 have rY:=HO3.o;rw[hs2]at rY;have hbl:((((w3.setCell ⟨w,2,none⟩ (.slice a' p.bs c')).setCell ⟨w+1,0,none⟩ (.string (str p.nm))).setCell ⟨w+1,1,none⟩ (.int .i64 p.dir)).setCell ⟨w+1,2,none⟩ (.slice a' p.bs c')).heap[w.heap.size+1]?=some (.cells #[.string (str p.nm),.int .i64 p.dir,.slice a' p.bs c'] 24 (0,0)):=
  Go.Joins.block_setCell (Go.Joins.block_setCell (Go.Joins.block_setCell ((heap_setCell_other w3 ⟨w,2,none⟩ (w+1) _ aE).trans HB2.o) _) _) _
 have wI:Ext w ((((w3.setCell ⟨w,2,none⟩ (.slice a' p.bs c')).setCell ⟨w+1,0,none⟩ (.string (str p.nm))).setCell ⟨w+1,1,none⟩ (.int .i64 p.dir)).setCell ⟨w+1,2,none⟩ (.slice a' p.bs c')):=
  ((((jm.o.trans kg.o).setCell (p:=⟨w,2,none⟩) aE _).setCell (p:=⟨w+1,0,none⟩) aE _).setCell (p:=⟨w+1,1,none⟩) aE _).setCell (p:=⟨w+1,2,none⟩) aE _
 have hoo:((((w3.setCell ⟨w,2,none⟩ (.slice a' p.bs c')).setCell ⟨w+1,0,none⟩ (.string (str p.nm))).setCell ⟨w+1,1,none⟩ (.int .i64 p.dir)).setCell ⟨w+1,2,none⟩ (.slice a' p.bs c')).ownsRow (w+2) 5 1 (.slice a' p.bs c') p.bs (p.bs.flatMap m9):=
  ownsRow_setCell_below (ownsRow_setCell_below (ownsRow_setCell_below (ownsRow_setCell_below rY dC _) da _) da _) da _
 exact aM (v:= .agg #[.string (str p.nm),.int .i64 p.dir,.slice a' p.bs c']) (dV results106 _ _ _ _ _ _ _ rfl hbl underlying24 rfl ax) rfl ⟨⟨p.nm,p.dir,p.bs,a',c'⟩,rfl,rfl,kK hoo aq,wI⟩
end gZ
def li(h:zP:=by generalize str a=sa at *;generalize str b=sb at *;have JQ:=ah hN;clear hN;go_in;go_wp2_with fail;refine ap (JQ.o _ _) ?_;rintro w1 rfl;go_wp2_with fail;refine ap (JQ.o _ _) ?_;rintro w1 rfl;exact im):zP:=h
namespace gZ
def pK(a b:List aZ):Int:=if lt a b=true then-1 else if lt b a=true then 1 else 0
def GZ(l:List aZ):(str l).toList=l:=by rw[Lib.toList_data]
theorem uY(s:aK)(w:ay):Calls prog 161 #[.string s] w λe w'=>e= .returned (.bool false)/\w'=w:=lr
theorem KO(a b:List aZ)(w:ay):Calls prog 111 #[.string (str a),.string (str b)] w λe w'=>e= .returned (.int .i64 (pK a b))/\w'=w:=by
 have hN:=λs=>uY s
 have ta:=GZ a;have tb:=GZ b;unfold pK;cases h1:lt a b
 ·rw[aN aE];have h1':Op.bytesLess a b=false:=h1;cases h2:lt b a
  ·rw[aN aE];have hab:(a==b)=true:=by rw[acp h1 h2];simp
   exact li
  ·rw[aV rfl];have hab:(a==b)=false:=by rw[bK];rintro rfl;rw[Ij]at h2;cases h2
   exact li
 ·rw[aV rfl];have h1':Op.bytesLess a b=true:=h1;exact li
theorem aah(p q:PF)(w:ay):Calls prog 110 #[fV p,fV q] w λe w'=>e= .returned (.int .i64 (pK p.nm q.nm))/\w'=(w.alloc (.cells #[.string (str p.nm),.int .i64 p.dir,.slice p.a p.bs p.c] 24)).alloc (.cells #[.string (str q.nm),.int .i64 q.dir,.slice q.a q.bs q.c] 24):=by
 have hC:=λW=>KO p.nm q.nm W
 generalize pK p.nm q.nm=r at *;unfold fV;have m0:((w.alloc (.cells #[.string (str p.nm),.int .i64 p.dir,.slice p.a p.bs p.c] 24)).alloc (.cells #[.string (str q.nm),.int .i64 q.dir,.slice q.a q.bs q.c] 24)).cell? w=some (.string (str p.nm)):=by have:=aG (aI (aC w (.cells #[.string (str p.nm),.int .i64 p.dir,.slice p.a p.bs p.c] 24)) ((aj _).alloc (.cells #[.string (str q.nm),.int .i64 q.dir,.slice q.a q.bs q.c] 24))) 0;rw[this];rfl
 have yN:=ah hC;clear hC;go_in;go_wp2_with fail;refine ap (yN.o _) ?_;rintro w1 rfl;exact im
end gZ
open Go.Maps Go.Sort Go.Shelf
namespace gZ
structure FR where
 nm:List aZ
 dir:Int
 a:Option Addr
 n:Nat
 c:Nat
instance:Inhabited FR:=⟨⟨[],0,none,0,0⟩⟩
def encR(r:FR):List aA:= [.string (str r.nm),.int .i64 r.dir,.slice r.a r.n r.c]
def rV(r:FR):aA:= .agg #[.string (str r.nm),.int .i64 r.dir,.slice r.a r.n r.c]
def PF.r(p:PF):FR:=⟨p.nm,p.dir,p.a,p.bs.length,p.c⟩
def RF(v:aA):Option (DataW aA×List MemPlace):=
 match v with
 | .agg ⟨[.string _,.int .i64 _,.slice _ _ _]⟩=>some (.held v,[])
 |_=>none
def ad4(r:FR):RF (rV r)=some (.held (rV r),[]):=rfl
def Vq{v:aA}{y:DataW aA×List MemPlace}(h:RF v=some y):∃r:FR,v=rV r/\y=(.held (rV r),[]):=by
 unfold RF at h;split at h
 ·rename_i s d a n c;refine⟨⟨s.data.toList,d,a,n,c⟩,?_,?_⟩
  ·simp[rV]
  ·simp only[dw]at h;rw[<-h];simp[rV]
 ·cases h
def ahh(D0:DataW aA)(xs:List FR):Prop:= ∃ps:List (List aZ×FR),(ps.map (·.1)).Nodup/\(∀x,x∈ps.map (·.1)↔has D0 (.string x)=true)/\(∀p∈ps,∀zd,D0.atKey (.string p.1) zd= .held (rV p.2))/\xs=ps.map (·.2)/\ps.length<=Maps.size D0
theorem abh(l Bm b nn:Nat)(D0:DataW aA)(J Jx:List FR->ay->Prop)(hY:∀pre x W,J pre W->pre.length<Maps.size D0->YieldAt Fence.wide (3-1) prog l #[rV x] W λe W'=>(e= .returned (.bool true)/\J (pre++[x]) W'/\KeepsWalks W W')\/(e= .returned (.bool false)/\Jx (pre++[x]) W'))(W:ay)(hJ:AbidesFrom W J)(hm:W.cell? Bm=some (.map (some b)))(hown:W.ownsMap prog 9 RF b nn D0)(h0:J [] W):CallsIn Fence.wide 3 prog 159 #[.func (.yield l) #[] #[],.pointer (some Bm)] W λe W'=>(∃v,e= .returned v)/\((∃xs,ahh D0 xs/\J xs W')\/(∃pre,True/\Jx pre W')):=by
 refine kX func159 rfl trivial ?_ rfl;simp only[ntmps159,bW,aO,bD,Nat.reduceAdd,Nat.reduceSub,dU,dS,fq,dZ,dA,dh];gi_wp2_with(first
  |(gi_at_range;refine wpListIn_range_own _ rfl _ 194 rfl 9 24 (string_keyed underlying9) underlying194 _ b nn _ rfl hown ?_;intro w0 hrg0 hg0 hs0)
  |gi_in)
 go_frame;gi_loopw [4] (λ_ wr=>∃(left:Lit->Bool) (cnt:Nat) (ps:List (List aZ×FR)),wr.ranges prog 9 RF b W nn D0 left cnt/\ps.length+cnt<=Maps.size D0/\Collected D0 left (ps.map (·.1))/\(∀p∈ps,∀zd,D0.atKey (.string p.1) zd= .held (rV p.2))/\J (ps.map (·.2)) wr)
  (λ_ wr=>wr.rangeLeft b W)
 case atStart=>exact⟨_,_,[],hrg0,aE,Collected.start D0,aE,hJ [] W w0 none h0 hg0 (λr e=>by cases e)⟩
 case round=>
  obtain⟨left,cnt,ps,hrg,hcs,hC,hV,hJs⟩:=hrel;gi_wp2_with(first
   |(gi_at_next;refine wpListIn_next_ranges _ rfl _ rfl 9 (string_keyed underlying9) RF encStr rV (λkey kl hk=>by obtain⟨x,hx,_⟩:=Maps.keyOf_str underlying9 hk;exact⟨x,hx⟩) (λv y hv=>by obtain⟨c,rfl,_⟩:=Vq hv;exact⟨c,rfl⟩) b W nn _ _ _ rfl hrg ?_ ?_)
   |gi_in)
  ·intro hc0 hl0;gi_wp2;go_end0;exact⟨⟨_,rfl⟩,.inl ⟨_,⟨ps,hC.1,λx=>by rw[hC.2 x,hl0];simp,hV,rfl,aq⟩,hJs⟩⟩
  ·intro x c kl yd yp w2 cnt2 hkey hlk hv hat hrg2 hlt hg2 hs2 hen;obtain⟨x',ex,rfl,_⟩:=Maps.keyOf_str underlying9 hkey;obtain rfl:x=x':=encStr_inj ex;obtain⟨c',ec,ez⟩:=Vq hv;obtain rfl:yd= .held (rV c):=by rw[ec];exact(Prod.mk.inj ez).1
   have hJ2:J (ps.map (·.2)) w2:=hJ _ wr w2 (some W.heap.size) hJs hg2 (λr e=>by cases e;exact⟨aD _,hrg.iter_walk⟩);have hJ3:J (ps.map (·.2)) (w2.alloc (.cells #[.string (str c.nm),.int .i64 c.dir,.slice c.a c.n c.c] 24)):=hJ _ w2 _ none hJ2 (World.grownBy_alloc w2 _ none) (λr e=>by cases e);have hrg3:=hrg2.alloc (.cells #[.string (str c.nm),.int .i64 c.dir,.slice c.a c.n c.c] 24);obtain⟨fn,tmps,assign,body,hy,hR⟩:=hY (ps.map (·.2)) c _ hJ3 bp;have HR:=ah hR;clear hs2 hR;unfold rV at hen hy;gi_wp2;refine HR.o.mono ?_;have hC2:Collected D0 (λz=>left z&& !z.sameKey (.string x)) ((ps++[(x,c)]).map (·.1)):=by simpa using hC.step hlk hat
   have hV2:∀p∈ps++[(x,c)],∀zd,D0.atKey (.string p.1) zd= .held (rV p.2):=λp hp=>(dJ.1 hp).elim (hV p) (λe=>by simp at e;subst e;exact hat)
   rintro e W3 (⟨rfl,hJ4,hk3⟩|⟨rfl,hJx3⟩)
   ·gi_wp2;have anG:=hrg3.of_walks hk3;go_roundw
    case rel=>exact⟨_,cnt2,ps++[(x,c)],anG,by simp;omega,hC2,hV2,by simpa using hJ4⟩
    case measure=>rw[anG.left_eq,hrg.left_eq];exact hlt
   ·exact nh
theorem Tc(Bm b nn:Nat)(D0:DataW aA)(w:ay)(hBm:Bm<w.heap.size)(hm:w.cell? Bm=some (.map (some b)))(hown:w.ownsMap prog 9 RF b nn D0):SeqStopsK Fence.wide 3 prog 159 #[.pointer (some Bm)] (λx:FR=> #[rV x]) KeepsWalks (ahh D0) (λ_=>True) (Maps.size D0) w:=λl J Jx W hW hJ _ hY h0=>by
 have hown':W.ownsMap prog 9 RF b nn D0:=by have hbl:=hown.lt;obtain⟨es,clock,hb,Ft,hs,hD⟩:=hown;exact⟨es,clock,(hW.block b hbl).trans hb,Ft,hs,hD⟩
 exact abh l Bm b nn D0 J Jx hY W hJ ((hW.cell (p:=⟨Bm,0,none⟩) hBm).trans hm) hown' h0
theorem NW(mb:Option Nat)(w:ay):Calls prog 108 #[.map mb] w λe w'=>e= .returned (.func (.func 159) #[] #[.pointer (some w)])/\w'=w.alloc (.cells #[.map mb] 194):=by go_in;exact im
def I9(r:FR):(encR r).length=3:=rfl
def Q5(r:FR):∀u∈encR r,u.oneCell'=true:=by intro u hu;simp[encR]at hu;exact se
def acH{W W':ay}(h:KeepsOthers W W'):KeepsWalks W W':=⟨h.size,λk o hk ho=>h.same k o hk (by cases o<;>simp_all[Obj.isWalk,Obj.isCells])⟩
def Fh{W W':ay}{base e n k:Nat}{u:aA}{z:List aA}{row:Option Nat}(h:W.ownsRow base e n u k z)(hg:W.grownBy W' row)(hr:∀r,row=some r->∃o:Obj,W.heap[r]?=some o/\o.isCells=false):W'.ownsRow base e n u k z:=by
 refine World.ownsRow.kept h hg ?_;rcases h.2 with⟨rfl,_⟩|⟨g,cap,cur,rfl,_,hgb,_⟩
 ·exact vq
 ·refine .inr λe'=> ?_
  obtain⟨o,ho,hc⟩:=hr g (by simpa[Value.ownBlock]using e'.symm);rw[hgb]at ho;cases ho
  cases hc
theorem Gl(gf:Nat)(lb:Array aA)(S:List FR->Prop)(Sp:List FR->Prop)(N:Nat)(hN:N<=1000000)(w:ay)(hgf:∀args w,(callFunc gf args).run prog w= .ok (.enter gf args) w)(hseq:SeqStopsK Fence.wide 3 prog gf lb (λx:FR=> #[rV x]) KeepsWalks S Sp N w):Calls prog 158 #[.slice none 0 0,.func (.func gf) #[] lb] w λe w'=>∃u xs,e= .returned u/\S xs/\Ext w w'/\w'.ownsRow w 24 3 u xs.length (xs.flatMap encR):=by
 refine(bM (n:=4)).1 ?_;refine callsIn_of_wp_marks func158 rfl trivial ?_ rfl;simp only[ntmps158,bW,aO,bD,Nat.reduceAdd,Nat.reduceSub,dU,dS,fq,dZ,dA,dh];gi_wp2;have h1:1<=4:=aq;have bO:=Boxed.new w 25 (.slice none 0 0);have hE0:Ext w (w.alloc (.cells #[.slice none 0 0] 25)):=(aj w).alloc _;have hsz0:(w.alloc (.cells #[.slice none 0 0] 25)).heap.size=w.heap.size+1:=aE;obtain⟨W0,hW0⟩:∃W0,(w.alloc (.cells #[.slice none 0 0] 25))=W0:=⟨_,rfl⟩;rw[hW0]at bO hE0 hsz0⊢;clear hW0;refine wpIn_rangeFunc_ownH (w0:=w) rfl h1 (gf:=gf) (lb:=lb) rfl trivial hgf hseq walksK_t walksK_b hE0 (λ_=>rfl)
  (λpre W=>(∃u,Boxed W w 25 u/\W.ownsRow w 24 3 u pre.length (pre.flatMap encR))/\Below w w W)
  (λ_ _ _=>False)
  (OwnFrom.and (Own.from (λs A B row hs hg hr=> ?hI1) _) (ownFrom_below (aD _) aq))
  (λ_ _ _ _ _ hs _ _=>hs)
  ⟨⟨_,bO,dB _ _ _ _⟩,hE0⟩
  (λx a' W=>∃Bx,w.heap.size<Bx/\W.heap[Bx]?=some (.cells #[.string (str x.nm),.int .i64 x.dir,.slice x.a x.n x.c] 24 (0,0))/\
   a'= {tmps:= #[.slice none 0 0,.func (.func gf) #[] lb,.pointer (some w),undef,.slice none 0 0,.pointer (some Bx),.func (.func gf) #[] lb,.agg #[.string (str x.nm),.int .i64 x.dir,.slice x.a x.n x.c],undef,undef,undef,undef,undef],defers:= []})
  (λx a' _ X Y row hs hg hr=> ?hI2)
  ?assign ?body ?done ?stop
 case hI1=>obtain⟨u,hb,ho⟩:=hs;exact⟨u,boxed_own _ _ (λ(_:Unit)=>u) () A B row hb hg hr,Fh ho hg hr⟩
 case hI2=>exact nj
 case assign=>rintro l pre x W K ⟨⟨u,bu,ou⟩,hB⟩ hK;unfold rV;gi_wp2;exact hK _ _ ((KeepsOthers.alloc _ _).from _) (KeepsWalks.alloc _ _) ⟨⟨u,bu.alloc _,ou.alloc _⟩,hB.alloc hB.size _⟩ ⟨W.heap.size,bu.lt,aC W _,rfl⟩
 case body=>
  rintro l pre x a' W hl ⟨r,hr⟩ ⟨⟨u,bu,ou⟩,hB⟩ ⟨Bx,hBx,bX,rfl⟩ hlt;have cu:=bu.cell;have fu:=bu.frozen;have x0:=aG bX 0;have x1:=aG bX 1;have x2:=aG bX 2;simp at x0 x1 x2;obtain⟨i0,hi,hz0,hz1,hz2⟩:=jo ahA;have HBU:=ah bu;have HOU:=ah ou;have KJ:=ah hB;have hwz:=hB.size;clear bu ou hB bX hr;gi_wp2_with(first
   |(gi_at_builtin
     refine wpListIn_append_own _ rfl _ _ 25 rfl w.heap.size 24 i0 (.agg #[.string ⟨#[]⟩,.int .i64 0,.slice none 0 0]) 3 48 underlying25 hi hz0 hz1 hz2 rfl az _ pre (pre.flatMap encR) rfl (HOU.o.alloc _) W 1 1 (encR x) rfl rfl (yc _ _ _ _ aE) (Q5 _) cH aq bp ?_;intro u' w1 hown' hg' _;obtain⟨g',cap',rfl⟩:=ownsRow_succ hown';obtain⟨k1,k2,k3,k4,k5⟩:=HBU.o.appended az HOU.o aq (aD _) hown' hg';have c1:=k1.cell;have f1:=k1.frozen;have K2:=ah k2;have K3:=ah k3;have K4:=ah k4;have K5:=ah k5;clear k1 k2 k3 k4 k5 hown' hg';go_frame)
   |gi_in)
  refine⟨K4.o.from _,acH K4.o,⟨_,K2.o,?_⟩,KJ.o.trans K5.o⟩;rw[aH,iN,iO,List.flatMap_singleton];exact K3.o
 case done=>rintro D ys W hD hys ⟨⟨u,bu,ou⟩,hB⟩ hK;have cu:=bu.cell;gi_wp2;refine⟨aE,.inl ⟨_,_,rfl,run_takeDeferred hK,?_⟩⟩;exact⟨_,results_tmp rfl _ _ _,u,ys,rfl,hys,hB.trans (belowK_b (w:=w) (aD _) W D _ _ aq hK rfl rfl),Fh ou (grownBy_putObj' _ D (.deferred none)) (λr e=>by cases e;exact⟨_,hK,rfl⟩)⟩
 case stop=>exact mx
theorem KQ(gf:Nat)(lb:Array aA)(S:List FR->Prop)(Sp:List FR->Prop)(N:Nat)(hN:N<=1000000)(w:ay)(hgf:∀args w,(callFunc gf args).run prog w= .ok (.enter gf args) w)(hseq:SeqStopsK Fence.wide 3 prog gf lb (λx:FR=> #[rV x]) KeepsWalks S Sp N w):Calls prog 107 #[.func (.func gf) #[] lb] w λe w'=>∃u xs,e= .returned u/\S xs/\Ext w w'/\w'.ownsRow w 24 3 u xs.length (xs.flatMap encR):=by have hA:=Gl gf lb S Sp N hN w hgf hseq;have pQ:=ah hA;clear hA hseq hgf;go_in;go_wp2_with fail;refine pQ.o.mono ?_;rintro e w1 ⟨u,xs,rfl,h1,h2,h3⟩;have H1:=ah h1;have H2:=ah h2;have H3:=ah h3;clear h1 h2 h3;go_wp2_with fail;go_ret;exact⟨u,xs,rfl,H1.o,H2.o,H3.o⟩
end gZ
def vi(h:zP:=by rw[show d'.extract 0 (x::r).toArray.size=d' by rw[<-p1];simp]at p3;simpa using p3):zP:=h
def oY(h:zP:=by
 rw[gH,aV hj,Array.getElem?_toList,Array.getElem?_toList,e2]at e1;simp only[World.cell?,hg,cO,VQ,iI,if_false];rw[e1,getElem!_pos _ j ep]
 rfl):zP:=h
def ep(h:zP:=by rw[size_flatK];exact hj):zP:=h
namespace gZ
variable{cap e g k q:Nat}{w:ay}{α:Type}{enc:α->List aA}
def aai(x y:FR):Int:=pK x.nm y.nm
def AJ(x y:FR):ltOf aai x y=lt x.nm y.nm:=by
 unfold ltOf aai pK;cases h:lt x.nm y.nm
 ·rw[aN aE];split<;>rfl
 ·rfl
def abp:SWO (ltOf aai)where
 irrefl x:=by rw[AJ];exact Ij _
 trans x y z h k:=by rw[AJ]at *;exact lt_trans h k
 ntrans x y z h k:=by
  rw[AJ]at *;cases e:lt x.nm z.nm
  ·rfl
  ·by_cases q:x.nm=y.nm
   ·rw[q]at e;rw[e]at k;cases k
   ·have:=lt_trans (acq h q) e;rw[this]at k;cases k
def B5[Inhabited α](hk:∀x,(enc x).length=k)(k0:0<k)(ys:List α):(flatK enc k ys.toArray).toList=ys.flatMap enc:=by
 apply List.ext_getElem?;intro t;rw[Array.getElem?_toList];by_cases h:t<ys.length*k
 ·have hd:t/k<ys.length:=Nat.div_lt_of_lt_mul (by rw[Nat.mul_comm];exact h);have hm:t%k<k:=Nat.mod_lt _ k0;rw[dL (by rw[size_flatK];exact h),<-getElem!_pos (flatK enc k ys.toArray) t (by rw[size_flatK];exact h),get_flatK _ _ _ _ h];have hg:=flat_get hk ys (t/k) (t%k) hd hm;rw[show t/k*k+t%k=t by rw[Nat.mul_comm];exact Nat.div_add_mod t k]at hg;rw[hg,aJ (by rw[hk];exact hm)]
  congr 1
  rw[getElem!_pos ys.toArray (t/k) hd];rw[getElem!_pos _ _ (by rw[List.getElem_toArray,hk];exact hm)];simp
 ·rw[jG (by rw[size_flatK];exact Nat.le_of_not_lt h),List.getElem?_eq_none (by rw[mK hk];exact Nat.le_of_not_lt h)]
def take_putCells(F cur:Array aA)(h:F.size<=cur.size):(putCells id 0 F cur).toList.take F.size=F.toList:=by
 apply List.ext_getElem?;intro j;rw[gH,Array.getElem?_toList,Array.getElem?_toList];by_cases hj:j<F.size
 ·rw[aV hj];unfold putCells;rw[Array.getElem?_mapIdx,dL aq,dN,aV ⟨aq,aq⟩,dL hj,getElem!_pos F (j-0) aq]
  rfl
 ·rw[aN hj,jG aq]
def Hw[Inhabited α](hk:∀x,(enc x).length=k)(k0:0<k){base:Nat}{xs ys:List α}{os:Array Obj}(h:w.ownsRow base e k (.slice (some g) xs cap) xs (xs.flatMap enc))(hy:ys.length=xs):(sortWorldK enc k w g 0 q ys.toArray os).ownsRow base e k (.slice (some g) xs cap) xs (ys.flatMap enc)/\Below base w (sortWorldK enc k w g 0 q ys.toArray os):=by
 rcases h.2 with⟨e0,_⟩|⟨g',cap',cur,e0,hb,hg,hn,hm,hs,ht⟩
 ·cases e0
 ·injection e0 with e1 _ e3
  injection e1 with e1
  injection e1 with e1
  subst e1;subst e3;have hFs:(flatK enc k ys.toArray).size=xs.length*k:=by rw[size_flatK,bW,hy]
  have hp:(putRow id (Sort.ahead w q) g 0 (flatK enc k ys.toArray)).heap[g]?=some (.cells (putCells id 0 (flatK enc k ys.toArray) cur) e (0,0)):=by simp[putRow,mapBlock,Sort.ahead,Array.getElem?_modify,hg,onCells]
  have hlt:=(aB.1 hp).1;have hB:Below base w (putRow id (Sort.ahead w q) g 0 (flatK enc k ys.toArray)):=Lib.below_putRow ⟨rfl,rfl,rfl,aD _,λ_ _=>rfl⟩ hb;refine⟨⟨by rw[mK hk,hy],.inr ⟨g,cap,putCells id 0 (flatK enc k ys.toArray) cur,rfl,hb,?_,hn,hm,?_,?_⟩⟩,?_⟩
  ·unfold sortWorldK putRowK grow;show(_++os)[g]?=_;rw[Array.getElem?_append_left hlt];exact hp
  ·rw[<-hs];unfold putCells;rw[Array.size_mapIdx]
  ·rw[<-hFs,take_putCells _ _ (by rw[hFs,hs];exact eY _ hn),B5 hk k0]
  ·unfold sortWorldK putRowK grow;exact⟨hB.os,hB.tape,hB.output,by have:=hB.size;show _<=(_++os).size;rw[Array.size_append];omega,λj hj=>by
    show(_++os)[j]?=_;have hbl:base<=w.heap.size:=by have:=(aB.1 hg).1;omega
    rw[Array.getElem?_append_left (by have:=hB.size;omega)];exact hB.block j hj⟩
def ZE{base:Nat}{xs:List FR}(h:w.ownsRow base e 3 (.slice (some g) xs cap) xs (xs.flatMap encR)):HoldsK encR 3 w g 0 xs.toArray/\g<w.heap.size:=by
 rcases h.2 with⟨e0,_⟩|⟨g',cap',cur,e0,hb,hg,hn,hm,hs,ht⟩
 ·cases e0
 ·injection e0 with e1 _ e3
  injection e1 with e1
  injection e1 with e1
  subst e1;subst e3;refine⟨λj hj=> ?_,(aB.1 hg).1⟩;rw[size_flatK,bW]at hj;refine⟨?_,by simp[World.frozen?,hg]⟩;have hF:=B5 I9 az xs;have e1:(cur.toList.take (xs.length*3))[j]?=(flatK encR 3 xs.toArray).toList[j]?:=by rw[hF,ht]
  have e2:(flatK encR 3 xs.toArray)[j]?=some ((flatK encR 3 xs.toArray)[j]' ep):=dL _;exact oY
theorem U8(x y:FR)(w:ay):Calls prog 110 #[rV x,rV y] w λe w'=>e= .returned (.int .i64 (aai x y))/\w'=(w.alloc (.cells #[.string (str x.nm),.int .i64 x.dir,.slice x.a x.n x.c] 24)).alloc (.cells #[.string (str y.nm),.int .i64 y.dir,.slice y.a y.n y.c] 24):=by have h:=aah ⟨x.nm,x.dir,List.replicate x.n 0,x.a,x.c⟩ ⟨y.nm,y.dir,List.replicate y.n 0,y.a,y.c⟩ w;unfold fV at h;simp only[gV]at h;exact h
theorem adJ(g size:Nat)(w:ay):CmpLays prog 110 #[] encR 3 aai g 0 size w:=by
 intro m os dk hdk x y;refine(U8 x y _).mono ?_;rintro e w' ⟨he,rfl⟩;refine⟨he,0,#[.cells #[.string (str x.nm),.int .i64 x.dir,.slice x.a x.n x.c] 24 (0,0),.cells #[.string (str y.nm),.int .i64 y.dir,.slice y.a y.n y.c] 24 (0,0)],?_⟩;rw[alloc_eq_grow,alloc_eq_grow,grow_grow]
 rfl
theorem Vo(u:aA)(xs:List FR)(base:Nat)(w:ay)(hl:xs.length<=1000000)(ho:w.ownsRow base 24 3 u xs (xs.flatMap encR)):Calls prog 109 #[u,.func (.func 110) #[] #[]] w λe w'=>e= .returned (.tuple #[])/\∃ys:List FR,ys.Perm xs/\ys.Pairwise (λa b=>lt b.nm a.nm=false)/\w'.ownsRow base 24 3 u ys (ys.flatMap encR)/\Below base w w':=by
 cases xs with
 |nil=>obtain⟨a,c,rfl⟩:=bU ho;refine(AnyF.slices_SortFunc_none {Tryz.laysSort with} a c (.func (.func 110) #[] #[]) w).mono ?_;rintro e w' ⟨he,rfl⟩;exact⟨he,[],List.Perm.refl _,List.Pairwise.nil,ho,⟨rfl,rfl,rfl,aD _,λ_ _=>rfl⟩⟩
 |cons x r=>
  obtain⟨g,cap,rfl⟩:=ownsRow_succ ho;obtain⟨hH,hg⟩:=ZE ho;have hS:=AnyQ.slices_SortFunc Tryz.laysSort 3 Tryz.isAgg24 Tryz.sizeOf24 encR I9 Q5 aai abp 110 #[] g 0 cap (x::r).toArray w (enters_of func110 ax rfl) (adJ g _ w) hH hg (by simp at hl⊢;omega);refine hS.mono ?_;rintro e w' ⟨he,d',n,os,hp,hs,rfl⟩;obtain⟨p1,p2,p3⟩:=hp;have hsz:d'.toList.length=(x::r).length:=by rw[Array.length_toList,p1];simp
  have hd:d'=d'.toList.toArray:=aE;rw[hd];obtain⟨k1,k2⟩:=Hw I9 az (q:=n) (os:=os) ho hsz;refine⟨he,d'.toList,?_,?_,by rw[hsz];exact k1,k2⟩
  ·exact vi
  ·rw[i9];intro i j hi hj hij;rw[Array.length_toList]at hi hj;have:=hs i j (bP _) hij (by rw[<-p1];exact hj);rw[AJ,getElem!_pos d' j hj,getElem!_pos d' i hi]at this;exact sd
end gZ
def fg(h:zP:=by first|exact jm.o.drew|exact jm.o|exact jm.o.drewN _):zP:=h
def eW(h:zP:=by first|exact(aj _).drew|exact aj _|exact(aj _).drewN _):zP:=h
namespace gZ
variable{D:DataW aA}{W W' w w3 w9:ay}{b cl e k n:Nat}{fs l:List Fl}
structure yJ(p:PF):Prop where
 n:p.nm.length<=maxLen
 b:p.bs.length<=1000000
def agY(D:DataW aA)(mr:List aZ->Option PF):Prop:= ∀x,has D (.string x)=(mr x).isSome/\∀q,mr x=some q->∀zd,D.atKey (.string x) zd= .held (rV q.r)
theorem uW(s:List aZ)(h:s.length<=maxLen):keyOf prog 9 (.string (str s))=some (.string s):=by unfold keyOf mapKey;rw[underlying9];simp[ByteArray.size,h]
def PE{base:Nat}{u:aA}{z:List aA}{es:Array MapEntry}(h:W.ownsRow base e n u k z)(hb:W.heap[b]?=some (.map es cl)):u.ownBlock=none\/u.ownBlock≠some b:=by
 rcases h.2 with⟨rfl,_⟩|⟨g,cap,cur,rfl,_,hgb,_⟩
 ·exact vq
 ·refine .inr λe'=> ?_
  have:g=b:=by simpa[Value.ownBlock]using e'
  subst this;rw[hgb]at hb;cases hb
theorem Lf{mr:List aZ->Option PF}{p q3:PF}{M:Obj}(hx3:Ext w w3)(hown3:w3.ownsMap prog 9 RF b k D)(hmr:agY D mr)(hmk:KF fs k (λx=>(mr x).map PF.f))(hob:∀x q,mr x=some q->qI w3 w q)(hq:q3.f=p.f)(hoq:qI w3 w q3)(hfk:fs[k]?=some p.f)(hn:p.nm.length<=maxLen)(hd:∀q,mr p.nm=some q->p.dir<q.dir)(zS:w9.ownsMap prog 9 RF b (k+1) (D.put (.string p.nm) (.held (rV q3.r))))(hg:w3.grownBy w9 (some b))(hwb:w.heap.size<b)(hbx:w3.heap[w.heap.size]?=some M):∃(D':DataW aA)(mr':List aZ->Option PF),Ext w w9/\w9.ownsMap prog 9 RF b (k+1) D'/\agY D' mr'/\KF fs (k+1) (λx=>(mr' x).map PF.f)/\(∀x q,mr' x=some q->qI w9 w q)/\w9.heap[w.heap.size]?=some M:=by
 have aoe:=(string_keyed (P:=prog) underlying9).key (uW p.nm hn);have aod:=hown3.isMap;have hkept:∀q,qI w3 w q->qI w9 w q:=λq h=>by
  obtain⟨es,cl,hb,-⟩:=hown3;refine World.ownsRow.kept h hg ?_;rcases PE h hb with e|e
  ·exact .inl e
  ·exact .inr e
 refine⟨_,λx=>if x=p.nm then some q3 else mr x,hx3.grown hg (λj e=>by cases e;omega),zS,λx=> ?_,?_,λx q h=> ?_,(hg.block _ (aB.1 hbx).1 (λe=>by cases e;omega)).trans hbx⟩
 ·dsimp only;by_cases e:x=p.nm
  ·rw[e];refine⟨by rw[has_put_same aod aoe,aV rfl];rfl,λq h zd=> ?_⟩;rw[aV rfl]at h;obtain rfl:=bV h;exact atKey_put_same aod aoe _ _
  ·have hne:(Lit.string x)≠ .string p.nm:=λh=>e (by injection h)
   refine⟨by rw[has_put_other hne,aN e];exact(hmr x).1,λq h zd=> ?_⟩;rw[aN e]at h;rw[atKey_put_other hne];exact(hmr x).2 q h zd
 ·have h:=af2 hmk hfk (λg hg=>by
   have hg':(mr p.nm).map PF.f=some g:=hg;cases hm:mr p.nm with
   |none=>rw[hm]at hg';cases hg'
   |some q=>rw[hm]at hg';obtain rfl:=bV hg';exact hd q hm)
  have he:(λx=>if x=p.f.1 then some p.f else(mr x).map PF.f)=λx=>(if x=p.nm then some q3 else mr x).map PF.f:=by
   funext x
   show(if x=p.nm then some p.f else _)=_;by_cases e:x=p.nm
   ·rw[aV e,aV e,<-hq];rfl
   ·rw[aN e,aN e]
  rw[he]at h;exact h
 ·dsimp only at h;by_cases e:x=p.nm
  ·rw[aV e]at h;obtain rfl:=bV h;exact hkept _ hoq
  ·rw[aN e]at h;exact hkept _ (hob x q h)
theorem nM(h:W.ownsMap prog 9 RF b k D)(hx:Ext W W'):W'.ownsMap prog 9 RF b k D:=by have hl:=h.lt;obtain⟨es,cl,hb,r⟩:=h;exact⟨es,cl,(hx.block hl).trans hb,r⟩
def aiQ{r s:FR}(h:rV r=rV s):r=s:=by
 obtain⟨n1,d1,a1,k1,c1⟩:=r;obtain⟨n2,d2,a2,k2,c2⟩:=s;simp[rV]at h;obtain⟨rfl,rfl,rfl,rfl,rfl⟩:=h
 rfl
def La{P:PF->Prop}:∀(ys:List FR),(∀y∈ys,∃q:PF,P q/\q.r=y)->∃qs:List PF,qs.map PF.r=ys/\∀q∈qs,P q
 | [],_=>⟨[],rfl,aE⟩
 |y::r,h=>by
  obtain⟨q,hq,e⟩:=h y aE;obtain⟨qs,h1,h2⟩:=La r (λz hz=>h z (gM _ hz));refine⟨q::qs,by rw[bS,e,h1],λz hz=> ?_⟩;rcases dF.1 hz with rfl|hz
  ·exact hq
  ·exact h2 z hz
def YU{mr:List aZ->Option PF}{xs ys:List FR}(hmr:agY D mr)(hmk:KF fs fs (λx=>(mr x).map PF.f))(hall:ahh D xs)(hp:ys.Perm xs)(hs:ys.Pairwise (λa b=>lt b.nm a.nm=false)):∃qs:List PF,qs.map PF.r=ys/\qs.map PF.f=uh fs/\∀q∈qs,mr q.nm=some q:=by
 obtain⟨ks,k1,k2,k3,rfl,-⟩:=hall;have hval:∀p∈ks,∃q,mr p.1=some q/\q.r=p.2/\q.nm=p.1:=λp hp=>by
  have h1:=(k2 p.1).1 (dW.2 ⟨p,hp,rfl⟩);rw[(hmr p.1).1]at h1;obtain⟨q,hq⟩:=Option.isSome_iff_exists.1 h1;have h2:=(hmr p.1).2 q hq (.lit (.bool true));rw[k3 p hp]at h2
  injection h2 with h2
  have h3:=hmk p.1;dsimp only at h3;rw[hq]at h3;exact⟨q,hq,(aiQ h2).symm,h3.1⟩
 obtain⟨qs,q1,q2⟩:=La (P:=λq=>mr q.nm=some q) ys (λy hy=>by obtain⟨p,hp',rfl⟩:=dW.1 (hp.mem_iff.1 hy);obtain⟨q,h1,h2,h3⟩:=hval p hp';exact⟨q,by show mr q.nm=some q;rw[h3];exact h1,h2⟩)
 have hnm:(ks.map (·.2)).map FR.nm=ks.map (·.1):=by
  rw[List.map_map];apply List.map_congr_left;intro p hp';obtain⟨q,h1,h2,h3⟩:=hval p hp';show p.2.nm=p.1;rw[<-h2,<-h3]
  rfl
 have hnd:ys.Pairwise (λa b=>a.nm≠b.nm):=by have h1:(ys.map FR.nm).Nodup:=((hp.map FR.nm).nodup_iff).2 (by rw[hnm];exact k1);rw[List.Nodup,List.pairwise_map]at h1;exact h1
 have hsrt:Srt (qs.map PF.f):=by have h1:ys.Pairwise (λa b=>lt a.nm b.nm=true):=(hs.and hnd).imp (λ{a b} h=>acq h.1 (λe=>h.2 e.symm));rw[<-q1,List.pairwise_map]at h1;unfold Srt;rw[List.pairwise_map];exact h1
 refine⟨qs,q1,afI (af3 hmk hsrt (λf=> ?_)),q2⟩;constructor
 ·intro hf;obtain⟨q,hq,rfl⟩:=dW.1 hf;show(mr q.nm).map PF.f=some q.f;rw[q2 q hq]
  rfl
 ·intro h;have h':(mr f.1).map PF.f=some f:=h;cases hm:mr f.1 with
  |none=>rw[hm]at h';cases h'
  |some q=>
   rw[hm]at h';have hqf:q.f=f:=bV h';have hh:has D (.string f.1)=true:=by rw[(hmr f.1).1,hm];rfl
   obtain⟨p,hp',e⟩:=dW.1 ((k2 f.1).2 hh);obtain⟨z,z1,z2,z3⟩:=hval p hp';rw[e,hm]at z1;obtain rfl:=bV z1;have hy:q.r∈ys:=hp.mem_iff.2 (by rw[z2];exact dW.2 ⟨p,hp',rfl⟩);rw[<-q1]at hy;obtain⟨q',hq',e'⟩:=dW.1 hy;have hn:q'.nm=q.nm:=congrArg FR.nm e';have:=q2 q' hq';rw[hn,z3,e,hm]at this;obtain rfl:=bV this;exact dW.2 ⟨q,hq',hqf⟩
def adA(qs:List PF):(qs.map PF.r).flatMap encR=qs.flatMap qy:=by rw[List.flatMap_map];rfl
theorem RN(m:PF)(v:aA)(ps:List PF)(hl:ps.length<=1000000)(hom:yJ m)(hop:∀p∈ps,yJ p)(w:ay)(hgm:Good w m)(hv:Rd w 3 qy v ps)(hg:∀p∈ps,Good w p):Calls prog 68 #[fV m,v] w λe w'=>∃(u:aA)(qs:List PF),e= .returned (.tuple #[u,.int .i64 (wz (ps.map PF.f):Nat)])/\qs.map PF.f=xH m.f (ps.map PF.f)/\Ext w w'/\w'.ownsRow w 24 3 u qs (qs.flatMap qy)/\∀q∈qs,qI w' w q:=by
 obtain⟨a,c,rfl,hac,hca⟩:=ug hv;have hW:=λW (hx:Ext w W)=>Bf _ ps hl (λp hp=>(hop p hp).n) W (hv.ext hx)
 have hx1:Ext w (w.alloc (.cells #[.string (str m.nm),.int .i64 m.dir,.slice m.a m.bs m.c] 24)):=(aj _).alloc _;have gK:=ah hx1;clear hx1 hv;unfold fV;by_cases h16:16<ps.length
 ·have hE:wz (ps.map PF.f)=4:=by unfold wz;rw[aS,aV h16]
  have hO:xH m.f (ps.map PF.f)=[]:=by unfold xH;rw[aN (by rw[hE];decide)]
  rw[hE,hO];have e1:decide ((16:Int)<ps)=true:=aQ aq;clear hE hO hop hg;have Sl:=ah hW;have rz:=ah hca;clear hW hca;go_in;go_wp2_with fail;go_ret2;exact⟨_,[],rfl,rfl,gK.o,dB _ _ _ _,aE⟩
 have e1:decide ((16:Int)<ps)=false:=aT aq;by_cases II:(ps.map PF.f).all (λf=>tq f.1)=false
 ·have hE:wz (ps.map PF.f)=140:=by unfold wz;rw[aS,aN h16,aN (by rw[II];decide)]
  have hO:xH m.f (ps.map PF.f)=[]:=by unfold xH;rw[aN (by rw[hE];decide)]
  rw[hE,hO];obtain⟨i,hi,hix,-⟩:=EF ps 0 II;rw[hix]at hW;clear hE hO II hix hop hg;have Sl:=ah hW;have rz:=ah hca;clear hW hca;go_in;go_wp2_with fail;refine ap (Sl.o _ gK.o) ?_;intro w1 hx;have HX:=ah (gK.o.trans hx);clear hx;go_wp2_with fail;go_ret2;exact⟨_,[],rfl,rfl,HX.o,dB _ _ _ _,aE⟩
 have hall:(ps.map PF.f).all (λf=>tq f.1)=true:=by cases h:(ps.map PF.f).all (λf=>tq f.1)<;>simp_all
 have hE:wz (ps.map PF.f)=0:=by unfold wz;rw[aS,aN h16,aV hall]
 have hO:xH m.f (ps.map PF.f)=m.f::uh (ps.map PF.f):=by unfold xH;rw[aV hE]
 rw[hE,hO];rw[QA ps 0 hall]at hW;clear hE hO hall II;have Sl:=ah hW;have rz:=ah hca;clear hW hca;have ate:=ah hop;have Hhg:=ah hg;clear hop hg;have atu:=ah hgm;have atf:=ah hom;clear hgm hom;go_in;go_wp2_with fail;refine ap (Sl.o _ gK.o) ?_;intro w1 hx;have hmk:∀W,(Instr.makeMap 194 none).run prog W= .ok (.map (some W.heap.size)) (W.alloc (.map #[] 0)):=λ_=>rfl
 have hbm:w1.heap[w.heap.size]?=some (.cells #[.string (str m.nm),.int .i64 m.dir,.slice m.a m.bs m.c] 24 (0,0)):=aI (aC w _) hx;have hsz1:w.heap.size<w1:=by have:=hx.size;simp at this;omega
 have hxm:Ext w (w1.alloc (.map #[] 0)):=(gK.o.trans hx).alloc _;have agz:=(aj w1).alloc (.map #[] 0);replace agz:=aI hbm agz;have hown0:=World.ownsMap_made w1 prog 9 RF;have HXM:=ah hxm;have HBM:=ah agz;have apT:=ah hown0;have aua:=ah hsz1;clear hx hxm hbm agz hown0 hsz1;go_wp2_with fail;have hb0:=aua.o;generalize w1.heap.size=b at *;generalize hw0:w1.alloc (.map #[] 0)=W0 at *;clear hw0;go_loopw [23] (λi wr=>∃(k:Nat) (D:DataW aA) (mr:List aZ->Option PF),k<=ps/\i= .int .i64 k/\Ext w wr/\wr.ownsMap prog 9 RF b k D/\agY D mr/\KF (ps.map PF.f) k (λx=>(mr x).map PF.f)/\(∀x q,mr x=some q->qI wr w q)/\wr.heap[w.heap.size]?=some (.cells #[.string (str m.nm),.int .i64 m.dir,.slice m.a m.bs m.c] 24 (0,0))) (λi _=>ps.length-(intOf i).toNat)
 case atStart=>exact⟨0,.map [],λ_=>none,aq,rfl,HXM.o,apT.o,λx=>⟨rfl,λq h=>eL⟩,Zj _,λx q h=>eL,HBM.o⟩
 case round=>
  obtain⟨k,D,mr,hk,rfl,hx,hown,hmr,anZ,hob,hbx⟩:=hrel;have HX:=ah hx;have HOWN:=ah hown;have HMR:=ah hmr;have HMK:=ah anZ;have HOB:=ah hob;have yO:=ah hbx;clear hx hown hmr anZ hob hbx;by_cases hlt:k<ps
  ·obtain⟨b',o,rfl,c0,c1,c2⟩:=rz.o k hlt;replace c0:=HX.o.cell c0;replace c1:=HX.o.cell c1;replace c2:=HX.o.cell c2;have hfk:(ps.map PF.f)[k]?=some ps[k].f:=by rw[List.getElem?_map,aJ hlt];rfl
   have anP:=ate.o _ (aW hlt);have hgk:=Hhg.o _ (aW hlt);have HFK:=ah hfk;have aaP:=ah anP;have HGK:=ah hgk;clear hfk anP hgk;generalize ps[k]=p at *;obtain⟨W1,hW1⟩:∃W1,W1=wr.alloc (.cells #[.string (str p.nm),.int .i64 p.dir,.slice p.a p.bs p.c] 24):=⟨_,rfl⟩;have hn1:=aC wr (.cells #[.string (str p.nm),.int .i64 p.dir,.slice p.a p.bs p.c] 24);have hx1:Ext wr W1:=by rw[hW1];exact(aj _).alloc _
   have hs1:W1.heap.size=wr+1:=by rw[hW1];simp
   have hown1:=HOWN.o.alloc (.cells #[.string (str p.nm),.int .i64 p.dir,.slice p.a p.bs p.c] 24);rw[<-hW1]at hn1 hown1;have d0:=aG hn1 0;have d1:=aG hn1 1;have d2:=aG hn1 2;simp at d0 d1 d2;obtain⟨v,pls,IB,hRv⟩:=hown1.look_ok (string_keyed underlying9) underlying194 (Tryz.zeroValue24 W1) (ad4 ⟨[],0,none,0,0⟩) (uW p.nm aaP.o.n);obtain⟨r0,rfl,hr0⟩:=Vq hRv;have hhas:=(HMR.o p.nm).1;rw[hhas]at IB;have HHN:=ah hn1;have JA:=ah hx1;have aew:=ah hown1;have A9:=ah hs1;have HW1:=ah hW1;have HR0:=ah hr0;have XP:=ah hRv;have UH:=λW (hx:Ext w W)=>qz p aaP.o.b W (Good.ext hx HGK.o)
   unfold fV at UH;have ap5:=ah UH;clear hn1 hx1 hown1 hs1 hW1 hr0 hRv hhas UH;unfold rV at IB;go_upto_region 9 with fail;rw[<-HW1.o];cases hmp:mr p.nm with
   |none=>
    rw[hmp]at IB;simp only[VQ]at IB;go_upto_region 11 with fail;obtain⟨W2,hW2⟩:∃W2,W2=W1.alloc (.cells #[.string (str r0.nm),.int .i64 r0.dir,.slice r0.a r0.n r0.c] 24):=⟨_,rfl⟩;rw[<-hW2];have hx2:Ext W1 W2:=by rw[hW2];exact(aj _).alloc _
    have JB:=ah (nM aew.o hx2);have jm:=ah ((HX.o.trans JA.o).trans hx2);have VG:Hid (∀x q,mr x=some q->qI W2 w q):=ah (λx q h=>(HOB.o x q h).ext (JA.o.trans hx2));have EZ:=ah (aI yO.o (JA.o.trans hx2));replace d0:=hx2.cell d0;replace d1:=hx2.cell d1;replace d2:=hx2.cell d2;clear hx2 hW2 c0 c1 c2
    (go_region_law
     (go_simp
      refine(ap5.o _ fg).mono ?_;rintro e w3 ⟨q3,rfl,hq3,ho3,hx3⟩;have hxw:Ext W2 w3:=aag eW hx3;obtain⟨w9,hrun,zS,ac1⟩:=(nM JB.o hxw).update (string_keyed underlying9) underlying194 cH (uW p.nm aaP.o.n) (ad4 q3.r);have hrun':(Instr.mapUpdate 194 (.map (some b)) (.string (str p.nm)) (.agg #[.string (str q3.nm),.int .i64 q3.dir,.slice q3.a q3.bs q3.c])).run prog w3= .ok () w9:=hrun;have g0:=hxw.cell d0;have g1:=hxw.cell d1;have g2:=hxw.cell d2;have hsb:w.heap.size<=W2:=jm.o.size;have alv:=ah (Lf (jm.o.trans hxw) (nM JB.o hxw) HMR.o HMK.o (λx q h=>(VG.o x q h).ext hxw) hq3 (ho3.base (by first|exact hsb|(simp;omega))) HFK.o aaP.o.n (λq h=>by rw[hmp]at h;cases h) zS ac1 hb0 (aI EZ.o hxw));clear hrun zS ac1 hxw hx3 ho3 hq3))
    all_goals
     have hk9:k+1<=1000000:=aq;go_wp2_with fail;go_roundw
     case rel=>obtain⟨D',mr',r1,r2,r3,r4,r5,r6⟩:=alv.o;exact⟨k+1,D',mr',aq,bm,r1,r2,r3,r4,r5,r6⟩
     case measure=>simp[intOf];omega
   |some q=>
    rw[hmp]at IB;simp only[eu]at IB;have e0:rV r0=rV q.r:=by
     have h1:=HR0.o;have h2:=(HMR.o p.nm).2 q hmp (.held (rV ⟨[],0,none,0,0⟩));have h3:D.atKey (.string p.nm) (.held (rV ⟨[],0,none,0,0⟩))= .held (rV r0):=(Prod.mk.inj h1).1;rw[h2]at h3
     injection h3 with h3
     exact h3.symm
    have e0':Value.agg #[.string (str r0.nm),.int .i64 r0.dir,.slice r0.a r0.n r0.c]= .agg #[.string (str q.nm),.int .i64 q.dir,.slice q.a q.bs q.c]:=e0;rw[e0']at IB;clear e0 e0';have d1o:=λo=>((aj W1).alloc o).cell d1
    by_cases agx:p.dir<q.dir
    ·have aoi:decide (p.dir<q.dir)=true:=aQ agx;go_upto_region 11 with fail;obtain⟨W2,hW2⟩:∃W2,W2=W1.alloc (.cells #[.string (str q.nm),.int .i64 q.dir,.slice q.a q.bs q.c] 24):=⟨_,rfl⟩;rw[<-hW2];have hx2:Ext W1 W2:=by rw[hW2];exact(aj _).alloc _
     have JB:=ah (nM aew.o hx2);have jm:=ah ((HX.o.trans JA.o).trans hx2);have VG:Hid (∀x q,mr x=some q->qI W2 w q):=ah (λx q h=>(HOB.o x q h).ext (JA.o.trans hx2));have EZ:=ah (aI yO.o (JA.o.trans hx2));replace d0:=hx2.cell d0;replace d1:=hx2.cell d1;replace d2:=hx2.cell d2;clear hx2 hW2 c0 c1 c2
     (go_region_law
      (go_simp
       refine(ap5.o _ fg).mono ?_;rintro e w3 ⟨q3,rfl,hq3,ho3,hx3⟩;have hxw:Ext W2 w3:=aag eW hx3;obtain⟨w9,hrun,zS,ac1⟩:=(nM JB.o hxw).update (string_keyed underlying9) underlying194 cH (uW p.nm aaP.o.n) (ad4 q3.r);have hrun':(Instr.mapUpdate 194 (.map (some b)) (.string (str p.nm)) (.agg #[.string (str q3.nm),.int .i64 q3.dir,.slice q3.a q3.bs q3.c])).run prog w3= .ok () w9:=hrun;have g0:=hxw.cell d0;have g1:=hxw.cell d1;have g2:=hxw.cell d2;have hsb:w.heap.size<=W2:=jm.o.size;have alv:=ah (Lf (jm.o.trans hxw) (nM JB.o hxw) HMR.o HMK.o (λx q h=>(VG.o x q h).ext hxw) hq3 (ho3.base (by first|exact hsb|(simp;omega))) HFK.o aaP.o.n (λq' h=>by rw[hmp]at h;cases h;exact agx) zS ac1 hb0 (aI EZ.o hxw));clear hrun zS ac1 hxw hx3 ho3 hq3))
     all_goals
      have hk9:k+1<=1000000:=aq;go_wp2_with fail;go_roundw
      case rel=>obtain⟨D',mr',r1,r2,r3,r4,r5,r6⟩:=alv.o;exact⟨k+1,D',mr',aq,bm,r1,r2,r3,r4,r5,r6⟩
      case measure=>simp[intOf];omega
    ·have aoi:decide (p.dir<q.dir)=false:=aT agx;have hx2:Ext W1 (W1.alloc (.cells #[.string (str q.nm),.int .i64 q.dir,.slice q.a q.bs q.c] 24)):=(aj _).alloc _;have JB:=ah ((nM aew.o hx2).mono (Nat.le_succ k));have jm:=ah ((HX.o.trans JA.o).trans hx2);have VG:Hid (∀x q',mr x=some q'->qI (W1.alloc (.cells #[.string (str q.nm),.int .i64 q.dir,.slice q.a q.bs q.c] 24)) w q'):=ah (λx q' h=>(HOB.o x q' h).ext (JA.o.trans hx2));have EZ:=ah (aI yO.o (JA.o.trans hx2));have aun:=ah (acj (g:=q.f) HMK.o HFK.o (by show(mr p.nm).map PF.f=some q.f;rw[hmp];rfl) agx);clear hx2;have hk9:k+1<=1000000:=aq;go_wp2_with fail;go_roundw
     case rel=>exact⟨k+1,D,mr,aq,bm,jm.o,JB.o,HMR.o,aun.o,VG.o,EZ.o⟩
     case measure=>exact gO
  ·obtain rfl:k=ps.length:=aq;have ayG:=HOWN.o.size_le;have hown1:=HOWN.o.alloc (.cells #[.map (some b)] 194);have hxv:Ext wr (wr.alloc (.cells #[.map (some b)] 194)):=(aj _).alloc _;have hcv:(wr.alloc (.cells #[.map (some b)] 194)).cell? wr=some (.map (some b)):=(Boxed.new wr _ _).cell;have hvs:=Tc wr b ps D _ aE hcv hown1;have hCl:=KQ 159 #[.pointer (some wr)] (ahh D) (λ_=>True) (Maps.size D) aq _ (enters_of func159 ax rfl) hvs;have HV:=λW=>NW (some b) W
   have HXV:=ah hxv;have atW:=ah hCl;clear hCl hown1 hcv hvs hxv;go_wp2_with fail;refine ap (HV _) ?_;rintro w4 rfl;go_wp2_with fail;refine atW.o.mono ?_;rintro e w5 ⟨u,xs,rfl,ake,hx5,lM⟩;have hln:xs.length<=1000000:=by obtain⟨ks,-,-,-,rfl,hk9⟩:=ake;rw[aS];omega
   have hSo:=Vo u xs _ w5 hln lM;have auE:=ah ake;have ajw:Ext wr w5:=HXV.o.trans hx5;have kM:=ah (HX.o.trans ajw);have aAI:=ah ajw;have at2:=ah hx5;have atH:=ah hSo;clear hSo ake hx5 lM ajw;go_wp2_with fail;refine ap atH.o ?_;rintro w6 ⟨ys,hp,hs,uF,hb6⟩;have hx6:Ext wr w6:=HXV.o.trans (Below.trans at2.o hb6);obtain⟨qs,hq1,hq2,hq3⟩:=YU HMR.o (by rw[aS];exact HMK.o) auE.o hp hs;subst hq1;rw[adA,aS]at uF;have hoq:∀q∈qs,qI w6 w q:=λq hq=>(HOB.o _ q (hq3 q hq)).ext hx6
   have agy:=aI yO.o hx6;have m0:=aG agy 0;have m1:=aG agy 1;have m2:=aG agy 2;simp at m0 m1 m2;have sD:=ah (HX.o.trans hx6);have UH:=qz m atf.o.b w6 (Good.ext sD.o atu.o);unfold fV at UH;have HOQ:=ah hoq;have A0:=ah uF;have HQ2:=ah hq2;have apv:=ah UH;clear UH hp hs hb6 hx6 hq3 hoq uF hq2 agy;go_wp2_with fail;refine apv.o.mono ?_;rintro e w7 ⟨q0,rfl,hq0,ho0,hx7⟩;obtain⟨au6,cu6,rfl⟩:=bU A0.o;have DY:=ah (sD.o.trans hx7);have ajC:=DY.o.size;have hn7:qs.length<=1000000:=by rw[<-aS (f:=PF.f),HQ2.o];have:=Hz (ps.map PF.f);rw[aS]at this;omega
   have HO0:=ah (ho0.base sD.o.size);have aug:Hid (∀q∈qs,qI w7 w q):=ah (λq hq=>(HOQ.o q hq).ext hx7);have HRD:=ah (bY Du (zF A0.o hx7));have HQ0:=ah hq0;clear hx7 ho0 hq0
   go_wp2_with(at_builtin
               refine iX rfl (.tmp 56) (.tmp 57) _ rfl underlying25 ahA rfl az Du adz w (.slice (some w7) 1 1) _ [q0] qs rfl rfl (jJ Du w7 [q0] 24 w7 w rfl ajC cz) (Rd.ext ((aj _).alloc _) HRD.o) bp az bp ?_;intro au9 cu9 w9 Lx ZF;have HO9:=ah Lx;have HG9:=ah ZF;clear Lx ZF)
   go_ret2;have vT:Ext w7 (w7.alloc (.cells #[.string (str q0.nm),.int .i64 q0.dir,.slice q0.a q0.bs q0.c] 24)):=(aj _).alloc _;have D9:Ext w w9:=(DY.o.trans vT).grown HG9.o (λk e=>by simp[Value.ownBlock]at e;omega);have hkeep:∀q,qI w7 w q->qI w9 w q:=λq h=>by
    have hlt:=h.lt;refine World.ownsRow.kept (h.ext vT) HG9.o ?_;cases e:q.v.ownBlock with
    |none=>exact vq
    |some j=>exact .inr (λe'=>by have:=(hlt j e).2;simp[Value.ownBlock]at e';omega)
   refine⟨.slice au9 (qs+1) cu9,q0::qs,by simp[Nat.add_comm],by rw[bS,HQ0.o,HQ2.o],D9,?_,?_⟩
   ·have h9:=HO9.o;rw[show [q0].length+qs.length=qs+1 by rw[iN,Nat.add_comm]]at h9;exact h9
   ·intro q hq;rcases dF.1 hq with rfl|hq
    ·exact hkeep _ HO0.o
    ·exact hkeep _ (aug.o q hq)
def kC(x:AF):List aA:= [.string (str x.1),.int .i64 x.2.1,.string (str x.2.2.1),.string (str x.2.2.2.1),.string (str x.2.2.2.2)]
def BD(x:NF):List aA:= [.string (str x.1),.int .i64 x.2.1,.int .i64 x.2.2.1,.string (str x.2.2.2)]
def EH(x:AF):(kC x).length=5:=rfl
def AU(x:NF):(BD x).length=4:=rfl
def aae(s:AF):∀u∈kC s,u.oneCell'=true:=by intro u hu;simp[kC]at hu;rcases hu with rfl|rfl|rfl|rfl|rfl<;>rfl
def ZX(s:NF):∀u∈BD s,u.oneCell'=true:=by intro u hu;simp[BD]at hu;rcases hu with rfl|rfl|rfl|rfl<;>rfl
def Lc(bs:List aZ):(mh bs).1.length<=1001/\(mh bs).2.length<=1001:=by
 have h1:=AQ (je bs).1 ⟨[],false,[],[]⟩;have h2:=G3 bs;have h3:Bz bs=(je bs).1.foldl ni ⟨[],false,[],[]⟩:=rfl;rw[<-h3]at h1;simp only[bD]at h1;unfold mh;split
 ·simp
 ·split<;>simp<;>omega
def GD(f:Fl):(JN f).length<=1001:=by unfold JN;rw[aS];exact(Lc _).1
def M1(f:Fl):(JI f).length<=1001:=by unfold JI;rw[aS];exact(Lc _).2
def agR(f:Fl):(mh f.2.2).1.flatMap (FL (str f.1))=(JN f).flatMap kC:=by unfold JN;rw[List.flatMap_map];rfl
def afS(f:Fl):(mh f.2.2).2.flatMap (BA (str f.1))=(JI f).flatMap BD:=by unfold JI;rw[List.flatMap_map];rfl
def IU{α:Type}(g:Fl->List α)(hg:∀f,(g f).length<=1001):∀l:List Fl,(l.flatMap g).length<=1001*l.length
 | []=>aE
 |a::l=>by have:=IU g hg l;have:=hg a;rw[eP,aH,aO];omega
def Xn{α:Type}(g:Fl->List α)(h:k<l):(l.take (k+1)).flatMap g=(l.take k).flatMap g++g l[k]:=by rw[List.take_add_one,aJ h,iO];simp
theorem RP(m:PF)(v:aA)(ps:List PF)(hl:ps.length<=1000000)(hom:yJ m)(hop:∀p∈ps,yJ p)(w:ay)(hgm:Good w m)(hv:Rd w 3 qy v ps)(hg:∀p∈ps,Good w p):Calls prog 35 #[fV m,v] w λe w'=>∃ua un,e= .returned (.tuple #[ua,un])/\Ext w w'/\w'.ownsRow w 148 5 ua (gy m.f (ps.map PF.f)).1.length ((gy m.f (ps.map PF.f)).1.flatMap kC)/\w'.ownsRow w 45 4 un (gy m.f (ps.map PF.f)).2.length ((gy m.f (ps.map PF.f)).2.flatMap BD):=by
 have hO:=λW (hx:Ext w W)=>RN m v ps hl hom hop W (Good.ext hx hgm) (hv.ext hx) (λp hp=>Good.ext hx (hg p hp))
 obtain⟨a,c,rfl,hac,hca⟩:=ug hv;have hW:=λW (hx:Ext w W)=>Bf _ ps hl (λp hp=>(hop p hp).n) W (hv.ext hx)
 have hn1:=aC w (.cells #[.string (str m.nm),.int .i64 m.dir,.slice m.a m.bs m.c] 24);have hx1:Ext w (w.alloc (.cells #[.string (str m.nm),.int .i64 m.dir,.slice m.a m.bs m.c] 24)):=(aj _).alloc _;have gK:=ah hx1;have N6:=ah hn1;clear hx1 hv hn1;unfold fV at hO⊢;obtain⟨R,hR⟩:∃R,R=gy m.f (ps.map PF.f):=⟨_,rfl⟩;rw[<-hR];have hoe:wz (ps.map PF.f)=0\/wz (ps.map PF.f)=4\/wz (ps.map PF.f)=140:=by unfold wz;split<;>(try split)<;>simp
 rcases hoe with h0|h4|QL
 ·have hR0:R=if (m.f::uh (ps.map PF.f)).flatMap JI≠[]then([],(m.f::uh (ps.map PF.f)).flatMap JI)else((m.f::uh (ps.map PF.f)).flatMap JN,[]):=by rw[hR,Zf h0]
  have hlo:=Hz (ps.map PF.f);rw[aS]at hlo;have h16:ps.length<=16:=by
   unfold wz at h0;rw[aS]at h0;split at h0
   ·simp at h0
   ·omega
  have hOL:xH m.f (ps.map PF.f)=m.f::uh (ps.map PF.f):=by unfold xH;rw[aV h0]
  rw[h0,hOL]at hO;have hpb:∀f∈m.f::uh (ps.map PF.f),f.2.2.length<=1000000:=λf hf=>by
   rcases dF.1 hf with rfl|hf
   ·exact hom.b
   ·obtain⟨j,-,-,hj,-⟩:=((MX (ps.map PF.f)).2 f).1 hf;obtain⟨p,hp,rfl⟩:=dW.1 (List.mem_of_getElem? hj);exact(hop p hp).b
  have hln:(m.f::uh (ps.map PF.f)).length<=17:=by rw[aO];omega
  generalize m.f::uh (ps.map PF.f)=L at *;have HR0:=ah hR0;have HPB:=ah hpb;have hal:=λk=>IU JN GD (L.take k)
  have hnl:=λk=>IU JI M1 (L.take k)
  have aj1:=IU JN GD L;have ayK:=IU JI M1 L;clear hR hR0 hop hg h0 hOL hpb hlo;have atD:=ah hal;have ati:=ah hnl;clear hal hnl;have GK:=ah hO;have Sl:=ah hW;have rz:=ah hca;clear hO hW hca;go_in;go_wp2_with fail;refine(GK.o _ gK.o).mono ?_;rintro e w2 ⟨u,qs,rfl,hqf,hx2,ho2,anQ⟩;obtain⟨au,cu,rfl⟩:=bU ho2;have jm:=ah (gK.o.trans hx2);have hsw:=gK.o.size;have HQL:Hid (qs.length=L):=ah (by rw[<-aS (f:=PF.f),hqf]);have Sq:=ah (kK ho2 hsw);have VG:Hid (∀q∈qs,qI w2 w q):=ah (λq hq=>(anQ q hq).base hsw);have HQF:=ah hqf;clear hx2 ho2 anQ hqf hsw;go_wp2_with fail;go_loopw [10,11,46] (λua un i wr=>∃k:Nat,k<=qs/\i= .int .i64 k/\Ext w wr/\wr.ownsRow w 148 5 ua ((L.take k).flatMap JN).length (((L.take k).flatMap JN).flatMap kC)/\wr.ownsRow w 45 4 un ((L.take k).flatMap JI).length (((L.take k).flatMap JI).flatMap BD)/\wr.ownsRow w 24 3 (.slice au qs cu) qs (qs.flatMap qy)/\∀q∈qs,qI wr w q) (λ_ _ i _=>qs.length-(intOf i).toNat)
  case atStart=>exact⟨0,aq,rfl,jm.o,dB _ _ _ _,dB _ _ _ _,Sq.o,VG.o⟩
  case round=>
   obtain⟨k,hk,rfl,hx,hoa,hon,hof,hob⟩:=hrel;have HX:=ah hx;have HOA:=ah hoa;have HON:=ah hon;have HOF:=ah hof;have HOB:=ah hob;have hak:=atD.o k;have hnk:=ati.o k;rw[bC]at hak hnk;by_cases hlt:k<qs
   ·have hlt':k<L:=by rw[<-HQL.o];exact hlt
    obtain⟨aF,cF,eF,-,hcF⟩:=ug (bY Du hof);simp only[aU,true_and]at eF;obtain⟨rfl,rfl⟩:=eF;obtain⟨b',o,rfl,c0,c1,c2⟩:=hcF k hlt;have hqk:qs[k].f=L[k]:=by
     have:=HQF.o;have h2:(qs.map PF.f)[k]'(by rw[aS];exact hlt)=L[k]:=by simp only[this]
     rw[<-h2,gQ]
    have hbk:=HPB.o _ (aW hlt');rw[<-hqk]at hbk;have hgk:=(hob _ (aW hlt)).good;have hsa:=Xn JN hlt';have hsn:=Xn JI hlt';rw[<-hqk]at hsa hsn;have Cn:=ah hsa;have HSN:=ah hsn;have hqa:=GD qs[k].f;have hqn:=M1 qs[k].f;generalize qs[k]=q at *;generalize(L.take k).flatMap JN=LA at *;generalize(L.take k).flatMap JI=LN at *;obtain⟨W1,hW1⟩:∃W1,W1=wr.alloc (.cells #[.string (str q.nm),.int .i64 q.dir,.slice q.a q.bs q.c] 24):=⟨_,rfl⟩;have hn1:=aC wr (.cells #[.string (str q.nm),.int .i64 q.dir,.slice q.a q.bs q.c] 24);have hx1:Ext wr W1:=by rw[hW1];exact(aj _).alloc _
    rw[<-hW1]at hn1;have d0:=aG hn1 0;have d1:=aG hn1 1;have d2:=aG hn1 2;simp at d0 d1 d2;have hP:=Ac (str q.nm) q.dir q.v q.bs hbk W1 (Good.ext hx1 hgk);unfold adp PF.v at hP;rw[show(mh q.bs).1.flatMap (FL (str q.nm))=(JN q.f).flatMap kC from agR q.f,show(mh q.bs).2.flatMap (BA (str q.nm))=(JI q.f).flatMap BD from afS q.f,show(mh q.bs).1.length=(JN q.f).length by unfold JN;rw[aS];rfl,show(mh q.bs).2.length=(JI q.f).length by unfold JI;rw[aS];rfl]at hP;generalize JN q.f=qA at *;generalize JI q.f=qN at *;have JA:=ah hx1;have HW1:=ah hW1;have ayI:=HX.o.size;have ayJ:=hx1.size;have VD:=ah hP;clear hP hx hoa hon hof hob hcF hn1 hW1 hx1 hsa hsn hgk;go_upto_region 13 with fail;rw[<-HW1.o];go_wp2_with fail;refine VD.o.mono ?_;rintro e w3 ⟨ua',un',rfl,hx3,anR,anO⟩;have hxr:=JA.o.trans hx3;have kg:=ah (HX.o.trans hxr);have HA3:=ah (zF HOA.o hxr);have VH:=ah (zF HON.o hxr);have HF3:=ah (zF HOF.o hxr);have HB3:Hid (∀q∈qs,qI w3 w q):=ah (λq hq=>(HOB.o q hq).ext hxr);have HPA:=ah anR;have HPN:=ah anO;have anz:=hxr.size;clear hx3 anR anO hxr;go_wp2_with(first
     |(at_builtin
       refine iX rfl (.tmp 55) (.tmp 56) _ rfl underlying64 acM rfl az EH aae w _ _ LA qA rfl rfl (by exact HA3.o) (by exact bY EH HPA.o) aq az aq ?_;intro au7 cu7 w7 qY Df;have HA7:=ah qY;have HN7:=ah (qR HA3.o VH.o az Df);have HF7:=ah (qR HA3.o HF3.o az Df);have HB7:Hid (∀q∈qs,qI w7 w q):=ah (λq hq=>qR HA3.o (HB3.o q hq) az Df);have auf:=ah (qR HA3.o HPN.o az Df);have DY:=ah (kg.o.grown Df (λj e=>(HA3.o.lt j e).1));have ajC:=Df.size;clear qY Df)
     |(at_builtin
       refine iX rfl (.tmp 58) (.tmp 59) _ rfl underlying38 acL rfl az AU ZX w _ _ LN qN rfl rfl (by exact HN7.o) (by exact bY AU auf.o) aq az aq ?_;intro au8 cu8 w8 Nq hg8;have HN8:=ah Nq;have HA8:=ah (qR HN7.o HA7.o az hg8);have HF8:=ah (qR HN7.o HF7.o az hg8);have HB8:Hid (∀q∈qs,qI w8 w q):=ah (λq hq=>qR HN7.o (HB7.o q hq) az hg8);have HX8:=ah (DY.o.grown hg8 (λj e=>(HN7.o.lt j e).1));clear Nq hg8))
    have hk9:k+1<=1000000:=aq;go_roundw
    case rel=>
     refine⟨k+1,aq,bm,HX8.o,?_,?_,HF8.o,HB8.o⟩
     ·rw[Cn.o,aH];exact HA8.o
     ·rw[HSN.o,aH];exact HN8.o
    case measure=>exact gO
   ·obtain rfl:k=qs.length:=aq;rw[HQL.o,bZ]at HOA HON;clear hoa hon hof hob hak hnk hx;generalize L.flatMap JI=LN at *;generalize L.flatMap JN=LA at *;by_cases hnn:LN=[]
    ·have hRR:R=(LA,[]):=by rw[HR0.o,aN (by simp[hnn])]
     subst hRR;rw[hnn]at HON;simp only[bD,List.flatMap_nil]at HON;obtain⟨an,cn,rfl⟩:=bU HON.o;obtain⟨aa,ca,rfl⟩:=bU HOA.o;go_wp2_with fail;go_ret2;exact⟨_,_,rfl,HX.o,HOA.o,dB _ _ _ _⟩
    ·have hRR:R=([],LN):=by rw[HR0.o,aV hnn]
     subst hRR;have hpos:0<(LN).length:=by
      cases h:LN with
      |nil=>exact absurd h hnn
      |cons x r=>simp
     obtain⟨an,cn,rfl⟩:=bU HON.o;obtain⟨aa,ca,rfl⟩:=bU HOA.o;have hpd:decide ((0:Int)<((LN).length:Int))=true:=aQ aq;go_wp2_with fail;go_ret2;exact⟨_,_,rfl,HX.o,dB _ _ _ _,HON.o⟩
 ·have Gx:R=([],[(m.nm,0,4,[])]):=by
   rw[hR,Ie (by rw[h4];decide)];unfold P0;rw[h4,aN az]
   rfl
  rw[h4]at hO;subst Gx;clear hR;have HOP:=ah hop;have HG:=ah hg;have GK:=ah hO;have Sl:=ah hW;have rz:=ah hca;clear hO hW hca hop hg h4;go_in;go_wp2_with fail;refine(GK.o _ gK.o).mono ?_;rintro e w2 ⟨u,qs,rfl,-,hx2,-,-⟩;have jm:=ah (gK.o.trans hx2);have hb2:=aI N6.o hx2;have m0:=aG hb2 0;simp at m0;clear hx2 hb2;go_upto_region 7 with fail;obtain⟨W3,hW3⟩:∃W3,W3=w2.alloc (.cells #[.string (str m.nm),.int .i64 0,.int .i64 4,.string ⟨#[]⟩] 45):=⟨_,rfl⟩;have FE:=aC w2 (.cells #[.string (str m.nm),.int .i64 0,.int .i64 4,.string ⟨#[]⟩] 45);have kg:Hid (Ext w W3):=ah (by rw[hW3];exact jm.o.alloc _);rw[<-hW3]at FE⊢;have n0:=aG FE 0;have n1:=aG FE 1;have n2:=aG FE 2;have n3:=aG FE 3;simp at n0 n1 n2 n3;clear hW3 FE;(go_region_law(fail))
  all_goals
   go_wp2_with fail;go_ret2;exact⟨.slice none 0 0,_,rfl,(kg.o.drew).alloc _,dB _ _ _ _,jJ AU W3.drew [(m.nm,0,4,[])] 45 _ w rfl kg.o.size cz⟩
 ·have II:(ps.map PF.f).all (λf=>tq f.1)=false:=by
   cases h:(ps.map PF.f).all (λf=>tq f.1)
   ·rfl
   ·unfold wz at QL;rw[h]at QL;split at QL<;>simp at QL
  obtain⟨i,hi,hix,hfi⟩:=EF ps 0 II;have Gx:R=([],[(m.nm,0,140,ps[i].nm.take 60)]):=by
   rw[hR,Ie (by rw[QL];decide)];unfold P0;rw[QL,aV rfl,hfi]
   rfl
  rw[QL]at hO;rw[hix,cO]at hW;subst Gx;clear hR;have hni:=(hop _ (aW hi)).n;obtain⟨b',o,rfl,c0,-,-⟩:=hca i hi;have HC0:=ah c0;have HOP:=ah hop;have HG:=ah hg;have GK:=ah hO;have Sl:=ah hW;have rz:=ah hca;clear hO hW hca hop hg QL hix hfi II c0;generalize ps[i].nm=nm at *;go_in;go_wp2_with fail;refine(GK.o _ gK.o).mono ?_;rintro e w2 ⟨u,qs,rfl,-,hx2,-,-⟩;have jm:=ah (gK.o.trans hx2);have hb2:=aI N6.o hx2;have m0:=aG hb2 0;simp at m0;clear hx2 hb2;have FE:=aC w2 (.cells #[.string (str m.nm),.int .i64 0,.int .i64 140,.string ⟨#[]⟩] 45);have hx3:Ext w (w2.alloc (.cells #[.string (str m.nm),.int .i64 0,.int .i64 140,.string ⟨#[]⟩] 45)):=jm.o.alloc _;have kg:=ah hx3;have VH:=ah FE;clear FE hx3;unfold maxLen at hni;have hmin:min (nm:Int) 60=((min nm.length 60:Nat):Int):=aq;have hsz:(str nm).size=nm.length:=Ee nm;have ayM:min nm.length 60<=nm.length:=Nat.min_le_left _ _;have hex:(str nm).extract 0 (min nm.length 60)=str (nm.take 60):=bytes_inj (by rw[mI,Cb,Cb,List.drop_zero,Nat.sub_zero];rw[<-i6,dY cQ]);go_wp2_with fail;refine ap (Sl.o _ kg.o) ?_;intro w4 hx4;have Ck:=ah (kg.o.trans hx4);have c0:=Ck.o.cell HC0.o;have HN4:=ah (aI VH.o hx4);have f3:w4.frozen? ⟨w2,3,none⟩=false:=by simp[World.frozen?,HN4.o]
  have n3:=aG HN4.o 3;simp at n3;have arG:=jm.o.size;clear hx4;go_upto_region 7 with fail;have hb5:(w4.setCell ⟨w2,3,none⟩ (.string (str (nm.take 60)))).heap[w2.heap.size]?=some (.cells #[.string (str m.nm),.int .i64 0,.int .i64 140,.string (str (nm.take 60))] 45 (0,0)):=Go.Joins.block_setCell HN4.o _;have hx5:Ext w (w4.setCell ⟨w2,3,none⟩ (.string (str (nm.take 60)))):=Ck.o.setCell (p:=⟨w2,3,none⟩) arG _;generalize w4.setCell ⟨w2,3,none⟩ (.string (str (nm.take 60)))=W3 at *;clear kg n3 f3;have kg:=ah hx5;have n0:=aG hb5 0;have n1:=aG hb5 1;have n2:=aG hb5 2;have n3:=aG hb5 3;simp at n0 n1 n2 n3;clear hb5 hx5;(go_region_law(fail))
  all_goals
   go_wp2_with fail;go_ret2;exact⟨.slice none 0 0,_,rfl,(kg.o.drew).alloc _,dB _ _ _ _,jJ AU W3.drew [(m.nm,0,140,nm.take 60)] 45 _ w rfl kg.o.size cz⟩
end gZ
def tm(h:zP:=by intro w2 hx2;go_wp2_with fail;go_ret;exact⟨rfl,gK.o.trans hx2⟩):zP:=h
def me(h:zP:=by subst hr2;have HhG:=ah hG;have aep:=ah UM;have rz:=ah hca;clear hG UM hca;unfold Rt;go_in;go_wp2_with fail;refine ap (aep.o _) ?_;exact tm):zP:=h
namespace gZ
def oK(f:Fl):Bool:=decide (70000<f.2.2.length)||decide (200<f.1.length)
def nJ(fs:List Fl):Nat:=(fs.map λf=>f.2.2.length).sum
def xU(m:Fl)(fs:List Fl):Bool:=oK m||decide (20<fs.length)||fs.any oK||decide (100000<m.2.2.length+nJ fs)
theorem KM(p:PF)(w:ay):Rt 34 #[fV p] w (.bool (oK p.f)):=by
 have q0:(w.alloc (.cells #[.string (str p.nm),.int .i64 p.dir,.slice p.a p.bs p.c] 24)).cell? w=some (.string (str p.nm)):=oC w [.string (str p.nm),.int .i64 p.dir,.slice p.a p.bs p.c] _ 0 _ rfl;have q2:(w.alloc (.cells #[.string (str p.nm),.int .i64 p.dir,.slice p.a p.bs p.c] 24)).cell? ⟨w,2,none⟩=some (.slice p.a p.bs p.c):=oC w [.string (str p.nm),.int .i64 p.dir,.slice p.a p.bs p.c] _ 2 _ rfl;have hx:=(aj w).alloc (.cells #[.string (str p.nm),.int .i64 p.dir,.slice p.a p.bs p.c] 24);unfold fV oK;show Calls _ _ _ _ λe w'=>e= .returned (.bool (decide (70000<p.bs.length)||decide (200<p.nm.length)))/\Ext w w'
 have hsz:=Ee p.nm;have e1:decide ((70000:Int)<p.bs)=decide (70000<p.bs.length):=by rw[bB,iH,iH];omega
 have e2:decide ((200:Int)<p.nm)=decide (200<p.nm.length):=by rw[bB,iH,iH];omega
 cases h1:decide (70000<p.bs.length)<;>cases h2:decide (200<p.nm.length)
 all_goals
  rw[h1]at e1;rw[h2]at e2;have N1:=ah hx;clear hx;go_in;go_wp2_with fail;go_ret;exact⟨rfl,N1.o⟩
def KV{l:List Fl}{k:Nat}(h:k<l):nJ (l.take (k+1))=nJ (l.take k)+l[k].2.2.length:=by unfold nJ;rw[List.take_add_one,aJ h,bL,List.sum_append];simp
def V6:∀(l:List Fl),(∀f∈l,oK f=false)->nJ l<=70000*l.length
 | [],_=>by simp[nJ]
 |f::l,h=>by have h1:=V6 l (λg hg=>h g (gM _ hg));have h2:=h f aE;unfold oK at h2;simp only[jC,decide_eq_false_iff_not]at h2;unfold nJ at *;rw[bS,List.sum_cons,aO];omega
theorem KL(m:PF)(v:aA)(ps:List PF)(_hl:ps.length<=maxLen)(w:ay)(hv:Rd w 3 qy v ps):Rt 16 #[fV m,v] w (.bool (xU m.f (ps.map PF.f))):=by
 have hG:=KM;obtain⟨a,c,rfl,hac,hca⟩:=ug hv;obtain⟨r,hr⟩:∃r,r=xU m.f (ps.map PF.f):=⟨_,rfl⟩;rw[<-hr];have hn1:=aC w (.cells #[.string (str m.nm),.int .i64 m.dir,.slice m.a m.bs m.c] 24);have hx1:Ext w (w.alloc (.cells #[.string (str m.nm),.int .i64 m.dir,.slice m.a m.bs m.c] 24)):=(aj _).alloc _;have gK:=ah hx1;have N6:=ah hn1;clear hx1 hv hn1;have UM:=λW=>hG m W
 unfold fV at hG UM⊢;have hll:(ps.map PF.f).length=ps.length:=aS _;have hr2:r=(oK m.f||decide (20<ps.length)||(ps.map PF.f).any oK||decide (100000<m.bs.length+nJ (ps.map PF.f))):=by rw[hr];unfold xU;rw[hll];rfl
 clear hr;cases hm:oK m.f
 case true=>rw[hm]at hr2 UM;simp only[Bool.true_or]at hr2;exact me
 rw[hm]at hr2 UM;by_cases h20:20<ps.length
 ·have e1:decide ((20:Int)<ps)=true:=aQ aq;rw[aQ h20]at hr2;simp only[Bool.or_true,Bool.true_or]at hr2;exact me
 have e1:decide ((20:Int)<ps)=false:=aT aq;rw[aT h20]at hr2;simp only[Bool.false_or]at hr2;have hmb:m.bs.length<=70000:=by unfold oK at hm;simp only[jC,decide_eq_false_iff_not]at hm;have h1:¬70000<m.bs.length:=hm.1;omega
 have HR2:=ah hr2;have hbd:=λk=>V6 ((ps.map PF.f).take k)
 have hsn:=λk (h:k<(ps.map PF.f).length)=>KV h
 have hany:=λk (h:k<(ps.map PF.f).length)=>List.take_add_one (l:=ps.map PF.f) (i:=k)
 clear hr2 hm;have HhG:=ah hG;have aep:=ah UM;clear hG UM;have rz:=ah hca;have apo:=ah hll;clear hca hll;have atA:=ah hbd;have aef:=ah hsn;have apz:=ah hany;clear hbd hsn hany;unfold Rt;go_in;go_wp2_with fail;refine ap (aep.o _) ?_;intro w2 hx2;have jm:=ah (gK.o.trans hx2);have hb2:=aI N6.o hx2;have m2:=aG hb2 2;simp at m2;clear hx2 hb2;go_wp2_with fail;go_loopw [5,6] (λn i wr=>∃k:Nat,k<=ps/\i= .int .i64 k/\n= .int .i64 ((m.bs.length+nJ ((ps.map PF.f).take k):Nat):Int)/\Ext w wr/\∀f∈(ps.map PF.f).take k,oK f=false) (λ_ i _=>ps.length-(intOf i).toNat)
 case atStart=>exact⟨0,aq,rfl,by simp[nJ],jm.o,aE⟩
 case round=>
  obtain⟨k,hk,rfl,rfl,hx,hno⟩:=hrel;have HX:=ah hx;have JC:=ah hno;have hb:=atA.o k hno;rw[bC]at hb;clear hx hno;by_cases hlt:k<ps
  ·obtain⟨b,o,rfl,c0,c1,c2⟩:=rz.o k hlt;replace c0:=HX.o.cell c0;replace c1:=HX.o.cell c1;replace c2:=HX.o.cell c2;have hlt':k<(ps.map PF.f).length:=by rw[apo.o];exact hlt
   have hs:=aef.o k hlt';rw[gQ]at hs;have HS:=ah hs;have hmem:ps[k].f∈ps.map PF.f:=dW.2 ⟨_,aW hlt,rfl⟩;have hal:∀f∈(ps.map PF.f).take (k+1),f∈(ps.map PF.f).take k\/f=ps[k].f:=λf hf=>by rw[apz.o k hlt',aJ hlt',dJ,gQ]at hf;simpa using hf
   have auo:=ah hmem;have HAL:=ah hal;clear hs hmem hal;have hGk:=HhG.o ps[k];have HGK:=ah hGk;clear hGk;generalize ps[k]=p at *;generalize nJ ((ps.map PF.f).take k)=sk at *;go_wp2_with fail;refine ap (HGK.o _) ?_;intro w3 hx3;replace c2:=hx3.cell c2;have kg:=ah (HX.o.trans hx3);clear hx3 c0 c1;cases hgp:oK p.f
   ·have hpl:p.bs.length<=70000:=by have h:=hgp;unfold oK at h;simp only[jC,decide_eq_false_iff_not]at h;have h1:¬70000<p.bs.length:=h.1;omega
    have hsk:sk<=70000*20:=aq;have HGP:=ah hgp;clear hgp;go_wp2_with fail;go_roundw
    case rel=>
     refine⟨k+1,aq,bm,?_,kg.o,λf hf=> ?_⟩
     ·rw[HS.o];show Value.int .i64 _=_;congr 1;show _=((m.bs.length+(sk+p.bs.length):Nat):Int);omega
     ·rcases HAL.o f hf with h|rfl
      ·exact JC.o f h
      ·exact HGP.o
    case measure=>exact gO
   ·have hr3:r=true:=by rw[HR2.o,List.any_eq_true.2 ⟨p.f,auo.o,hgp⟩,Bool.true_or]
    subst hr3;clear hgp;go_wp2_with fail;go_ret;exact⟨rfl,kg.o⟩
  ·obtain rfl:k=ps.length:=aq;have htk:(ps.map PF.f).take ps.length=ps.map PF.f:=by rw[<-apo.o,bZ]
   rw[htk]at JC;rw[htk];have hr3:r=decide (100000<m.bs.length+nJ (ps.map PF.f)):=by
    rw[HR2.o];have:(ps.map PF.f).any oK=false:=by
     rw[List.any_eq_false];intro f hf;rw[JC.o f hf]
     decide
    rw[this,Bool.false_or]
   have e9:decide ((100000:Int)<m.bs+(nJ (ps.map PF.f):Int))=decide (100000<m.bs.length+nJ (ps.map PF.f)):=by rw[bB,iH,iH];omega
   rw[<-hr3]at e9;clear htk hr3;generalize nJ (ps.map PF.f)=sk at *;exact pZ
end gZ
end Go.Proofs.YtopfefhenfineaaGreat
