import Derived.Test.YtopfefhenfineaaGreatP3
import Derived.Test.YtopfefhenfineaaGreatP21
import Derived.Test.YtopfefhenfineaaGreatP22
import Derived.Deep.RegionWith
import Derived.Lib.SmallJoins
import Derived.Laws.EntriesVeiled
set_option linter.all false
set_option maxRecDepth 100000
set_option maxHeartbeats 4000000
namespace Go.Proofs.YtopfefhenfineaaGreat
open Go.Proofs.Tryz Go.RowKit Go.Shelf V
attribute[local go_sem] Oper.semAt_some
namespace LT
def KD(lt:Nat->Bool):Nat->Nat->Nat->Nat
 |0,i,_=>i
 |f+1,i,j=>if i<j then(if lt ((i+j)/2)=true then KD lt f ((i+j)/2+1) j else KD lt f i ((i+j)/2))else i
def ltC(xs:List Cl)(s:List aZ)(h:Nat):Bool:=match xs[h]? with
 |some c=>decide (Lib.compareBytes c.nm s<0)
 |none=>false
def NQ(xs:List Cl)(s:List aZ):Nat:=KD (ltC xs s) xs 0 xs.length
def Xw(xs:List Cl)(s:List aZ)(h:Nat):Bool:=match xs[h]? with
 |some c=>Lib.compareBytes c.nm s==0
 |none=>false
def Jj(lt:Nat->Bool):∀(f i j:Nat),i<=j->KD lt f i j<=j
 |0,_,_,h=>h
 |f+1,i,j,h=>by
  unfold KD;split
  ·split
   ·exact Jj lt f _ _ aq
   ·exact aL (Jj lt f _ _ aq) aq
  ·exact h
def adO(xs:List Cl)(s:List aZ):NQ xs s<=xs.length:=Jj _ _ _ _ aq
theorem NG(c:Cl)(s:aK)(w:ay):Calls prog 381 #[XB c,.string s] w λr w'=>r= .returned (.int .i64 (Lib.compareBytes c.nm (bytes s)))/\Ext w w':=by
 have hC:=λW=>Tryz.strings_Compare (str c.nm) s W
 change∀W,Calls prog 382 #[.string (str c.nm),.string s] W λe w'=>e= .returned (.int .i64 (Lib.compareBytes c.nm (bytes s)))/\w'=W at hC
 generalize Lib.compareBytes c.nm (bytes s)=q at *;unfold XB;have HC:=ah hC;clear hC;go_in;go_wp2_with(first
  |(go_at_call 382;refine ap (HC.o _) ?_;rintro w2 rfl))
 exact wg
theorem SI(v:aA)(xs:List Cl)(s:aK)(hl:xs.length<=1000000)(w:ay)(hv:Rd w 2 fD v xs):Rt 380 #[v,.string s,.func (.func 381) #[] #[]] w (.tuple #[.int .i64 (NQ xs (bytes s):Int),.bool (Xw xs (bytes s) (NQ xs (bytes s)))]):=by
 obtain⟨a,c,rfl,hac,hca⟩:=mY hv;clear hv;have hcm:=λc W=>NG c s W
 unfold XB at hcm;have enx:=enters_of func381 ax rfl;have hlt:∀h (hh:h<xs.length),ltC xs (bytes s) h=decide (Lib.compareBytes xs[h].nm (bytes s)<0):=λh hh=>by unfold ltC;rw[aJ hh]
 have heq:∀h (hh:h<xs.length),Xw xs (bytes s) h=(Lib.compareBytes xs[h].nm (bytes s)==0):=λh hh=>by unfold Xw;rw[aJ hh]
 have hno:∀h,¬h<xs.length->Xw xs (bytes s) h=false:=λh hh=>by unfold Xw;rw[List.getElem?_eq_none aq]
 have hbs:NQ xs (bytes s)=KD (ltC xs (bytes s)) xs 0 xs.length:=rfl;generalize NQ xs (bytes s)=T at *;generalize ltC xs (bytes s)=lt at *;generalize Xw xs (bytes s)=eq at *;have tO:=ah hca;have HCM:=ah hcm;have HLT:=ah hlt;have HEQ:=ah (ak heq hno);have HBS:=ah hbs;clear hca hcm hlt heq hno hbs;unfold Rt;go_in;go_wp2_with fail;go_loopw [9,10,11] (λiV jV _ wr=>∃i j f:Nat,iV= .int .i64 i/\jV= .int .i64 j/\i<=j/\j<=xs/\j-i<=f/\T=KD lt f i j/\Ext w wr) (λiV jV _ _=>(intOf jV).toNat-(intOf iV).toNat)
 case atStart=>exact⟨0,xs.length,xs.length,rfl,rfl,aq,aq,aq,HBS.o,aj _⟩
 case round=>
  obtain⟨i,j,f,rfl,rfl,hij,hjn,hjf,hT,hx⟩:=hrel;have HT:=ah hT;have HX:=ah hx;clear hT;by_cases hlt:i<j
  ·have hhx:(i+j)/2<xs.length:=aq;obtain⟨b,o,rfl,h0,h1⟩:=tO.o ((i+j)/2) hhx;replace h0:=hx.cell h0;replace h1:=hx.cell h1;have hw1:IntKind.i64.wrap ((i:Int)+j)=(i:Int)+j:=by rw[IntKind.wrap_i64];omega
   have hL:=HLT.o ((i+j)/2) hhx;have hCM:=λW=>HCM.o xs[(i+j)/2] W
   generalize xs[(i+j)/2]=x at *;generalize Lib.compareBytes x.nm (bytes s)=q at *;have HL:=ah hL;have HC2:=ah hCM;clear hx hL hCM;go_wp2_with fail;refine ap (HC2.o _) ?_;intro w2 hx2;have jm:=ah (HX.o.trans hx2);clear hx2 h0 h1;have hd:(i+j)/2<j/\i<=(i+j)/2:=aq;obtain⟨f,rfl⟩:∃f',f=f'+1:=⟨f-1,aq⟩;have UK:T=if lt ((i+j)/2)=true then KD lt f ((i+j)/2+1) j else KD lt f i ((i+j)/2):=by rw[HT.o];conv=>lhs;unfold KD;rw[aV hlt]
   rw[HL.o]at UK;by_cases hq:q<0
   ·rw[aQ hq,aV rfl]at UK;have HT2:=ah UK;clear UK HT HL;go_wp2_with fail;go_roundw
    case rel=>exact⟨(i+j)/2+1,j,f,bm,rfl,aq,hjn,aq,HT2.o,jm.o⟩
    case measure=>exact gO
   ·rw[aT hq,aN aE]at UK;have HT2:=ah UK;clear UK HT HL;go_wp2_with fail;go_roundw
    case rel=>exact⟨i,(i+j)/2,f,rfl,bm,aq,aq,aq,HT2.o,jm.o⟩
    case measure=>exact gO
  ·obtain rfl:T=i:=by rw[HT.o];cases f with
    |zero=>rfl
    |succ f=>unfold KD;rw[aN hlt]
   clear hx;by_cases hin:T<xs.length
   ·obtain⟨b,o,rfl,h0,h1⟩:=tO.o T hin;replace h0:=HX.o.cell h0;replace h1:=HX.o.cell h1;have hE:=HEQ.o.1 T hin;have hCM:=λW=>HCM.o xs[T] W
    generalize xs[T]=x at *;generalize Lib.compareBytes x.nm (bytes s)=q at *;have HE:=ah hE;have HC2:=ah hCM;clear hE hCM HCM HLT HT;go_wp2_with fail;refine ap (HC2.o _) ?_;intro w2 hx2;have jm:=ah (HX.o.trans hx2);clear hx2 h0 h1;go_wp2_with fail;go_ret2;exact⟨by rw[HE.o];rfl,jm.o⟩
   ·have HE:=ah (HEQ.o.2 T hin);clear HLT HT HCM;go_wp2_with fail;go_ret2;exact⟨by rw[HE.o];rfl,HX.o⟩
theorem vN(m:Nat)(v:aA)(cs:List Cl)(hl:cs.length<=1000000)(w:ay)(hv:Rd w 2 fD v cs):Calls prog 333 #[qh m v] w λe w'=>∃a c,e= .returned (qh m (.slice a cs c))/\Ext w w'/\w'.ownsRow w 121 2 (.slice a cs c) cs (cs.flatMap fD):=by
 obtain⟨a0,c0,rfl,-,-⟩:=mY hv;have hC:=λW (hx:Ext w W)=>vS (.slice a0 cs c0) cs hl W (hv.ext hx)
 have hnew:=aC w (.cells #[.int .u8 m,.slice a0 cs c0] 31);obtain⟨W1,hW1⟩:∃W1,W1=w.alloc (.cells #[.int .u8 m,.slice a0 cs c0] 31):=⟨_,rfl⟩;have hx1:Ext w W1:=by rw[hW1];exact(aj _).alloc _
 have hs1:W1.heap.size=w+1:=by rw[hW1];simp
 rw[<-hW1]at hnew;have hnew2:=aC W1 (.cells #[.int .u8 0,.slice none 0 0] 31);obtain⟨W2,hW2⟩:∃W2,W2=W1.alloc (.cells #[.int .u8 0,.slice none 0 0] 31):=⟨_,rfl⟩;have hx2:Ext W1 W2:=by rw[hW2];exact(aj _).alloc _
 rw[<-hW2,hs1]at hnew2;replace hnew:=aI hnew hx2;have HW1:=ah hW1;have HW2:=ah hW2;have jm:=ah (hx1.trans hx2);have N6:=ah hnew;have HN2:=ah hnew2;obtain⟨k0,k1⟩:=uJ hnew;clear hW1 hW2 hs1 hx1 hx2 hnew hnew2 hv;unfold qh;have yN:=ah hC;clear hC;go_in;go_upto_region 1 with fail;rw[<-HW1.o,<-HW2.o];have hs2:W2.heap.size=w+2:=by rw[HW2.o,aR,HW1.o,aR]
 have HK:=ah ((yN.o W2.drew jm.o.drew).mono (R':=λe w3=>∃a' c',e= .returned (.slice a' cs c')/\Hid (Ext w w3)/\Hid (w3.ownsRow (w+2) 121 2 (.slice a' cs c') cs (cs.flatMap fD))/\Hid (w3.heap[w.heap.size+1]?=some (.cells #[.int .u8 0,.slice none 0 0] 31 (0,0)))/\w3.cell? w=some (.int .u8 m)/\
  w3.cell? ⟨w+1,0,none⟩=some (.int .u8 0)/\w3.cell? ⟨w+1,1,none⟩=some (.slice none 0 0)/\w3.frozen? ⟨w+1,0,none⟩=false/\w3.frozen? ⟨w+1,1,none⟩=false) (by
  rintro e w3 ⟨a',c',rfl,hx3,ho3⟩;have hb2:=aI (show W2.drew.heap[_]?=_ from HN2.o) hx3;obtain⟨d0,d1⟩:=uJ hb2;have rY:w3.ownsRow W2 121 2 (.slice a' cs c') cs (cs.flatMap fD):=ho3;rw[hs2]at rY;exact⟨a',c',rfl,jm.o.drew.trans hx3,rY,hb2,hx3.cell (show W2.drew.cell? _=_ from k0),d0,d1,by simp[World.frozen?,hb2],by simp[World.frozen?,hb2]⟩))
 clear hs2;go_region_with(refine HK.o.mono ?_;rintro e w3 ⟨a',c',rfl,kg,HO3,HB3,k0q,d0,d1,f0,f1⟩)
 all_goals
  have hbl:((w3.setCell ⟨w+1,0,none⟩ (.int .u8 m)).setCell ⟨w+1,1,none⟩ (.slice a' cs c')).heap[w.heap.size+1]?=some (.cells #[.int .u8 m,.slice a' cs c'] 31 (0,0)):=Go.Joins.block_setCell (Go.Joins.block_setCell HB3.o _) _;have wI:Ext w ((w3.setCell ⟨w+1,0,none⟩ (.int .u8 m)).setCell ⟨w+1,1,none⟩ (.slice a' cs c')):=(kg.o.setCell (p:=⟨w+1,0,none⟩) aE _).setCell (p:=⟨w+1,1,none⟩) aE _;have hoo:((w3.setCell ⟨w+1,0,none⟩ (.int .u8 m)).setCell ⟨w+1,1,none⟩ (.slice a' cs c')).ownsRow (w+2) 121 2 (.slice a' cs c') cs (cs.flatMap fD):=
   ownsRow_setCell_below (ownsRow_setCell_below HO3.o da _) da _
  have HBL:=ah hbl;have qO:=ah wI;have HOO:=ah hoo;clear hbl wI hoo HO3 kg HB3;go_wp2_with fail;exact aM (v:= .agg #[.int .u8 m,.slice a' cs c']) (dV results333 _ _ _ _ _ _ _ rfl HBL.o underlying31 rfl ax) rfl ⟨a',c',rfl,qO.o,HOO.o.mono aq⟩
end LT
variable{zP:Prop}
def cX(h:zP:=by simp[Value.oneCell']):zP:=h
namespace LT
theorem OL(c:Cl)(s:aK)(b:Nat)(w:ay)(h:w.cell? b=some (.string s)):Calls prog 385 #[XB c,.pointer (some b)] w λr w'=>r= .returned (.bool (c.nm==bytes s))/\Ext w w':=by
 have hx:Ext w (w.alloc (.cells #[.string (str c.nm),.int .u32 c.act] 121)):=(aj w).alloc _;replace h:=hx.cell h;have hq:((str c.nm).toList==s.toList)=(c.nm==bytes s):=by rw[sU,iE]
 have HX:=ah hx;clear hx;unfold XB;go_in;go_wp2_with fail;go_ret;exact⟨by rw[<-hq];rfl,HX.o⟩
theorem szL:(Tryz.prog.info? 31).map (·.size)=some 2:=ax
def n6{w w':ay}{base e n k:Nat}{v:aA}{zs:List aA}(h:w.ownsRow base e n v k zs)(hk:∀b,base<=b->w'.heap[b]?=w.heap[b]?):w'.ownsRow base e n v k zs:=by
 rcases h with⟨h1,h2|⟨g,cap,cur,rfl,hb,hg,hr⟩⟩
 ·exact⟨h1,.inl h2⟩
 ·exact⟨h1,.inr ⟨g,cap,cur,rfl,hb,(hk g hb).trans hg,hr⟩⟩
def Br(m:Nat)(cs:List Cl)(s:List aZ):List Cl:=if iq m cs=true then cs.filter (λc=> !(c.nm==s))else cs
theorem Vm(m:Nat)(v:aA)(cs:List Cl)(s:aK)(hl:cs.length<=1000000)(w:ay)(hv:Rd w 2 fD v cs):Calls prog 339 #[qh m v,.string s] w λe w'=>∃a c,e= .returned (qh m (.slice a (Br m cs (bytes s)).length c))/\Ext w w'/\w'.ownsRow w 121 2 (.slice a (Br m cs (bytes s)).length c) (Br m cs (bytes s)).length ((Br m cs (bytes s)).flatMap fD):=by
 obtain⟨a0,c0,rfl,-,-⟩:=mY hv;have htl:Br m cs (bytes s)=if iq m cs=true then cs.filter (λc=> !(c.nm==bytes s))else cs:=rfl
 generalize Br m cs (bytes s)=TL at *;have alj:=ah htl;clear htl;have hC:=λW (hx:Ext w W)=>vN m (.slice a0 cs c0) cs hl W (hv.ext hx)
 have eng:=enters_of func385 ax rfl;have n1:=aC w (.cells #[.int .u8 m,.slice a0 cs c0] 31);obtain⟨W1,hW1⟩:∃W1,W1=w.alloc (.cells #[.int .u8 m,.slice a0 cs c0] 31):=⟨_,rfl⟩;have hx1:Ext w W1:=by rw[hW1];exact(aj _).alloc _
 have hs1:W1.heap.size=w+1:=by rw[hW1];simp
 rw[<-hW1]at n1;have n2:=aC W1 (.cells #[.string s] 9);obtain⟨W2,hW2⟩:∃W2,W2=W1.alloc (.cells #[.string s] 9):=⟨_,rfl⟩;have hx2:Ext W1 W2:=by rw[hW2];exact(aj _).alloc _
 have hs2:W2.heap.size=w+2:=by rw[hW2];simp[hs1]
 rw[<-hW2,hs1]at n2;have n3:=aC W2 (.cells #[.int .u8 0,.slice none 0 0] 31);obtain⟨W3,hW3⟩:∃W3,W3=W2.alloc (.cells #[.int .u8 0,.slice none 0 0] 31):=⟨_,rfl⟩;have hx3:Ext W2 W3:=by rw[hW3];exact(aj _).alloc _
 have hs3:W3.heap.size=w+3:=by rw[hW3];simp[hs2]
 rw[<-hW3,hs2]at n3;replace n1:=aI (aI n1 hx2) hx3;replace n2:=aI n2 hx3;obtain⟨k0,k1⟩:=uJ n1;have HW:=ah (ak hW1 (ak hW2 hW3));have kg:=ah ((hx1.trans hx2).trans hx3);have HN:=ah (ak n1 (ak n2 n3));have HS:=ah hs3;clear hW1 hW2 hW3 hs1 hs2 hs3 hx1 hx2 hx3 n1 n2 n3 hv;unfold qh at hC⊢;have yN:=ah hC;clear hC;go_in;go_upto_region 1 with fail;rw[<-HW.o.1,<-HW.o.2.1,<-HW.o.2.2];go_wp2_with fail;refine(yN.o W3 kg.o).mono ?_;rintro e w4 ⟨a',c',rfl,hx4,rY⟩;have hb1:=aI HN.o.1 hx4;have hb2:=aI HN.o.2.1 hx4;have hb3:=aI HN.o.2.2 hx4;rw[HS.o]at rY;obtain⟨W5,yR⟩:∃W5,W5=w4.setRow w #[.int .u8 m,.slice a' cs c']:=⟨_,rfl⟩;have k5:W5.heap[w.heap.size]?=some (.cells #[.int .u8 m,.slice a' cs c'] 31 (0,0)):=by rw[yR];exact dH _ _ _ _ _ _ hb1
 have lM:W5.ownsRow (w+3) 121 2 (.slice a' cs c') cs (cs.flatMap fD):=n6 rY (λb hb=>by rw[yR];exact fJ _ _ _ _ aq);have hx5:Ext w W5:=by rw[yR];exact eB (kg.o.trans hx4) (aD _) _
 have h52:W5.heap[w.heap.size+1]?=some (.cells #[.string s] 9 (0,0)):=by rw[yR,fJ _ _ _ _ aq];exact hb2
 have h53:W5.heap[w.heap.size+2]?=some (.cells #[.int .u8 0,.slice none 0 0] 31 (0,0)):=by rw[yR,fJ _ _ _ _ aq];exact hb3
 have HB1:=ah hb1;have HW5:=ah yR;have EY:=ah lM;have kM:=ah hx5;have HM5:=ah (ak k5 (ak h52 h53));have hM:=uq m (.slice a' cs c') cs hl W5 (bY fM lM);have htl:=alj.o;generalize iq m cs=R at *;unfold qh at hM;have HM:=ah hM;have HTL:=ah htl;have hsz5:w.heap.size+3<=W5.heap.size:=by rw[yR,setRow_size];have:=hx4.size;have:=HS.o;omega
 obtain⟨e0,e1⟩:=uJ k5;clear hx4 rY hb1 hb2 hb3 yR lM hx5 k5 h52 h53 hM htl k0 k1;go_wp2_with(refine wpList_store_rowTo rfl 31 (.tmp 2) (.tmp 6) rfl rfl w.heap.size #[.int .u8 m,.slice a' cs c'] rfl rfl 31 _ HB1.o szL rfl cX ?_;rw[<-HW5.o]);refine ap HM.o ?_;intro w6 hx6;have g1:=aI HM5.o.1 hx6;have g2:=aI HM5.o.2.1 hx6;have g3:=aI HM5.o.2.2 hx6;have sD:=ah (kM.o.trans hx6);have uF:=fO EY.o (Keep.of_below hx6 (λ_ hk=>hk)) (λb e=>(EY.o.lt b e).2);have A0:=ah uF;have arH:=hx6.size;clear hx6 uF e0 e1;obtain⟨e0,e1⟩:=uJ g1;have HG:=ah (ak g1 (ak g2 g3));clear g1 g2 g3;cases R
 ·have hT:TL=cs:=HTL.o;subst hT;have hE:Ext w (w6.setRow (w+2) #[.int .u8 m,.slice a' TL c']):=eB sD.o (fI _ _) _;have hO:(w6.setRow (w+2) #[.int .u8 m,.slice a' TL c']).ownsRow w 121 2 (.slice a' TL c') TL (TL.flatMap fD):=(n6 A0.o (λb hb=>fJ _ _ _ _ aq)).mono (fI _ _);have HE:=ah (ak hE hO);clear hE hO;go_wp2_with(refine wpList_store_rowTo rfl 31 (.tmp 4) (.tmp 14) rfl rfl (w.heap.size+2) #[.int .u8 m,.slice a' TL c'] rfl rfl 31 _ HG.o.2.2 szL rfl cX ?_);exact aM (v:= .agg #[.int .u8 m,.slice a' TL c']) (dV results339 _ _ _ _ _ _ _ rfl (dH _ _ _ _ _ _ HG.o.2.2) underlying31 rfl ax) rfl ⟨a',c',rfl,HE.o.1,HE.o.2⟩
 ·have hT:TL=cs.filter (λc=> !(c.nm==bytes s)):=HTL.o;have hD:=Sz (w+3) 385 (.pointer (some ⟨w+1,0,none⟩)) eng (λc=>c.nm==bytes s) (.slice a' cs c') cs hl w6 A0.o aq (λx _ W hW=>OL x s (w+1) W ((hW.cell (p:=⟨w+1,0,none⟩) (by show w.heap.size+1<w.heap.size+3;omega)).trans (by simp[World.cell?,HG.o.2.1])));rw[<-hT]at hD;have HD:=ah hD;clear hD hT;go_wp2_with fail;refine HD.o.mono ?_;rintro e w7 ⟨a7,m7,c7,rfl,oM,rfl,qY⟩;have k1:=(oM.block w aq).trans HG.o.1;have k3:=(oM.block (w+2) aq).trans HG.o.2.2;obtain⟨W8,ZH⟩:∃W8,W8=w7.setRow w #[.int .u8 m,.slice a7 TL c7]:=⟨_,rfl⟩;have vT:Ext w W8:=by rw[ZH];exact eB (Below.trans sD.o (oM.mono (fI _ _))) (aD _) _
  have hb8:W8.heap[w.heap.size]?=some (.cells #[.int .u8 m,.slice a7 TL c7] 31 (0,0)):=by rw[ZH];exact dH _ _ _ _ _ _ k1
  have h83:W8.heap[w.heap.size+2]?=some (.cells #[.int .u8 0,.slice none 0 0] 31 (0,0)):=by rw[ZH,fJ _ _ _ _ aq];exact k3
  have Nq:W8.ownsRow (w+3) 121 2 (.slice a7 TL c7) TL (TL.flatMap fD):=n6 qY (λb hb=>by rw[ZH];exact fJ _ _ _ _ aq);have Dc:w7.setCell ⟨w,1,none⟩ (.slice a7 TL c7)=W8:=by rw[ZH,fQ _ _ _ _ _ _ _ k1];rfl
  have hE:Ext w (W8.setRow (w+2) #[.int .u8 m,.slice a7 TL c7]):=eB vT (fI _ _) _;have hO:(W8.setRow (w+2) #[.int .u8 m,.slice a7 TL c7]).ownsRow w 121 2 (.slice a7 TL c7) TL (TL.flatMap fD):=(n6 Nq (λb hb=>fJ _ _ _ _ aq)).mono (fI _ _);have HE:=ah (ak hE hO);have H83:=ah h83;have S5:=ah Dc;have f1:w7.frozen? ⟨w,1,none⟩=false:=by simp[World.frozen?,k1]
  clear e0 e1;obtain⟨e0,e1⟩:=uJ k1;obtain⟨e2,e3⟩:=uJ hb8;clear hE hO Nq h83 vT ZH qY oM hb8 k1 k3 Dc;go_upto_region 4 with fail;rw[S5.o];go_wp2_with(refine wpList_store_rowTo rfl 31 (.tmp 4) (.tmp 14) rfl rfl (w.heap.size+2) #[.int .u8 m,.slice a7 TL c7] rfl rfl 31 _ H83.o szL rfl cX ?_);exact aM (v:= .agg #[.int .u8 m,.slice a7 TL c7]) (dV results339 _ _ _ _ _ _ _ rfl (dH _ _ _ _ _ _ H83.o) underlying31 rfl ax) rfl ⟨a7,c7,rfl,HE.o.1,HE.o.2⟩
def Tv{α:Type}{enc:α->List aA}{k:Nat}(henc:∀x,(enc x).length=k)(L:List aA)(xs:List α)(i:Nat)(hi:i<xs)(x:α)(h:L.take (xs.length*k)=xs.flatMap enc)(hl:xs.length*k<=L.length):(splice L (i*k) (enc x)).take (xs.length*k)=(xs.set i x).flatMap enc:=by
 have h1:(i+1)*k<=xs.length*k:=eY _ hi;have h2:(i+1)*k=i*k+k:=Nat.succ_mul _ _;rw[List.set_eq_take_append_cons_drop,aV hi,iO,eP,<-mF henc xs i,<-pW henc xs (i+1),<-h,i6,dI aq,List.drop_take];have hA:(L.take (i*k)).length=i*k:=by rw[bC];omega
 unfold splice;rw[<-bI,List.take_append,dY (l:=L.take (i*k)++enc x) (by rw[aH,hA,henc];omega),aH,hA,henc,h2,bI]
theorem szC:(Tryz.prog.info? 121).map (·.size)=some 2:=ax
def YK(cs:List Cl)(c:Cl):List Cl:=if Xw cs c.nm (NQ cs c.nm)=true then cs.set (NQ cs c.nm) c else cs.take (NQ cs c.nm)++c::cs.drop (NQ cs c.nm)
def Ke(m:Nat)(cs:List Cl)(s:List aZ)(a:Nat):List Cl:=if iq m cs=true then YK cs ⟨s,a⟩else cs
theorem aay(m:Nat)(v:aA)(cs:List Cl)(s:aK)(ac:Nat)(hl:cs.length<=1000000)(w:ay)(hv:Rd w 2 fD v cs):Calls prog 338 #[qh m v,.string s,.int .u32 ac] w λe w'=>∃a c,e= .returned (qh m (.slice a (Ke m cs (bytes s) ac).length c))/\Ext w w'/\w'.ownsRow w 121 2 (.slice a (Ke m cs (bytes s) ac).length c) (Ke m cs (bytes s) ac).length ((Ke m cs (bytes s) ac).flatMap fD):=by
 obtain⟨a0,c0,rfl,-,-⟩:=mY hv;have htl:Ke m cs (bytes s) ac=if iq m cs=true then YK cs ⟨bytes s,ac⟩else cs:=rfl
 generalize Ke m cs (bytes s) ac=TL at *;have alj:=ah htl;clear htl;have hC:=λW (hx:Ext w W)=>vN m (.slice a0 cs c0) cs hl W (hv.ext hx)
 have n1:=aC w (.cells #[.int .u8 m,.slice a0 cs c0] 31);obtain⟨W1,hW1⟩:∃W1,W1=w.alloc (.cells #[.int .u8 m,.slice a0 cs c0] 31):=⟨_,rfl⟩;have hx1:Ext w W1:=by rw[hW1];exact(aj _).alloc _
 have hs1:W1.heap.size=w+1:=by rw[hW1];simp
 rw[<-hW1]at n1;have n3:=aC W1 (.cells #[.int .u8 0,.slice none 0 0] 31);obtain⟨W3,hW3⟩:∃W3,W3=W1.alloc (.cells #[.int .u8 0,.slice none 0 0] 31):=⟨_,rfl⟩;have hx3:Ext W1 W3:=by rw[hW3];exact(aj _).alloc _
 have hs3:W3.heap.size=w+2:=by rw[hW3];simp[hs1]
 rw[<-hW3,hs1]at n3;replace n1:=aI n1 hx3;obtain⟨k0,k1⟩:=uJ n1;have HW:=ah (ak hW1 hW3);have kg:=ah (hx1.trans hx3);have HN:=ah (ak n1 n3);have HS:=ah hs3;clear hW1 hW3 hs1 hs3 hx1 hx3 n1 n3 hv;unfold qh at hC⊢;have yN:=ah hC;clear hC;go_in;go_upto_region 1 with fail;rw[<-HW.o.1,<-HW.o.2];go_wp2_with fail;refine(yN.o W3 kg.o).mono ?_;rintro e w4 ⟨a',c',rfl,hx4,rY⟩;have hb1:=aI HN.o.1 hx4;have hb3:=aI HN.o.2 hx4;rw[HS.o]at rY;obtain⟨W5,yR⟩:∃W5,W5=w4.setRow w #[.int .u8 m,.slice a' cs c']:=⟨_,rfl⟩;have k5:W5.heap[w.heap.size]?=some (.cells #[.int .u8 m,.slice a' cs c'] 31 (0,0)):=by rw[yR];exact dH _ _ _ _ _ _ hb1
 have lM:W5.ownsRow (w+2) 121 2 (.slice a' cs c') cs (cs.flatMap fD):=n6 rY (λb hb=>by rw[yR];exact fJ _ _ _ _ aq);have hx5:Ext w W5:=by rw[yR];exact eB (kg.o.trans hx4) (aD _) _
 have h53:W5.heap[w.heap.size+1]?=some (.cells #[.int .u8 0,.slice none 0 0] 31 (0,0)):=by rw[yR,fJ _ _ _ _ aq];exact hb3
 have HB1:=ah hb1;have HW5:=ah yR;have EY:=ah lM;have kM:=ah hx5;have HM5:=ah (ak k5 h53);have hM:=uq m (.slice a' cs c') cs hl W5 (bY fM lM);have htl:=alj.o;generalize iq m cs=R at *;unfold qh at hM;have HM:=ah hM;have HTL:=ah htl;have hsz5:w.heap.size+2<=W5.heap.size:=by rw[yR,setRow_size];have:=hx4.size;have:=HS.o;omega
 obtain⟨e0,e1⟩:=uJ k5;clear hx4 rY hb1 hb3 yR lM hx5 k5 h53 hM htl k0 k1;go_wp2_with(refine wpList_store_rowTo rfl 31 (.tmp 3) (.tmp 11) rfl rfl w.heap.size #[.int .u8 m,.slice a' cs c'] rfl rfl 31 _ HB1.o szL rfl cX ?_;rw[<-HW5.o]);refine ap HM.o ?_;intro w6 hx6;have g1:=aI HM5.o.1 hx6;have g3:=aI HM5.o.2 hx6;have sD:=ah (kM.o.trans hx6);have uF:=fO EY.o (Keep.of_below hx6 (λ_ hk=>hk)) (λb e=>(EY.o.lt b e).2);have A0:=ah uF;have arH:=hx6.size;clear hx6 uF e0 e1;obtain⟨e0,e1⟩:=uJ g1;have HG:=ah (ak g1 g3);clear g1 g3;cases R
 ·have hT:TL=cs:=HTL.o;subst hT;have hE:Ext w (w6.setRow (w+1) #[.int .u8 m,.slice a' TL c']):=eB sD.o (fI _ _) _;have hO:(w6.setRow (w+1) #[.int .u8 m,.slice a' TL c']).ownsRow w 121 2 (.slice a' TL c') TL (TL.flatMap fD):=(n6 A0.o (λb hb=>fJ _ _ _ _ aq)).mono (fI _ _);have HE:=ah (ak hE hO);clear hE hO;go_wp2_with(refine wpList_store_rowTo rfl 31 (.tmp 6) (.tmp 15) rfl rfl (w.heap.size+1) #[.int .u8 m,.slice a' TL c'] rfl rfl 31 _ HG.o.2 szL rfl cX ?_);exact aM (v:= .agg #[.int .u8 m,.slice a' TL c']) (dV results338 _ _ _ _ _ _ _ rfl (dH _ _ _ _ _ _ HG.o.2) underlying31 rfl ax) rfl ⟨a',c',rfl,HE.o.1,HE.o.2⟩
 ·have hT:TL=YK cs ⟨bytes s,ac⟩:=HTL.o;have hput:TL=if Xw cs (bytes s) (NQ cs (bytes s))=true then cs.set (NQ cs (bytes s)) ⟨bytes s,ac⟩else cs.take (NQ cs (bytes s))++⟨bytes s,ac⟩::cs.drop (NQ cs (bytes s)):=hT
  have hle:=adO cs (bytes s);have heq:Xw cs (bytes s) (NQ cs (bytes s))=true->NQ cs (bytes s)<cs.length:=λh=>by
   unfold Xw at h;split at h
   ·rename_i c he;exact(List.getElem?_eq_some_iff.1 he).1
   ·cases h
  obtain⟨W7,Nr⟩:∃W7,W7=w6.alloc (.cells #[.string s,.int .u32 ac] 121):=⟨_,rfl⟩;have n7:=aC w6 (.cells #[.string s,.int .u32 ac] 121);rw[<-Nr]at n7;have hx7:Ext w6 W7:=by rw[Nr];exact(aj _).alloc _
  have qY:=fO A0.o (Keep.of_below hx7 (λ_ hk=>hk)) (λb e=>(A0.o.lt b e).2);have hB:=SI (.slice a' cs c') cs s hl W7 (bY fM qY);have n1:=aI HG.o.1 hx7;have n2:=aI HG.o.2 hx7;generalize NQ cs (bytes s)=i at *;generalize Xw cs (bytes s) i=E at *;have HB:=ah hB;have HW7:=ah Nr;have HO7:=ah qY;have HN7:=ah (ak n1 (ak n2 n7));have DY:=ah (aag sD.o hx7);have HPT:=ah hput;have ajC:=hx7.size;clear e0 e1;obtain⟨e0,e1⟩:=uJ n1;clear hT hB Nr qY n1 n2 n7 hx7 hput;go_wp2_with(refine wpList_store_rowTo rfl 121 (.tmp 7) (.tmp 18) rfl rfl w6.heap.size #[.string s,.int .u32 ac] rfl rfl 121 _ (aC w6 _) szC rfl cX ?_;rw[World.setRow_alloc_new,<-HW7.o]);refine ap HB.o ?_;intro w8 vT;have g1:=aI HN7.o.1 vT;have g2:=aI HN7.o.2.1 vT;have g7:=aI HN7.o.2.2 vT;have Nq:=fO HO7.o (Keep.of_below vT (λ_ hk=>hk)) (λb e=>(HO7.o.lt b e).2);have agn:=aag DY.o vT;have ayH:=vT.size;clear e0 e1 vT;obtain⟨e0,e1⟩:=uJ g1;obtain⟨c0,c1⟩:=uJ g7;have hstr:str (bytes s)=s:=nY s;have hez:(fD ⟨bytes s,ac⟩).toArray= #[.string s,.int .u32 ac]:=by unfold fD;rw[hstr]
  cases E
  ·have hT:TL=cs.take i++⟨bytes s,ac⟩::cs.drop i:=HPT.o;have hTl:TL.length=cs+1:=by rw[hT,aH,aO,bC,cZ];omega
   obtain⟨W9,hW9⟩:∃W9,W9=w8.alloc (.cells #[.string s,.int .u32 ac] 121):=⟨_,rfl⟩;have n9:=aC w8 (.cells #[.string s,.int .u32 ac] 121);rw[<-hW9,<-hez]at n9;have D9:Ext w8 W9:=by rw[hW9];exact(aj _).alloc _
   have vU:=D9.size;have hI:=RX (w+2) (.slice a' cs c') cs ⟨bytes s,ac⟩ i hle hl W9 w8 (fO Nq (Keep.of_below D9 (λ_ hk=>hk)) (λb e=>(Nq.lt b e).2)) aq n9 (λe=>by have:=(Nq.lt _ e).2;omega);rw[<-hT,<-hTl]at hI;have HI:=ah hI;have HW9:=ah hW9;have JR:=ah (aag agn D9);have HG9:=ah (ak (aI g1 D9) (aI g2 D9));have hz9:w.heap.size+2<=W9.heap.size:=aq;clear hTl hI hW9 D9 n9 hT g1 g2 g7 Nq hez hstr agn;go_wp2_with fail;rw[<-HW9.o];refine HI.o.mono ?_;rintro e Yf ⟨a7,c7,rfl,oM,qY⟩;have k1:=(oM.block w aq).trans HG9.o.1;have k3:=(oM.block (w+1) aq).trans HG9.o.2;obtain⟨W8,ZH⟩:∃W8,W8=Yf.setRow w #[.int .u8 m,.slice a7 TL c7]:=⟨_,rfl⟩;have vT:Ext w W8:=by rw[ZH];exact eB (Below.trans JR.o (oM.mono (fI _ _))) (aD _) _
   have hb8:W8.heap[w.heap.size]?=some (.cells #[.int .u8 m,.slice a7 TL c7] 31 (0,0)):=by rw[ZH];exact dH _ _ _ _ _ _ k1
   have h83:W8.heap[w.heap.size+1]?=some (.cells #[.int .u8 0,.slice none 0 0] 31 (0,0)):=by rw[ZH,fJ _ _ _ _ aq];exact k3
   have Nq:W8.ownsRow (w+2) 121 2 (.slice a7 TL c7) TL (TL.flatMap fD):=n6 qY (λb hb=>by rw[ZH];exact fJ _ _ _ _ aq);have Dc:Yf.setCell ⟨w,1,none⟩ (.slice a7 TL c7)=W8:=by rw[ZH,fQ _ _ _ _ _ _ _ k1];rfl
   have hE:Ext w (W8.setRow (w+1) #[.int .u8 m,.slice a7 TL c7]):=eB vT (fI _ _) _;have hO:(W8.setRow (w+1) #[.int .u8 m,.slice a7 TL c7]).ownsRow w 121 2 (.slice a7 TL c7) TL (TL.flatMap fD):=(n6 Nq (λb hb=>fJ _ _ _ _ aq)).mono (fI _ _);have HE:=ah (ak hE hO);have H83:=ah h83;have S5:=ah Dc;have f1:Yf.frozen? ⟨w,1,none⟩=false:=by simp[World.frozen?,k1]
   clear e0 e1;obtain⟨e0,e1⟩:=uJ k1;obtain⟨e2,e3⟩:=uJ hb8;clear hE hO Nq h83 vT ZH qY oM hb8 k1 k3 Dc;go_upto_region 9 with fail;rw[S5.o];go_wp2_with(refine wpList_store_rowTo rfl 31 (.tmp 6) (.tmp 39) rfl rfl (w.heap.size+1) #[.int .u8 m,.slice a7 TL c7] rfl rfl 31 _ H83.o szL rfl cX ?_);exact aM (v:= .agg #[.int .u8 m,.slice a7 TL c7]) (dV results338 _ _ _ _ _ _ _ rfl (dH _ _ _ _ _ _ H83.o) underlying31 rfl ax) rfl ⟨a7,c7,rfl,HE.o.1,HE.o.2⟩
  ·have hi:i<cs:=heq rfl;have hT:TL=cs.set i ⟨bytes s,ac⟩:=HPT.o;have hTl:cs.length=TL:=by rw[hT,dO]
   have arM:=Nq;rcases Nq.2 with⟨-,h0⟩|⟨g,cap,cur,e,hBg,hg,hcap,hcm,hsz,hcur⟩
   ·omega
   simp only[aU,true_and]at e;obtain⟨rfl,rfl⟩:=e;obtain⟨L,hL⟩:∃L:List aA,L=cur.toList:=⟨_,rfl⟩;have rJ:L.length=c'*2:=by rw[hL];simpa using hsz
   have hgL:w8.heap[g]?=some (.cells L.toArray 121 (0,0)):=by rw[hL];simpa using hg
   have hfit:i*2+(fD ⟨bytes s,ac⟩).length<=L.length:=by rw[fM,rJ];omega
   have hLt:L.take (cs.length*2)=cs.flatMap fD:=by rw[hL];exact hcur
   have hss:=Tv fM L cs i hi ⟨bytes s,ac⟩ hLt (by rw[rJ];omega);rw[<-hT]at hss;have hval:(Value.agg #[.string s,.int .u32 ac]).cells=(fD ⟨bytes s,ac⟩).toArray:=hez.symm;have VE:=ah (ak hss (ak rJ hval));have HGL:=ah hgL;have HG9:=ah (ak g1 g2);have HX8:=ah agn;have HTl:=ah hTl;clear hss rJ hgL hLt hL hcur hsz hg hT Nq arM hez hstr agn g1 g2 g7 hval hTl;go_upto_region 9 with(refine pq rfl 121 (.tmp 31) (.tmp 30) rfl rfl g (i*2) _ (fD ⟨bytes s,ac⟩) rfl rfl 121 L HGL.o szC VE.o.2.2 hfit (oz _) w w HX8.o aq ?_;intro w9 alD hB9;have HB9:=ah hB9;clear hB9 e0 e1;obtain⟨q0,q1⟩:=uJ ((alD.o.2 w aq).trans HG9.o.1));have hgn:w.heap.size+1≠g:=aq;have h93:w9.heap[w.heap.size+1]?=some (.cells #[.int .u8 0,.slice none 0 0] 31 (0,0)):=Eq.trans (alD.o.2 (w+1) hgn) HG9.o.2;have H93:=ah h93;have Lx:w9.ownsRow (w+2) 121 2 (.slice (some g) cs c') cs (TL.flatMap fD):=by
    refine⟨?_,.inr ⟨g,c',_,rfl,hBg,alD.o.1,hcap,hcm,?_,VE.o.1⟩⟩
    ·rw[lQ fM,<-HTl.o]
    ·rw[bW,length_splice _ _ _ hfit,VE.o.2.1]
   have hE:Ext w (w9.setRow (w+1) #[.int .u8 m,.slice (some g) cs c']):=eB HB9.o (fI _ _) _;have hO:(w9.setRow (w+1) #[.int .u8 m,.slice (some g) cs c']).ownsRow w 121 2 (.slice (some g) cs c') cs (TL.flatMap fD):=(n6 Lx (λb hb=>fJ _ _ _ _ aq)).mono (fI _ _);have HE:=ah (ak hE hO);clear hE hO Lx h93;go_wp2_with(refine wpList_store_rowTo rfl 31 (.tmp 6) (.tmp 39) rfl rfl (w.heap.size+1) #[.int .u8 m,.slice (some g) cs c'] rfl rfl 31 _ H93.o szL rfl cX ?_);refine aM (v:= .agg #[.int .u8 m,.slice (some g) cs c']) (dV results338 _ _ _ _ _ _ _ rfl (dH _ _ _ _ _ _ H93.o) underlying31 rfl ax) rfl ⟨some g,c',by rw[<-HTl.o],HE.o.1,by rw[<-HTl.o];exact HE.o.2⟩
end LT
end Go.Proofs.YtopfefhenfineaaGreat
