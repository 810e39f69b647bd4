import Derived.Test.YtopfefhenfineaaGreatP30
import Derived.Test.YtopfefhenfineaaGreatP33
set_option linter.all false
set_option maxRecDepth 100000
set_option maxHeartbeats 8000000
namespace Go.Proofs.YtopfefhenfineaaGreat
open Go.Proofs.Tryz Go.RowKit Go.Shelf V
attribute[local go_sem] Oper.semAt_some
namespace LT
open gZ (AF)
open nG (eZ)
variable{W:ay}{a:AF}{mb n0 x y:Nat}{ns:List Nn}{s:iF}{u:aA}
def OR:Nat:=qJ.orL qJ.sV
def Cv(w:aK):Nat×Int:=qJ.j7 qJ.sV (bytes w) 181
structure SS3 where
 all:Nat
 rt:Bool
 ns:List Nn
def Oe(a:AF)(x:SS3)(w:aK):SS3:=
 if (Cv w).2=0 then⟨x.all|||(Cv w).1,x.rt,x.ns⟩else⟨x.all,false,x.ns++[⟨a.1,a.2.1,(Cv w).2.toNat,(bytes w).take 60⟩]⟩
def oW(x:Nat):Prop:=x&&&OR=x
def XH:OR<18446744073709551616:=az
def oW.lt(h:oW x):x<18446744073709551616:=Nat.lt_of_le_of_lt (by rw[<-h];exact Nat.and_le_right) XH
def NJ(x:Nat):BitVec.ofInt IntKind.u64.bits (x:Int)=BitVec.ofNat 64 x:=BitVec.ofInt_natCast _ _
def akE(h:oW x):BitVec.ofNat 64 x&&&BitVec.ofNat 64 OR=BitVec.ofNat 64 x:=by apply BitVec.eq_of_toNat_eq;rw[BitVec.toNat_and,BitVec.toNat_ofNat,BitVec.toNat_ofNat,Nat.mod_eq_of_lt h.lt,Nat.mod_eq_of_lt XH];exact h
def oW.bits(h:oW x):Go.bits BinOp.andNot IntKind.u64 (x:Int) (OR:Nat)=0:=by
 unfold Go.bits;rw[NJ,NJ]
 change IntKind.u64.wrap (((BitVec.ofNat 64 x&&& ~~~BitVec.ofNat 64 OR).toNat:Nat):Int)=0
 rw[show BitVec.ofNat 64 x&&& ~~~BitVec.ofNat 64 OR=0 from by rw[<-akE h,BitVec.and_assoc,BitVec.and_not_self];simp]
 rfl
def T8(x:Nat):Nat:=(BitVec.ofNat 64 OR&&& ~~~BitVec.ofNat 64 x).toNat
def YX(x:Nat):Go.bits BinOp.andNot IntKind.u64 (OR:Nat) (x:Int)=(T8 x:Int):=by
 unfold Go.bits;rw[NJ,NJ]
 change IntKind.u64.wrap (((BitVec.ofNat 64 OR&&& ~~~BitVec.ofNat 64 x).toNat:Nat):Int)=_
 unfold T8;have:=(BitVec.ofNat 64 OR&&& ~~~BitVec.ofNat 64 x).isLt;generalize(BitVec.ofNat 64 OR&&& ~~~BitVec.ofNat 64 x).toNat=y at *;rw[IntKind.wrap_u64];omega
def afT(x:Nat):oW (T8 x):=by
 unfold oW T8;have h:(BitVec.ofNat 64 OR&&& ~~~BitVec.ofNat 64 x)&&&BitVec.ofNat 64 OR=BitVec.ofNat 64 OR&&& ~~~BitVec.ofNat 64 x:=by rw[BitVec.and_comm,<-BitVec.and_assoc,BitVec.and_self]
 have h2:=congrArg BitVec.toNat h;rw[BitVec.toNat_and (x:=BitVec.ofNat 64 OR&&& ~~~BitVec.ofNat 64 x),BitVec.toNat_ofNat,Nat.mod_eq_of_lt XH]at h2;exact h2
def oW.or(h:oW x)(k:oW y):oW (x|||y):=by unfold oW at *;rw[Nat.and_or_distrib_right,h,k]
def oW.zero:oW 0:=by unfold oW;simp
def oW.full:oW OR:=by unfold oW;simp
def Mv(w:aK):((Cv w).2=0/\oW (Cv w).1)\/((Cv w).2=181/\(Cv w).1=0):=by
 unfold Cv qJ.j7;split
 ·rename_i x hx;have:∀y∈qJ.sV,y.2&&&OR=y.2:=az;exact .inl ⟨rfl,this x (List.mem_of_find?_eq_some hx)⟩
 ·exact .inr ⟨rfl,rfl⟩
def spF(a:AF)(v:aK)(sp:Nat)(ns:List Nn):Nat×List Nn:=
 if (Lib.goFieldsP eZ v).length=0 then(0,ns)
 else if (nG.sw v).2=0 then(if (nG.sw v).1=true then OR else 0,ns)
 else let x:=(Lib.goFieldsP eZ (rT v)).foldl (Oe a) ⟨0,true,ns⟩
  (if x.rt=true then(if A4 v=true then x.all else T8 x.all)else sp,x.ns)
def abw{x:SS3}(w:aK)(h:oW x.all):oW (Oe a x w).all:=by
 unfold Oe;split
 ·rename_i h0;rcases Mv w with⟨-,k⟩|⟨k,-⟩
  ·exact h.or k
  ·rw[k]at h0;cases h0
 ·exact h
def V9{x:SS3}(w:aK):(Oe a x w).ns.length<=x.ns.length+1:=by unfold Oe;exact tE
def SX.YJ{p:iZ}(h:SX n0 mb p s u ns a W)(x:Nat):SX n0 mb {p with sp:=x} s u ns a (W.setCell ⟨mb,8,none⟩ (.int .u64 (x:Int)))/\TK n0 SK W (W.setCell ⟨mb,8,none⟩ (.int .u64 (x:Int))):=
 h.put 8 (.int .u64 (x:Int)) (p':= {p with sp:=x}) (s':=s) rfl ⟨h.po.ar,h.po.fc,h.po.lc,h.po.fa⟩
theorem ad3(W:ay):Calls prog 60 #[] W λe w'=>e= .returned (.int .u64 (OR:Nat))/\Ext W w':=qJ.DR W
theorem p4{p:iZ}(h:SX n0 mb p s u ns a W)(hn0:n0<=W)(hl:ns.length<=500000)(v:aK)(hv:v.size<=100000):Calls prog 224 #[.pointer (some mb),.string v] W (DT n0 mb {p with sp:=(spF a v p.sp ns).1} (spF a v p.sp ns).2 a W):=by
 have hrs:=Ej v;have hfl:=lV eZ (rT v);have hL1:=lV eZ v;have HS:=ah (vk eZ (rT v));have HW:=ah (λW=>nG.nU v aq W);have HW2:=ah (λW=>nG.nU (rT v) aq W);have HT:=ah (λW=>RB v W);have HBo:=ah (λW=>nG.JF v W);have HSp:=ah (λW=>ad3 W);have hR:spF a v p.sp ns=if (Lib.goFieldsP eZ v).length=0 then(0,ns)else if (nG.sw v).2=0 then(if (nG.sw v).1=true then OR else 0,ns)else(if ((Lib.goFieldsP eZ (rT v)).foldl (Oe a) ⟨0,true,ns⟩).rt=true then(if A4 v=true then((Lib.goFieldsP eZ (rT v)).foldl (Oe a) ⟨0,true,ns⟩).all else T8 ((Lib.goFieldsP eZ (rT v)).foldl (Oe a) ⟨0,true,ns⟩).all)else p.sp,((Lib.goFieldsP eZ (rT v)).foldl (Oe a) ⟨0,true,ns⟩).ns):=rfl
 have JK:=Ro v;generalize spF a v p.sp ns=R at *;generalize nG.sw v=bq at *;obtain⟨by_,be⟩:=bq;dsimp only at JK hR HBo;generalize Lib.goFieldsP eZ v=L1 at *;generalize Lib.goFieldsP eZ (rT v)=L at *;generalize A4 v=tn at *;generalize rT v=rv at *;have HOR:=ah XH;have hN:=YX;generalize OR=orv at *;have c8:W.cell? ⟨mb,8,none⟩=some (.int .u64 (p.sp:Int)):=aG h.b 8;have f8:=aP h.b 8;have H:=ah h;unfold DT;clear h;by_cases hz:L1.length=0
 ·rw[aV hz]at hR;have z0:((L1:Int)==0)=true:=by rw[hz];rfl
  have HR:=ah hR;clear hR hz JK hN;go_in;go_wp2_with(refine(HW.o _).mono ?_;rintro e w1 ⟨wv,rfl,hx1,ho1⟩;obtain⟨wb,wd,rfl⟩:=bU ho1;have c8':=hx1.cell c8;have f8':=aP (H.o.ext' hx1).b 8;have H1:=ah (ak hx1 (H.o.ext' hx1));clear hx1 ho1);have HP:=ah (H1.o.2.YJ 0)
  exact pu
 rw[aN hz]at hR;have z0:((L1:Int)==0)=false:=bK.2 aq;clear hz;rcases JK with rfl|rfl
 ·rw[aV rfl]at hR;have HR:=ah hR;clear hR hN;cases by_
  ·go_in;go_wp2_with(first
    |(go_at_call 270;refine(HW.o _).mono ?_;rintro e w1 ⟨wv,rfl,hx1,ho1⟩;obtain⟨wb,wd,rfl⟩:=bU ho1;have H1:=ah hx1;clear hx1 ho1)
    |(go_at_call 277;refine ap (HBo.o _) ?_;intro w2 hx2;have hx:=H1.o.trans hx2;have c8':=hx.cell c8;have f8':=aP (H.o.ext' hx).b 8;have H2:=ah (ak hx (H.o.ext' hx));clear hx2 hx))
   have HP:=ah (H2.o.2.YJ 0)
   first|go_end0|refine aM (bH rfl _ _ _) rfl ?_
   exact⟨rfl,⟨_,_,by rw[HR.o];exact HP.o.1⟩,(TK.ext H2.o.1).trans HP.o.2⟩
  ·go_in;go_wp2_with(first
    |(go_at_call 270;refine(HW.o _).mono ?_;rintro e w1 ⟨wv,rfl,hx1,ho1⟩;obtain⟨wb,wd,rfl⟩:=bU ho1;have H1:=ah hx1;clear hx1 ho1)
    |(go_at_call 277;refine ap (HBo.o _) ?_;intro w2 hx2;have hx:=H1.o.trans hx2;have c8':=hx.cell c8;have f8':=aP (H.o.ext' hx).b 8;have H2:=ah (ak hx ((H.o.ext' hx).YJ 0));clear hx2 hx)
    |(go_at_call 60;refine ap (HSp.o _) ?_;intro w3 hx3;have hs3:=H2.o.2.1.ext' hx3;have asH:w3.cell? ⟨mb,8,none⟩=some (.int .u64 ((0:Nat):Int)):=aG hs3.b 8;have asy:=aP hs3.b 8;have H3:=ah (ak ((TK.ext H2.o.1).trans (H2.o.2.2.trans (.ext hx3))) (hs3.YJ orv));clear hx3 hs3))
   first|go_end0|refine aM (bH rfl _ _ _) rfl ?_
   exact⟨rfl,⟨_,_,by rw[HR.o];exact H3.o.2.1⟩,H3.o.1.trans H3.o.2.2⟩
 ·rw[aN az]at hR;have HR:=ah hR;have HN:=ah hN;clear hR hN;go_in;go_wp2_with(first
   |(go_at_call 270;refine(HW2.o _).mono ?_;rintro e w2 ⟨wv2,rfl,hx2,ho2⟩;obtain⟨wb2,wd2,rfl⟩:=bU ho2;have H3:=ah (ak (H2.o.trans hx2) (ho2.mono (bP _)));clear hx2 ho2)
   |(go_at_call 270;refine(HW.o _).mono ?_;rintro e w1 ⟨wv,rfl,hx1,ho1⟩;obtain⟨wb,wd,rfl⟩:=bU ho1;have H1:=ah hx1;clear hx1 ho1)
   |(go_at_call 277;refine ap (HBo.o _) ?_;intro w2 hx2;have H2:=ah (H1.o.trans hx2);clear hx2)
   |(go_at_call 274;refine ap (HT.o _) ?_;rintro w4 rfl))
  go_loopw [8,9,47] (λx8 x9 i wr=>∃(k:Nat) (x1:SS3) (u1:aA),x8= .int .u64 (x1.all:Int)/\x9= .bool x1.rt/\i= .int .i64 k/\k<=L/\x1=(L.take k).foldl (Oe a) ⟨0,true,ns⟩/\SX n0 mb p s u1 x1.ns a wr/\wr.ownsRow 0 9 1 (.slice wb2 L wd2) L (L.flatMap nG.zY)/\TK n0 SK W wr/\oW x1.all/\x1.ns.length<=ns+k) (λ_ _ i _=>L.length-(intOf i).toNat)
  case atStart=>exact⟨0,⟨0,true,ns⟩,u,rfl,rfl,rfl,aq,rfl,H.o.ext' H3.o.1,H3.o.2,.ext H3.o.1,oW.zero,aE⟩
  case round=>
   obtain⟨k,⟨al,rt,yQ⟩,u1,rfl,rfl,rfl,hk,hfo,hsx,how,htk,hao,hnl⟩:=hrel;dsimp only at hsx hao hnl;by_cases hlt:k<L
   ·obtain⟨b,o,c',e',r0⟩:=Gm how hlt;simp only[aU,true_and]at e';obtain⟨rfl,rfl⟩:=e';have hsz:=HS.o _ (aW hlt);have hst:(L.take (k+1)).foldl (Oe a) ⟨0,true,ns⟩=Oe a ⟨al,rt,yQ⟩ L[k]:=by rw[bE hlt,gU,<-hfo];rfl
    generalize L[k]=uM at *;have hP:∀W,Calls prog 278 #[.string uM] W λe w'=>e= .returned (.tuple #[.int .u64 ((Cv uM).1:Int),.int .i64 (Cv uM).2])/\Ext W w':=λW=>qJ.RH uM W
    have hpo:=Mv uM;have hnx:oW (Oe a ⟨al,rt,yQ⟩ uM).all:=abw uM hao;have hln:=V9 (a:=a) (x:=⟨al,rt,yQ⟩) uM;have qE:Oe a ⟨al,rt,yQ⟩ uM=if (Cv uM).2=0 then⟨al|||(Cv uM).1,rt,yQ⟩else⟨al,false,yQ++[⟨a.1,a.2.1,(Cv uM).2.toNat,(bytes uM).take 60⟩]⟩:=rfl
    rw[<-hst]at hnx hln qE;generalize Cv uM=q at *;obtain⟨an,er⟩:=q;dsimp only at hP hpo qE hln;have zk:(k:Int)<L:=aq;have HPa:=ah hP;have HI:=ah (ak hsx (ak how (ak htk (ak hnl (ak hnx hln)))));have hal:=hao.lt;have hns:n0<=wr:=aL hn0 htk.size;clear hP hsx how htk hao hnx hln hst hfo;rcases hpo with⟨rfl,hq1⟩|⟨rfl,rfl⟩
    ·rw[aV rfl]at qE;have hor:=bits_or_u64_nat al an hal hq1.lt;have HST:=ah qE;clear qE hq1;go_wp2_with(go_at_call 278;refine ap (HPa.o _) ?_;intro w5 hx5;have kM:=ah hx5;clear hx5);go_roundw
     case rel=>exact⟨k+1,_,u1,by rw[HST.o],by rw[HST.o],bm,aq,rfl,by rw[HST.o];exact HI.o.1.ext' kM.o,jR HI.o.2.1 kM.o,HI.o.2.2.1.trans (.ext kM.o),HI.o.2.2.2.2.1,by have:=HI.o.2.2.2;omega⟩
     case measure=>exact gO
    ·rw[aN az]at qE;have hor:=bits_or_u64_nat al 0 hal az;rw[Nat.or_zero,show((0:Nat):Int)=0 from rfl]at hor;have HST:=ah qE;clear qE;go_wp2_with(first
      |(go_at_call 278;refine ap (HPa.o _) ?_;intro w5 hx5;have kM:=ah hx5;clear hx5)
      |(refine ap (uS (HI.o.1.ext' kM.o) (aL hns kM.o.size) (by have:=HI.o.2.2.2.1;omega) uM aq 181) ?_;rintro w6 ⟨u6,hs6,Da⟩;have H6:=ah (ak hs6 Da);clear hs6 Da))
     go_roundw
     case rel=>exact⟨k+1,_,u6,by rw[HST.o],by rw[HST.o],bm,aq,rfl,by rw[HST.o];exact H6.o.1,H6.o.2.own (jR HI.o.2.1 kM.o) rfl,(HI.o.2.2.1.trans (.ext kM.o)).trans H6.o.2,HI.o.2.2.2.2.1,by have:=HI.o.2.2.2;omega⟩
     case measure=>exact gO
   ·obtain rfl:k=L.length:=aq;rw[bZ]at hfo;have hR:=HR.o;rw[<-hfo]at hR;dsimp only at hR;have HR3:=ah hR;have HI:=ah (ak hsx htk);have d8:wr.cell? ⟨mb,8,none⟩=some (.int .u64 (p.sp:Int)):=aG hsx.b 8;have g8:=aP hsx.b 8;have hnb:=HN.o al;have HNB:=ah hnb;clear hsx how htk hao hfo hR hnb HR;cases rt
    ·go_wp2_with fail
     first|go_end0|refine aM (bH rfl _ _ _) rfl ?_
     exact⟨rfl,⟨_,_,by rw[HR3.o];exact HI.o.1⟩,HI.o.2⟩
    cases tn
    ·have hnb:=HNB.o;go_wp2_with(go_at_call 60;refine ap (HSp.o _) ?_;intro w3 hx3;have hs3:=HI.o.1.ext' hx3;have asH:=hx3.cell d8;have asy:=aP hs3.b 8;have H4:=ah (ak (HI.o.2.trans (.ext hx3)) (hs3.YJ (T8 al)));clear hx3 hs3)
     first|go_end0|refine aM (bH rfl _ _ _) rfl ?_
     exact⟨rfl,⟨_,_,by rw[HR3.o];exact H4.o.2.1⟩,H4.o.1.trans H4.o.2.2⟩
    ·have HP:=ah (HI.o.1.YJ al);go_wp2_with fail
     first|go_end0|refine aM (bH rfl _ _ _) rfl ?_
     exact⟨rfl,⟨_,_,by rw[HR3.o];exact HP.o.1⟩,HI.o.2.trans HP.o.2⟩
end LT
variable{zP:Prop}
def cV(h:zP:=by simp[Value.oneCell',fA]):zP:=h
namespace LT
theorem Ml:(Tryz.prog.info? 36).map (·.size)=some 13:=ax
def oJ:Array aA:= #[.slice none 0 0,.int .u8 0,.slice none 0 0,.int .u32 0,.int .u8 0,.slice none 0 0,.slice none 0 0,.int .u8 0,.int .u64 0,.bool false,.bool false,.bool false,.bool false]
structure PB(w:ay)(p:iZ)(s:iF)(W:ay):Prop where
 ext:Ext w W
 bo:W.heap[w.heap.size]?=some (.cells (fA p s).toArray 36 (0,0))
 res:W.heap[w.heap.size+1]?=some (.cells oJ 36 (0,0))
section
variable {w W W':ay} {p:iZ} {s s':iF}
def PB.ext'(h:PB w p s W)(hx:Ext W W'):PB w p s W':=⟨h.ext.trans hx,aI h.bo hx,aI h.res hx⟩
def PB.put(h:PB w p s W)(k:Nat)(v:aA)(he:(fA p s).toArray.setIfInBounds k v=(fA p s').toArray):PB w p s' (W.setCell ⟨w,k,none⟩ v):=by rw[fQ _ _ _ _ _ _ _ h.bo];refine⟨eB h.ext (aD _) _,?_,(fJ _ _ _ _ aq).trans h.res⟩;rw[dH _ _ _ _ _ _ h.bo,he]
def PB.own(h:PB w p s W){base e n k:Nat}{v:aA}{zs:List aA}(ho:W.ownsRow base e n v k zs)(i:Nat)(x:aA)(hne:e≠36):(W.setCell ⟨w,i,none⟩ x).ownsRow 0 e n v k zs:=by rw[fQ _ _ _ _ _ _ _ h.bo];exact dX (ho.mono (bP _)) h.bo hne _
end
theorem qz(p:iZ)(s:iF)(h1:p.ar.length<=1000000)(h2:p.fc.length<=1000000)(h3:p.lc.length<=1000000)(h4:p.fa.length<=1000000)(w:ay)(hr:yt w p s)(g:Nat)(hg:g=172\/g=174):Calls prog g #[m6 p s] w λe w'=>∃s',e= .returned (m6 p s')/\Ext w w'/\qH w' p s':=by
 have HA:=ah (λW (hx:Ext w W)=>D4 _ p.ar h1 W (hr.ar.ext hx));have HU:=ah (λW (hx:Ext w W)=>D3 _ p.fa h4 W (hr.fa.ext hx));have HF:=ah (λW (hx:Ext w W)=>vS _ p.fc h2 W (hr.fc.ext hx));have HL:=ah (λW (hx:Ext w W)=>vS _ p.lc h3 W (hr.lc.ext hx));have hb0:PB w p s ((w.alloc (.cells (fA p s).toArray 36)).alloc (.cells oJ 36)):=by
  refine⟨((aj w).alloc _).alloc _,aI (aC w _) ((aj _).alloc _),?_⟩;have:=aC (w.alloc (.cells (fA p s).toArray 36)) (.cells oJ 36)
  rwa [aR]at this
 have HB:=ah hb0;clear hb0 hr;obtain⟨ar,fm,fc,dn,lm,lc,fa,fd,sp,we,pe,rt,np⟩:=p;obtain⟨a0,c0,fa0,fc0,la0,lc0,ga0,gc0⟩:=s;unfold m6;obtain⟨bl,hbl⟩:∃bl,bl=w.heap.size:=⟨_,rfl⟩;unfold fA;dsimp only at *;rcases hg with rfl|rfl
 case' inl=>go_in
 case' inr=>go_in
 all_goals
  go_upto_region 4 with(first
   |(refine(HA.o _ HB.o.ext).mono ?_;rintro e w1 ⟨a1,c1,rfl,hx1,ho1⟩
     have hb:=HB.o.ext' hx1;have f1:=aP hb.bo 0;have e1:w1.cell? w=some (.slice a0 ar c0):=aG hb.bo 0;have hp:=hb.put (s':=⟨a1,c1,fa0,fc0,la0,lc0,ga0,gc0⟩) 0 (.slice a1 ar c1) rfl;have g1:(w1.setCell w (.slice a1 ar c1)).cell? ⟨w,6,none⟩=some (.slice ga0 fa gc0):=aG hp.bo 6;have H1:=ah (ak hp (hb.own ho1 0 (.slice a1 ar c1) az));clear hx1 ho1 hb hp)
   |(refine(HU.o _ H1.o.1.ext).mono ?_;rintro e w2 ⟨a2,c2,rfl,hx2,ho2⟩
     have hb:=H1.o.1.ext' hx2;have f2:=aP hb.bo 6;have e2:w2.cell? ⟨w,6,none⟩=some (.slice ga0 fa gc0):=aG hb.bo 6;have hp:=hb.put (s':=⟨a1,c1,fa0,fc0,la0,lc0,a2,c2⟩) 6 (.slice a2 fa c2) rfl;have g2:(w2.setCell ⟨w,6,none⟩ (.slice a2 fa c2)).cell? ⟨w,2,none⟩=some (.slice fa0 fc fc0):=aG hp.bo 2;have H2:=ah (ak hp (ak (hb.own (jR H1.o.2 hx2) 6 (.slice a2 fa c2) az) (hb.own ho2 6 (.slice a2 fa c2) az)));clear hx2 ho2 hb hp)
   |(refine(HF.o _ H2.o.1.ext).mono ?_;rintro e w3 ⟨a3,c3,rfl,hx3,ho3⟩
     have hb:=H2.o.1.ext' hx3;have f3:=aP hb.bo 2;have e3:w3.cell? ⟨w,2,none⟩=some (.slice fa0 fc fc0):=aG hb.bo 2;have hp:=hb.put (s':=⟨a1,c1,a3,c3,la0,lc0,a2,c2⟩) 2 (.slice a3 fc c3) rfl;have g3:(w3.setCell ⟨w,2,none⟩ (.slice a3 fc c3)).cell? ⟨w,5,none⟩=some (.slice la0 lc lc0):=aG hp.bo 5;have H3:=ah (ak hp (ak (hb.own (jR H2.o.2.1 hx3) 2 (.slice a3 fc c3) az) (ak (hb.own (jR H2.o.2.2 hx3) 2 (.slice a3 fc c3) az) (hb.own ho3 2 (.slice a3 fc c3) az))));clear hx3 ho3 hb hp))
  clear f1 f2 f3 g1 g2;go_wp2_with(first
   |(refine(HL.o _ H3.o.1.ext).mono ?_;rintro e w4 ⟨a4,c4,rfl,hx4,rY⟩
     have hb:=H3.o.1.ext' hx4;have f4:=aP hb.bo 5;have e4:w4.cell? ⟨w,5,none⟩=some (.slice la0 lc lc0):=aG hb.bo 5;have hp:=hb.put (s':=⟨a1,c1,a3,c3,a4,c4,a2,c2⟩) 5 (.slice a4 lc c4) rfl;have H4:=ah (ak hp (ak (hb.own (jR H3.o.2.1 hx4) 5 (.slice a4 lc c4) az) (ak (hb.own (jR H3.o.2.2.1 hx4) 5 (.slice a4 lc c4) az) (ak (hb.own (jR H3.o.2.2.2 hx4) 5 (.slice a4 lc c4) az) (hb.own rY 5 (.slice a4 lc c4) az)))));clear hx4 rY hb hp)
   |(refine wp_load_row 36 (.tmp 1) rfl w.heap.size rfl 36 _ _ _ H4.o.1.bo underlying36 rfl Ml ?_)
   |(refine gX rfl 36 (.tmp 1) rfl w.heap.size rfl 36 _ _ _ H4.o.1.bo underlying36 rfl Ml ?_)
   |(refine wpList_store_rowTo rfl 36 (.tmp 2) (.tmp 23) rfl rfl (w.heap.size+1) (fA ⟨ar,fm,fc,dn,lm,lc,fa,fd,sp,we,pe,rt,np⟩ ⟨a1,c1,a3,c3,a4,c4,a2,c2⟩).toArray rfl rfl 36 _ H4.o.1.res Ml rfl cV ?_))
  have hh:=dH _ _ _ (fA ⟨ar,fm,fc,dn,lm,lc,fa,fd,sp,we,pe,rt,np⟩ ⟨a1,c1,a3,c3,a4,c4,a2,c2⟩).toArray _ _ H4.o.1.res;refine aM (v:= .agg (fA ⟨ar,fm,fc,dn,lm,lc,fa,fd,sp,we,pe,rt,np⟩ ⟨a1,c1,a3,c3,a4,c4,a2,c2⟩).toArray) ?_ rfl ?_
  ·first|exact dV results172 _ _ _ _ _ _ _ rfl hh underlying36 rfl ax|exact dV results174 _ _ _ _ _ _ _ rfl hh underlying36 rfl ax
  ·exact⟨⟨a1,c1,a3,c3,a4,c4,a2,c2⟩,rfl,eB H4.o.1.ext aq _,⟨dX H4.o.2.1 H4.o.1.res az _,dX H4.o.2.2.2.1 H4.o.1.res az _,dX H4.o.2.2.2.2 H4.o.1.res az _,dX H4.o.2.2.1 H4.o.1.res az _⟩⟩
end LT
end Go.Proofs.YtopfefhenfineaaGreat
namespace Go.Proofs.YtopfefhenfineaaGreat
open Go.Proofs.Tryz Go Go.RowKit V
namespace LT
variable{P:Program}{W W':ay}{b:Nat}{e k t:dz}{l:List (aK×aA)}
def qB(W:ay)(b:Nat)(l:List (aK×aA)):Prop:= ∃es clock,W.heap[b]?=some (.map es clock)/\es.toList.map (λe=>(e.key,e.val))=l.map λx=>(.string x.1,x.2)
def qB.ext(h:qB W b l)(hx:Ext W W'):qB W' b l:=by obtain⟨es,c,h1,h2⟩:=h;exact⟨es,c,aI h1 hx,h2⟩
def qB.made(W:ay):qB (W.alloc (.map #[] 0)) W []:=⟨#[],0,aC _ _,rfl⟩
def qB.lt(h:qB W b l):b<W.heap.size:=by obtain⟨_,_,h1,-⟩:=h;exact(aB.1 h1).1
def B6(k:aK):∀(es:List MapEntry)(l:List (aK×aA)) (i:Nat),es.map (λe=>(e.key,e.val))=l.map (λx=>(Value.string x.1,x.2))->∃r,Instr.findNow .string (.string k) es i=some r/\r.map (·.2)=(l.find? λx=>k==x.1).map (·.2)
 | [],l,i,h=>by
   cases l with
   |nil=>exact⟨none,rfl,rfl⟩
   |cons _ _=>cases h
 |e::es,l,i,h=>by
  cases l with
  |nil=>cases h
  |cons x l=>
   simp only[bS,List.cons.injEq,Prod.mk.injEq]at h;obtain⟨⟨h1,h2⟩,h3⟩:=h;unfold Instr.findNow;rw[h1,List.find?_cons];have hs:Instr.sameNow .string (.string k) (.string x.1)=some (k==x.1):=rfl;rw[hs];cases hk:(k==x.1)
   ·exact B6 k es l (i+1) h3
   ·exact⟨some (i,e.val),rfl,by simp[h2]⟩
theorem Dy(W:ay)(ht:P.underlying t=some .string)(em:Bool)(s:aK):(Instr.checkKey em 10000 t (.string s)).run P W= .ok () W:=by unfold Instr.checkKey;simp[run_underlying ht,Result.andThen]
theorem FI(W:ay)(ht:P.underlying t=some .string)(k:aK){es:List MapEntry}{r:Option (Nat×aA)}(h:Instr.findNow .string (.string k) es 0=some r):(Instr.findKey t (.string k) es).run P W= .ok r W:=by unfold Instr.findKey;simp[run_underlying ht,h,Result.andThen]
theorem O0(h:qB W b l){z:aA}(ht:P.underlying t=some (.map k e))(hk:P.underlying k=some .string)(hz:(zeroValue e).run P W= .ok z W)(s:aK):(Instr.lookup t (.map (some b)) (.string s) true).run P W= .ok (.tuple #[(((l.find? λx=>s==x.1).map (·.2)).getD z),.bool (l.find? λx=>s==x.1).isSome]) W:=by
 obtain⟨es,c,h1,h2⟩:=h;obtain⟨r,h3,h4⟩:=B6 s es.toList l 0 h2;have h5:=FI W hk s h3;have h6:=Dy (P:=P) W hk es.isEmpty s;have hs:(l.find? λx=>s==x.1).isSome=r.isSome:=by rw[<-Option.isSome_map (f:=Prod.snd),<-h4,Option.isSome_map]
 rw[hs,<-h4];unfold Instr.lookup;cases r with
 |none=>simp[run_underlying ht,MapKept.run_getObj_map h1,h6,h5,hz,Result.andThen]
 |some v=>obtain⟨i,v⟩:=v;simp[run_underlying ht,MapKept.run_getObj_map h1,h6,h5,Result.andThen]
theorem kQ(h:qB W b l)(ht:P.underlying t=some (.map k e))(hk:P.underlying k=some .string)(s:aK)(hn:(l.find? λx=>s==x.1)=none)(v:aA):∃W',(Instr.mapUpdate t (.map (some b)) (.string s) v).run P W= .ok () W'/\qB W' b (l++[(s,v)])/\W.grownBy W' (some b):=by
 obtain⟨es,c,h1,h2⟩:=h;obtain⟨r,h3,h4⟩:=B6 s es.toList l 0 h2;rw[hn]at h4;obtain rfl:r=none:=by cases r with
  |none=>rfl
  |some _=>cases h4
 have h5:=FI W hk s h3;have h6:=Dy (P:=P) W hk false s;have hb:=(aB.1 h1).1;refine⟨ChangeMaps.setBlock W b (.map (es.push {key:= .string s,val:=v,born:=c}) (c+1)),?_,⟨_,_,ChangeMaps.heap_setBlock_same h1 _,by simp[h2]⟩,⟨rfl,rfl,rfl,by simp[ChangeMaps.setBlock],λi _ hi=>ChangeMaps.heap_setBlock_other h1 _ (λe=>hi (by rw[e]))⟩⟩;unfold Instr.mapUpdate ChangeMaps.setBlock;simp[run_underlying ht,MapKept.run_getObj_map h1,h6,h5,MapKept.run_setObj_map _ h1,Result.andThen]
end LT
end Go.Proofs.YtopfefhenfineaaGreat
namespace Go.Proofs.YtopfefhenfineaaGreat
open Go.Proofs.Tryz Go.RowKit Go.Shelf V
attribute[local go_sem] Oper.semAt_some
variable{zP:Prop}
def re(h:zP:=by unfold Rt;go_in;go_wp2_with(refine ap (HE.o _) ?_;intro w1 hx1);go_ret2;exact⟨aE,hx1⟩):zP:=h
namespace LT
open gZ (AF)
variable{A W W':ay}{B b b1 b2 c g g' k m n0 t:Nat}{cs cs0:Array aA}{l:List (aK×aA)}{s s':iF}{suf x:Bool}{v:aA}
def Oi(v:aK):Nat×Int:=if v=⟨#[]⟩\/v=⟨#[107,105,108,108]⟩then(2147483648,0)else if (nG.mG (nG.bytes v)).2=0 then(327680|||(nG.mG (nG.bytes v)).1,0)else(0,160)
def ab4(n:Nat)(h:n<=4095):327680|||n=327680+n:=by have:=(Nat.two_pow_add_eq_or_of_lt (i:=16) (b:=n) aq 5).symm;exact sd
def afJ(n:Nat)(h:n<=4095):bits BinOp.or IntKind.u32 327680 (n:Int)=((327680|||n:Nat):Int):=by rw[ab4 n h];have h1:bits BinOp.or IntKind.u32 ((327680:Nat):Int) (n:Int)=IntKind.u32.wrap (((BitVec.ofInt 32 (327680:Nat)|||BitVec.ofInt 32 n).toNat:Nat):Int):=rfl;rw[show((327680:Int))=((327680:Nat):Int)from rfl,h1,BitVec.ofInt_natCast,BitVec.ofInt_natCast,BitVec.toNat_or,BitVec.toNat_ofNat,BitVec.toNat_ofNat,Nat.mod_eq_of_lt az,Nat.mod_eq_of_lt aq,ab4 n h,IntKind.wrap_u32];omega
def adC(v:aK):((Oi v).2=0/\((Oi v).1=2147483648\/327680<=(Oi v).1/\(Oi v).1<=331775))\/((Oi v).2=160/\(Oi v).1=0):=by
 unfold Oi;split
 ·exact .inl ⟨rfl,.inl rfl⟩
 ·split
  ·rename_i h;rcases nG.wN (nG.bytes v)with⟨-,h2⟩|h2
   ·exact .inl ⟨rfl,.inr (by dsimp only;rw[ab4 _ h2];omega)⟩
   ·rw[h]at h2;cases h2
  ·exact .inr ⟨rfl,rfl⟩
theorem Ny(v:aK)(hv:v.size<=1000000)(w:ay):Rt 218 #[.string v] w (.tuple #[.int .u32 ((Oi v).1:Int),.int .i64 (Oi v).2]):=by
 have hE:=λW=>nG.F0 v hv W
 have hok:=nG.wN (nG.bytes v);have hR:Oi v=if v=⟨#[]⟩\/v=⟨#[107,105,108,108]⟩then(2147483648,0)else if (nG.mG (nG.bytes v)).2=0 then(327680|||(nG.mG (nG.bytes v)).1,0)else(0,160):=rfl
 generalize Oi v=R at *;generalize nG.mG (nG.bytes v)=E at *;obtain⟨en,ee⟩:=E;dsimp only at *;have HE:=ah hE;clear hE;by_cases h1:v=⟨#[]⟩
 ·rw[aV (.inl h1)]at hR;subst hR;have z1:v.toList.isEmpty=true:=by rw[h1,Lib.toList_data];rfl
  clear hok h1;unfold Rt;go_in;go_wp2_with fail;go_ret2;exact⟨aE,aj _⟩
 have z1:v.toList.isEmpty=false:=by rw[Lib.toList_data,List.isEmpty_eq_false_iff];exactλe=>h1 (ByteArray.ext (Array.ext' e))
 by_cases h2:v=⟨#[107,105,108,108]⟩
 ·rw[aV (.inr h2)]at hR;subst hR;have z2:(v.toList==[107,105,108,108])=true:=by rw[h2,Lib.toList_data];rfl
  clear hok h1 h2;unfold Rt;go_in;go_wp2_with fail;go_ret2;exact⟨aE,aj _⟩
 have z2:(v.toList==[107,105,108,108])=false:=bK.2 λh=>h2 (by rw[Lib.toList_data]at h;exact ByteArray.ext (Array.ext' h))
 rw[aN (by rintro(h|h)<;>contradiction)]at hR;clear h1 h2;rcases hok with⟨rfl,hl⟩|rfl
 ·rw[aV rfl]at hR;subst hR;have hb:=afJ en hl;exact re
 ·rw[aN az]at hR;subst hR;exact re
theorem Fq{a:Option Addr}{cs:List Cl}{W:ay}(hb:W.heap[B]?=some (.cells cs0 36 (0,0)))(h1:cs0[k]?=some (.int .u8 m))(h2:cs0[k+1]?=some (.slice a cs c))(hr:Rd W 2 fD (.slice a cs c) cs)(hm:iq m cs=true)(g:Nat)(eg:∀args w,(callFunc g args).run prog w= .ok (.enter g args) w)(hg:∀W,Calls prog g #[.pointer (some B)] W λe w'=>e= .returned (.pointer (some ⟨B,k,none⟩))/\w'=W)(hB1:W.heap[b1]?=some (.cells #[.func (.func g) #[] #[]] 327 (0,0)))(hB2:W.heap[b2]?=some (.cells #[.bool suf] 4 (0,0)))(v:aK)(hv:v.size<=100000):Calls prog 267 #[.pointer (some B),.string v,.pointer (some b1),.pointer (some b2)] W λe w'=>∃(m':Nat)(cs':List Cl)(ns:List Nn)(a':Option Addr)(c':Nat)(un:aA)(W1:ay),e= .returned un/\oV suf m cs v m' cs' ns/\Ext W W1/\W1.ownsRow 0 121 2 (.slice a' cs' c') cs' (cs'.flatMap fD)/\W1.ownsRow W 45 4 un ns (ns.flatMap jF)/\w'=(W1.setCell ⟨B,k,none⟩ (.int .u8 m')).setCell ⟨B,k+1,none⟩ (.slice a' cs' c'):=by
 have HG:=ah hg;have HS:=ah (λ(W':ay) (hx:Ext W W')=>Vn m a c cs v suf hv hm W' (hr.ext hx));have KJ:=ah (λ(W':ay) (hx:Ext W W')=>aI hb hx);have q1:W.cell? b1=some (.func (.func g) #[] #[]):=aG hB1 0;have q2:W.cell? b2=some (.bool suf):=aG hB2 0;have q3:W.cell? ⟨B,k,none⟩=some (.int .u8 m):=(aG hb k).trans h1;have q4:W.cell? ⟨B,k+1,none⟩=some (.slice a cs c):=(aG hb (k+1)).trans h2;clear hb h1 h2 hr hg hB1 hB2;go_in;go_upto_region 2 with(refine ap (HG.o _) ?_;intro w1 hw1;subst hw1);have q2x:=nV q2;have q3x:=nV q3;have q4x:=nV q4;have q2o:=λo=>((aj w1).drew.alloc o).cell q2
 have q3o:=λo=>((aj w1).drew.alloc o).cell q3
 have q4o:=λo=>((aj w1).drew.alloc o).cell q4
 have l2:=aY _ _ q2;have l3:=aY _ _ q3;dsimp only at l2 l3;have n2:b2≠w1.heap.size:=aq;have n3:B≠w1.heap.size:=aq;go_cut [8,9] (λs8 s9 wx=>∃(m':Nat) (cs':List Cl) (ns:List Nn) (a':Option Addr) (c':Nat) (W1:ay) (n:Nat),W1=wx/\s8= .pointer (some n)/\oV suf m cs v m' cs' ns/\Ext w1 W1/\W1.ownsRow 0 121 2 (.slice a' cs' c') cs' (cs'.flatMap fD)/\W1.ownsRow w1 45 4 s9 ns (ns.flatMap jF)/\W1.heap[n]?=some (.cells #[.int .u8 m',.slice a' cs' c'] 31 (0,0)))
 case first=>
  go_region_with(refine(HS.o _ (by first|exact aj _|exact(aj _).drew|exact((aj _).alloc _).drew|exact(aj _).drew.alloc _)).mono ?_;rintro e w2 ⟨m',cs',ns,a',c',un,rfl,hx2,hsr,ho2,hn2⟩
                 unfold qh
                 first
                  |(have hn:w2.heap[w1.heap.size]?=some (.cells #[.int .u8 0,.slice none 0 0] 31 (0,0)):=aI (aC w1.drew (.cells #[.int .u8 0,.slice none 0 0] 31)) hx2
                    obtain⟨d0,d1⟩:=uJ hn;have f0:=aP hn 0;have f1:=aP hn 1;have HN:=ah hn;clear hn)
                  |(have hn:=aC w2 (.cells #[.int .u8 0,.slice none 0 0] 31)
                    obtain⟨d0,d1⟩:=uJ hn;have f0:=aP hn 0;have f1:=aP hn 1;have HN:=ah hn;clear hn)
                 have H2:=ah (ak hx2 (ak hsr (ak ho2 hn2)));clear hx2 hsr ho2 hn2)
  all_goals
   go_wp2_with fail;go_meet
   first
    |exact⟨m',cs',ns,a',c',_,_,rfl,rfl,H2.o.2.1,((aj w1).drew.trans H2.o.1).alloc _,jR H2.o.2.2.1 ((aj _).alloc _),jR H2.o.2.2.2 ((aj _).alloc _),aC _ _⟩
    |(rw[set2 HN.o]
      exact⟨m',cs',ns,a',c',_,_,rfl,rfl,H2.o.2.1,eB (((aj w1).drew.alloc _).trans H2.o.1) (aD _) _,dX H2.o.2.2.1 HN.o az _,dX (H2.o.2.2.2.mono (by show _<=(w1.heap.push _).size;rw[Array.size_push];exact Nat.le_succ _)) HN.o az _,dH _ _ _ _ _ _ HN.o⟩)
 case rest=>obtain⟨m',cs',ns,a',c',W1,n,rfl,rfl,hsr,hx1,ho1,hn1,hnn⟩:=hcut;have hbw:=KJ.o _ hx1;obtain⟨d0,d1⟩:=uJ hnn;have e1:=hx1.cell q3;have e2:=hx1.cell q4;have f1:=aP hbw k;have f2:=aP hbw (k+1);have H1:=ah (ak hsr (ak hx1 (ak ho1 hn1)));clear hsr hx1 ho1 hn1 hbw q2x q3x q4x q2o q3o q4o q1 q2 q3 q4;go_wp2_with fail;go_ret;exact⟨m',cs',ns,a',c',_,W1,rfl,H1.o.1,H1.o.2.1,H1.o.2.2.1,H1.o.2.2.2,rfl⟩
theorem ZQ(B:Nat)(W:ay):Calls prog 215 #[.pointer (some B)] W λe w'=>e= .returned (.pointer (some ⟨B,1,none⟩))/\w'=W:=by go_in;exact im
theorem ZP(B:Nat)(W:ay):Calls prog 216 #[.pointer (some B)] W λe w'=>e= .returned (.pointer (some ⟨B,4,none⟩))/\w'=W:=by go_in;exact im
theorem QN(g:Nat)(b:Bool)(W:ay):Calls prog 214 #[.func (.func g) #[] #[],.bool b] W λe w'=>e= .returned (.func (.func 267) #[] #[.pointer (some W),.pointer (some ⟨W+1,0,none⟩)])/\w'=(W.alloc (.cells #[.func (.func g) #[] #[]] 327)).alloc (.cells #[.bool b] 4):=by go_in;exact im
structure FX(B:Nat)(p:iZ)(s:iF)(W:ay):Prop where
 bo:W.heap[B]?=some (.cells (fA p s).toArray 36 (0,0))
 po:qH W p s
def FX.ext'{p:iZ}(h:FX B p s W)(hx:Ext W W'):FX B p s W':=⟨aI h.bo hx,h.po.ext hx⟩
def tyQ(t:Nat):Bool:=t==36
def FX.put{p p':iZ}(h:FX B p s W)(hB:n0<=B)(k:Nat)(v:aA)(he:(fA p s).toArray.setIfInBounds k v=(fA p' s').toArray)(hp:qH W p' s'):FX B p' s' (W.setCell ⟨B,k,none⟩ v)/\TK n0 tyQ W (W.setCell ⟨B,k,none⟩ v):=by have t1:TK n0 tyQ W (W.setCell ⟨B,k,none⟩ v):=TK.set (p:=⟨B,k,none⟩) h.bo rfl hB v;exact⟨⟨by rw[<-he];exact eX h.bo k v,hp.tk t1 rfl rfl rfl⟩,t1⟩
def wK{t:dz}(h:W.heap[B]?=some (.cells cs t (0,0)))(k:Nat)(v:aA):W.grownBy (W.setCell ⟨B,k,none⟩ v) (some B):=by rw[fQ _ _ _ _ _ _ _ h];exact⟨rfl,rfl,rfl,by rw[setRow_size];exact aD _,λi _ hi=>fJ _ _ _ _ (λe=>hi (by rw[e]))⟩
theorem ZO{p:iZ}(h:FX B p s W)(hB:n0<=B)(v:aK)(hv:v.size<=100000):Calls prog 217 #[.pointer (some B),.string v] W λe w'=>∃(u:aA)(ns:List Nn)(p':iZ),e= .returned u/\FX B p' s w'/\W.grownBy w' (some B)/\TK n0 tyQ W w'/\w'.ownsRow W 45 4 u ns (ns.flatMap jF)/\((ns=[]/\(Oi v).2=0/\p'= {p with dn:=(Oi v).1})\/(ns=[⟨[],0,160,(nG.bytes v).take 60⟩]/\(Oi v).2=160/\p'=p)):=by
 have HE:=λW=>Ny v aq W
 have hok:=adC v;generalize Oi v=R at *;obtain⟨en,ee⟩:=R;dsimp only at *;have HEE:=ah HE;have H:=ah h;clear HE h;rcases hok with⟨rfl,hl⟩|⟨rfl,rfl⟩
 ·go_in;go_wp2_with(refine ap (HEE.o _) ?_;intro w1 hx1;have h1:=H.o.ext' hx1;have c3:w1.cell? ⟨B,3,none⟩=some (.int .u32 p.dn):=aG h1.bo 3;have f3:=aP h1.bo 3;have H1:=ah (ak h1 hx1);clear h1 hx1);go_ret;have hp:=H1.o.1.put hB 3 (.int .u32 en) (p':= {p with dn:=en}) (s':=s) rfl ⟨H1.o.1.po.ar,H1.o.1.po.fc,H1.o.1.po.lc,H1.o.1.po.fa⟩;exact⟨.slice none 0 0,[],_,rfl,hp.1,((wM H1.o.2).but _).trans (wK H1.o.1.bo 3 _),(TK.ext H1.o.2).trans hp.2,⟨rfl,.inl aE⟩,.inl ⟨rfl,aE,rfl⟩⟩
 ·obtain⟨k,hk⟩:∃k,k=min v.size 60:=⟨_,rfl⟩;have hmz:min (v:Int) 60=(k:Int):=aq;have hkl:k<=v.size:=aq;have hkz:(k:Int)<=v:=aq;have hex:v.extract 0 k=str ((nG.bytes v).take 60):=by
   rw[qo];show str ((nG.bytes v).take k)=_
   congr 1
   by_cases hh:v.size<=60
   ·rw[hk,dI hh,dY (by show v.data.toList.length<=_;simp),dY (by show v.data.toList.length<=_;simpa using hh)]
   ·rw[hk,Nat.min_eq_right aq]
  have HK:=ah hk;clear hk;go_in;go_wp2_with(refine ap (HEE.o _) ?_;intro w1 hx1;have H1:=ah (ak (H.o.ext' hx1) hx1);clear hx1);go_ret;have hown:=jJ iC w1 [⟨[],0,160,(nG.bytes v).take 60⟩] 45 w1 W rfl H1.o.2.size cz;exact⟨.slice (some w1) 1 1,[⟨[],0,160,(nG.bytes v).take 60⟩],p,rfl,H1.o.1.ext' ((aj _).alloc _),(wM (H1.o.2.alloc _)).but _,TK.ext (H1.o.2.alloc _),hown,.inr ⟨rfl,aE,rfl⟩⟩
def Ag(W:ay)(g:Nat)(b:Bool)(v:aA):Prop:= ∃b1 b2,v= .func (.func 267) #[] #[.pointer (some ⟨b1,0,none⟩),.pointer (some ⟨b2,0,none⟩)]/\W.heap[b1]?=some (.cells #[.func (.func g) #[] #[]] 327 (0,0))/\W.heap[b2]?=some (.cells #[.bool b] 4 (0,0))
def Ag.ext{b:Bool}(h:Ag W g b v)(hx:Ext W W'):Ag W' g b v:=by obtain⟨b1,b2,e,h1,h2⟩:=h;exact⟨b1,b2,e,aI h1 hx,aI h2 hx⟩
theorem UQ(g:Nat)(b:Bool)(W:ay):Calls prog 214 #[.func (.func g) #[] #[],.bool b] W λe w'=>∃v,e= .returned v/\Ext W w'/\Ag w' g b v:=by
 refine ap (QN g b W) ?_;rintro w' rfl;refine⟨_,rfl,((aj W).alloc _).alloc _,_,_,rfl,aI (aC _ _) ((aj _).alloc _),?_⟩;have:=aC (W.alloc (.cells #[.func (.func g) #[] #[]] 327)) (.cells #[.bool b] 4)
 rwa [aR]at this
def qp{B:ay}(h:Ext W A)(g:A.grownBy B (some b))(hb:W.heap.size<=b):Ext W B:=
 ⟨g.os.trans h.os,g.tape.trans h.tape,g.output.trans h.output,aL h.size g.size,λ_ hk=>(g.block _ (gY hk h.size) (λe=>by cases e;omega)).trans (h.block hk)⟩
def XE{B:ay}{fr:Nat×Nat}(hm:qB A b l)(g:A.grownBy B (some b))(h:A.heap[k]?=some (.cells cs t fr)):B.heap[k]?=some (.cells cs t fr):=by
 refine(g.block k (aB.1 h).1 λe=> ?_).trans h;cases e
 obtain⟨_,_,h1,-⟩:=hm;rw[h1]at h;cases h
def Ag.map{B:ay}(hm:qB A b l)(g:A.grownBy B (some b))(h:Ag A g' x v):Ag B g' x v:=by obtain⟨b1,b2,e,h1,h2⟩:=h;exact⟨b1,b2,e,XE hm g h1,XE hm g h2⟩
def kF1:aK:=⟨#[83,121,115,116,101,109,67,97,108,108,70,105,108,116,101,114]⟩
def kF2:aK:=⟨#[83,121,115,116,101,109,67,97,108,108,76,111,103]⟩
def kF3:aK:=⟨#[83,121,115,116,101,109,67,97,108,108,69,114,114,111,114,78,117,109,98,101,114]⟩
theorem FH(W:ay):Calls prog 171 #[] W λe w'=>∃(b:Nat)(v1 v2:aA),e= .returned (.map (some b))/\Ext W w'/\qB w' b [(kF1,v1),(kF2,v2),(kF3,.func (.func 217) #[] #[])]/\Ag w' 215 true v1/\Ag w' 216 false v2:=by
 have HL:=ah UQ;have hmk:∀W,(Instr.makeMap 274 none).run prog W= .ok (.map (some W.heap.size)) (W.alloc (.map #[] 0)):=λ_=>rfl
 have HM0:=ah (qB.made W);have hl:W.heap.size<=W:=aD _;go_in;go_wp2_with(first
  |(refine(HL.o 215 _ _).mono ?_;rintro e w1 ⟨v1,rfl,hx1,hd1⟩
    obtain⟨W1,hr1,hm1,hg1⟩:=kQ (HM0.o.ext hx1) underlying274 underlying9 kF1 rfl v1;unfold kF1 at hr1;have H1:=ah (ak (qp (((aj W).alloc _).trans hx1) hg1 hl) (ak hm1 (hd1.map (HM0.o.ext hx1) hg1)));clear hx1 hd1 hm1 hg1)
  |(refine(HL.o 216 _ _).mono ?_;rintro e w2 ⟨v2,rfl,hx2,hd2⟩
    obtain⟨W2,hr2,hm2,hg2⟩:=kQ (H1.o.2.1.ext hx2) underlying274 underlying9 kF2 rfl v2;obtain⟨W3,hr3,hm3,hg3⟩:=kQ hm2 underlying274 underlying9 kF3 rfl (.func (.func 217) #[] #[]);unfold kF2 at hr2;unfold kF3 at hr3;have H3:=ah (ak (qp (qp (H1.o.1.trans hx2) hg2 hl) hg3 hl) (ak hm3 (ak (((H1.o.2.2.ext hx2).map (H1.o.2.1.ext hx2) hg2).map hm2 hg3) ((hd2.map (H1.o.2.1.ext hx2) hg2).map hm2 hg3))));clear hx2 hd2 hm2 hg2 hm3 hg3))
 go_ret;exact⟨W.heap.size,v1,v2,rfl,H3.o.1,H3.o.2.1,H3.o.2.2.1,H3.o.2.2.2⟩
def aau(key v:aK)(p p':iZ)(ns:List Nn):Prop:=
 (key=kF1/\∃m' cs',oV true p.fm p.fc v m' cs' ns/\p'= {p with fm:=m',fc:=cs'})\/
 (key=kF2/\∃m' cs',oV false p.lm p.lc v m' cs' ns/\p'= {p with lm:=m',lc:=cs'})\/
 (key=kF3/\((ns=[]/\(Oi v).2=0/\p'= {p with dn:=(Oi v).1})\/(ns=[⟨[],0,160,(nG.bytes v).take 60⟩]/\(Oi v).2=160/\p'=p)))
def aeD(n0 B:Nat)(key v:aK)(p:iZ)(W:ay)(e:Ending)(w':ay):Prop:= ∃(u:aA)(ns:List Nn)(p':iZ)(s':iF),e= .returned u/\FX B p' s' w'/\W.grownBy w' (some B)/\TK n0 tyQ W w'/\w'.ownsRow W 45 4 u ns (ns.flatMap jF)/\aau key v p p' ns
theorem UY{p:iZ}{W:ay}(h:FX B p s W)(hB:n0<=B)(hm:iq p.fm p.fc=true)(hb1:W.heap[b1]?=some (.cells #[.func (.func 215) #[] #[]] 327 (0,0)))(hb2:W.heap[b2]?=some (.cells #[.bool true] 4 (0,0)))(v:aK)(hv:v.size<=100000):Calls prog 267 #[.pointer (some B),.string v,.pointer (some b1),.pointer (some b2)] W (aeD n0 B kF1 v p W):=by refine(Fq h.bo (k:=1) rfl rfl h.po.rd.fc hm 215 (enters_of func215 ax rfl) (λW=>ZQ B W) hb1 hb2 v hv).mono ?_;rintro e w' ⟨m',cs',ns,a',c',un,W1,rfl,hsr,hx,ho,hn,rfl⟩;have h1:=(h.ext' hx).put hB 1 (.int .u8 m') (p':= {p with fm:=m'}) (s':=s) rfl ⟨(h.ext' hx).po.ar,(h.ext' hx).po.fc,(h.ext' hx).po.lc,(h.ext' hx).po.fa⟩;have ho2:=h1.2.own ho rfl;have h2:=h1.1.put hB 2 (.slice a' cs' c') (p':= {p with fm:=m',fc:=cs'}) (s':= {s with fa:=a',fc:=c'}) rfl ⟨h1.1.po.ar,ho2,h1.1.po.lc,h1.1.po.fa⟩;exact⟨un,ns,_,_,rfl,h2.1,(((wM hx).but _).trans (wK (h.ext' hx).bo _ _)).trans (wK h1.1.bo _ _),(TK.ext hx).trans (h1.2.trans h2.2),h2.2.own (h1.2.own hn rfl) rfl,.inl ⟨rfl,m',cs',hsr,rfl⟩⟩
theorem UW{p:iZ}{W:ay}(h:FX B p s W)(hB:n0<=B)(hm:iq p.lm p.lc=true)(hb1:W.heap[b1]?=some (.cells #[.func (.func 216) #[] #[]] 327 (0,0)))(hb2:W.heap[b2]?=some (.cells #[.bool false] 4 (0,0)))(v:aK)(hv:v.size<=100000):Calls prog 267 #[.pointer (some B),.string v,.pointer (some b1),.pointer (some b2)] W (aeD n0 B kF2 v p W):=by refine(Fq h.bo (k:=4) rfl rfl h.po.rd.lc hm 216 (enters_of func216 ax rfl) (λW=>ZP B W) hb1 hb2 v hv).mono ?_;rintro e w' ⟨m',cs',ns,a',c',un,W1,rfl,hsr,hx,ho,hn,rfl⟩;have h1:=(h.ext' hx).put hB 4 (.int .u8 m') (p':= {p with lm:=m'}) (s':=s) rfl ⟨(h.ext' hx).po.ar,(h.ext' hx).po.fc,(h.ext' hx).po.lc,(h.ext' hx).po.fa⟩;have ho2:=h1.2.own ho rfl;have h2:=h1.1.put hB 5 (.slice a' cs' c') (p':= {p with lm:=m',lc:=cs'}) (s':= {s with la:=a',lc:=c'}) rfl ⟨h1.1.po.ar,h1.1.po.fc,ho2,h1.1.po.fa⟩;exact⟨un,ns,_,_,rfl,h2.1,(((wM hx).but _).trans (wK (h.ext' hx).bo _ _)).trans (wK h1.1.bo _ _),(TK.ext hx).trans (h1.2.trans h2.2),h2.2.own (h1.2.own hn rfl) rfl,.inr (.inl ⟨rfl,m',cs',hsr,rfl⟩)⟩
theorem UU{p:iZ}(h:FX B p s W)(hB:n0<=B)(v:aK)(hv:v.size<=100000):Calls prog 217 #[.pointer (some B),.string v] W (aeD n0 B kF3 v p W):=by refine(ZO h hB v hv).mono ?_;rintro e w' ⟨u,ns,p',rfl,hf,hg,ht,hn,hh⟩;exact⟨u,ns,p',s,rfl,hf,hg,ht,hn,.inr (.inr ⟨rfl,hh⟩)⟩
def FDo(W:ay)(key:aK)(d:aA):Prop:=
 (key=kF1/\Ag W 215 true d)\/(key=kF2/\Ag W 216 false d)\/(key=kF3/\d= .func (.func 217) #[] #[])
def kF(key:aK):Bool:=key==kF1||(key==kF2||key==kF3)
end LT
def uA(h:zP:=by go_meet;exact⟨_,p',s',ns,rfl,hF2.does hf3 hg3,FE.mono hF2.ext.size,by rw[hk];exact hs3⟩):zP:=h
namespace LT
open gZ (AF)
variable{B b base c e g k k' n:Nat}{L ns:List Nn}{W W' w:ay}{a:AF}{cs:Array aA}{s s':iF}{zs:List aA}
structure FSb(w:ay)(p:iZ)(s:iF)(a:AF)(W:ay):Prop where
 ext:Ext w W
 fx:FX w p s W
 EO:W.heap[w.heap.size+1]?=some (.cells (gZ.kC a).toArray 148 (0,0))
 res:W.heap[w.heap.size+1+1]?=some (.cells oJ 36 (0,0))
def FSb.ext'{p:iZ}(h:FSb w p s a W)(hx:Ext W W'):FSb w p s a W':=⟨h.ext.trans hx,h.fx.ext' hx,aI h.EO hx,aI h.res hx⟩
def OU(a:AF)(n:Nn):Nn:=⟨a.1,a.2.1,n.er,n.tx⟩
def J5(a:AF)(ns:List Nn)(k:Nat):List Nn:=(ns.take k).map (OU a)++ns.drop k
def xC(a:AF)(ns:List Nn)(k:Nat):(J5 a ns k).length=ns.length:=by unfold J5;rw[aH,aS,bC,cZ];omega
def abx(a:AF)(ns:List Nn):J5 a ns 0=ns:=by simp[J5]
def afj(a:AF)(ns:List Nn):J5 a ns ns.length=ns.map (OU a):=by simp[J5]
def aiF(a:AF)(ns:List Nn)(k:Nat)(hk:k<ns):(J5 a ns k)[k]'(by rw[xC];exact hk)=ns[k]:=by
 have hl:((ns.take k).map (OU a)).length=k:=by rw[aS,bC];omega
 unfold J5;rw[List.getElem_append_right aq];simp only[hl,Nat.sub_self,List.getElem_drop,iB]
def aby(a:AF)(ns:List Nn)(k:Nat)(hk:k<ns):(J5 a ns k).set k (OU a ns[k])=J5 a ns (k+1):=by
 have hl:((ns.take k).map (OU a)).length=k:=by rw[aS,bC];omega
 unfold J5;rw[List.set_append_right _ _ aq,hl,Nat.sub_self,bJ hk,List.set_cons_zero,bE hk,bL,bI]
 rfl
def TV{t:dz}(h:W.ownsRow base e n (.slice (some g) k c) k' zs)(hb:W.heap[B]?=some (.cells cs t (0,0)))(hne:e≠t):g≠B:=by
 rintro rfl;rcases h.2 with⟨h2,_⟩|⟨g',cap,cur,h2,hg,hh,r⟩
 ·cases h2
 ·cases h2
  rw[hb]at hh;simp only[dw,iT]at hh;exact hne hh.2.1.symm
def afH(h:W.ownsRow base e n (.slice (some g) k c) k' zs):∃cur,W.heap[g]?=some (.cells cur e (0,0)):=by
 rcases h.2 with⟨h2,_⟩|⟨g',cap,cur,h2,hg,hh,r⟩
 ·cases h2
 ·cases h2;exact⟨cur,hh⟩
def FSb.note{p:iZ}(h:FSb w p s a W)(hg:W.heap[g]?=some (.cells cs 45 (0,0)))(hB:w.heap.size<=g)(o:Nat)(x:aA):FSb w p s a (W.setCell ⟨g,o,none⟩ x):=by have t1:TK w (λt=>t==45) W (W.setCell ⟨g,o,none⟩ x):=TK.set (p:=⟨g,o,none⟩) hg rfl hB x;exact⟨t1.lX h.ext (aD _),⟨t1.blk h.fx.bo (.inr rfl),h.fx.po.tk t1 rfl rfl rfl⟩,t1.blk h.EO (.inr rfl),t1.blk h.res (.inr rfl)⟩
def CX{a:Option Addr}(h:W.ownsRow base e n (.slice a k c) k zs):k<=9223372036854775807:=by
 rcases h.2 with⟨-,h2⟩|⟨g',cap,cur,h2,hg,hh,hc,hm,r⟩
 ·omega
 ·unfold maxLen at hm;omega
def YS(h:w.ownsRow base 45 4 (.slice (some g) L c) L (L.flatMap jF))(hk:k<L):w.cell? ⟨g,k*4,none⟩=some (.string (str L[k].fl))/\w.cell? ⟨g,k*4+1,none⟩=some (.int .i64 (L[k].ln:Int)):=by obtain⟨a,c',h1,h2,h3,h4⟩:=bY iC h;simp only[aU]at h1;obtain⟨rfl,-,rfl⟩:=h1;obtain⟨b,o,e',k4⟩:=h4 k hk;simp only[dw,gD,and_true]at e';obtain⟨rfl,rfl⟩:=e';have r0:=k4 0 fk;have r1:=k4 1 fk;simp only[cO,iB,jF,jc,iW]at r0 r1;exact⟨r0,r1⟩
def abt(h:w.ownsRow base 45 4 (.slice (some g) ns c) ns ((J5 a ns k).flatMap jF))(hk:k<ns):((w.setCell ⟨g,k*4,none⟩ (.string (str a.1))).setCell ⟨g,k*4+1,none⟩ (.int .i64 a.2.1)).ownsRow base 45 4 (.slice (some g) ns c) ns ((J5 a ns (k+1)).flatMap jF):=by have hl:=xC a ns k;rw[<-hl]at h;have h1:=(kE iC h k 0 (.string (str a.1)) ⟨a.1,ns[k].ln,ns[k].er,ns[k].tx⟩ aq az (by rw[aiF a ns k hk];rfl)).1;have hl2:((J5 a ns k).set k ⟨a.1,ns[k].ln,ns[k].er,ns[k].tx⟩).length=(J5 a ns k).length:=dO;rw[<-hl2]at h1;have h2:=(kE iC h1 k 1 (.int .i64 a.2.1) (OU a ns[k]) (by rw[hl2];omega) az (by rw[List.getElem_set_self];rfl)).1;rw[List.set_set,aby a ns k hk,hl2,hl]at h2;exact h2
def FSb.does{p p':iZ}(h:FSb w p s a W)(hf:FX w p' s' W')(g:W.grownBy W' (some w.heap.size)):FSb w p' s' a W':=
 ⟨qp h.ext g (aD _),hf,(g.block _ (aB.1 h.EO).1 (λe=>by simp only[dw]at e;omega)).trans h.EO,(g.block _ (aB.1 h.res).1 (λe=>by simp only[dw]at e;omega)).trans h.res⟩
def ba_eq{a b:aK}(h:(a==b)=true):a=b:=by have h2:(a.data==b.data)=true:=h;exact ByteArray.ext (by simpa using h2)
theorem aoM{W:ay}{b:Nat}{v1 v2:aA}(hm:qB W b [(kF1,v1),(kF2,v2),(kF3,.func (.func 217) #[] #[])])(h1:Ag W 215 true v1)(h2:Ag W 216 false v2)(key:aK):∃d,(Instr.lookup 274 (.map (some b)) (.string key) true).run prog W= .ok (.tuple #[d,.bool (kF key)]) W/\(kF key=true->FDo W key d):=by
 have hl:=O0 hm underlying274 underlying9 (z:= .nilFunc) rfl key;unfold kF FDo;by_cases e1:(key==kF1)=true
 ·refine⟨v1,?_,λ_=> .inl ⟨ba_eq e1,h1⟩⟩;rw[hl];simp[e1]
 ·rw[Bool.not_eq_true]at e1;by_cases e2:(key==kF2)=true
  ·refine⟨v2,?_,λ_=> .inr (.inl ⟨ba_eq e2,h2⟩)⟩;rw[hl];simp[e1,e2]
  ·rw[Bool.not_eq_true]at e2;by_cases e3:(key==kF3)=true
   ·refine⟨_,?_,λ_=> .inr (.inr ⟨ba_eq e3,rfl⟩)⟩;rw[hl];simp[e1,e2,e3]
   ·rw[Bool.not_eq_true]at e3;refine⟨.nilFunc,?_,λh=> ?_⟩
    ·rw[hl];simp[e1,e2,e3]
    ·rw[e1,e2,e3]at h;cases h
theorem UZ(p:iZ)(s:iF)(a:AF)(h1:p.ar.length<=1000000)(h4:p.fa.length<=1000000)(hm1:iq p.fm p.fc=true)(hm2:iq p.lm p.lc=true)(hv:(str a.2.2.2.2).size<=100000)(w:ay)(hr:yt w p s):Calls prog 120 #[m6 p s,.agg (gZ.kC a).toArray] w λe w'=>∃(s':iF)(u:aA)(p':iZ)(ns:List Nn),e= .returned (.tuple #[m6 p' s',u])/\Ext w w'/\qH w' p' s'/\w'.ownsRow w 45 4 u ns (ns.flatMap jF)/\((kF (str a.2.2.2.1)=false/\p'=p/\ns=[])\/∃ns0,aau (str a.2.2.2.1) (str a.2.2.2.2) p p' ns0/\ns=ns0.map λn=>⟨a.1,a.2.1,n.er,n.tx⟩):=by
 have hl2:=pF hm1;have hl3:=pF hm2;have HC:=ah (λW (hx:Ext w W)=>qz p s h1 aq aq h4 W (hr.ext hx) 172 (.inl rfl));have HK:=ah FH;have x3:Ext w (((w.alloc (.cells (fA p s).toArray 36)).alloc (.cells (gZ.kC a).toArray 148)).alloc (.cells oJ 36)):=(((aj w).alloc _).alloc _).alloc _;have hB0:=aC w (.cells (fA p s).toArray 36);have hB1:=aC (w.alloc (.cells (fA p s).toArray 36)) (.cells (gZ.kC a).toArray 148);have hB2:=aC ((w.alloc (.cells (fA p s).toArray 36)).alloc (.cells (gZ.kC a).toArray 148)) (.cells oJ 36);rw[aR]at hB1;rw[aR,aR]at hB2;have HB:=ah (ak x3 (ak (aI (aI hB0 ((aj _).alloc (.cells (gZ.kC a).toArray 148))) ((aj _).alloc (.cells oJ 36))) (ak (aI hB1 ((aj _).alloc (.cells oJ 36))) hB2)));clear x3 hB0 hB1 hB2 hr;obtain⟨W0,hW0⟩:∃W0,W0=((w.alloc (.cells (fA p s).toArray 36)).alloc (.cells (gZ.kC a).toArray 148)).alloc (.cells oJ 36):=⟨_,rfl⟩;rw[<-hW0]at HB;have HW0:=ah hW0;clear hW0;unfold m6;go_in;go_upto_region 1 with fail;have hW0:=HW0.o;unfold oJ at hW0;rw[<-hW0];clear hW0;obtain⟨hx0,hq0,hq1,hq2⟩:=HB.o;go_upto_region 2 with(first
  |(refine gX rfl 36 (.tmp 2) rfl w.heap.size rfl 36 _ _ _ hq0 underlying36 rfl Ml ?_)
  |(go_at_call 172;refine(HC.o _ hx0).mono ?_;rintro e w1 ⟨s1,rfl,hx1,hp1⟩;unfold m6;have hr0:=aI hq0 hx1)
  |(refine wpList_store_rowTo rfl 36 (.tmp 2) (.tmp 11) rfl rfl w.heap.size (fA p s1).toArray rfl rfl 36 _ hr0 Ml rfl cV ?_))
 have hFS:FSb w p s1 a (w1.setRow w (fA p s1).toArray):=⟨eB (hx0.trans hx1) (aD _) _,⟨dH _ _ _ _ _ _ hr0,⟨dX hp1.ar hr0 az _,dX hp1.fc hr0 az _,dX hp1.lc hr0 az _,dX hp1.fa hr0 az _⟩⟩,(fJ _ _ _ _ aq).trans (aI hq1 hx1),(fJ _ _ _ _ aq).trans (aI hq2 hx1)⟩;clear hq0 hq1 hq2 hr0 hp1 hx1 hx0 HB HW0;generalize w1.setRow w (fA p s1).toArray=W1 at *;clear W0;have k3:W1.cell? ⟨w+1,3,none⟩=some (.string (str a.2.2.2.1)):=aG hFS.EO 3;have HF:=ah hFS;clear hFS;have S6:=ah (λ(W:ay) (b:Nat) (v1 v2:aA) hm h1 h2 key=> @aoM W b v1 v2 hm h1 h2 key);generalize hkk:kF (str a.2.2.2.1)=kb at *;go_cut [6,7] (λs6 s7 wx=>s7= .bool kb/\∃W2,W2=wx/\FSb w p s1 a W2/\(kb=true->FDo W2 (str a.2.2.2.1) s6))
 case first=>
  go_region_with(refine(HK.o _).mono ?_;rintro e w2 ⟨b,v1,v2,rfl,hx2,hm2,hd1,hd2⟩
                 obtain⟨d,hlk,Xh⟩:=S6.o _ _ _ _ hm2 hd1 hd2 (str a.2.2.2.1);rw[hkk]at hlk Xh;have k3':w2.cell? ⟨w+1,3,none⟩=some (.string (str a.2.2.2.1)):=hx2.cell (show W1.drew.cell? _=_ from k3);have H2:=ah (ak (HF.o.ext' ((aj W1).drew.trans hx2)) Xh);clear hx2 hm2 hd1 hd2 Xh)
  all_goals
   go_wp2_with fail;go_meet;exact⟨rfl,_,rfl,H2.o.1,H2.o.2⟩
 case rest=>
 obtain⟨rfl,W2,rfl,hF2,Xh⟩:=hcut;clear k3 HF;cases kb with
 |false=>
  clear Xh;have hq0:=hF2.fx.bo;have hq2:=hF2.res;go_wp2_with(first
   |(refine gX rfl 36 (.tmp 2) rfl w.heap.size rfl 36 _ _ _ hq0 underlying36 rfl Ml ?_)
   |(refine wpList_store_rowTo rfl 36 (.tmp 4) (.tmp 21) rfl rfl (w.heap.size+1+1) (fA p s1).toArray rfl rfl 36 _ hq2 Ml rfl cV ?_))
  have hh:=dH _ _ _ (fA p s1).toArray _ _ hq2;refine aM (v:= .tuple #[.agg (fA p s1).toArray,.slice none 0 0]) (fG results120 _ _ (w+1+1) _ (fA p s1).toArray (0,0) _ rfl hh underlying36 rfl ax) rfl ?_;exact⟨s1,_,p,[],rfl,eB hF2.ext aq _,⟨dX hF2.fx.po.ar hq2 az _,dX hF2.fx.po.fc hq2 az _,dX hF2.fx.po.lc hq2 az _,dX hF2.fx.po.fa hq2 az _⟩,⟨rfl,.inl aE⟩,.inl ⟨hkk,rfl,rfl⟩⟩
 |true=>
  replace Xh:=Xh rfl;have c4:W2.cell? ⟨w+1,4,none⟩=some (.string (str a.2.2.2.2)):=aG hF2.EO 4;go_upto_region 5 with fail;go_cut [8] (λs8 wx=>∃(W3:ay) (p':iZ) (s':iF) (ns:List Nn),W3=wx/\FSb w p' s' a W3/\W3.ownsRow w 45 4 s8 ns (ns.flatMap jF)/\aau (str a.2.2.2.1) (str a.2.2.2.2) p p' ns)
  case first=>
   rcases Xh with⟨hk,b1,b2,rfl,hb1,hb2⟩|⟨hk,b1,b2,rfl,hb1,hb2⟩|⟨hk,rfl⟩
   ·go_wp2_with(refine(UY hF2.fx (aD _) hm1 hb1 hb2 _ hv).mono ?_;rintro e w3 ⟨u,ns,p',s',rfl,hf3,hg3,-,FE,hs3⟩);exact uA
   ·go_wp2_with(refine(UW hF2.fx (aD _) hm2 hb1 hb2 _ hv).mono ?_;rintro e w3 ⟨u,ns,p',s',rfl,hf3,hg3,-,FE,hs3⟩);exact uA
   ·go_wp2_with(refine(UU hF2.fx (aD _) _ hv).mono ?_;rintro e w3 ⟨u,ns,p',s',rfl,hf3,hg3,-,FE,hs3⟩);exact uA
  case rest=>
  obtain⟨W3,p',s',ns,rfl,hF3,FE,hset⟩:=hcut;clear Xh c4 hF2;obtain⟨ua,uc,rfl⟩:=bU FE;have VH:=ah (ak hF3 FE);have aha:=ah hset;clear hF3 FE hset;go_wp2_with fail;go_loopw [28] (λi wr=>∃k:Nat,k<=ns/\i= .int .i64 k/\FSb w p' s' a wr/\wr.ownsRow w 45 4 (.slice ua ns uc) ns ((J5 a ns k).flatMap jF)) (λi _=>ns.length-(intOf i).toNat)
  case atStart=>exact⟨0,aq,rfl,VH.o.1,by rw[abx];exact VH.o.2⟩
  case round=>
   obtain⟨k,hk,rfl,hF4,hn4⟩:=hrel;by_cases hlt:k<ns
   ·have zk:(k:Int)<ns:=aq;obtain⟨g,c,he,hbg,-,hfz⟩:=mo (xs:=J5 a ns k) (by rw[xC];exact hn4) (by rw[xC];omega);simp only[aU]at he;obtain⟨rfl,-,rfl⟩:=he;have c0:wr.cell? ⟨w+1,0,none⟩=some (.string (str a.1)):=aG hF4.EO 0;have c1:wr.cell? ⟨w+1,1,none⟩=some (.int .i64 a.2.1):=aG hF4.EO 1;have hnn:=YS (by rw[xC];exact hn4:wr.ownsRow w 45 4 (.slice (some g) (J5 a ns k).length uc) (J5 a ns k).length ((J5 a ns k).flatMap jF)) (k:=k) (by rw[xC];exact hlt);obtain⟨n0,n1⟩:=hnn;have f0:=hfz (k*4);have f1:=hfz (k*4+1);have hne:=TV hn4 hF4.EO az;have HH:=ah (ak hF4 hn4);have HLT:=ah hlt;have hmx:=CX hn4;have hst:=abt hn4 hlt;clear hF4 hn4 hfz;have hne':w.heap.size+1≠g:=λe=>hne e.symm
    have c0s:∀(x:aA) (o:Nat),(wr.setCell ⟨g,o,none⟩ x).cell? ⟨w+1,0,none⟩=some (.string (str a.1)):=λx o=>by rw[<-c0];unfold World.cell?;rw[aX _ _ _ _ hne']
    have c1s:∀(x:aA) (o:Nat),(wr.setCell ⟨g,o,none⟩ x).cell? ⟨w+1,1,none⟩=some (.int .i64 a.2.1):=λx o=>by rw[<-c1];unfold World.cell?;rw[aX _ _ _ _ hne']
    generalize(J5 a ns k)[k]'(by rw[xC];exact hlt)=nn at *;go_upto_region 9 with fail;go_region
    all_goals
     go_wp2_with fail;go_roundw
     case rel=>obtain⟨cur,hcur⟩:=afH HH.o.2;exact⟨k+1,HLT.o,bm,((HH.o.1.note hcur hbg _ _).note (eX hcur _ _) hbg _ _).ext' (aj _).drew,jR hst (aj _).drew⟩
     case measure=>have:=HLT.o;simp[intOf];omega
   ·have zk:¬((k:Int)<ns):=aq;obtain rfl:k=ns.length:=aq;have hq0:=hF4.fx.bo;have hq2:=hF4.res;rw[afj]at hn4;go_wp2_with(first
     |(refine gX rfl 36 (.tmp 2) rfl w.heap.size rfl 36 _ _ _ hq0 underlying36 rfl Ml ?_)
     |(refine wpList_store_rowTo rfl 36 (.tmp 4) (.tmp 44) rfl rfl (w.heap.size+1+1) (fA p' s').toArray rfl rfl 36 _ hq2 Ml rfl cV ?_))
    have hh:=dH _ _ _ (fA p' s').toArray _ _ hq2;refine aM (v:= .tuple #[.agg (fA p' s').toArray,.slice ua ns uc]) (fG results120 _ _ (w+1+1) _ (fA p' s').toArray (0,0) _ rfl hh underlying36 rfl ax) rfl ?_;refine⟨s',.slice ua ns uc,p',rfl,eB hF4.ext aq _,⟨dX hF4.fx.po.ar hq2 az _,dX hF4.fx.po.fc hq2 az _,dX hF4.fx.po.lc hq2 az _,dX hF4.fx.po.fa hq2 az _⟩,ns.map (OU a),?_,ns,aha.o,rfl⟩;rw[aS];exact dX hn4 hq2 az _
def kR1:aK:=⟨#[83,121,115,116,101,109,67,97,108,108,65,114,99,104,105,116,101,99,116,117,114,101,115]⟩
def kR2:aK:=⟨#[82,101,115,116,114,105,99,116,65,100,100,114,101,115,115,70,97,109,105,108,105,101,115]⟩
def kR3:aK:=⟨#[82,101,115,116,114,105,99,116,78,97,109,101,115,112,97,99,101,115]⟩
def kR4:aK:=⟨#[77,101,109,111,114,121,68,101,110,121,87,114,105,116,101,69,120,101,99,117,116,101]⟩
def kR5:aK:=⟨#[76,111,99,107,80,101,114,115,111,110,97,108,105,116,121]⟩
def kR6:aK:=⟨#[82,101,115,116,114,105,99,116,82,101,97,108,116,105,109,101]⟩
def kR7:aK:=⟨#[78,111,78,101,119,80,114,105,118,105,108,101,103,101,115]⟩
def rKs:List (aK×aA):= [(kR1,.func (.func 222) #[] #[]),(kR2,.func (.func 223) #[] #[]),(kR3,.func (.func 224) #[] #[]),(kR4,.func (.func 225) #[] #[]),(kR5,.func (.func 226) #[] #[]),(kR6,.func (.func 227) #[] #[]),(kR7,.func (.func 228) #[] #[])]
def kR(key:aK):Bool:=(rKs.find? λx=>key==x.1).isSome
theorem Fb(W:ay):Calls prog 173 #[] W λe w'=>∃b,e= .returned (.map (some b))/\Ext W w'/\qB w' b rKs:=by
 have hmk:∀W,(Instr.makeMap 280 none).run prog W= .ok (.map (some W.heap.size)) (W.alloc (.map #[] 0)):=λ_=>rfl
 have hl:W.heap.size<=W:=aD _;have hm0:=qB.made W;have hx0:=(aj W).alloc (.map #[] 0);obtain⟨W1,hr1,hm1,hg1⟩:=kQ hm0 underlying280 underlying9 kR1 rfl (.func (.func 222) #[] #[]);have hx1:=qp hx0 hg1 hl;clear hm0 hg1;unfold kR1 at hr1;obtain⟨W2,hr2,hm2,hg2⟩:=kQ hm1 underlying280 underlying9 kR2 rfl (.func (.func 223) #[] #[]);have hx2:=qp hx1 hg2 hl;clear hm1 hg2;unfold kR2 at hr2;obtain⟨W3,hr3,hm3,hg3⟩:=kQ hm2 underlying280 underlying9 kR3 rfl (.func (.func 224) #[] #[]);have hx3:=qp hx2 hg3 hl;clear hm2 hg3;unfold kR3 at hr3;obtain⟨W4,hr4,hm4,hg4⟩:=kQ hm3 underlying280 underlying9 kR4 rfl (.func (.func 225) #[] #[]);have hx4:=qp hx3 hg4 hl;clear hm3 hg4;unfold kR4 at hr4;obtain⟨W5,ZC,hm5,hg5⟩:=kQ hm4 underlying280 underlying9 kR5 rfl (.func (.func 226) #[] #[]);have hx5:=qp hx4 hg5 hl;clear hm4 hg5;unfold kR5 at ZC;obtain⟨W6,ZB,hm6,AO⟩:=kQ hm5 underlying280 underlying9 kR6 rfl (.func (.func 227) #[] #[]);have hx6:=qp hx5 AO hl;clear hm5 AO;unfold kR6 at ZB;obtain⟨W7,hr7,hm7,Df⟩:=kQ hm6 underlying280 underlying9 kR7 rfl (.func (.func 228) #[] #[]);have hx7:=qp hx6 Df hl;clear hm6 Df;unfold kR7 at hr7;have HX:=ah (ak hx7 hm7);clear hx0 hx1 hx2 hx3 hx4 hx5 hx6 hx7 hm7;go_in;go_wp2_with fail;go_ret;exact⟨W.heap.size,rfl,HX.o.1,HX.o.2⟩
theorem ahm(hm:qB W b rKs)(key:aK):(Instr.lookup 280 (.map (some b)) (.string key) true).run prog W= .ok (.tuple #[((rKs.find? λx=>key==x.1).map (·.2)).getD .nilFunc,.bool (kR key)]) W:=
 O0 hm underlying280 underlying9 (z:= .nilFunc) rfl key
theorem TI(key:aK)(W:ay):Rt 121 #[.string key] W (.bool (kR key)):=by have HK:=ah Fb;have S6:=ah (λ(W:ay) (b:Nat) (hm:qB W b rKs)=>ahm hm key);unfold Rt;go_in;go_wp2_with(refine(HK.o _).mono ?_;rintro e w1 ⟨b,rfl,hx1,hm1⟩;have hlk:=S6.o _ _ hm1;have HX:=ah hx1;clear hx1 hm1);exact kA
theorem U0(key:aK)(W:ay):Rt 119 #[.string key] W (.bool (kF key)):=by have HK:=ah FH;have S6:=ah (λ(W:ay) (b:Nat) (v1 v2:aA) hm h1 h2=> @aoM W b v1 v2 hm h1 h2 key);unfold Rt;go_in;go_wp2_with(refine(HK.o _).mono ?_;rintro e w1 ⟨b,v1,v2,rfl,hx1,hm1,hd1,hd2⟩;obtain⟨d,hlk,-⟩:=S6.o _ _ _ _ hm1 hd1 hd2;have HX:=ah hx1;clear hx1 hm1 hd1 hd2);exact kA
end LT
abbrev By:=@Bool.not_eq_true
namespace LT
open gZ (AF)
variable{W W' w:ay}{a:AF}
def rF(a:AF)(key v:aK)(p:iZ):iZ×List Nn:=
 if key==kR1 then({p with ar:=(DJ a v p.ar []).1},(DJ a v p.ar []).2)
 else if key==kR2 then({p with fd:=(Dm a v p.fd p.fa []).1,fa:=(Dm a v p.fd p.fa []).2.1},(Dm a v p.fd p.fa []).2.2)
 else if key==kR3 then({p with sp:=(spF a v p.sp []).1},(spF a v p.sp []).2)
 else if key==kR4 then vJ a v 9 p []
 else if key==kR5 then vJ a v 10 p []
 else if key==kR6 then vJ a v 11 p []
 else if key==kR7 then vJ a v 12 p []
 else(p,[])
def RDo(a:AF)(v:aK)(p p':iZ)(ns:List Nn)(d:aA):Prop:= ∃g,d= .func (.func g) #[] #[]/\(∀args w,(callFunc g args).run prog w= .ok (.enter g args) w)/\∀(n0 mb:Nat)(s:iF)(u:aA)(W:ay),SX n0 mb p s u [] a W->n0<=W->Calls prog g #[.pointer (some mb),.string v] W (DT n0 mb p' ns a W)
def rdo(a:AF)(key v:aK)(p:iZ)(hv:v.size<=100000)(ha:Gj p.ar)(hf:Gi p.fa)(hk:kR key=true):RDo a v p (rF a key v p).1 (rF a key v p).2 (((rKs.find? λx=>key==x.1).map (·.2)).getD .nilFunc):=by
 unfold kR at hk;unfold rF;unfold rKs at *;have h0:([]:List Nn).length<=500000:=az;by_cases e1:(key==kR1)=true
 ·simp only[List.find?_cons,e1,dN,Option.getD_some,if_true];exact⟨_,rfl,enters_of func222 ax rfl,λn0 mb s u W h hn=>NU h hn ha h0 v hv⟩
 rw[By]at e1;by_cases e2:(key==kR2)=true
 ·simp only[List.find?_cons,e1,e2,dN,Option.getD_some,if_true,iI,if_false];exact⟨_,rfl,enters_of func223 ax rfl,λn0 mb s u W h hn=>qm h hn hf h0 v hv⟩
 rw[By]at e2;by_cases e3:(key==kR3)=true
 ·simp only[List.find?_cons,e1,e2,e3,dN,Option.getD_some,if_true,iI,if_false];exact⟨_,rfl,enters_of func224 ax rfl,λn0 mb s u W h hn=>p4 h hn h0 v hv⟩
 rw[By]at e3;by_cases e4:(key==kR4)=true
 ·simp only[List.find?_cons,e1,e2,e3,e4,dN,Option.getD_some,if_true,iI,if_false];exact⟨_,rfl,enters_of func225 ax rfl,λn0 mb s u W h hn=>(uR h hn h0 v hv).1⟩
 rw[By]at e4;by_cases e5:(key==kR5)=true
 ·simp only[List.find?_cons,e1,e2,e3,e4,e5,dN,Option.getD_some,if_true,iI,if_false];exact⟨_,rfl,enters_of func226 ax rfl,λn0 mb s u W h hn=>(uR h hn h0 v hv).2.1⟩
 rw[By]at e5;by_cases e6:(key==kR6)=true
 ·simp only[List.find?_cons,e1,e2,e3,e4,e5,e6,dN,Option.getD_some,if_true,iI,if_false];exact⟨_,rfl,enters_of func227 ax rfl,λn0 mb s u W h hn=>(uR h hn h0 v hv).2.2.1⟩
 rw[By]at e6;by_cases e7:(key==kR7)=true
 ·simp only[List.find?_cons,e1,e2,e3,e4,e5,e6,e7,dN,Option.getD_some,if_true,iI,if_false];exact⟨_,rfl,enters_of func228 ax rfl,λn0 mb s u W h hn=>(uR h hn h0 v hv).2.2.2⟩
 rw[By]at e7;simp[e1,e2,e3,e4,e5,e6,e7]at hk
structure RSb(w:ay)(a:AF)(W:ay):Prop where
 ext:Ext w W
 EO:W.heap[w.heap.size+1]?=some (.cells (gZ.kC a).toArray 148 (0,0))
 res:W.heap[w.heap.size+1+1]?=some (.cells oJ 36 (0,0))
def RSb.ext'(h:RSb w a W)(hx:Ext W W'):RSb w a W':=⟨h.ext.trans hx,aI h.EO hx,aI h.res hx⟩
def RSb.tk(h:RSb w a W)(t1:TK w SK W W'):RSb w a W':=⟨t1.lX h.ext (aD _),t1.blk h.EO (.inr rfl),t1.blk h.res (.inr rfl)⟩
def KZ{B:Nat}{t:dz}{a0 a1 a2 a3 a4 a5 a6 a7 a8 a9 a10 a11 a12:aA}(h:W.heap[B]?=some (.cells #[a0,a1,a2,a3,a4,a5,a6,a7,a8,a9,a10,a11,a12] t (0,0)))(x0 x1 x2 x3 x4 x5 x6 x7 x8 x9 x10 x11 x12:aA):(((((((((((((W.setCell B x0).setCell ⟨B,1,none⟩ x1).setCell ⟨B,2,none⟩ x2).setCell ⟨B,3,none⟩ x3).setCell ⟨B,4,none⟩ x4).setCell ⟨B,5,none⟩ x5).setCell ⟨B,6,none⟩ x6).setCell ⟨B,7,none⟩ x7).setCell ⟨B,8,none⟩ x8).setCell ⟨B,9,none⟩ x9).setCell ⟨B,10,none⟩ x10).setCell ⟨B,11,none⟩ x11).setCell ⟨B,12,none⟩ x12)=W.setRow B #[x0,x1,x2,x3,x4,x5,x6,x7,x8,x9,x10,x11,x12]:=by
 rw[fQ _ _ _ _ _ _ _ h]
 iterate 12 rw[fQ _ _ _ _ _ _ _ (dH _ _ _ _ _ _ h),setRow_setRow]
 exact congrArg (W.setRow B) aE
theorem TH(p:iZ)(s:iF)(a:AF)(h2:p.fc.length<=1000000)(h3:p.lc.length<=1000000)(ha:Gj p.ar)(hf:Gi p.fa)(hv:(str a.2.2.2.2).size<=100000)(w:ay)(hr:yt w p s)(hk:kR (str a.2.2.2.1)=true):Calls prog 122 #[m6 p s,.agg (gZ.kC a).toArray] w λe w'=>∃(s':iF)(u:aA),e= .returned (.tuple #[m6 (rF a (str a.2.2.2.1) (str a.2.2.2.2) p).1 s',u])/\Ext w w'/\qH w' (rF a (str a.2.2.2.1) (str a.2.2.2.2) p).1 s'/\w'.ownsRow w 45 4 u (rF a (str a.2.2.2.1) (str a.2.2.2.2) p).2.length ((rF a (str a.2.2.2.1) (str a.2.2.2.2) p).2.flatMap jF):=by
 have hal:=ha.len;have hfl:=hf.len;have hD:=rdo a (str a.2.2.2.1) (str a.2.2.2.2) p hv ha hf hk;have hLK:=λ(W:ay) (b:Nat) (hm:qB W b rKs)=>ahm hm (str a.2.2.2.1)
 rw[hk]at hLK;generalize rF a (str a.2.2.2.1) (str a.2.2.2.2) p=R at *;obtain⟨p',ns⟩:=R;dsimp only at *;generalize((rKs.find? λx=>str a.2.2.2.1==x.1).map (·.2)).getD .nilFunc=d at *;obtain⟨g,rfl,eg,hD⟩:=hD;have HD:=ah hD;have S6:=ah hLK;have HC:=ah (λW (hx:Ext w W)=>qz p s aq h2 h3 aq W (hr.ext hx) 174 (.inr rfl));have HK:=ah Fb;have x3:Ext w (((w.alloc (.cells (fA p s).toArray 36)).alloc (.cells (gZ.kC a).toArray 148)).alloc (.cells oJ 36)):=(((aj w).alloc _).alloc _).alloc _;have hB0:=aC w (.cells (fA p s).toArray 36);have hB1:=aC (w.alloc (.cells (fA p s).toArray 36)) (.cells (gZ.kC a).toArray 148);have hB2:=aC ((w.alloc (.cells (fA p s).toArray 36)).alloc (.cells (gZ.kC a).toArray 148)) (.cells oJ 36);rw[aR]at hB1;rw[aR,aR]at hB2;have HB:=ah (ak (aI (aI hB0 ((aj _).alloc (.cells (gZ.kC a).toArray 148))) ((aj _).alloc (.cells oJ 36))) (show RSb w a _ from⟨x3,aI hB1 ((aj _).alloc (.cells oJ 36)),hB2⟩));clear x3 hB0 hB1 hB2 hr hD hLK ha hf;obtain⟨W0,hW0⟩:∃W0,W0=((w.alloc (.cells (fA p s).toArray 36)).alloc (.cells (gZ.kC a).toArray 148)).alloc (.cells oJ 36):=⟨_,rfl⟩;rw[<-hW0]at HB;have HW0:=ah hW0;clear hW0;unfold m6;go_in;go_upto_region 1 with fail;have hW0:=HW0.o;unfold oJ at hW0;rw[<-hW0];clear hW0 HW0;obtain⟨q0,q1,q2,q3,q4,q5,q6,q7,q8,q9,q10,q11,q12⟩:=oI HB.o.1;have a0:W0.cell? ⟨w+1,0,none⟩=some (.string (str a.1)):=aG HB.o.2.EO 0;have a1:W0.cell? ⟨w+1,1,none⟩=some (.int .i64 a.2.1):=aG HB.o.2.EO 1;have a2:W0.cell? ⟨w+1,2,none⟩=some (.string (str a.2.2.1)):=aG HB.o.2.EO 2;have a3:W0.cell? ⟨w+1,3,none⟩=some (.string (str a.2.2.2.1)):=aG HB.o.2.EO 3;have a4:W0.cell? ⟨w+1,4,none⟩=some (.string (str a.2.2.2.2)):=aG HB.o.2.EO 4;go_cut [6] (λs6 wx=>∃(W1:ay) (mb:Nat) (s1:iF),W1=wx/\s6= .pointer (some mb)/\SX w mb p s1 (.slice none 0 0) [] a W1/\RSb w a W1)
 case first=>
  go_region_with(refine(HC.o _ (by first|exact HB.o.2.ext|exact HB.o.2.ext.drew)).mono ?_;rintro e w1 ⟨s1,rfl,hx1,hp1⟩
                 unfold m6 fA;have b0:=hx1.cell (show W0.drew.cell? _=_ from a0);have b1:=hx1.cell (show W0.drew.cell? _=_ from a1);have b2:=hx1.cell (show W0.drew.cell? _=_ from a2);have b3:=hx1.cell (show W0.drew.cell? _=_ from a3);have b4:=hx1.cell (show W0.drew.cell? _=_ from a4);have H1:=ah (ak (HB.o.2.ext' ((aj W0).drew.trans hx1)) hp1);clear hx1 hp1)
  all_goals
   go_wp2_with fail;go_meet;exact⟨_,w1.heap.size,s1,rfl,rfl,⟨H1.o.1.ext.size,aC _ _,⟨rfl,.inl aE⟩,H1.o.2.ext ((aj _).alloc _)⟩,H1.o.1.ext' ((aj _).alloc _)⟩
 case rest=>
 obtain⟨W1,mb,s1,rfl,rfl,hS1,Gx⟩:=hcut;clear q0 q1 q2 q3 q4 q5 q6 q7 q8 q9 q10 q11 q12 a0 a1 a2 a3 a4 HB;have a3:W1.cell? ⟨w+1,3,none⟩=some (.string (str a.2.2.2.1)):=aG Gx.EO 3;have H1:=ah (ak hS1 Gx);clear hS1 Gx;go_upto_region 2 with fail;go_cut [7,8] (λs7 s8 wx=>s7= .func (.func g) #[] #[]/\s8= .bool true/\∃W2,W2=wx/\SX w mb p s1 (.slice none 0 0) [] a W2/\RSb w a W2)
 case first=>
  go_region_with(refine(HK.o _).mono ?_;rintro e w2 ⟨b,rfl,hx2,hm2⟩
                 have hlk:=S6.o _ _ hm2;have b3:=hx2.cell (show W1.drew.cell? _=_ from a3);have wI:=(aj W1).drew.trans hx2;have H2:=ah (ak (H1.o.1.ext' wI) (H1.o.2.ext' wI));clear hx2 hm2 wI)
  all_goals
   go_wp2_with fail;go_meet;exact⟨rfl,rfl,_,rfl,H2.o.1,H2.o.2⟩
 case rest=>
 obtain⟨rfl,rfl,W2,rfl,hS2,hR2⟩:=hcut;clear a3 H1;have a4:W2.cell? ⟨w+1,4,none⟩=some (.string (str a.2.2.2.2)):=aG hR2.EO 4;have H2:=ah (ak hS2 hR2);clear hS2 hR2;go_upto_region 5 with(refine ap (HD.o _ _ _ _ _ H2.o.1 H2.o.2.ext.size) ?_;rintro w3 ⟨⟨s',u,hS⟩,ht⟩;have H3:=ah (ak hS (H2.o.2.tk ht));clear hS ht);obtain⟨S0,hR3⟩:=H3.o;have c13:w3.cell? ⟨mb,13,none⟩=some u:=aG S0.b 13;have c0:w3.cell? mb=some (.slice s'.a p'.ar s'.c):=aG S0.b 0;have c1:w3.cell? ⟨mb,1,none⟩=some (.int .u8 p'.fm):=aG S0.b 1;have c2:w3.cell? ⟨mb,2,none⟩=some (.slice s'.fa p'.fc s'.fc):=aG S0.b 2;have c3:w3.cell? ⟨mb,3,none⟩=some (.int .u32 p'.dn):=aG S0.b 3;have c4:w3.cell? ⟨mb,4,none⟩=some (.int .u8 p'.lm):=aG S0.b 4;have c5:w3.cell? ⟨mb,5,none⟩=some (.slice s'.la p'.lc s'.lc):=aG S0.b 5;have c6:w3.cell? ⟨mb,6,none⟩=some (.slice s'.ga p'.fa s'.gc):=aG S0.b 6;have c7:w3.cell? ⟨mb,7,none⟩=some (.int .u8 p'.fd):=aG S0.b 7;have c8:w3.cell? ⟨mb,8,none⟩=some (.int .u64 (p'.sp:Int)):=aG S0.b 8;have c9:w3.cell? ⟨mb,9,none⟩=some (.bool p'.we):=aG S0.b 9;have c10:w3.cell? ⟨mb,10,none⟩=some (.bool p'.pe):=aG S0.b 10;have c11:w3.cell? ⟨mb,11,none⟩=some (.bool p'.rt):=aG S0.b 11;have c12:w3.cell? ⟨mb,12,none⟩=some (.bool p'.np):=aG S0.b 12;obtain⟨r0,r1,r2,r3,r4,r5,r6,r7,r8,r9,r10,r11,r12⟩:=oI hR3.res;have hne:mb≠w.heap.size+1+1:=λe=>by have h1:=S0.b;rw[e,hR3.res]at h1;exact absurd h1 aE
 have f:=λk=>aP hR3.res k
 have f0:=f 0;have f1:=f 1;have f2:=f 2;have f3:=f 3;have f4:=f 4;have f5:=f 5;have f6:=f 6;have f7:=f 7;have f8:=f 8;have f9:=f 9;have f10:=f 10;have f11:=f 11;have f12:=f 12;have azO:∀(x0 x1 x2 x3 x4 x5 x6 x7 x8 x9 x10 x11 x12:aA),(((((((((((((w3.setCell ⟨w+1+1,0,none⟩ x0).setCell ⟨w+1+1,1,none⟩ x1).setCell ⟨w+1+1,2,none⟩ x2).setCell ⟨w+1+1,3,none⟩ x3).setCell ⟨w+1+1,4,none⟩ x4).setCell ⟨w+1+1,5,none⟩ x5).setCell ⟨w+1+1,6,none⟩ x6).setCell ⟨w+1+1,7,none⟩ x7).setCell ⟨w+1+1,8,none⟩ x8).setCell ⟨w+1+1,9,none⟩ x9).setCell ⟨w+1+1,10,none⟩ x10).setCell ⟨w+1+1,11,none⟩ x11).setCell ⟨w+1+1,12,none⟩ x12).cell? ⟨mb,13,none⟩=some u:=by
  intros
  rw[<-c13];unfold World.cell?
  iterate 13 rw[aX _ _ _ _ hne]
 clear a4 S0 hR3 H2 f;go_region
 all_goals
  go_wp2_with fail;have hz:w3.heap[w.heap.size+1+1]?=some (.cells #[.slice none 0 0,.int .u8 0,.slice none 0 0,.int .u32 0,.int .u8 0,.slice none 0 0,.slice none 0 0,.int .u8 0,.int .u64 0,.bool false,.bool false,.bool false,.bool false] 36 (0,0)):=H3.o.2.res;rw[KZ hz];have hh:(w3.setRow (w+1+1) (fA p' s').toArray).drew.heap[w.heap.size+1+1]?=_:=dH _ _ _ (fA p' s').toArray _ _ hz;refine aM (v:= .tuple #[.agg (fA p' s').toArray,u]) (fG results122 _ _ (w+1+1) _ (fA p' s').toArray (0,0) _ rfl hh underlying36 rfl ax) rfl ?_;exact⟨s',u,rfl,(eB H3.o.2.ext aq _).drew,(show qH (w3.setRow (w+1+1) (fA p' s').toArray) p' s' from⟨dX H3.o.1.po.ar hz az _,dX H3.o.1.po.fc hz az _,dX H3.o.1.po.lc hz az _,dX H3.o.1.po.fa hz az _⟩).ext (aj _).drew,jR (dX H3.o.1.own hz az _) (aj _).drew⟩
end LT
end Go.Proofs.YtopfefhenfineaaGreat
namespace Go.Proofs.YtopfefhenfineaaGreat
open Go.Proofs.Tryz Go.RowKit V
namespace LT
open nG (kJ)
open gZ (AF)
variable{b tn:Bool}{cs cs':List Cl}{key v:aK}{m m':Nat}{ns:List Nn}
def abN(s:List aZ)(h:(kJ s).1.2.2=false):(kJ s).1.2.1=0:=by unfold kJ at *;(repeat' split at h)<;>(repeat' split)<;>first|rfl|(simp_all)
def Ob(cs:List Cl):Prop:= ∀c∈cs,c.act=0
def ais{n:List aZ}(h:Ob cs):Ob (upd m b 0 cs n):=by
 unfold upd;split
 ·unfold Ke;split
  ·unfold YK;split
   ·intro c hc;rcases List.mem_or_eq_of_mem_set hc with h1|h1
    ·exact h c h1
    ·rw[h1]
   ·intro c hc;rw[dJ,dF]at hc;rcases hc with h1|h1|h1
    ·exact h c (iU h1)
    ·rw[h1]
    ·exact h c (List.mem_of_mem_drop h1)
  ·exact h
 ·unfold Br;split
  ·exactλc hc=>h c (List.mem_filter.1 hc).1
  ·exact h
def Mh{m:Nat}{b:Bool}:∀(l:List (List aZ)) {cs:List Cl},Ob cs->Ob (l.foldl (upd m b 0) cs)
 | [],_,h=>h
 |_::l,_,h=>Mh l (ais h)
def aiD(w:aK)(s t:St)(h:V7 false tn m w s t)(hs:Ob s.1):Ob t.1:=by
 unfold V7 at h;split at h
 ·rw[h];exact hs
 split at h
 ·rw[h];exact hs
 obtain⟨l,-,-,rfl⟩:=h;split
 ·rw[aN aE];exact Mh l hs
 ·rename_i h1;rw[abN _ (by simpa using h1)];exact Mh l hs
def oV.a0(h:oV false m cs v m' cs' ns)(hc:Ob cs):Ob cs':=by
 unfold oV at h;split at h
 ·rw[h.2.1];exact hc
 split at h
 ·rw[h.2.1];exactλ_ h=>by cases h
 exact h.2.inv (P:=λs:St=>Ob s.1) aiD hc
def erP(e:Nat):Bool:=erW e||e==80||e==100||e==150||e==180||e==181
def aau.ok{p p':iZ}(h:aau key v p p' ns)(hp:kL p):kL p'/\∀n∈ns,erP n.er=true:=by
 rcases h with⟨-,m',cs',hs,rfl⟩|⟨-,m',cs',hs,rfl⟩|⟨-,⟨rfl,h0,rfl⟩|⟨rfl,-,rfl⟩⟩
 ·obtain⟨h1,h2⟩:=hs.inv hp.fc;exact⟨⟨hp.lg,hp.dn,hp.fd,hp.ar,hp.fa,h1,hp.lc,hp.sp⟩,λn hn=>by unfold erP;rw[h2 n hn];rfl⟩
 ·obtain⟨h1,h2⟩:=hs.inv hp.lc;exact⟨⟨hs.a0 hp.lg,hp.dn,hp.fd,hp.ar,hp.fa,hp.fc,h1,hp.sp⟩,λn hn=>by unfold erP;rw[h2 n hn];rfl⟩
 ·rcases adC v with⟨-,h1⟩|⟨h1,-⟩
  ·exact⟨⟨hp.lg,h1,hp.fd,hp.ar,hp.fa,hp.fc,hp.lc,hp.sp⟩,λ_ h=>by cases h⟩
  ·rw[h0]at h1;cases h1
 ·exact⟨hp,λn hn=>by rw[e8]at hn;rw[hn];rfl⟩
end LT
variable{zP:Prop}
def fS(h:zP:=by dsimp only;rw[h1];rfl):zP:=h
namespace LT
open nG (eZ)
open gZ (AF)
variable{a:AF}
def JE(ns:List Nn):Prop:= ∀n∈ns,erP n.er=true
def JE.snoc{ns:List Nn}(h:JE ns){x:Nn}(hx:erP x.er=true):JE (ns++[x]):=λn hn=>by
 rw[dJ,e8]at hn;rcases hn with h1|h1
 ·exact h n h1
 ·rw[h1];exact hx
def Dj{α σ:Type}{f:σ->α->σ}{P:σ->Prop}(hf:∀s x,P s->P (f s x)):∀(l:List α) {s:σ},P s->P (l.foldl f s)
 | [],_,h=>h
 |x::l,_,h=>Dj hf l (hf _ x h)
def aiH{x:List Int×List Nn}(w:aK)(h:JE x.2):JE (stA a x w).2:=by
 unfold stA;rcases Er w.toList with⟨h1,-⟩|h1
 ·split
  ·exact h
  ·contradiction
 ·split
  ·exact h
  ·exact h.snoc fS
def aiG{fl:Bool}{x:List Nat×List Nn}(w:aK)(h:JE x.2):JE (SN a fl x w).2:=by
 unfold SN;rcases Nw w with⟨h1,-⟩|h1
 ·split
  ·exact h
  ·contradiction
 ·split
  ·exact h
  ·exact h.snoc fS
def aiE{x:SS3}(w:aK)(h:JE x.ns):JE (Oe a x w).ns:=by
 unfold Oe;rcases Mv w with⟨h1,-⟩|⟨h1,-⟩
 ·split
  ·exact h
  ·contradiction
 ·split
  ·exact h
  ·exact h.snoc fS
def qU:JE []:=λ_ h=>by cases h
def SpP(x:Nat):Prop:=x<18446744073709551616/\bits BinOp.andNot IntKind.u64 (x:Int) (qJ.orL qJ.sV:Nat)=0
def oW.p{x:Nat}(h:oW x):SpP x:=⟨h.lt,h.bits⟩
def Mx{v:aK}{k:Nat}{p:iZ}(hk:9<=k/\k<=12)(hp:kL p):kL (vJ a v k p []).1/\JE (vJ a v k p []).2:=by
 have hb:∀b,kL (J7 p k b):=λb=>by have hk4:k=9\/k=10\/k=11\/k=12:=aq;rcases hk4 with rfl|rfl|rfl|rfl<;>exact⟨hp.lg,hp.dn,hp.fd,hp.ar,hp.fa,hp.fc,hp.lc,hp.sp⟩
 unfold vJ;(repeat' split)
 ·exact⟨hb _,qU⟩
 ·exact⟨hb _,qU⟩
 ·exact⟨hp,qU.snoc rfl⟩
def amW(a:AF)(key v:aK){p:iZ}(hp:kL p):kL (rF a key v p).1/\JE (rF a key v p).2:=by
 unfold rF;split
 ·have h:Gj (DJ a v p.ar []).1/\JE (DJ a v p.ar []).2:=by
   unfold DJ;refine Dj (P:=λx:List Int×List Nn=>Gj x.1/\JE x.2) (λs x h=>⟨abA x h.1,aiH x h.2⟩) _ ⟨?_,qU⟩;dsimp only;split
   ·exact⟨λ_ h=>eL,λi hi=>(by simp at hi)⟩
   ·exact hp.ar
  exact⟨⟨hp.lg,hp.dn,hp.fd,h.1,hp.fa,hp.fc,hp.lc,hp.sp⟩,h.2⟩
 split
 ·have h:(((Dm a v p.fd p.fa []).1<=2/\((Dm a v p.fd p.fa []).1=0->(Dm a v p.fd p.fa []).2.1=[]))/\Gi (Dm a v p.fd p.fa []).2.1)/\JE (Dm a v p.fd p.fa []).2.2:=by
   have hn:Gi ([]:List Nat):=⟨λ_ h=>eL,λi hi=>(by simp at hi)⟩;unfold Dm;split
   ·exact⟨⟨⟨az,λ_=>rfl⟩,hn⟩,qU⟩
   split
   ·exact⟨⟨⟨az,λ_=>rfl⟩,hn⟩,qU⟩
   have hd:=hp.fd.1;have hf:=Dj (f:=SN a (A4 v==((if p.fd=0 then(if A4 v=true then 2 else 1)else p.fd)==2))) (P:=λx:List Nat×List Nn=>Gi x.1/\JE x.2) (λs x h=>⟨abz x h.1,aiG x h.2⟩) (Lib.goFieldsP eZ (rT v)) (s:=(p.fa,[])) ⟨hp.fa,qU⟩;refine⟨⟨⟨?_,λh0=> ?_⟩,hf.1⟩,hf.2⟩
   ·dsimp only;split
    ·split<;>decide
    ·exact hd
   ·dsimp only at h0;split at h0
    ·split at h0<;>cases h0
    ·contradiction
  exact⟨⟨hp.lg,hp.dn,h.1.1,hp.ar,h.1.2,hp.fc,hp.lc,hp.sp⟩,h.2⟩
 split
 ·have h:SpP (spF a v p.sp []).1/\JE (spF a v p.sp []).2:=by
   unfold spF;split
   ·exact⟨oW.zero.p,qU⟩
   split
   ·refine⟨?_,qU⟩;dsimp only;split
    ·exact oW.full.p
    ·exact oW.zero.p
   have hf:=Dj (f:=Oe a) (P:=λx:SS3=>oW x.all/\JE x.ns) (λs x h=>⟨abw x h.1,aiE x h.2⟩) (Lib.goFieldsP eZ (rT v)) (s:=⟨0,true,[]⟩) ⟨oW.zero,qU⟩;dsimp only;refine⟨?_,hf.2⟩;split
   ·split
    ·exact hf.1.p
    ·exact(afT _).p
   ·exact hp.sp
  exact⟨⟨hp.lg,hp.dn,hp.fd,hp.ar,hp.fa,hp.fc,hp.lc,h.1⟩,h.2⟩
 split
 ·exact Mx az hp
 split
 ·exact Mx az hp
 split
 ·exact Mx az hp
 split
 ·exact Mx az hp
 ·exact⟨hp,qU⟩
end LT
end Go.Proofs.YtopfefhenfineaaGreat
namespace Go.Proofs.YtopfefhenfineaaGreat
open Go.Proofs.Tryz Go.RowKit Go.Shelf V
attribute[local go_sem] Oper.semAt_some
variable{zP:Prop}
def BT(h:zP:=by
 obtain⟨k,hk⟩:∃k,k=min nm.size 60:=⟨_,rfl⟩;have hmz:min (nm:Int) 60=(k:Int):=aq;have hkl:k<=nm.size:=aq;have hkz:(k:Int)<=nm:=aq;clear hk;obtain⟨q0,q1,q2,q3,q4,q5,q6,q7,q8,q9,q10,q11,q12⟩:=oI hQ;have b0:W0.cell? ⟨w+1,0,none⟩=some (.string (str a.1)):=aG hRS.EO 0;have b1:W0.cell? ⟨w+1,1,none⟩=some (.int .i64 a.2.1):=aG hRS.EO 1;obtain⟨r0,r1,r2,r3,r4,r5,r6,r7,r8,r9,r10,r11,r12⟩:=oI hRS.res;have f0:=aP hRS.res 0;have f1:=aP hRS.res 1;have f2:=aP hRS.res 2;have f3:=aP hRS.res 3;have f4:=aP hRS.res 4;have f5:=aP hRS.res 5;have f6:=aP hRS.res 6;have f7:=aP hRS.res 7;have f8:=aP hRS.res 8;have f9:=aP hRS.res 9;have f10:=aP hRS.res 10;have f11:=aP hRS.res 11;have f12:=aP hRS.res 12;have qo0:=λo=>((aj W0).alloc o).cell q0
 exact BC):zP:=h
def BC(h:zP:=by
 have qo1:=λo=>((aj W0).alloc o).cell q1
 have qo2:=λo=>((aj W0).alloc o).cell q2
 have qo3:=λo=>((aj W0).alloc o).cell q3
 have qo4:=λo=>((aj W0).alloc o).cell q4
 have qo5:=λo=>((aj W0).alloc o).cell q5
 have qo6:=λo=>((aj W0).alloc o).cell q6
 have qo7:=λo=>((aj W0).alloc o).cell q7
 have qo8:=λo=>((aj W0).alloc o).cell q8
 have qo9:=λo=>((aj W0).alloc o).cell q9
 have aru:=λo=>((aj W0).alloc o).cell q10
 have art:=λo=>((aj W0).alloc o).cell q11
 have ars:=λo=>((aj W0).alloc o).cell q12
 have bo0:=λo=>((aj W0).alloc o).cell b0
 have bo1:=λo=>((aj W0).alloc o).cell b1
 have bs0:=nT b0 (show w.heap.size+1≠w.heap.size+1+1 from aq);have bs1:=nT b1 (show w.heap.size+1≠w.heap.size+1+1 from aq);have ro0:=λo=>((aj W0).alloc o).cell r0
 have ro1:=λo=>((aj W0).alloc o).cell r1
 have ro2:=λo=>((aj W0).alloc o).cell r2
 have ro3:=λo=>((aj W0).alloc o).cell r3
 have ro4:=λo=>((aj W0).alloc o).cell r4
 have ro5:=λo=>((aj W0).alloc o).cell r5
 have ro6:=λo=>((aj W0).alloc o).cell r6
 have ro7:=λo=>((aj W0).alloc o).cell r7
 have ro8:=λo=>((aj W0).alloc o).cell r8
 have ro9:=λo=>((aj W0).alloc o).cell r9
 have arq:=λo=>((aj W0).alloc o).cell r10
 have arp:=λo=>((aj W0).alloc o).cell r11
 have aro:=λo=>((aj W0).alloc o).cell r12
 have fo0:=λo=>aP (aI hRS.res ((aj W0).alloc o)) 0
 have fo1:=λo=>aP (aI hRS.res ((aj W0).alloc o)) 1
 have fo2:=λo=>aP (aI hRS.res ((aj W0).alloc o)) 2
 have fo3:=λo=>aP (aI hRS.res ((aj W0).alloc o)) 3
 have fo4:=λo=>aP (aI hRS.res ((aj W0).alloc o)) 4
 have fo5:=λo=>aP (aI hRS.res ((aj W0).alloc o)) 5
 have fo6:=λo=>aP (aI hRS.res ((aj W0).alloc o)) 6
 have fo7:=λo=>aP (aI hRS.res ((aj W0).alloc o)) 7
 have fo8:=λo=>aP (aI hRS.res ((aj W0).alloc o)) 8
 have fo9:=λo=>aP (aI hRS.res ((aj W0).alloc o)) 9
 have asx:=λo=>aP (aI hRS.res ((aj W0).alloc o)) 10
 have asw:=λo=>aP (aI hRS.res ((aj W0).alloc o)) 11
 have asv:=λo=>aP (aI hRS.res ((aj W0).alloc o)) 12
 have bt0:=λo=>nT (bo0 o) (show w.heap.size+1≠w.heap.size+1+1 from aq)
 have bt1:=λo=>nT (bo1 o) (show w.heap.size+1≠w.heap.size+1+1 from aq)
 clear hQ hRS;have hex:=qo nm k;go_region
 all_goals
  go_wp2_with fail;have hz:W0.heap[w.heap.size+1+1]?=some (.cells #[.slice none 0 0,.int .u8 0,.slice none 0 0,.int .u32 0,.int .u8 0,.slice none 0 0,.slice none 0 0,.int .u8 0,.int .u64 0,.bool false,.bool false,.bool false,.bool false] 36 (0,0)):=HB.o.2.res
  first
   |(rw[KZ hz]
     have hw:=jJ iC (W0.setRow (w+1+1) (fA p s).toArray) [⟨a.1,a.2.1,100,(bytes nm).take k⟩] 45 W0 0 (by rw[setRow_size]) (bP _) cz;have hx:Ext w ((W0.setRow (w+1+1) (fA p s).toArray).alloc (.cells #[.string (str a.1),.int .i64 a.2.1,.int .i64 100,.string (str ((bytes nm).take k))] 45)):=(eB HB.o.2.ext aq _).alloc _;have hh:=aI (dH _ _ _ (fA p s).toArray _ _ hz) ((aj _).alloc (.cells #[.string (str a.1),.int .i64 a.2.1,.int .i64 100,.string (str ((bytes nm).take k))] 45));refine aM (v:= .tuple #[.agg (fA p s).toArray,.slice (some W0) 1 1]) (fG results72 _ _ (w+1+1) _ (fA p s).toArray (0,0) _ rfl hh underlying36 rfl ax) rfl ?_;exact⟨s,_,p,[⟨a.1,a.2.1,100,(bytes nm).take k⟩],rfl,hx.drew,(HR.o.ext hx).ext (aj _).drew,(bY iC hw).ext (aj _).drew,.inr (.inr ⟨hdn,rfl,_,rfl⟩)⟩)
   |(have hza:=aI hz ((aj W0).alloc (.cells #[.string (str a.1),.int .i64 (a.2.1:Int),.int .i64 100,.string (str ((bytes nm).take k))] 45))
     rw[KZ hza];have hw:=dX (jJ iC W0 [⟨a.1,a.2.1,100,(bytes nm).take k⟩] 45 W0 0 rfl (bP _) cz) hza az (fA p s).toArray;have hx:=eB (HB.o.2.ext.alloc (.cells #[.string (str a.1),.int .i64 a.2.1,.int .i64 100,.string (str ((bytes nm).take k))] 45)) (g:=w.heap.size+1+1) aq (fA p s).toArray;have hh:=dH _ _ _ (fA p s).toArray _ _ hza;refine aM (v:= .tuple #[.agg (fA p s).toArray,.slice (some W0) 1 1]) (fG results72 _ _ (w+1+1) _ (fA p s).toArray (0,0) _ rfl hh underlying36 rfl ax) rfl ?_;exact⟨s,_,p,[⟨a.1,a.2.1,100,(bytes nm).take k⟩],rfl,hx.drew,(HR.o.ext hx).ext (aj _).drew,(bY iC hw).ext (aj _).drew,.inr (.inr ⟨hdn,rfl,_,rfl⟩)⟩)):zP:=h
namespace LT
open gZ (AF)
variable{B b e i n:Nat}{W:ay}
def DoN(a:AF):Prop:=(str a.2.2.1).toList≠[83,101,114,118,105,99,101]\/(kF (str a.2.2.2.1)=false/\kR (str a.2.2.2.1)=false)
def DoR(a:AF)(p p':iZ)(ns:List Nn):Prop:=
 (kF (str a.2.2.2.1)=true/\∃ns0,aau (str a.2.2.2.1) (str a.2.2.2.2) p p' ns0/\ns=ns0.map (OU a))\/
 (kR (str a.2.2.2.1)=true/\p'=(rF a (str a.2.2.2.1) (str a.2.2.2.2) p).1/\ns=(rF a (str a.2.2.2.1) (str a.2.2.2.2) p).2)\/
 (DoN a/\p'=p/\∃t,ns=[⟨a.1,a.2.1,100,t⟩])
def DoR.ok{a:AF}{p p':iZ}{ns:List Nn}(h:DoR a p p' ns)(hp:kL p):kL p'/\JE ns:=by
 rcases h with⟨-,ns0,hs,rfl⟩|⟨-,rfl,rfl⟩|⟨-,rfl,t,rfl⟩
 ·obtain⟨h1,h2⟩:=hs.ok hp;refine⟨h1,λn hn=> ?_⟩;obtain⟨x,hx,rfl⟩:=dW.1 hn;exact h2 x hx
 ·exact amW a _ _ hp
 ·exact⟨hp,qU.snoc (x:=⟨a.1,a.2.1,100,t⟩) rfl⟩
def nT{v:aA}(h:W.cell? ⟨b,i,none⟩=some v)(hne:b≠B):∀(x0 x1 x2 x3 x4 x5 x6 x7 x8 x9 x10 x11 x12:aA),(((((((((((((W.setCell B x0).setCell ⟨B,1,none⟩ x1).setCell ⟨B,2,none⟩ x2).setCell ⟨B,3,none⟩ x3).setCell ⟨B,4,none⟩ x4).setCell ⟨B,5,none⟩ x5).setCell ⟨B,6,none⟩ x6).setCell ⟨B,7,none⟩ x7).setCell ⟨B,8,none⟩ x8).setCell ⟨B,9,none⟩ x9).setCell ⟨B,10,none⟩ x10).setCell ⟨B,11,none⟩ x11).setCell ⟨B,12,none⟩ x12).cell? ⟨b,i,none⟩=some v:=by
 intros
 rw[<-h];unfold World.cell?
 iterate 13 rw[aX _ _ _ _ hne]
theorem YL(p:iZ)(s:iF)(a:AF)(hp:kL p)(hv:(str a.2.2.2.2).size<=100000)(w:ay)(hr:qH w p s):Calls prog 72 #[m6 p s,.agg (gZ.kC a).toArray] w λe w'=>∃(s':iF)(u:aA)(p':iZ)(ns:List Nn),e= .returned (.tuple #[m6 p' s',u])/\Ext w w'/\qH w' p' s'/\Rd w' 4 jF u ns/\DoR a p p' ns:=by
 have hla:=hp.la;have hlf:=hp.lf;have hm1:=pF hp.fc;have hm2:=pF hp.lc;have HFS:=ah (λW (hx:Ext w W)=>UZ p s a aq aq hp.fc hp.lc hv W (hr.ext hx).rd);have HRS:=ah (λW (hx:Ext w W) hk=>TH p s a aq aq hp.ar hp.fa hv W (hr.ext hx).rd hk);have HFK:=ah (λW=>U0 (str a.2.2.2.1) W);have HRK:=ah (λW=>TI (str a.2.2.2.1) W);have x3:Ext w (((w.alloc (.cells (fA p s).toArray 36)).alloc (.cells (gZ.kC a).toArray 148)).alloc (.cells oJ 36)):=(((aj w).alloc _).alloc _).alloc _;have hB0:=aC w (.cells (fA p s).toArray 36);have hB1:=aC (w.alloc (.cells (fA p s).toArray 36)) (.cells (gZ.kC a).toArray 148);have hB2:=aC ((w.alloc (.cells (fA p s).toArray 36)).alloc (.cells (gZ.kC a).toArray 148)) (.cells oJ 36);rw[aR]at hB1;rw[aR,aR]at hB2;have HB:=ah (ak (aI (aI hB0 ((aj _).alloc (.cells (gZ.kC a).toArray 148))) ((aj _).alloc (.cells oJ 36))) (show RSb w a _ from⟨x3,aI hB1 ((aj _).alloc (.cells oJ 36)),hB2⟩));clear x3 hB0 hB1 hB2;obtain⟨W0,hW0⟩:∃W0,W0=((w.alloc (.cells (fA p s).toArray 36)).alloc (.cells (gZ.kC a).toArray 148)).alloc (.cells oJ 36):=⟨_,rfl⟩;rw[<-hW0]at HB;have HW0:=ah hW0;have HR:=ah hr;clear hW0 hr;unfold m6;go_in;go_upto_region 1 with fail;have hW0:=HW0.o;unfold oJ at hW0;rw[<-hW0];clear hW0 HW0;have a2:W0.cell? ⟨w+1,2,none⟩=some (.string (str a.2.2.1)):=aG HB.o.2.EO 2;have a3:W0.cell? ⟨w+1,3,none⟩=some (.string (str a.2.2.2.1)):=aG HB.o.2.EO 3;by_cases hsv:(str a.2.2.1).toList=[83,101,114,118,105,99,101]
 ·have z1:((str a.2.2.1).toList==[83,101,114,118,105,99,101])=true:=by rw[hsv];rfl
  have z2:((str a.2.2.1).toList !=[83,101,114,118,105,99,101])=false:=by rw[hsv];rfl
  generalize hf:kF (str a.2.2.2.1)=bf at *;cases bf with
  |true=>
   go_wp2_with(first
    |(go_at_call 119;refine ap (HFK.o _) ?_;intro w1 hx1;(try rw[hf]);have H1:=ah (ak (aI HB.o.1 hx1) (HB.o.2.ext' hx1));clear hx1)
    |(refine gX rfl 36 (.tmp 2) rfl w.heap.size rfl 36 _ _ _ H1.o.1 underlying36 rfl Ml ?_)
    |(refine gX rfl 148 (.tmp 3) rfl (w.heap.size+1) rfl 148 _ _ _ H1.o.2.EO underlying148 rfl ax ?_)
    |(go_at_call 120;refine(HFS.o _ H1.o.2.ext).mono ?_;rintro e w2 ⟨s',u,p',ns,rfl,hx2,hpo,hn2,hd⟩;unfold m6;have H2:=ah (ak (H1.o.2.ext' hx2) (ak hpo (ak hn2 hd)));clear hx2 hpo hn2 hd)
    |(refine wpList_store_rowTo rfl 36 (.tmp 4) (.tmp 22) rfl rfl (w.heap.size+1+1) (fA p' s').toArray rfl rfl 36 _ H2.o.1.res Ml rfl cV ?_))
   have hh:=dH _ _ _ (fA p' s').toArray _ _ H2.o.1.res;refine aM (v:= .tuple #[.agg (fA p' s').toArray,u]) (fG results72 _ _ (w+1+1) _ (fA p' s').toArray (0,0) _ rfl hh underlying36 rfl ax) rfl ?_;have hpo:qH (w2.setRow (w+1+1) (fA p' s').toArray) p' s':=⟨dX H2.o.2.1.ar H2.o.1.res az _,dX H2.o.2.1.fc H2.o.1.res az _,dX H2.o.2.1.lc H2.o.1.res az _,dX H2.o.2.1.fa H2.o.1.res az _⟩;refine⟨s',u,p',ns,rfl,eB H2.o.1.ext aq _,hpo,bY iC (dX H2.o.2.2.1 H2.o.1.res az _),?_⟩;rcases H2.o.2.2.2 with⟨h,-,-⟩|⟨ns0,hs,he⟩
   ·first|(rw[hf]at h;cases h)|cases h
   ·exact .inl ⟨hf,ns0,hs,he⟩
  |false=>
   generalize hg:kR (str a.2.2.2.1)=bg at *;cases bg with
   |true=>
    have auc:=ah (λW hx=>HRS.o W hx (by first|exact hg|rfl));go_wp2_with(first
     |(go_at_call 119;refine ap (HFK.o _) ?_;intro w0 hx1;(try rw[hf]);have H0:=ah (ak (aI HB.o.1 hx1) (HB.o.2.ext' hx1));have a3':w0.cell? ⟨w+1,3,none⟩=some (.string (str a.2.2.2.1)):=hx1.cell a3;clear hx1)
     |(go_at_call 121;refine ap (HRK.o _) ?_;intro w1 hx1;(try rw[hg]);have H1:=ah (ak (aI H0.o.1 hx1) (H0.o.2.ext' hx1));clear hx1)
     |(refine gX rfl 36 (.tmp 2) rfl w.heap.size rfl 36 _ _ _ H1.o.1 underlying36 rfl Ml ?_)
     |(refine gX rfl 148 (.tmp 3) rfl (w.heap.size+1) rfl 148 _ _ _ H1.o.2.EO underlying148 rfl ax ?_)
     |(go_at_call 122;refine(auc.o _ H1.o.2.ext).mono ?_;rintro e w2 ⟨s',u,rfl,hx2,hpo,hn2⟩;unfold m6;have H2:=ah (ak (H1.o.2.ext' hx2) (ak hpo hn2));clear hx2 hpo hn2)
     |(refine wpList_store_rowTo rfl 36 (.tmp 4) (.tmp 31) rfl rfl (w.heap.size+1+1) (fA (rF a (str a.2.2.2.1) (str a.2.2.2.2) p).1 s').toArray rfl rfl 36 _ H2.o.1.res Ml rfl cV ?_))
    have hh:=dH _ _ _ (fA (rF a (str a.2.2.2.1) (str a.2.2.2.2) p).1 s').toArray _ _ H2.o.1.res;refine aM (v:= .tuple #[.agg (fA (rF a (str a.2.2.2.1) (str a.2.2.2.2) p).1 s').toArray,u]) (fG results72 _ _ (w+1+1) _ (fA (rF a (str a.2.2.2.1) (str a.2.2.2.2) p).1 s').toArray (0,0) _ rfl hh underlying36 rfl ax) rfl ?_;have hpo:qH (w2.setRow (w+1+1) (fA (rF a (str a.2.2.2.1) (str a.2.2.2.2) p).1 s').toArray) (rF a (str a.2.2.2.1) (str a.2.2.2.2) p).1 s':=⟨dX H2.o.2.1.ar H2.o.1.res az _,dX H2.o.2.1.fc H2.o.1.res az _,dX H2.o.2.1.lc H2.o.1.res az _,dX H2.o.2.1.fa H2.o.1.res az _⟩;refine⟨s',u,_,_,rfl,eB H2.o.1.ext aq _,hpo,bY iC (dX H2.o.2.2 H2.o.1.res az _),?_⟩;exact .inr (.inl ⟨hg,rfl,rfl⟩)
   |false=>
    have hdn:DoN a:= .inr ⟨hf,hg⟩;go_upto_region 8 with(first
     |(go_at_call 119;refine ap (HFK.o _) ?_;intro w0 hx1;(try rw[hf]);have H0:=ah (ak (aI HB.o.1 hx1) (HB.o.2.ext' hx1));have a3':w0.cell? ⟨w+1,3,none⟩=some (.string (str a.2.2.2.1)):=hx1.cell a3;clear hx1)
     |(go_at_call 121;refine ap (HRK.o _) ?_;intro W0 hx1;(try rw[hg]);have HB:=ah (ak (aI H0.o.1 hx1) (H0.o.2.ext' hx1));clear hx1))
    obtain⟨hQ,hRS⟩:=HB.o;generalize str a.2.2.2.1=nm at *;exact BT
 ·have hdn:DoN a:= .inl hsv;have z1:((str a.2.2.1).toList==[83,101,114,118,105,99,101])=false:=bK.2 hsv;have z2:((str a.2.2.1).toList !=[83,101,114,118,105,99,101])=true:=by unfold bne;rw[z1];rfl
  go_upto_region 8 with fail;obtain⟨hQ,hRS⟩:=HB.o;generalize str a.2.2.1=nm at *;exact BT
def newP:iZ:=⟨[],0,[],2147483648,0,[],[],0,0,false,false,false,false⟩
def newS:iF:=⟨none,0,none,0,none,0,none,0⟩
def WA:kL newP:=⟨λ_ h=>eL,.inl rfl,⟨az,λ_=>rfl⟩,⟨λ_ h=>eL,λi hi=>(by simp[newP]at hi)⟩,⟨λ_ h=>eL,λi hi=>(by simp[newP]at hi)⟩,rfl,rfl,oW.zero.p⟩
def nZ:W.ownsRow 0 e n (.slice none 0 0) 0 []:=⟨aE,.inl ⟨rfl,rfl⟩⟩
def ana(W:ay):qH W newP newS:=⟨nZ,nZ,nZ,nZ⟩
theorem Za(w:ay):Rt 71 #[] w (m6 newP newS):=by unfold Rt;go_in;go_wp2_with fail;refine aM (v:=m6 newP newS) (dV results71 _ _ _ _ _ _ _ rfl (aC w _) underlying36 rfl ax) rfl ?_;exact kz
theorem Ku(n:Nn)(w:ay):Rt 40 #[PZ n] w (.bool (!qP n.er)):=by have HW:=ah (λW=>FQ (n.er:Int) W);unfold PZ;unfold Rt;go_in;go_wp2_with(refine ap (HW.o _) ?_;intro w1 hx1;have HX:=ah (((aj w).alloc _).trans hx1);clear hx1);exact kA
def nR(ns:List Nn):Bool:=ns.any λn=> !qP n.er
theorem xY(v:aA)(ns:List Nn)(hl:ns.length<=9223372036854775807)(w:ay)(hv:Rd w 4 jF v ns):Rt 21 #[v] w (.bool (nR ns)):=by have HC:=ah (SE 40 (enters_of func40 ax rfl) (λn=> !qP n.er) v ns hl w hv (λx _ W _=>Ku x W));exact qu
end LT
end Go.Proofs.YtopfefhenfineaaGreat
namespace Go.Proofs.YtopfefhenfineaaGreat
open Go.Proofs.Tryz Go.RowKit V
namespace LT
open nG (eZ)
open gZ (AF)
variable{ns:List Nn}
def Fo.len{α:Type}{R:α->St->St->Prop}(hR:∀x s t,R x s t->t.2.length<=s.2.length+1):∀ {l:List α} {s t:St},Fo R l s t->t.2.length<=s.2.length+l.length
 | [],_,_,h=>by cases h;exact aD _
 |x::l,_,_,⟨_,h1,h2⟩=>by have a:=hR _ _ _ h1;have b:=h2.len hR;simp only[aO];omega
def uo{α σ:Type}{f:σ->α->σ}{N:σ->Nat}(hf:∀s x,N (f s x)<=N s+1):∀(l:List α)(s:σ),N (l.foldl f s)<=N s+l.length
 | [],_=>aD _
 |x::l,s=>by have a:=hf s x;have b:=uo hf l (f s x);simp only[jD,aO];omega
def abr(v:aK):(str (Lib.trimPrefix (bytes v) [126])).size<=v.size:=by rw[kI,<-eD];exact od
def oV.len{suf:Bool}{m m':Nat}{cs cs':List Cl}{v:aK}(h:oV suf m cs v m' cs' ns):ns.length<=v.size+1:=by
 unfold oV at h;split at h
 ·rw[h.2.2];exact bP _
 split at h
 ·rw[h.2.2];exact bP _
 have h1:=h.2.len (λx s t h=>afh h);have h2:=lV eZ (str (Lib.trimPrefix (bytes v) [126]));have h3:=abr v;simp only[bD,cO]at h1;omega
def Gp(a:AF)(v:aK)(k:Nat)(p:iZ):(vJ a v k p []).2.length<=v.size+1:=by unfold vJ;exact ri
def aiR(a:AF)(key v:aK)(p:iZ):(rF a key v p).2.length<=v.size+1:=by
 have h2:=lV eZ v;have h3:=lV eZ (rT v);have h4:=Ej v;unfold rF;split
 ·unfold DJ;have h:=uo (f:=stA a) (N:=λx:List Int×List Nn=>x.2.length) (λs x=>by unfold stA;split<;>simp) (Lib.goFieldsP eZ v) (if (Lib.goFieldsP eZ v).length=0 then []else p.ar,[]);simp only[bD,cO]at h;exact aL h h2
 split
 ·unfold Dm;split
  ·exact bP _
  split
  ·exact bP _
  have h:=uo (f:=SN a (A4 v==((if p.fd=0 then(if A4 v=true then 2 else 1)else p.fd)==2))) (N:=λx:List Nat×List Nn=>x.2.length) (λs x=>by unfold SN;split<;>simp) (Lib.goFieldsP eZ (rT v)) (p.fa,[]);simp only[bD,cO]at h;exact aL h aq
 split
 ·unfold spF;split
  ·exact bP _
  split
  ·exact bP _
  have h:=uo (f:=Oe a) (N:=λx:SS3=>x.ns.length) (λs x=>V9 x) (Lib.goFieldsP eZ (rT v)) ⟨0,true,[]⟩;simp only[bD,cO]at h;exact aL h aq
 split
 ·exact Gp _ _ _ _
 split
 ·exact Gp _ _ _ _
 split
 ·exact Gp _ _ _ _
 split
 ·exact Gp _ _ _ _
 ·exact bP _
def DoR.len{a:AF}{p p':iZ}(h:DoR a p p' ns):ns.length<=(str a.2.2.2.2).size+1:=by
 rcases h with⟨-,ns0,hs,rfl⟩|⟨-,-,rfl⟩|⟨-,-,t,rfl⟩
 ·rw[aS];rcases hs with⟨-,_,_,hs,-⟩|⟨-,_,_,hs,-⟩|⟨-,⟨rfl,-⟩|⟨rfl,-⟩⟩
  ·exact hs.len
  ·exact hs.len
  ·exact bP _
  ·simp
 ·exact aiR _ _ _ _
 ·simp
def szA(a:AF):Nat:=(str a.2.2.2.2).size+1
def A5(l:List AF):Nat:=(l.map szA).sum
def abn(l:List AF)(k:Nat)(hk:k<l):A5 (l.take (k+1))=A5 (l.take k)+szA l[k]:=by unfold A5;rw[bE hk,bL,List.sum_append];simp
def abm(l:List AF)(k:Nat):A5 (l.take k)<=A5 l:=by
 have h:A5 l=A5 (l.take k)+A5 (l.drop k):=by unfold A5;rw[<-List.sum_append,<-bL,List.take_append_drop]
 omega
end LT
end Go.Proofs.YtopfefhenfineaaGreat
