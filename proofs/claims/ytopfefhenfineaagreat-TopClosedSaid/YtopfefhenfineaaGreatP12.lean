import Derived.Test.YtopfefhenfineaaGreatP11
import Derived.Laws.Bits64b
set_option linter.all false
set_option maxRecDepth 100000
set_option maxHeartbeats 8000000
namespace Go.Proofs.YtopfefhenfineaaGreat
open Go.Proofs.Tryz Go.RowKit Go.Shelf V
attribute[local go_sem] Oper.semAt_some
variable{zP:Prop}
def mj(h:zP:=by
 rintro w2 ⟨v',hl,ht⟩;go_wp2_with fail
 first|go_end0|refine aM (bH rfl _ _ _) rfl ?_
 rw[HN.o];exact⟨rfl,v',far,hl,(TK.ext (n0:=w0.heap.size) (T:=Ti) (HX.o.alloc _)).trans ht,aq,aq⟩):zP:=h
namespace LT
open jO (Sy RO gB eH iM iw jk gF gJ)
def aaz(n:Nat)(pl:List Nat)(t:Int):Prop:=0<=t/\t.toNat<pl.length/\pl.getD t.toNat 0<=n
def EI(n:Nat)(pl:List Nat)(t:Nat):Nat:=n-pl.getD t 0
variable {w0 W:ay} {B g:Nat} {v:aA} {bk:List Ix} {pl:List Nat} {far:Int}
def agb(f:Nat->Nat){s:Sy}(h:s.c=5):lJ f s=[⟨5,0,0,f s.th.toNat⟩]:=by unfold lJ;rw[aV h]
def aga(f:Nat->Nat){s:Sy}(h:s.c≠5)(h2:gF s.c=false):lJ f s=[⟨s.c,0,0,s.k⟩]:=by unfold lJ;rw[aN h,aV h2]
def Zl(f:Nat->Nat){s:Sy}(h:s.c≠5)(h2:gF s.c=true)(h3:max (f s.th.toNat) (f s.el.toNat)<=255):lJ f s=[⟨s.c,f s.th.toNat,f s.el.toNat,s.k⟩]:=by unfold lJ;rw[aN h,aN (by rw[h2];simp),aV h3]
def acs(f:Nat->Nat){s:Sy}(h:s.c≠5)(h2:gF s.c=true)(h3:¬max (f s.th.toNat) (f s.el.toNat)<=255):lJ f s=[⟨s.c,0,1,s.k⟩,⟨5,0,0,f s.th.toNat+1⟩,⟨5,0,0,f s.el.toNat⟩]:=by unfold lJ;rw[aN h,aN (by rw[h2];simp),aN h3]
def AY{A:ay}{cs:Array aA}{t:dz}(l:List Ix)(e:cs=(l.flatMap jS).toArray):(A.alloc (.cells cs t)).heap[A.heap.size]?=some (.cells (l.flatMap jS).toArray t (0,0)):=by rw[<-e];exact aC A _
def LK.akA(h:LK w0 B v g bk pl far W)(f:Int):LK w0 B v g bk pl f (W.setCell ⟨B,2,none⟩ (.int .i64 f))/\TK w0 Ti W (W.setCell ⟨B,2,none⟩ (.int .i64 f)):=by have k2:TK w0 (D5 349) W (W.setCell ⟨B,2,none⟩ (.int .i64 f)):=TK.set (p:=⟨B,2,none⟩) h.box rfl h.hB _;exact⟨⟨k2.lX h.ext (aD _),h.hB,eX h.box 2 _,k2.own h.own rfl,h.hg,k2.blk h.pls (.inr rfl)⟩,k2.mono (aD _) (λt ht=>by unfold Ti at ht;unfold D5;simp at ht⊢;exact ht.2)⟩
theorem YW(h:LK w0 B v g bk pl far W)(s:Sy)(hbl:bk.length<=1000000)(hf:0<=far)(hf2:far<=1000000)(hs:(s.c≠5/\jB s.c=false/\gF s.c=false)\/(s.c=5/\aaz bk pl s.th)\/(s.c≠5/\jB s.c=true/\gF s.c=true/\aaz bk pl s.th/\aaz bk pl s.el)):Calls prog 285 #[.pointer (some B),zh s] W λe w'=>e= .returned (.tuple #[])/\∃v' far',LK w0 B v' g (bk++(lJ (EI bk pl) s).reverse) pl far' w'/\TK w0 Ti W w'/\far<=far'/\far'<=far+1:=by
 have hO:=λW=>xw.kD s.c W
 have q5:((s.c:Int)==5)=(s.c==5):=by rw[bB];simp;omega
 have q2:((xw.iQ s.c:Int) !=4)= !jB s.c:=by unfold jB;rw[bB];simp;omega
 generalize xw.iQ s.c=cl at *;have bx:=aC W (.cells #[.int .u16 s.c,.int .u32 s.k,.int .i64 s.th,.int .i64 s.el] 407);unfold zh;have yO:=ah bx;have HL:=ah h;have HO:=ah hO;clear bx h hO;rcases hs with⟨h5,hj,ha⟩|⟨h5,p1,p2,p3⟩|⟨h5,hj,ha,⟨p1,p2,p3⟩,r1,r2,r3⟩
 ·have HN:Hid (lJ (EI bk pl) s=[⟨s.c,0,0,s.k⟩]):=ah (aga _ h5 ha);rw[show(s.c==5)=false from bK.2 h5]at q5;rw[hj]at q2;obtain⟨c,k,th,el⟩:=s;dsimp only at *;clear h5 hj ha;go_in;go_wp2_with fail;refine ap (HO.o _) ?_;intro w1 hx1;obtain⟨⟨c0,c1,-⟩,-⟩:=pO (aI yO.o hx1);have HL1:=ah ((HL.o.ext' ((aj _).alloc _)).ext' hx1);have HX:=ah (((aj W).alloc _).trans hx1);clear hx1;go_wp2_with fail;refine ap (kT (HL1.o.ext' ((aj _).alloc _)) [⟨c,0,0,k⟩] aE aq w1 (AY _ cY) (λe=>by have:=(HL1.o.own.lt _ e).2;omega)) ?_;exact mj
 ·have HN:Hid (lJ (EI bk pl) s=[⟨5,0,0,EI bk pl s.th.toNat⟩]):=ah (agb _ h5);rw[show(s.c==5)=true from fU.2 h5]at q5;obtain⟨c,k,th,el⟩:=s;dsimp only at *;obtain⟨t,rfl⟩:∃t:Nat,th=(t:Int):=⟨th.toNat,aq⟩;rw[dR]at p2 p3 HN;have HD:=ah (uw (HL.o.ext' ((aj W).alloc (.cells #[.int .u16 c,.int .u32 k,.int .i64 t,.int .i64 el] 407))) aq t p2 p3);have hd:bk.length-pl.getD t 0=EI bk pl t:=rfl;rw[hd]at HD;have hdl:EI bk pl t<=1000000:=by unfold EI;omega
  generalize EI bk pl t=d at *;clear h5 p1 p2 p3 hd q2;go_in;go_wp2_with fail;refine ap HD.o ?_;intro w1 hx1;have HL1:=ah ((HL.o.ext' ((aj _).alloc _)).ext' hx1);have HX:=ah (((aj W).alloc _).trans hx1);clear hx1;go_wp2_with fail;refine ap (kT (HL1.o.ext' ((aj _).alloc _)) [⟨5,0,0,d⟩] aE aq w1 (AY _ cY) (λe=>by have:=(HL1.o.own.lt _ e).2;omega)) ?_;exact mj
 ·have N6:=λh3=>ah (Zl (EI bk pl) h5 ha h3)
  have HN2:=λh3=>ah (acs (EI bk pl) h5 ha h3)
  rw[show(s.c==5)=false from bK.2 h5]at q5;rw[hj]at q2;obtain⟨c,k,th,el⟩:=s;dsimp only at *;obtain⟨t,rfl⟩:∃t:Nat,th=(t:Int):=⟨th.toNat,aq⟩;obtain⟨t2,rfl⟩:∃t2:Nat,el=(t2:Int):=⟨el.toNat,aq⟩;rw[dR]at p2 p3 r2 r3 N6 HN2;rw[dR]at N6 HN2;have HD1:=ah (λ(W':ay) (hx:LK w0 B v g bk pl far W')=>uw hx aq t p2 p3);have HD2:=ah (λ(W':ay) (hx:LK w0 B v g bk pl far W')=>uw hx aq t2 r2 r3);have hd:bk.length-pl.getD t 0=EI bk pl t:=rfl;have hd2:bk.length-pl.getD t2 0=EI bk pl t2:=rfl;rw[hd]at HD1;rw[hd2]at HD2;have hdl:EI bk pl t<=1000000:=by unfold EI;omega
  have ayS:EI bk pl t2<=1000000:=by unfold EI;omega
  generalize EI bk pl t=d at *;generalize EI bk pl t2=d2 at *;clear h5 hj ha p1 p2 p3 r1 r2 r3 hd hd2;go_in;go_wp2_with fail;refine ap (HO.o _) ?_;intro w1 hx1;obtain⟨⟨c0,c1,c2,c3⟩,-⟩:=pO (aI yO.o hx1);have HL1:=ah ((HL.o.ext' ((aj _).alloc _)).ext' hx1);have HX:=ah (((aj W).alloc _).trans hx1);have HE1:=ah (λX:XW w1=>HD1.o X.w (HL1.o.ext' X.h));have HE2:=ah (λX:XW w1=>HD2.o X.w (HL1.o.ext' X.h));clear hx1;have c2x:=nV c2;have c3x:=nV c3;go_upto_region 1 with fail;refine fE ax ax ?_
  repeat(any_goals(first|go_big_quiet_step ((first|(go_at_call 359;with_reducible exact dx (HE1.o _))|(go_at_call 359;with_reducible exact dx (HE2.o _))))|quiet_step ((first|(go_at_call 359;with_reducible exact dx (HE1.o _))|(go_at_call 359;with_reducible exact dx (HE2.o _))))))
  all_goals(refine i4 ?_;intro _ B2;obtain⟨x,hw8⟩:=B2;subst hw8)
  have c0':=x.h.cell c0;have c1':=x.h.cell c1;have HL2:=ah (HL1.o.ext' x.h);have jm:=ah (HX.o.trans x.h);clear c2x c3x c0 c1 c2 c3;generalize x.w=w2 at *;clear x;by_cases QD:max d d2<=255
  ·have HN:=N6 QD;have hdn:d<=255:=aq;have ayR:d2<=255:=aq;clear N6 HN2;go_wp2_with fail
   all_goals
    refine ap (kT (HL2.o.ext' ((aj _).alloc _)) [⟨c,d,d2,k⟩] aE aq w2 (AY _ cY) (λe=>by have:=(HL2.o.own.lt _ e).2;omega)) ?_;rintro w3 ⟨v',hl,ht⟩;go_wp2_with fail
    first|go_end0|refine aM (bH rfl _ _ _) rfl ?_
    rw[HN.o];exact⟨rfl,v',far,hl,(TK.ext (n0:=w0.heap.size) (T:=Ti) (jm.o.alloc _)).trans ht,aq,aq⟩
  ·have HN:=HN2 QD;have c9:=aG HL2.o.box 2
   change w2.cell? ⟨B,2,none⟩=some (.int .i64 far)at c9
   have f9:w2.frozen? ⟨B,2,none⟩=false:=by simp[World.frozen?,HL2.o.box]
   have HL3:=ah (LK.akA HL2.o (far+1));clear N6 HN2;go_wp2_with fail
   all_goals
    have hs3:(w2.setCell ⟨B,2,none⟩ (.int .i64 (far+1))).heap.size=w2.heap.size:=aE;generalize w2.setCell _ _=w3 at *;refine ap (kT (HL3.o.1.ext' ((aj _).alloc _)) [⟨c,0,1,k⟩,⟨5,0,0,d+1⟩,⟨5,0,0,d2⟩] aE aq w2 (hs3▸AY _ cY) (λe=>by have:=(HL3.o.1.own.lt _ e).2;omega)) ?_;rintro w4 ⟨v',hl,ht⟩;go_wp2_with fail
    first|go_end0|refine aM (bH rfl _ _ _) rfl ?_
    rw[HN.o];exact⟨rfl,v',far+1,hl,(TK.ext (n0:=w0.heap.size) (T:=Ti) jm.o).trans ((HL3.o.2.trans (TK.ext ((aj _).alloc _))).trans ht),aq,aq⟩
end LT
open Go.Sort
namespace Gf
variable{xs:List Nat}
def hd1(c:aZ)(l:List aZ):List aZ:=l.takeWhile (· !=c)
def tl1(c:aZ)(l:List aZ):List aZ:=(l.dropWhile (· !=c)).drop 1
def xR{c:aZ}:∀ {l:List aZ},l.contains c=false->hd1 c l=l/\tl1 c l=[]
 | [],_=>⟨rfl,rfl⟩
 |x::r,h=>by
  rw[jA,jC]at h;have hx:(x !=c)=true:=by have:=h.1;simp at this;simp;exactλe=>this e.symm
  obtain⟨h1,h2⟩:=xR h.2;unfold hd1 tl1 at *;rw[gL (p:=(· !=_)) hx,i7 (p:=(· !=_)) hx,h1];exact⟨rfl,h2⟩
def B3{c:aZ}:∀ {l:List aZ},l.contains c=true->(hd1 c l).length<l.length
 | [],h=>by cases h
 |x::r,h=>by
  unfold hd1;by_cases hx:x=c
  ·have hx:¬(x !=c)=true:=by simp[hx]
   rw[jv (p:=(· !=_)) hx];simp
  ·rw[jA]at h;have hc:(c==x)=false:=by rw[bK];exactλe=>hx e.symm
   rw[hc,Bool.false_or]at h;have hx:(x !=c)=true:=by simp[hx]
   rw[gL (p:=(· !=_)) hx];have:=B3 h;unfold hd1 at this;simp only[aO];omega
def Wj(a:Nat)(h:a<4294967296):wrap32 ((a:Int)/65536*65536)=sg a*65536:=by unfold wrap32 sg;split<;>omega
theorem Vt(a b:Nat)(h:a<4294967296)(h':b<4294967296)(w:ay):Calls prog 153 #[.int .u32 a,.int .u32 b] w λe w'=>e= .returned (.bool (less a b))/\w=w':=by go_in;go_wp2_with(go_at_call 194;refine ap (Ci _ (by assumption) _) ?_;rintro w' rfl);go_ret;exact⟨by simp[less,Wj a h,Wj b h'],rfl⟩
def pick(r x:Nat):Nat:=if less x r then x else r
def afE{r x:Nat}(h:r<4294967296)(h':x<4294967296):pick r x<4294967296:=by unfold pick;split<;>assumption
def upto(n k:Nat):List Nat:=(List.range k).map λj=>n-1-j
def Yg(n k:Nat):upto n (k+1)=upto n k++[n-1-k]:=by simp[upto,List.range_succ]
def OC(n k:Nat):(upto n k).length=k:=by simp[upto]
def fold(xs:List Nat)(is:List Nat):Nat:=is.foldl (λr i=>pick r (xs.getD i 0)) 2147418112
def comb(xs:List Nat):Nat:=fold xs (upto xs xs)
def ZN(xs is:List Nat)(i:Nat):fold xs (is++[i])=pick (fold xs is) (xs.getD i 0):=by simp[fold]
def getD_lt(h:∀x∈xs,x<4294967296)(i:Nat):xs.getD i 0<4294967296:=by
 rw[bQ];by_cases hi:i<xs
 ·rw[aJ hi];exact h _ (aW _)
 ·rw[List.getElem?_eq_none (by omega)];decide
def agE(h:∀x∈xs,x<4294967296)(is:List Nat):fold xs is<4294967296:=by
 unfold fold;generalize hr:(2147418112:Nat)=r;have hr':r<4294967296:=by omega
 clear hr
 induction is generalizing r with
 |nil=>exact hr'
 |cons i is ih=>exact ih _ (afE hr' (getD_lt h i))
def j8(a:Nat):List aA:= [.int .u32 a]
theorem Qp(b o c:Nat)(r x:Nat)(hr:r<4294967296)(hx:x<4294967296)(hc:2<=c)(w:ay)(h0:w.cell? ⟨b,o,none⟩=some (.int .u32 r))(h1:w.cell? ⟨b,o+1,none⟩=some (.int .u32 x)):Calls prog 95 #[.slice (some ⟨b,o,none⟩) 2 c] w λe w'=>e= .returned (.int .u32 (pick r x:Nat))/\w=w':=by
 have hc1:¬(c=1):=by omega
 by_cases hl:less x r=true
 all_goals
  go_in;go_wp2;refine wp_loop_rounds 2 ?_;rw[rounds_succ];go_wp2_with(go_at_call 153;refine ap (Vt _ _ hx hr _) ?_;rintro w' rfl);rw[rounds_succ];go_wp2;go_ret;exact⟨by simp[pick,hl],rfl⟩
theorem adV(l Bs n₀ b o c:Nat)(n:Nat)(g:Nat->Nat)(hn:n<=9223372036854775807)(hb:b<n₀)(J Jx:List Nat->ay->Prop)(hY:∀(pre:List Nat)(x:Nat) W,J pre W->pre.length<n->YieldAt Fence.wide (3-1) prog l #[.int .i64 x,.int .u32 (g x:Nat)] W λe W'=>(e= .returned (.bool true)/\J (pre++[x]) W'/\Keep (λk=>k<n₀\/k=Bs) W W')\/(e= .returned (.bool false)/\Jx (pre++[x]) W'))(W:ay)(S1:W.cell? Bs=some (.slice (some ⟨b,o,none⟩) n c))(hc:∀j,j<n->W.cell? ⟨b,o+j,none⟩=some (.int .u32 (g j:Nat)))(h0:J [] W):CallsIn Fence.wide 3 prog 152 #[.func (.yield l) #[] #[],.pointer (some Bs)] W λe W'=>(∃v,e= .returned v)/\((∃ys,ys=upto n n/\J ys W')\/(∃pre,(∃k,k<=n/\pre=upto n k)/\Jx pre W')):=by
 refine kX func152 rfl trivial ?_ rfl;simp only[ntmps152,bW,aO,bD,Nat.reduceAdd,Nat.reduceSub,dU,dS,fq,dZ,dA,dh];gi_wp2;gi_loopw [3] (λi wr=>∃k:Nat,k<=n/\i= .int .i64 ((n:Int)-1-k)/\J (upto n k) wr/\Keep (λk=>k<n₀\/k=Bs) W wr) (λi _=>(intOf i+1).toNat)
 case atStart=>exact⟨0,bP _,by simp,h0,Keep.refl _ _⟩
 case round=>
  obtain⟨k,hk,rfl,hJs,hnx⟩:=hrel;by_cases hlt:k<n
  ·obtain⟨q,hq⟩:∃q:Nat,q=n-1-k:=⟨_,rfl⟩;have hqi:(n:Int)-1-k=(q:Int):=by omega
   have hq1:q<n:=by omega
   have hcx:=(hnx.cell (p:=⟨b,o+q,none⟩) (.inl hb)).trans (hc q hq1);have hbs:=(hnx.cell (p:=⟨Bs,0,none⟩) (.inr rfl)).trans S1;have hup:=Yg n k;rw[<-hq]at hup;have HU:=ah hup;obtain⟨fn,tmps,assign,body,hy,hR⟩:=hY _ q wr hJs (by rw[OC];exact hlt);rw[hqi];clear hup hq hc S1;gi_wp2;refine hR.mono ?_;rintro e W3 (⟨rfl,hJ3,hk3⟩|⟨rfl,hJx3⟩)
   ·gi_wp2;go_roundw
    case rel=>exact⟨k+1,by omega,by first|(simp;done)|(simp;omega),by rw[HU.o];exact hJ3,hnx.trans hk3⟩
    case measure=>simp[intOf]<;>omega
   ·gi_wp2;refine aM (bH rfl _ _ _) rfl ?_;exact⟨⟨_,rfl⟩,.inr ⟨_,⟨k+1,by omega,HU.o.symm⟩,hJx3⟩⟩
  ·obtain rfl:k=n:=by omega
   exact pT
theorem aar(l Bs:Nat)(J:List Nat->ay->Prop)(W:ay)(a:Option Addr)(c:Nat)(S1:W.cell? Bs=some (.slice a 0 c))(h0:J [] W):CallsIn Fence.wide 3 prog 152 #[.func (.yield l) #[] #[],.pointer (some Bs)] W λe W'=>(∃v,e= .returned v)/\J [] W':=by
 refine kX func152 rfl trivial ?_ rfl;simp only[ntmps152,bW,aO,bD,Nat.reduceAdd,Nat.reduceSub,dU,dS,fq,dZ,dA,dh];gi_wp2;gi_loopw [3] (λi wr=>i= .int .i64 (-1)/\J [] wr) (λ_ _=>0)
 case atStart=>exact⟨rfl,h0⟩
 case round=>exact pw
theorem agO(a:Option Addr)(n c:Nat)(w:ay):Calls prog 94 #[.slice a n c] w λe w'=>e= .returned (.func (.func 152) #[] #[.pointer (some w)])/\w.alloc (.cells #[.slice a n c] 33)=w':=by exact vx
theorem Vh(Bs n₀:Nat)(v:aA)(xs:List Nat)(hn:xs.length<=9223372036854775807)(w:ay)(S1:Bs<w.heap.size)(asU:n₀<=w.heap.size)(hc:w.cell? Bs=some v)(hI:Rd w 1 j8 v xs)(hlow:∀b o c,v= .slice (some ⟨b,o,none⟩) xs c->0<xs.length->b<n₀):SeqStopsK Fence.wide 3 prog 152 #[.pointer (some Bs)] (λx:Nat=> #[Value.int .i64 x,Value.int .u32 (xs.getD x 0:Nat)]) (Keep (λk=>k<n₀\/k=Bs)) (λys=>ys=upto xs xs) (λpre=>∃k,k<=xs.length/\pre=upto xs k) xs w:=λl J Jx W hW _ _ hY h0=>by
 have hc':=(hW.cell (p:=⟨Bs,0,none⟩) S1).trans hc;obtain⟨a,c,rfl,hle,hnil,hel⟩:=hI.ext hW;by_cases h00:xs.length=0
 ·rw[h00]at hc'⊢;exact(aar l Bs J W a c hc' h0).mono λe W' ⟨he,hj⟩=>⟨he,.inl ⟨_,rfl,hj⟩⟩
 ·obtain⟨b,o,rfl,_⟩:=hel 0 (by omega);refine adV l Bs n₀ b o c xs (λj=>xs.getD j 0) hn (hlow b o c rfl (by omega)) J Jx hY W hc' ?_ h0;intro j hj;obtain⟨b',o',e,hat⟩:=hel j hj;obtain⟨rfl,rfl⟩:b=b'/\o=o':=by simpa using e
  have:=hat 0 (by simp[j8]);simpa[j8,hj]using this
def agj{S:Nat->Prop}{w:ay}(hS:∀k,S k->k<w.heap.size)(W:ay)(l:Nat)(o o':Obj)(hl:w.heap.size<=l)(_h:W.heap[l]?=some o)(_:o.isCells=false)(_:o.isWalk=false):Keep S W (W.putObj l o'):=by have hg:=grownBy_putObj' W l o';refine⟨hg.os,hg.tape,hg.output,hg.size,λk hk=>World.putObj_heap_other (λe=> ?_)⟩;have:=hS k hk;omega
theorem BJ(v:aA)(xs:List Nat)(hn:xs.length<=9223372036854775807)(hx:∀x∈xs,x<4294967296)(w:ay)(hI:Rd w 1 j8 v xs):Rt 51 #[v] w (.int .u32 (comb xs:Nat)):=by
 obtain⟨a,c,rfl,hR⟩:=id hI;have hlow:∀b o c',Value.slice a xs c= .slice (some ⟨b,o,none⟩) xs c'->0<xs.length->b<w.heap.size:=by
  intro b o c' e h0;obtain⟨b',o',e',hat⟩:=hR.2.2 0 h0;simp only[aU]at e;rw[e.1]at e';obtain⟨rfl,rfl⟩:b=b'/\o=o':=by simpa using e'
  exact aY _ _ (hat 0 (by simp[j8]))
 clear hR;have bR:=Boxed.new w 32 (.int .u32 2147418112);have bN:=Boxed.new (w.alloc (.cells #[.int .u32 2147418112] 32)) 33 (.slice a xs c);rw[aR]at bN;have hE0:Ext w ((w.alloc (.cells #[.int .u32 2147418112] 32)).alloc (.cells #[.slice a xs c] 33)):=((aj w).alloc _).alloc _;refine(bM (n:=4)).1 ?_;refine callsIn_of_wp_marks func51 rfl trivial ?_ rfl;simp only[ntmps51,bW,aO,bD,Nat.reduceAdd,Nat.reduceSub,dU,dS,fq,dZ,dA,dh];gi_wp2_with(refine⟨trivial,?_⟩;gi_at_call 94;refine tI (bM.2 (agO _ _ _ _)) ?_;rintro w' rfl);have h1:1<=4:=by omega
 refine wpIn_rangeFunc_ownF rfl h1 (gf:=152) (lb:= #[.pointer (some ⟨w+1,0,none⟩)]) rfl trivial (enters_of func152 (by kernel_rfl) rfl)
  (Vh (w+1) w _ xs hn _ (by simp) (by simp;omega) bN.cell (hI.ext hE0) hlow) Gv (agj (by simp;omega)) (Below.refl _ _) (λ_=>rfl)
  (λpre W=>(W.cell? w=some (.int .u32 (fold xs pre:Nat))/\W.frozen? w=false/\W.cell? ⟨w+1,0,none⟩=some (.slice a xs c))/\Below w w W)
  (λ_ _ _=>False)
  (OwnFrom.and (Own.from (λs A B row hs hg hr=>⟨cell_kept hs.1 hg hr,(frozen_kept hs.1 hg hr).trans hs.2.1,cell_kept hs.2.2 hg hr⟩) _) (ownFrom_below (aD _) (by simp;omega)))
  (λ_ _ _ _ _ hs _ _=>hs)
  ⟨⟨(bR.alloc _).cell,(bR.alloc _).frozen,bN.cell⟩,hE0⟩
  (λx=> {tmps:= #[.slice a xs c,undef,.int .u32 0,.pointer (some w),undef,.int .u32 (xs.getD x 0:Nat),.slice a xs c,.func (.func 152) #[] #[.pointer (some ⟨w+1,0,none⟩)],.int .i64 (x:Int),.int .u32 (xs.getD x 0:Nat),undef,undef,undef,undef,undef],defers:= []}) ?assign ?body ?done ?stop
 case assign=>intro l x W K hK;gi_wp2;exact hK
 case body=>
  rintro l pre x W ⟨⟨hc,hf,hc2⟩,hB⟩ _;have hlb:w.heap.size+1<W.heap.size:=aY _ _ hc2;have hlt:w.heap.size<W:=aY _ _ hc;have hfl:=agE hx pre;have hxl:=getD_lt hx x;have hsn:=ZN xs pre x;have HS:=ah hsn;clear hsn;generalize fold xs pre=r at hc hfl HS⊢;generalize xs.getD x 0=y at hxl HS⊢;have n1:1<=4-1-1:=by omega
  gi_wp2_with(refine⟨trivial,?_⟩;gi_at_call 95;refine tI (CallsIn.inRound l (bM.2 (Qp W 0 2 r y hfl hxl (by omega) _ (by simp[go_sem]) (by simp[go_sem])))) ?_;rintro w' rfl);refine⟨(KeepsOthers.setCell _ _ _).trans (KeepsOthers.alloc _ _),(Keep.setCell W (by intro h;rcases h with h|h<;>simp at h) _).trans (Keep.alloc _ (by intro k hk;simp only[jq];omega) _),⟨?_,?_,?_⟩,(hB.setCell (p:=w) (aD _) _).alloc (by simp only[jq];omega) _⟩
  ·rw[HS.o];exact Ext.cell ((aj _).alloc _) (World.cell?_setCell_same' _ _ _ (by rw[hc];rfl))
  ·exact Ext.frozen ((aj _).alloc _) (World.cell?_setCell_same' _ _ _ (by rw[hc];rfl)) (by rw[fF];exact hf)
  ·refine Ext.cell ((aj _).alloc _) ?_;rw[eG (w:=W) (aX _ _ _ _ (by simp))];exact hc2
 case done=>rintro D ys W hD rfl ⟨⟨hc,_⟩,hB⟩ hK;gi_wp2;refine⟨by simp,.inl ⟨_,_,rfl,run_takeDeferred hK,?_⟩⟩;exact pD
 case stop=>exact mx
end Gf
namespace qJ
def sU(t s:aK):(t.toList==s.toList)=(bytes t==bytes s):=by rw[Lib.toList_data,Lib.toList_data];rfl
def oh{α:Type}{p:α->Bool}:∀ {l:List α} {i:Nat} (h:i<l),(∀(j:Nat)(hj:j<l),j<i->p l[j]=false)->p l[i]=true->l.find? p=some l[i]
 |x::r,0,_,_,hp=>by simp at hp;simp[List.find?,hp]
 |x::r,i+1,h,hn,hp=>by have h0:p x=false:=hn 0 aE aq;have:=oh (p:=p) (l:=r) (i:=i) (Nat.lt_of_succ_lt_succ h) (λj hj hji=>hn (j+1) (Nat.succ_lt_succ hj) aq) hp;simp[List.find?,h0,this]
def tu{α:Type}{p:α->Bool}{l:List α}(h:∀(j:Nat)(hj:j<l),p l[j]=false):l.find? p=none:=lA
def j7(l:List Nm)(s:List aZ)(no:Int):Nat×Int:=match l.find? (λx=>x.1==s)with
 |some x=>(x.2,0)
 |none=>(0,no)
def ofL(l:List Nm)(n:Nat):List aZ:=match l.find? (λx=>x.2==n)with
 |some x=>x.1
 |none=>[]
def CK{w:ay}{v:aA}{xs:List Nm}(h:Rd w 2 vO v xs):∃a c,v= .slice a xs c/\xs.length<=c/\∀i,(hi:i<xs.length)->∃b o,a=some ⟨b,o,none⟩/\w.cell? ⟨b,o+i*2,none⟩=some (.string (str (xs[i]).1))/\w.cell? ⟨b,o+i*2+1,none⟩=some (.int .u32 ((xs[i]).2:Int)):=lE
def abO{w:ay}{v:aA}{xs:List Nm}(h:Rd w 2 NA v xs):∃a c,v= .slice a xs c/\xs.length<=c/\∀i,(hi:i<xs.length)->∃b o,a=some ⟨b,o,none⟩/\w.cell? ⟨b,o+i*2,none⟩=some (.string (str (xs[i]).1))/\w.cell? ⟨b,o+i*2+1,none⟩=some (.int .u64 ((xs[i]).2:Int)):=by obtain⟨a,c,h1,h2,h3,h4⟩:=h;refine⟨a,c,h1,h2,λi hi=> ?_⟩;obtain⟨b,o,e,k⟩:=h4 i hi;have k0:=k 0 (by simp[NA]);have k1:=k 1 (by simp[NA]);exact⟨b,o,e,by simpa[NA]using k0,by simpa[NA]using k1⟩
namespace AC
abbrev An:=@CK
end AC
open AC in
theorem xX(l:List Nm)(v:aA)(s:aK)(no:Int)(w:ay)(hv:Rd w 2 vO v l)(hl:l.length<=1000):Rt 341 #[v,.string s,.int .i64 no] w (.tuple #[.int .u32 ((j7 l (bytes s) no).1:Int),.int .i64 (j7 l (bytes s) no).2]):=by obtain⟨a,c,rfl,hac,hc⟩:=An hv;exact gC
namespace AD
abbrev An:=@abO
end AD
open AD in
theorem Nv(l:List Nm)(v:aA)(s:aK)(no:Int)(w:ay)(hv:Rd w 2 NA v l)(hl:l.length<=1000):Rt 355 #[v,.string s,.int .i64 no] w (.tuple #[.int .u64 ((j7 l (bytes s) no).1:Int),.int .i64 (j7 l (bytes s) no).2]):=by obtain⟨a,c,rfl,hac,hc⟩:=An hv;exact gC
theorem T0(l:List Nm)(v:aA)(n:Nat)(w:ay)(hv:Rd w 2 vO v l)(hl:l.length<=1000):Rt 98 #[v,.int .u32 n] w (.string (str (ofL l n))):=by
 obtain⟨a,c,rfl,hac,hc⟩:=CK hv;obtain⟨R,hR⟩:∃R,R=ofL l n:=⟨_,rfl⟩;rw[<-hR];clear hv;have A8:=ah hR;have EW:=ah hc;clear hR hc;unfold Rt;go_in;go_wp2_with fail;go_loopw [9] (λu wr=>∃i:Nat,i<=l/\u= .int .i64 i/\(∀(j:Nat) (hj:j<l),j<i->(l[j].2==n)=false)/\Ext w wr) (λu _=>l.length-(intOf u).toNat)
 case atStart=>exact⟨0,bP _,rfl,λj _ h=>aq,aj _⟩
 case round=>
  obtain⟨i,hi,rfl,hall,hx⟩:=hrel;have qC:=ah hall;clear hall;have HX:=ah hx;by_cases hlt:i<l
  ·obtain⟨b,o,rfl,d0,d1⟩:=EW.o i hlt;replace d0:=hx.cell d0;replace d1:=hx.cell d1;have hz:(i:Int)<l:=aq;have hwi:IntKind.i64.wrap ((i:Int)+1)=(i:Int)+1:=IntWalk.i64_in _ aq;have hat:(l[i].2==n)=true->R=l[i].1:=λh=>by rw[A8.o];unfold ofL;rw[oh (p:=λx=>x.2==n) hlt qC.o h]
   have hnext:(l[i].2==n)=false->∀(j:Nat) (hj:j<l.length),j<i+1->(l[j].2==n)=false:=λhbf j hj h=>by
    by_cases hji:j=i
    ·subst hji;exact hbf
    ·exact qC.o j hj aq
   clear hx;generalize hxi:l[i]=x at *;obtain⟨t,m⟩:=x;dsimp only at d0 d1 hnext hat;have hsb:((m:Int)==(n:Int))=(m==n):=by rw[bB,fU,fU];omega
   cases hb:m==n
   ·rw[hb]at hsb hnext;have hmn:¬m=n:=by simpa using hb
    clear hxi hat;have aAt:=ah hmn;clear hmn;exact ph
   ·rw[hb]at hsb hat;have hf:=hat rfl;have Ea:=ah hf;clear hf hxi hnext hat;go_wp2_with fail;go_ret;exact td
  ·obtain rfl:i=l.length:=aq;have hz:¬((l:Int)<l):=aq;have hf:R=[]:=by rw[A8.o];unfold ofL;rw[tu (p:=λx=>x.2==n) (λj hj=>qC.o j hj hj)]
   have Ea:=ah hf;clear hf hx;go_wp2_with fail;go_ret;exact⟨by rw[Ea.o];rfl,HX.o⟩
def Aq{W:ay}{t:dz}{n:Nat}{enc:Nm->List aA}(henc:∀x,(enc x).length=n){c:Array aA}{l:List Nm}(h:c.toList=l.flatMap enc):Rd (W.alloc (.cells c t)) n enc (.slice (some W) l l) l:=by have:=gI henc W l t W rfl;rw[<-h]at this;exact sd
theorem I2(W:ay):(storeCells W om.toList 0).run prog (W.alloc (.cells #[.string ⟨#[]⟩,.int .u32 0,.string ⟨#[]⟩,.int .u32 0,.string ⟨#[]⟩,.int .u32 0,.string ⟨#[]⟩,.int .u32 0,.string ⟨#[]⟩,.int .u32 0,.string ⟨#[]⟩,.int .u32 0,.string ⟨#[]⟩,.int .u32 0,.string ⟨#[]⟩,.int .u32 0] 181))= .ok () (W.alloc (.cells om 181)):=run_storeCells_new (P:=prog) W _ _ _ ax ax ax
theorem abB(W:ay):(storeCells W rC.toList 0).run prog (W.alloc (.cells #[.string ⟨#[]⟩,.int .u64 0,.string ⟨#[]⟩,.int .u64 0,.string ⟨#[]⟩,.int .u64 0,.string ⟨#[]⟩,.int .u64 0,.string ⟨#[]⟩,.int .u64 0,.string ⟨#[]⟩,.int .u64 0,.string ⟨#[]⟩,.int .u64 0,.string ⟨#[]⟩,.int .u64 0] 188))= .ok () (W.alloc (.cells rC 188)):=run_storeCells_new (P:=prog) W _ _ _ ax ax ax
theorem N8(s:aK)(w:ay):Rt 275 #[.string s] w (.tuple #[.int .u32 ((j7 uI (bytes s) 180).1:Int),.int .i64 (j7 uI (bytes s) 180).2]):=by
 have hT:=λW=>qm W
 have hF:=λv W (h:Rd W 2 vO v uI)=>xX uI v s 180 W h az
 have hst:=I2;generalize j7 uI (bytes s) 180=R at *;have vV:=ah hT;have Cj:=ah hF;clear hT hF;unfold Rt;go_in;go_wp2_with fail;refine ap (vV.o _) ?_;intro w1 hx1;go_wp2_with fail;refine ap (Cj.o _ _ (Aq zX Dl)) ?_;exact oT
theorem RH(s:aK)(w:ay):Rt 278 #[.string s] w (.tuple #[.int .u64 ((j7 sV (bytes s) 181).1:Int),.int .i64 (j7 sV (bytes s) 181).2]):=by
 have hT:=λW=>p4 W
 have hF:=λv W (h:Rd W 2 NA v sV)=>Nv sV v s 181 W h az
 have hst:=abB;generalize j7 sV (bytes s) 181=R at *;have vV:=ah hT;have Cj:=ah hF;clear hT hF;unfold Rt;go_in;go_wp2_with fail;refine ap (vV.o _) ?_;intro w1 hx1;go_wp2_with fail;refine ap (Cj.o _ _ (Aq adv Tw)) ?_;exact oT
theorem E4(n:Nat)(w:ay):Rt 58 #[.int .u32 n] w (.string (str (ofL uI n))):=by
 have hT:=λW=>qm W
 have hF:=λv W (h:Rd W 2 vO v uI)=>T0 uI v n W h az
 have hst:=I2;generalize str (ofL uI n)=R at *;have vV:=ah hT;have Cj:=ah hF;clear hT hF;unfold Rt;go_in;go_wp2_with fail;refine ap (vV.o _) ?_;intro w1 hx1;go_wp2_with fail;refine ap (Cj.o _ _ (Aq zX Dl)) ?_;intro w2 hx2;go_wp2_with fail;go_ret;exact tl
theorem KX(i:Nat)(h:i<sV)(W:ay):(Instr.index 188 (.agg rC) (.int .i64 i)).run prog W= .ok (.agg #[.string (str sV[i].1),.int .u64 (sV[i].2:Int)]) W:=by
 match i,h with
 |0,_=>rfl
 |1,_=>rfl
 |2,_=>rfl
 |3,_=>rfl
 |4,_=>rfl
 |5,_=>rfl
 |6,_=>rfl
 |7,_=>rfl
def orL(l:List Nm):Nat:=l.foldl (λn x=>n|||x.2) 0
def GA(all:Nat):List Nm->List Nat
 | []=>[]
 |x::r=>(if all&&&x.2≠0 then [x.2]else [])++GA all r
def abC(i:Nat)(h:i<sV):(sV[i]'h).2<18446744073709551616:=by have:∀x∈sV,x.2<18446744073709551616:=az;exact this _ (aW h)
def ai2(i:Nat)(h:i<8):orL (sV.take i)<18446744073709551616:=by have:∀j,j<8->orL (sV.take j)<18446744073709551616:=az;exact this i h
def Xq(all:Nat):∀(a b:List Nm),GA all (a++b)=GA all a++GA all b
 | [],_=>rfl
 |x::r,b=>by rw[dh];show _++GA all (r++b)=(_++GA all r)++GA all b;rw[Xq all r b,bI]
def Q8(x:Nat):List aA:= [.int .u64 (x:Int)]
def LX(x:Nat):(Q8 x).length=1:=rfl
def aaf(s:Nat):∀u∈Q8 s,u.oneCell'=true:=by intro u hu;simp[Q8]at hu;subst hu;rfl
theorem ajv:(Tryz.prog.info? 34).map (λi=>(i.zero,i.size,i.bytes))=some (some (.int .u64 0),1,8):=ax
theorem DR(w:ay):Rt 60 #[] w (.int .u64 (orL sV:Nat)):=by
 have hT:=λW=>p4 W
 have vV:=ah hT;clear hT;unfold Rt;go_in;go_wp2_with fail;refine ap (vV.o _) ?_;intro w1 hx1;have gK:=ah hx1;clear hx1;go_wp2_with fail;go_loopw [1,5] (λu ui wr=>∃i:Nat,i<=8/\ui= .int .i64 i/\u= .int .u64 (orL (sV.take i):Nat)/\Ext w wr) (λ_ ui _=>8-(intOf ui).toNat)
 case atStart=>exact⟨0,aq,rfl,rfl,gK.o⟩
 case round=>
  obtain⟨i,hi,rfl,rfl,hx⟩:=hrel;have HX:=ah hx;by_cases hlt:i<8
  ·have hz:(i:Int)<8:=aq;have hwi:IntKind.i64.wrap ((i:Int)+1)=(i:Int)+1:=IntWalk.i64_in _ aq;have hix:=KX i hlt;have hnx:orL (sV.take (i+1))=orL (sV.take i)|||(sV[i]'hlt).2:=by unfold orL;rw[bE (show i<sV.length from hlt),gU];rfl
   have hm:=abC i hlt;have hqb:=ai2 i hlt;generalize(sV[i]'hlt).2=m at *;generalize str (sV[i]'hlt).1=tx at *;obtain⟨q,hq⟩:∃q,q=orL (sV.take i):=⟨_,rfl⟩;rw[<-hq]at hnx hqb⊢;have hor:=bits_or_u64_nat q m hqb hm;have Af:=ah hnx;clear hnx hx hq;go_wp2_with fail;go_roundw
   case rel=>exact⟨i+1,aq,bm,by rw[Af.o],HX.o.alloc _⟩
   case measure=>exact gO
  ·obtain rfl:i=8:=aq;clear hx;exact pZ
theorem Sw(all:Nat)(ha:all<18446744073709551616)(w:ay):Calls prog 134 #[.int .u64 (all:Int)] w λe w'=>∃v,e= .returned v/\Ext w w'/\w'.ownsRow w 34 1 v (GA all sV).length ((GA all sV).flatMap Q8):=by
 have hT:=λW=>p4 W
 have vV:=ah hT;clear hT;go_in;go_wp2_with fail;refine ap (vV.o _) ?_;intro w1 hx1;have gK:=ah hx1;clear hx1;go_wp2_with fail;go_loopw [3,7] (λu ui wr=>∃(i:Nat) (L:List Nat) (a:Option Addr) (c:Nat),i<=8/\ui= .int .i64 i/\u= .slice a L c/\L=GA all (sV.take i)/\L.length<=i/\wr.ownsRow w 34 1 (.slice a L c) L (L.flatMap Q8)/\Ext w wr) (λ_ ui _=>8-(intOf ui).toNat)
 case atStart=>exact⟨0,[],none,0,aq,rfl,rfl,rfl,bP _,dB _ _ _ _,gK.o⟩
 case round=>
  obtain⟨i,L,a,c,hi,rfl,rfl,hL,hLi,ho,hx⟩:=hrel;have HX:=ah hx;have HO:=ah ho;by_cases hlt:i<8
  ·have hz:(i:Int)<8:=aq;have hwi:IntKind.i64.wrap ((i:Int)+1)=(i:Int)+1:=IntWalk.i64_in _ aq;have hix:=KX i hlt;have hnx:GA all (sV.take (i+1))=L++(if all&&&(sV[i]'hlt).2≠0 then [(sV[i]'hlt).2]else []):=by
    rw[bE (show i<sV.length from hlt),Xq,<-hL];show L++(_++[])=_;rw[fH]
    rfl
   have hmb:=abC i hlt;generalize(sV[i]'hlt).2=m at *;generalize str (sV[i]'hlt).1=tx at *;clear hx ho;have HhL:=ah hL;clear hL;have hand:=bits_and_u64_nat all m ha hmb;by_cases hm:all&&&m=0
   ·rw[aN (by simpa using hm),fH]at hnx;rw[hm]at hand;have Af:=ah hnx;clear hnx hm;go_wp2_with fail;go_roundw
    case rel=>exact⟨i+1,L,a,c,aq,bm,rfl,Af.o.symm,aq,dM HO.o _,HX.o.alloc _⟩
    case measure=>exact gO
   ·rw[aV (by simpa using hm)]at hnx;have hne:(((all&&&m:Nat):Int) !=0)=true:=by simp;omega
    obtain⟨g,hg⟩:∃g,g=all&&&m:=⟨_,rfl⟩;rw[<-hg]at hand hne;have hne2:(g !=0)=true:=by simpa using hne
    have HOA:=ah (dM (dM HO.o (.cells #[.string tx,.int .u64 (m:Int)] 187)) (.cells #[.int .u64 (m:Int)] 34));have HXA:=ah ((HX.o.alloc (.cells #[.string tx,.int .u64 (m:Int)] 187)).alloc (.cells #[.int .u64 (m:Int)] 34));have Af:=ah hnx;clear hnx hm hg
    go_wp2_with(at_builtin
                refine jH rfl (.tmp 15) (.tmp 18) _ rfl underlying223 ajv rfl az LX aaf w _ _ L [m] rfl rfl (by exact HOA.o) (gI LX (wr.alloc (.cells #[.string tx,.int .u64 (m:Int)] 187)) [m] _ _ (by rw[aR])) bp az (by exact HXA.o) ?_;intro EN EJ w5 lM hx5;have EY:=ah lM;have kM:=ah hx5;clear lM hx5)
    go_roundw
    case rel=>exact⟨i+1,L++[m],EN,EJ,aq,bm,aE,Af.o.symm,by simp;omega,by simpa using EY.o,kM.o⟩
    case measure=>exact gO
  ·obtain rfl:i=8:=aq;clear hx ho;go_wp2_with fail;go_ret;exact⟨_,rfl,HX.o,by rw[show GA all sV=L from hL.symm];exact HO.o⟩
end qJ
end Go.Proofs.YtopfefhenfineaaGreat
