import Derived.Test.YtopfefhenfineaaGreatP28
import Derived.Test.YtopfefhenfineaaGreatP27
set_option linter.all false
set_option maxRecDepth 100000
set_option maxHeartbeats 8000000
namespace Go.Proofs.YtopfefhenfineaaGreat
open Go.Proofs.Tryz Go.RowKit Go.Shelf V
attribute[local go_sem] Oper.semAt_some
variable{zP:Prop}
def rl(h:zP:=by
 go_wp2_with fail;go_roundw
 case rel=>exact⟨k+1,aq,bm,gK.o⟩
 case measure=>exact gO):zP:=h
namespace LT
open xw (iQ)
theorem NY(v:aA)(xs:List Ix)(hl:xs.length<=4096)(hok:JH xs=true)(w:ay)(hv:Rd w 4 jS v xs):Rt 188 #[v] w (.slice none 0 0):=by
 obtain⟨W2,hW2⟩:∃W2,W2=(w.alloc (.cells #[v] 51)).alloc (.cells #[.slice none 0 0] 28):=⟨_,rfl⟩;have hx2:Ext w W2:=by rw[hW2];exact((aj _).alloc _).alloc _
 have b1:W2.heap[w.heap.size]?=some (.cells #[v] 51 (0,0)):=by rw[hW2];exact aI (aC w _) ((aj _).alloc _)
 have b2:=aC (w.alloc (.cells #[v] 51)) (.cells #[.slice none 0 0] 28);rw[<-hW2,aR]at b2;have hP:∀x∈xs,x.c≠96/\x.c≠97:=λx hx=>by obtain⟨i,hi,rfl⟩:=fZ hx;have:=mZ (Aw hok hi);exact⟨this.2.2.2.2.2.1,this.2.2.2.2.2.2.1⟩
 have acO:∀(i:Nat) (s:Int) W,i<xs->Ext W2 W->Calls prog 253 (#[.int .i64 i,.int .u16 s]++ #[.pointer (some w),.pointer (some ⟨w+1,0,none⟩)]) W λe w'=>e= .returned (.tuple #[])/\Ext W w':=
  λi s W hi hx=>J2 w v xs hP i s hi _ W (hv.ext (hx2.trans hx)) (aG (aI b1 hx) 0)
 have hw:=Ta v xs hl 253 #[.pointer (some w),.pointer (some ⟨w+1,0,none⟩)] (enters_of func253 ax rfl) hok W2 (hv.ext hx2) acO;obtain⟨a,c,rfl,-,-⟩:=uf hv;have c1:W2.cell? w=some (.slice a xs c):=aG b1 0;have HW:=ah hw;have HWW:=ah hW2;have HX:=ah (ak hx2 b2);clear hw hv acO hW2 b1 b2;unfold Rt;go_in;go_wp2_with fail;rw[<-HWW.o];refine ap HW.o ?_;intro w1 hx1;have c2:w1.cell? ⟨w+1,0,none⟩=some (.slice none 0 0):=aG (aI HX.o.2 hx1) 0;have gK:=ah (HX.o.1.trans hx1);clear hx1;go_wp2_with fail;go_ret;exact⟨rfl,gK.o⟩
theorem aeF(v:aA)(p:List Ix)(hl:p.length<=4096)(hok:TW p=true)(w:ay)(hv:Rd w 4 jS v p):Rt 146 #[v] w (.tuple #[.int .i64 0,.int .i64 0]):=by
 unfold TW at hok;rw[bA]at hok;obtain⟨hs,hla⟩:=hok;have hp:0<p.length:=by
  rcases p with _|⟨x,r⟩
  ·cases hla
  ·simp
 have hc6:(p[p.length-1]' aq).c=6:=by rw[List.getLast?_eq_getElem?,aJ (show p.length-1<p.length from aq)]at hla;simpa using hla
 have hU:=λW (hx:Ext w W)=>NY v p hl hs W (hv.ext hx)
 obtain⟨a,c,rfl,-,hca⟩:=uf hv;have HU:=ah hU;have tO:=ah hca;have HC6:=ah hc6;have HS:=ah hs;have z1:(1:Int)<=p:=aq;have z2:((p:Int)<=4096):=aq;have z3:(p:Int)-1=((p.length-1:Nat):Int):=aq;clear hU hca hc6 hs hla hv;obtain⟨m,hm⟩:∃m,m=p.length-1:=⟨_,rfl⟩;rw[<-hm]at z3;have HM:=ah hm;clear hm;unfold Rt;go_in;go_wp2_with fail;go_loopw [23] (λi wr=>∃k:Nat,k<=p/\i= .int .i64 k/\Ext w wr) (λi _=>p.length-(intOf i).toNat)
 case atStart=>exact tg
 case round=>
  obtain⟨k,hk,rfl,hx⟩:=hrel;by_cases hlt:k<p
  ·obtain⟨b,o,rfl,r0,r1,r2,r3⟩:=tO.o k hlt;replace r0:=hx.cell r0;replace r1:=hx.cell r1;replace r2:=hx.cell r2;replace r3:=hx.cell r3;have hO:=λW=>aaB p[k] (p-1-k) aq (Aw HS.o hlt) W
   unfold m8 at hO;generalize p[k]=x at *;have HO:=ah hO;have HX:=ah hx;have zk:(k:Int)<p:=aq;have z4:(m:Int)-k=((p.length-1-k:Nat):Int):=by have:=HM.o;omega
   generalize p.length-1-k=q at *;clear hO hx;go_wp2_with fail;refine ap (HO.o _) ?_;intro w1 hx1;have gK:=ah ((HX.o.alloc _).trans hx1);clear hx1 z4 r0 r1 r2 r3;exact rl
  ·obtain rfl:k=p.length:=aq;obtain⟨b,o,rfl,r0,-⟩:=tO.o m (by rw[HM.o];omega);replace r0:=hx.cell r0;have e6:(p[m]'(by rw[HM.o];omega)).c=6:=by have:=HM.o;subst this;exact HC6.o
   rw[e6]at r0;have HX:=ah hx;have hO6:∀W,Calls prog 92 #[.int .u16 6] W λe w'=>e= .returned (.int .u8 5)/\Ext W w':=λW=>by have h:=xw.kD 6 W;rw[show iQ 6=5 from ci]at h;exact h
   have HO:=ah hO6;have zm:(m:Int)<p:=by have:=HM.o;omega
   clear hx e6 hO6;go_wp2_with fail;refine ap (HO.o _) ?_;intro w1 hx1;have gK:=ah (HX.o.trans hx1);clear hx1;go_wp2_with fail;refine ap (HU.o _ gK.o) ?_;intro w2 hx2;have jm:=ah (gK.o.trans hx2);clear hx2;go_wp2_with fail;go_loopw [49] (λi wr=>i= .int .i64 0/\Ext w wr) (λ_ _=>0)
   case atStart=>exact⟨rfl,jm.o⟩
   case round=>obtain⟨rfl,hx⟩:=hrel;have HX:=ah hx;clear hx;go_wp2_with fail;go_ret2;exact⟨rfl,HX.o⟩
theorem SH(v:aA)(p:List Ix)(hl:p.length<=4096)(hok:TW p=true)(w:ay)(hv:Rd w 4 jS v p):Rt 89 #[v] w (.int .i64 0):=by have HA:=ah (aeF v p hl hok w hv);obtain⟨a,c,rfl,-,-⟩:=uf hv;clear hv;unfold Rt;go_in;go_wp2_with fail;refine ap HA.o ?_;intro w1 hx1;go_wp2_with fail;exact vl
end LT
def AM(h:zP:=by have hI:=zg g eg p v xs hl w hv his;have hcs:=qX p xs 0;obtain⟨a,c,rfl,-,-⟩:=id hv;generalize iG p xs 0=i at *;generalize xs.any p=r at *;have HI:=ah hI;clear hv hI his;exact mu):zP:=h
def fk(h:zP:=by simp[jF]):zP:=h
namespace LT
variable{v:aA}{w:ay}
structure Pg where
 dr:Nat
 ar:Nat
 p:List Ix
 a:Option Addr
 c:Nat
def vo(x:Pg):List aA:= [.int .i64 x.dr,.int .i64 x.ar,.slice x.a x.p x.c]
def pgV(x:Pg):aA:= .agg #[.int .i64 x.dr,.int .i64 x.ar,.slice x.a x.p x.c]
def wQ(x:Pg):(vo x).length=3:=rfl
def ZV(x:Pg):∀u∈vo x,u.oneCell'=true:=by intro u hu;simp[vo]at hu;rcases hu with rfl|rfl|rfl<;>rfl
def PZ(n:Nn):aA:= .agg #[.string (str n.fl),.int .i64 n.ln,.int .i64 n.er,.string (str n.tx)]
def Au{xs:List Pg}(h:Rd w 3 vo v xs):∃a c,v= .slice a xs c/\xs.length<=c/\∀i,(hi:i<xs.length)->∃b o,a=some ⟨b,o,none⟩/\w.cell? ⟨b,o+i*3,none⟩=some (.int .i64 (xs[i].dr:Int))/\w.cell? ⟨b,o+i*3+1,none⟩=some (.int .i64 (xs[i].ar:Int))/\w.cell? ⟨b,o+i*3+2,none⟩=some (.slice xs[i].a xs[i].p.length xs[i].c):=by obtain⟨a,c,h1,h2,h3,h4⟩:=h;refine⟨a,c,h1,h2,λi hi=> ?_⟩;obtain⟨b,o,e,k⟩:=h4 i hi;exact⟨b,o,e,k 0 (by simp[vo]),k 1 (by simp[vo]),k 2 (by simp[vo])⟩
def K6{xs:List Nn}(h:Rd w 4 jF v xs):∃a c,v= .slice a xs c/\xs.length<=c/\∀i,(hi:i<xs.length)->∃b o,a=some ⟨b,o,none⟩/\w.cell? ⟨b,o+i*4,none⟩=some (.string (str xs[i].fl))/\w.cell? ⟨b,o+i*4+1,none⟩=some (.int .i64 (xs[i].ln:Int))/\w.cell? ⟨b,o+i*4+2,none⟩=some (.int .i64 (xs[i].er:Int))/\w.cell? ⟨b,o+i*4+3,none⟩=some (.string (str xs[i].tx)):=by obtain⟨a,c,h1,h2,h3,h4⟩:=h;refine⟨a,c,h1,h2,λi hi=> ?_⟩;obtain⟨b,o,e,k⟩:=h4 i hi;exact⟨b,o,e,k 0 fk,k 1 fk,k 2 fk,k 3 fk⟩
theorem RZ(g:Nat)(eg:∀args w,(callFunc g args).run prog w= .ok (.enter g args) w)(p:Pg->Bool)(v:aA)(xs:List Pg)(hl:xs.length<=1000000)(w:ay)(hv:Rd w 3 vo v xs)(his:∀x∈xs,∀W,Ext w W->Calls prog g #[pgV x] W λr w'=>r= .returned (.bool (p x))/\Ext W w'):Rt 88 #[v,.func (.func g) #[] #[]] w (.int .i64 (iG p xs 0)):=by
 obtain⟨a,c,rfl,hac,hca⟩:=Au hv;clear hv;unfold pgV at his;have HIS:=ah his;have tO:=ah hca;clear his hca;unfold Rt;go_in;go_wp2_with fail;go_loopw [5,8] (λ_ i wr=>∃k:Nat,k<=xs/\i= .int .i64 k/\Ext w wr/\iG p xs 0=iG p (xs.drop k) k) (λ_ i _=>xs.length-(intOf i).toNat)
 case atStart=>exact kf
 case round=>
  obtain⟨k,hk,rfl,hx,heq⟩:=hrel;have HX:=ah hx;have HE:=ah heq;clear heq;by_cases hlt:k<xs
  ·obtain⟨b,o,rfl,h0,h1,h2⟩:=tO.o k hlt;replace h0:=hx.cell h0;replace h1:=hx.cell h1;replace h2:=hx.cell h2;have HST:=ah (bJ hlt);have KI:=ah (HIS.o xs[k] (aW hlt));clear hx;generalize xs[k]=x at *;go_wp2_with fail;refine ap (KI.o _ HX.o) ?_;intro w1 hx1;have gK:=ah (HX.o.trans hx1);clear hx1 h0 h1 h2;exact gw
  ·exact gR
theorem R0(g:Nat)(eg:∀args w,(callFunc g args).run prog w= .ok (.enter g args) w)(p:Nn->Bool)(v:aA)(xs:List Nn)(hl:xs.length<=9223372036854775807)(w:ay)(hv:Rd w 4 jF v xs)(his:∀x∈xs,∀W,Ext w W->Calls prog g #[PZ x] W λr w'=>r= .returned (.bool (p x))/\Ext W w'):Rt 76 #[v,.func (.func g) #[] #[]] w (.int .i64 (iG p xs 0)):=by
 obtain⟨a,c,rfl,hac,hca⟩:=K6 hv;clear hv;unfold PZ at his;have HIS:=ah his;have tO:=ah hca;clear his hca;unfold Rt;go_in;go_wp2_with fail;go_loopw [5,8] (λ_ i wr=>∃k:Nat,k<=xs/\i= .int .i64 k/\Ext w wr/\iG p xs 0=iG p (xs.drop k) k) (λ_ i _=>xs.length-(intOf i).toNat)
 case atStart=>exact kf
 case round=>
  obtain⟨k,hk,rfl,hx,heq⟩:=hrel;have HX:=ah hx;have HE:=ah heq;clear heq;by_cases hlt:k<xs
  ·obtain⟨b,o,rfl,h0,h1,h2,h3⟩:=tO.o k hlt;replace h0:=hx.cell h0;replace h1:=hx.cell h1;replace h2:=hx.cell h2;replace h3:=hx.cell h3;have HST:=ah (bJ hlt);have KI:=ah (HIS.o xs[k] (aW hlt));clear hx;generalize xs[k]=x at *;go_wp2_with fail;refine ap (KI.o _ HX.o) ?_;intro w1 hx1;have gK:=ah (HX.o.trans hx1);clear hx1 h0 h1 h2 h3;exact gw
  ·exact gR
namespace zr
abbrev zg:=@RZ
end zr
open zr in
theorem SC(g:Nat)(eg:∀args w,(callFunc g args).run prog w= .ok (.enter g args) w)(p:Pg->Bool)(v:aA)(xs:List Pg)(hl:xs.length<=1000000)(w:ay)(hv:Rd w 3 vo v xs)(his:∀x∈xs,∀W,Ext w W->Calls prog g #[pgV x] W λr w'=>r= .returned (.bool (p x))/\Ext W w'):Rt 47 #[v,.func (.func g) #[] #[]] w (.bool (xs.any p)):=by exact AM
namespace zt
abbrev zg:=@R0
end zt
open zt in
theorem SE(g:Nat)(eg:∀args w,(callFunc g args).run prog w= .ok (.enter g args) w)(p:Nn->Bool)(v:aA)(xs:List Nn)(hl:xs.length<=9223372036854775807)(w:ay)(hv:Rd w 4 jF v xs)(his:∀x∈xs,∀W,Ext w W->Calls prog g #[PZ x] W λr w'=>r= .returned (.bool (p x))/\Ext W w'):Rt 39 #[v,.func (.func g) #[] #[]] w (.bool (xs.any p)):=by exact AM
theorem N0(g:Nat)(eg:∀args w,(callFunc g args).run prog w= .ok (.enter g args) w)(p:Cl->Bool)(v:aA)(xs:List Cl)(hl:xs.length<=1000000)(w:ay)(hv:Rd w 2 fD v xs)(his:∀x∈xs,∀W,Ext w W->Calls prog g #[XB x] W λr w'=>r= .returned (.bool (p x))/\Ext W w'):Rt 96 #[v,.func (.func g) #[] #[]] w (.int .i64 (iG p xs 0)):=by exact ib
namespace zE
abbrev zg:=@N0
end zE
open zE in
theorem SG(g:Nat)(eg:∀args w,(callFunc g args).run prog w= .ok (.enter g args) w)(p:Cl->Bool)(v:aA)(xs:List Cl)(hl:xs.length<=1000000)(w:ay)(hv:Rd w 2 fD v xs)(his:∀x∈xs,∀W,Ext w W->Calls prog g #[XB x] W λr w'=>r= .returned (.bool (p x))/\Ext W w'):Rt 52 #[v,.func (.func g) #[] #[]] w (.bool (xs.any p)):=by exact AM
end LT
def sC(h:zP:=by exact⟨0,aq,rfl,aj _,⟨aE,.inl aE⟩⟩):zP:=h
def qu(h:zP:=by unfold Rt;go_in;go_wp2_with(refine ap HC.o ?_;intro w1 hx1;have HX:=ah hx1;clear hx1);exact kA):zP:=h
def mf(h:zP:=by
 go_roundw
 case rel=>exact⟨L.length+1,aq,bm,sD.o,by rw[HO.o.2];exact A0.o⟩
 case measure=>exact gO):zP:=h
def km(h:zP:=by unfold Rt;go_in;go_wp2_with(refine ap (HC.o _ ((aj _).alloc _)) ?_;intro w1 hx1;have HX:=ah (((aj w).alloc _).trans hx1);clear hx1);go_ret;exact⟨rfl,HX.o⟩):zP:=h
namespace LT
open jO (Dat yL EU)
open Gf (j8 comb BJ)
structure agW(x:Pg):Prop where
 ok:TW x.p=true
 len:x.p.length<=4096
 pl:(x.dr=0/\x.ar=6)\/(0<x.dr/\x.dr<8/\x.ar<6)
def VI(w:ay)(x:Pg):Prop:=Rd w 4 jS (.slice x.a x.p x.c) x.p
def Jo(w:ay)(v:aA)(l:List Pg):Prop:=Rd w 3 vo v l/\l.length<=48/\∀x∈l,agW x/\VI w x
def Jo.ext{w w':ay}{v:aA}{l:List Pg}(h:Jo w v l)(hx:Ext w w'):Jo w' v l:=⟨h.1.ext hx,h.2.1,λx hm=>⟨(h.2.2 x hm).1,(h.2.2 x hm).2.ext hx⟩⟩
theorem xJ(x:Pg)(h:agW x)(w:ay)(hg:VI w x):Rt 49 #[pgV x] w (.bool true):=by
 have hC:=λW (hx:Ext w W)=>SH _ x.p h.len h.ok W (hg.ext hx)
 obtain⟨dr,ar,p,a,c⟩:=x;have hpl:=h.pl;unfold pgV;dsimp only at hC hpl⊢;obtain⟨⟨c0,c1,c2⟩,-⟩:=sO (aC w (.cells #[.int .i64 dr,.int .i64 ar,.slice a p c] 53));have HC:=ah hC;clear hC h hg;rcases hpl with⟨rfl,rfl⟩|⟨h1,h2,h3⟩
 ·exact km
 ·have q0:((dr:Int)==0)=false:=bK.2 aq;have q1:(0:Int)<=dr:=aq;have q2:(dr:Int)<8:=aq;have q3:(0:Int)<=ar:=aq;have q4:(ar:Int)<6:=aq;exact km
theorem OZ(x:Pg)(h:agW x)(w:ay)(hg:VI w x):Rt 48 #[pgV x] w (.bool false):=by
 have hC:=λW (hx:Ext w W)=>xJ x h W (hg.ext hx)
 unfold pgV at hC⊢;obtain⟨⟨c0,c1,c2⟩,-⟩:=sO (aC w (.cells #[.int .i64 x.dr,.int .i64 x.ar,.slice x.a x.p x.c] 53));have HC:=ah hC;clear hC h hg;exact km
theorem TB(v:aA)(l:List Pg)(w:ay)(h:Jo w v l):Rt 27 #[v] w (.bool true):=by
 have hC:=λW (hx:Ext w W)=>SC 48 (enters_of func48 ax rfl) (λ_=>false) v l (by have:=h.2.1;omega) W (h.1.ext hx) (λx hx2 W2 hx3=>OZ x (h.2.2 x hx2).1 W2 ((h.2.2 x hx2).2.ext (hx.trans hx3)))
 have e:l.any (λ_=>false)=false:=aE;rw[e]at hC;have hl:=h.2.1;have z:(l:Int)<=48:=aq;obtain⟨a,c,rfl,-,-⟩:=Au h.1;have HC:=ah hC;clear hC h;unfold Rt;go_in;go_wp2_with(refine ap (HC.o _ (aj _)) ?_;intro w1 hx1;have HX:=ah hx1;clear hx1);exact kA
theorem Jb(v:aA)(xs:List Nat)(hn:xs.length<=1000)(hx:∀x∈xs,x<4294967296)(w:ay)(hI:Rd w 1 j8 v xs):Rt 29 #[v] w (.int .u32 (comb xs:Nat)):=by have HC:=ah (BJ v xs aq hx w hI);obtain⟨a,c,rfl,-⟩:=hI;exact qu
def asR{W:ay}{B:Nat}{a b c d e f g h i:aA}{t:dz}(hb:W.heap[B]?=some (.cells #[a,b,c,d,e,f,g,h,i] t (0,0))):W.cell? B=some a/\W.cell? ⟨B,1,none⟩=some b/\W.cell? ⟨B,2,none⟩=some c/\W.cell? ⟨B,3,none⟩=some d/\W.cell? ⟨B,4,none⟩=some e/\W.cell? ⟨B,5,none⟩=some f/\W.cell? ⟨B,6,none⟩=some g/\W.cell? ⟨B,7,none⟩=some h/\W.cell? ⟨B,8,none⟩=some i:=
 ⟨aG hb 0,aG hb 1,aG hb 2,aG hb 3,aG hb 4,aG hb 5,aG hb 6,aG hb 7,aG hb 8⟩
def abf(d:Dat):∀(f:Nat)(p:List Ix)(a:Nat),(∀x∈p,x.k<4294967296)->vr d f p a<4294967296
 |0,_,_,_=>by simp[vr]
 |_+1,[],_,_=>by simp[vr]
 |f+1,x::r,a,h=>by
  have hr:∀y∈r,y.k<4294967296:=λy hy=>h y (by simp[hy])
  have hd:∀n,∀y∈r.drop n,y.k<4294967296:=λn y hy=>hr y (List.mem_of_mem_drop hy)
  unfold vr;(repeat' split)
  ·exact h x aE
  all_goals first|exact abf d f _ _ hr|exact abf d f _ _ (hd _)
def abl(d:Dat){p:List Ix}(h:TW p=true):qK d p<4294967296:=abf d _ _ _ λx hx=>by obtain⟨i,hi,rfl⟩:=fZ hx;unfold TW at h;rw[bA]at h;exact(mZ (Aw h.1 hi)).2.2.2.1
theorem Co(v:aA)(l:List Pg)(d:Dat)(hd:EU d)(w:ay)(h:Jo w v l):Rt 14 #[v,yL d] w (.tuple #[.int .u32 (comb (l.map λx=>qK d x.p):Nat),.int .i64 0]):=by
 have hM:=λW (hx:Ext w W)=>TB v l W (h.ext hx)
 have hl:=h.2.1;obtain⟨a,c,rfl,-,hca⟩:=Au h.1;have HM:=ah hM;have HH:=ah h.2.2;have tO:=ah hca;unfold yL;have bd:=aC w (.cells #[.int .u32 d.nr,.int .u32 d.ar,.int .u64 (d.ip:Int),.int .u64 (d.a0:Int),.int .u64 (d.a1:Int),.int .u64 (d.a2:Int),.int .u64 (d.a3:Int),.int .u64 (d.a4:Int),.int .u64 (d.a5:Int)] 57);have HB:=ah bd;clear hM hca h bd;unfold Rt;go_in;go_wp2_with fail;refine ap (HM.o _ ((aj _).alloc _)) ?_;intro w1 hx1;have HB1:=ah (aI HB.o hx1);have gK:=ah (((aj w).alloc _).trans hx1);have hw1:=hx1.size;rw[aR]at hw1;clear hx1;go_wp2_with fail;go_loopw [6,17] (λs6 s17 wr=>∃k:Nat,k<=l/\s17= .int .i64 k/\Ext w1 wr/\wr.ownsRow w1 32 1 s6 k (((l.take k).map λx=>qK d x.p).flatMap j8)) (λ_ s17 _=>l.length-(intOf s17).toNat)
 case atStart=>exact sC
 case round=>
  obtain⟨k,hk,rfl,hx,ho⟩:=hrel;by_cases hlt:k<l
  ·obtain⟨b,o,rfl,r0,r1,r2⟩:=tO.o k hlt;have wI:=gK.o.trans hx;replace r0:=wI.cell r0;replace r1:=wI.cell r1;replace r2:=wI.cell r2;obtain⟨hp,hg⟩:=HH.o _ (aW hlt);have hR:=λW (hW:Ext w W)=>Td _ l[k].p hp.len hp.ok d hd W (hg.ext hW)
   have ht:=bE hlt;obtain⟨x,hxe⟩:∃x,l[k]=x:=⟨_,rfl⟩;simp only[hxe]at hR r0 r1 r2 ht;obtain⟨L,hL⟩:∃L,L=(l.take k).map λx=>qK d x.p:=⟨_,rfl⟩
   have rJ:L.length=k:=by rw[hL];simp;omega
   rw[<-hL]at ho;obtain⟨y,hy⟩:∃y,qK d x.p=y:=⟨_,rfl⟩;have hT:(l.take (k+1)).map (λx=>qK d x.p)=L++[y]:=by rw[ht,bL,<-hL,<-hy];rfl
   simp only[hy]at hR;have hdb:=aI HB1.o hx;obtain⟨d0,d1,d2,d3,d4,d5,d6,d7,d8⟩:=asR (aI hdb ((aj wr).alloc (.cells #[.int .i64 x.dr,.int .i64 x.ar,.slice x.a x.p x.c] 53)));obtain⟨⟨e0,e1,e2⟩,-⟩:=sO (aC wr (.cells #[.int .i64 x.dr,.int .i64 x.ar,.slice x.a x.p x.c] 53));obtain⟨au,cu,rfl⟩:=bU ho;subst rJ;have HR:=ah hR;have HO:=ah (ak ho hT);have qO:=ah (ak hx wI);have hsz:=hx.size;have zk:(L:Int)<l:=aq;unfold yL at HR;clear hR ho hT wI hx hp hg hxe hy ht hdb hL;go_wp2_with fail;refine(HR.o _ (qO.o.2.alloc _)).mono ?_;rintro e w5 ⟨hx5,st,rfl⟩;have kM:=ah (((aj wr).alloc _).trans hx5);clear hx5
   go_wp2_with(at_builtin;refine iX rfl (.tmp 29) (.tmp 31) 33 rfl underlying33 EC rfl az iK oo w1.heap.size (.slice au L.length cu) _ L [y] rfl rfl (dM ((TK.ext (n0:=0) (T:=λ_=>false) kM.o).own HO.o.1 rfl) _) (gI iK w5 [y] 32 _ rfl) bp az (by have:=kM.o.size;simp;omega) ?_;intro au6 cu6 w6 uF AO
               have A0:=ah uF;have sD:=ah (((qO.o.1.trans kM.o).alloc _).grown AO (λr e=>(HO.o.1.lt r e).1));clear uF AO)
   exact mf
  ·obtain rfl:k=l.length:=aq;rw[bZ]at ho;obtain⟨L,hL⟩:∃L,L=l.map λx=>qK d x.p:=⟨_,rfl⟩
   have rJ:L.length=l:=by rw[hL];simp
   have hLb:∀y∈L,y<4294967296:=λy hy=>by rw[hL]at hy;obtain⟨x,hx,rfl⟩:=dW.1 hy;exact abl d (HH.o x hx).1.ok
   rw[<-hL]at ho;have HL:=ah hL;rw[<-rJ]at ho;have hc:=Jb _ L aq hLb wr (bY (λ_=>rfl) ho);obtain⟨au,cu,rfl⟩:=bU ho;rw[rJ]at hc;have HC:=ah hc;have qO:=ah (gK.o.trans hx);clear hc ho hx hL;go_wp2_with fail;refine ap HC.o ?_;intro w5 hx5;have kM:=ah (qO.o.trans hx5);clear hx5;go_wp2_with fail;go_ret2;exact⟨by rw[<-HL.o];rfl,kM.o⟩
end LT
end Go.Proofs.YtopfefhenfineaaGreat
namespace Go.Proofs.YtopfefhenfineaaGreat
open Go.Proofs.Tryz Go.RowKit Go.Shelf V
attribute[local go_sem] Oper.semAt_some V.Oper.idle V.Oper.mE V.Oper.jM
namespace LT
open lC (Test Rule Filter PR qx mR zZ mg j5 wO UD)
structure iZ where
 ar:List Int
 fm:Nat
 fc:List Cl
 dn:Nat
 lm:Nat
 lc:List Cl
 fa:List Nat
 fd:Nat
 sp:Nat
 we:Bool
 pe:Bool
 rt:Bool
 np:Bool
structure iF where
 a:Option Addr
 c:Nat
 fa:Option Addr
 fc:Nat
 la:Option Addr
 lc:Nat
 ga:Option Addr
 gc:Nat
def fA(p:iZ)(s:iF):List aA:= [.slice s.a p.ar s.c,.int .u8 p.fm,.slice s.fa p.fc s.fc,.int .u32 p.dn,.int .u8 p.lm,.slice s.la p.lc s.lc,.slice s.ga p.fa s.gc,.int .u8 p.fd,.int .u64 (p.sp:Int),.bool p.we,.bool p.pe,.bool p.rt,.bool p.np]
structure yt(w:ay)(p:iZ)(s:iF):Prop where
 ar:Rd w 1 i3 (.slice s.a p.ar s.c) p.ar
 fc:Rd w 2 fD (.slice s.fa p.fc s.fc) p.fc
 lc:Rd w 2 fD (.slice s.la p.lc s.lc) p.lc
 fa:Rd w 1 i8 (.slice s.ga p.fa s.gc) p.fa
def yt.ext{w w':ay}{p:iZ}{s:iF}(h:yt w p s)(hx:Ext w w'):yt w' p s:=⟨h.ar.ext hx,h.fc.ext hx,h.lc.ext hx,h.fa.ext hx⟩
def mkC(p:iZ)(s:iF)(ar:Int)(u:aA)(df:Nat):Array aA:= #[.slice s.a p.ar s.c,.int .u8 p.fm,.slice s.fa p.fc s.fc,.int .u32 p.dn,.int .u8 p.lm,.slice s.la p.lc s.lc,.slice s.ga p.fa s.gc,.int .u8 p.fd,.int .u64 (p.sp:Int),.bool p.we,.bool p.pe,.bool p.rt,.bool p.np,.int .i64 ar,u,.int .u32 df]
def vX(t:Nat):Bool:=t==110||t==103
structure MK(n0 mb:Nat)(p:iZ)(s:iF)(ar:Int)(u:aA)(df:Nat)(rs:List PR)(W:ay):Prop where
 hB:n0<=mb
 b:W.heap[mb]?=some (.cells (mkC p s ar u df) 103 (0,0))
 own:W.ownsRow n0 110 3 u rs (rs.flatMap qx)
 ts:∀r∈rs,W.ownsRow n0 137 4 r.v r.r.tests.length (r.r.tests.flatMap mg)
section
variable {n0 mb:Nat} {p:iZ} {s:iF} {ar:Int} {u:aA} {df:Nat} {rs:List PR} {W W':ay}
def oG{base e n k:Nat}{v:aA}{zs:List aA}(h:W.ownsRow base e n v k zs)(hx:Ext W W'):W'.ownsRow base e n v k zs:=(TK.ext (n0:=0) (T:=λ_=>false) hx).own h rfl
def MK.ext'(h:MK n0 mb p s ar u df rs W)(hx:Ext W W'):MK n0 mb p s ar u df rs W':=⟨h.hB,aI h.b hx,oG h.own hx,λr hr=>oG (h.ts r hr) hx⟩
def MK.lt(h:MK n0 mb p s ar u df rs W):mb<W.heap.size:=(aB.1 h.b).1
def MK.put(h:MK n0 mb p s ar u df rs W){u':aA}{rs':List PR}(hg:W.grownBy W' u.ownBlock)(ho:W'.ownsRow n0 110 3 u' rs' (rs'.flatMap qx))(ht:∀r∈rs',W.ownsRow n0 137 4 r.v r.r.tests.length (r.r.tests.flatMap mg)):W'.heap[mb]?=some (.cells (mkC p s ar u df) 103 (0,0))/\MK n0 mb p s ar u' df rs' (W'.setCell ⟨mb,14,none⟩ u')/\TK n0 vX W (W'.setCell ⟨mb,14,none⟩ u'):=by
 have k1:TK n0 (D5 110) W W':=TK.grown h.own hg rfl (aD _);have hb:=k1.blk h.b (.inr rfl);have k2:TK n0 (D5 103) W' (W'.setCell ⟨mb,14,none⟩ u'):=TK.set (p:=⟨mb,14,none⟩) hb rfl h.hB _;refine⟨hb,⟨h.hB,eX hb 14 u',k2.own ho rfl,λr hr=>k2.own (k1.own (ht r hr) rfl) rfl⟩,(k1.mono (aD _) λt ht=> ?_).trans (k2.mono (aD _) λt ht=> ?_)⟩<;>
  (unfold vX at ht;unfold D5;simp at ht⊢;first|exact ht.1|exact ht.2)
end
def afQ(a:Int)(s:List aZ):(Es a s).2=0\/(Es a s).2=90:=by unfold Es;exact ri
def qG(ar:Int)(ac:Nat)(ts:List Test)(rs:List Rule)(n:List aZ):List Rule:=if (Es ar n).2=0 then rs++[⟨(Es ar n).1,ts,ac⟩]else rs
theorem jl{n0 mb:Nat}{p:iZ}{s:iF}{ar:Int}{u:aA}{df:Nat}{rs:List PR}{W:ay}(h:MK n0 mb p s ar u df rs W)(hn0:n0<=W)(hrl:rs.length<=100000)(ac:Nat)(ts:List Test)(tv:aA)(htl:ts.length<=1000)(bt:Nat)(hts:W.ownsRow bt 137 4 tv ts (ts.flatMap mg))(ns:List (List aZ))(nv:aA)(hnl:ns.length<=1000)(bn:Nat)(hns:W.ownsRow bn 9 1 nv ns (ns.flatMap encStr)):Calls prog 130 #[.pointer (some mb),.int .u32 ac,tv,nv] W λe w'=>e= .returned (.tuple #[])/\(∃u' rs',rs'.map PR.r=ns.foldl (qG ar ac ts) (rs.map PR.r)/\MK n0 mb p s ar u' df rs' w')/\TK n0 vX W w':=by
 obtain⟨ta,tc,rfl⟩:=bU hts;obtain⟨na,nc,rfl⟩:=bU hns;have HT:=ah (ak h (ak hts hns));clear h hts hns;go_in;go_wp2_with fail;go_loopw [14] (λi wr=>∃(k:Nat) (u:aA) (CB:List PR),k<=ns/\i= .int .i64 k/\CB.map PR.r=(ns.take k).foldl (qG ar ac ts) (rs.map PR.r)/\CB.length<=rs+k/\MK n0 mb p s ar u df CB wr/\TK n0 vX W wr) (λi _=>ns.length-(intOf i).toNat)
 case atStart=>exact⟨0,u,rs,aq,rfl,rfl,aq,HT.o.1,TK.refl _ _ _⟩
 case round=>
  obtain⟨k,u,CB,hk,rfl,hrs,hle,hm,ht⟩:=hrel;by_cases hlt:k<ns
  ·obtain⟨a3,c3,e3,-,h3⟩:=xE (bY eT (ht.own HT.o.2.2 rfl));simp only[aU,true_and]at e3;obtain⟨rfl,rfl⟩:=e3;obtain⟨b,o,rfl,r0⟩:=h3 k hlt;have hfo:(ns.take (k+1)).foldl (qG ar ac ts) (rs.map PR.r)=if (Es ar ns[k]).2=0 then CB.map PR.r++[⟨(Es ar ns[k]).1,ts,ac⟩]else CB.map PR.r:=by rw[bE hlt,gU,<-hrs];rfl
   have hN:=λW=>KC ar (str ns[k]) W
   rw[iE]at hN;generalize ns[k]=nm at *;have hq:=afQ ar nm;have c13:wr.cell? ⟨mb,13,none⟩=some (.int .i64 ar):=aG hm.b 13;generalize Es ar nm=nu at *;obtain⟨nr,er⟩:=nu;dsimp only at hq hfo hN;have zk:(k:Int)<ns:=aq;have HN:=ah hN;have HM:=ah (ak hm ht);have HL:=ah (ak hrs hle);clear hN hm ht hrs hle h3;rcases hq with rfl|rfl
   ·rw[aV rfl]at hfo;have HF:=ah hfo;clear hfo;go_wp2_with(refine ap (HN.o _) ?_;intro w1 hx1;have HX:=ah hx1;clear hx1);have hm1:=HM.o.1.ext' HX.o;have ant:=oG (HM.o.2.own HT.o.2.1 rfl) HX.o;have hlt1:=hm1.lt;obtain⟨au,cu,rfl⟩:=bU hm1.own;have c14:w1.cell? ⟨mb,14,none⟩=some (.slice au CB cu):=aG hm1.b 14;have aoX:=nV c14;have H1:=ah (ak hm1 ant);have hx0:n0<=w1:=aL hn0 (aL HM.o.2.size HX.o.size);clear hm1 ant c13 r0;refine rQ (n:=1) [12,13,14,15,16] (λX=>∃x:XW w1,X=x.w) ax ?_;have hS0:∃x:XW w1,w1.drew=x.w:=⟨⟨w1.drew,(aj w1).drew⟩,rfl⟩;refine af 0 rfl ?_;refine af 1 rfl ?_;refine af 2 rfl ?_;refine af 3 rfl ?_;refine af 4 rfl ?_;refine am 5 rfl hS0 ?_;refine af 6 rfl ?_;refine af 7 rfl ?_;refine af 9 rfl ?_;refine jI 8 ax rfl (λK hK=> ?_);go_simp;refine⟨trivial,?_⟩;refine(bM.2 (lC.vE _ ts aq _ (bY j5 (oG H1.o.2 (aj _).drew)))).mono ?_;rintro e w7 ⟨v7,rfl,qY,hx7⟩;obtain⟨a7,c7,rfl⟩:=bU qY;have C9:Ext w1 w7:=(aj w1).drew.trans hx7;have hS7:∃x:XW w1,w7=x.w:=⟨⟨w7,C9⟩,rfl⟩;refine hK _ _ (λ_=>hS7) ?_;clear hK K hx7;refine jI 10 ax rfl (λK hK=> ?_);go_simp;refine hK _ _ (λ_=>hS7) ?_;clear hK K;refine jI 11 ax rfl (λK hK=> ?_);go_simp;refine hK _ _ (λ_=>⟨⟨_,C9.alloc _⟩,rfl⟩) ?_;clear hK K;obtain⟨q,hqq⟩:∃q:PR,q=⟨⟨nr,ts,ac⟩,a7,c7⟩:=⟨_,rfl⟩;have hrd:Rd (w7.alloc (.cells #[.int .u32 nr,.slice a7 ts c7,.int .u32 ac] 110)) 3 qx (.slice (some w7) 1 1) [q]:=by have:=gI mR w7 [q] 110 _ rfl;rw[hqq]at this⊢;exact this
    have hm7:=(H1.o.1.ext' C9).ext' ((aj w7).alloc (.cells #[.int .u32 nr,.slice a7 ts c7,.int .u32 ac] 110));have anS:=oG qY ((aj w7).alloc (.cells #[.int .u32 nr,.slice a7 ts c7,.int .u32 ac] 110));have hx27:Ext w1 (w7.alloc (.cells #[.int .u32 nr,.slice a7 ts c7,.int .u32 ac] 110)):=C9.alloc _;refine gP 12 ax rfl ax (λK hK=> ?_);refine xB rfl (.tmp 35) (.tmp 41) 71 rfl underlying71 UD rfl az mR zZ n0 (.slice au CB cu) _ CB [q] (by rfl) (by rfl) hm7.own hrd (by have:=HL.o.2;simp;omega) az (by have:=C9.size;rw[aR];omega) ?_;intro a9 c9 w9 Lx ZF;refine hK _ _ ?_;clear hK K;obtain⟨SY,hm9,ht9⟩:=hm7.put (rs':=CB++[q]) ZF (by rw[aH];exact Lx) (λr hr=>by
     rcases dJ.1 hr with h|h
     ·exact hm7.ts r h
     ·rw[e8.1 h,hqq];have hb:n0<=w1.drew:=hx0;exact anS.mono hb)
    have y14:w9.cell? ⟨mb,14,none⟩=some (.slice au CB cu):=aG SY 14;have f14:=aP SY 14;have HK:=ah (ak hm9 (ht9));have JR:=ah hx27;clear hm9 ht9 SY hm7 anS qY hrd Lx ZF hx27 C9 hS7 hS0;refine gP 13 ax rfl ax (λK hK=> ?_);go_simp;refine hK _ _ ?_;clear hK K;refine gP 14 ax rfl ax (λK hK=> ?_);go_simp;refine hK _ _ ?_;clear hK K;refine gP 15 ax rfl ax (λK hK=> ?_);go_simp;refine hK _ _ ?_;clear hK K;refine gP 16 ax rfl ax (λK hK=> ?_);go_simp;refine hK _ _ ?_;clear hK K;refine lG ax ?_;dsimp only[V.Calm,Exit.then];go_wp2_with fail;go_roundw
    case rel=>refine⟨k+1,_,CB++[q],aq,bm,?_,by have:=HL.o.2;simp;omega,by simpa using HK.o.1,(HM.o.2.trans (.ext (HX.o.trans JR.o))).trans (by simpa using HK.o.2)⟩;rw[HF.o,bL,hqq];rfl
    case measure=>exact gO
   ·rw[aN az]at hfo;have HF:=ah hfo;clear hfo;go_wp2_with(refine ap (HN.o _) ?_;intro w1 hx1;have HX:=ah hx1;clear hx1);go_roundw
    case rel=>exact⟨k+1,u,CB,aq,bm,HF.o.symm,by have:=HL.o.2;omega,HM.o.1.ext' HX.o,HM.o.2.trans (.ext HX.o)⟩
    case measure=>exact gO
  ·obtain rfl:k=ns.length:=aq;rw[bZ]at hrs;have H:=ah (ak hrs (ak hm ht));clear hrs hm ht;go_wp2_with fail
   first|go_end0|refine aM (bH rfl _ _ _) rfl ?_
   exact⟨rfl,⟨_,_,H.o.1,H.o.2.1⟩,H.o.2.2⟩
end LT
end Go.Proofs.YtopfefhenfineaaGreat
namespace Go.Proofs.YtopfefhenfineaaGreat
open Go.Proofs.Tryz Go.RowKit Go.Shelf V
attribute[local go_sem] Oper.semAt_some
variable{zP:Prop}
def px(h:zP:=by obtain rfl:k=l.length:=aq;rw[bZ]at ho;have H:=ah (ak ho hx);clear ho hx;go_wp2_with fail;go_ret;exact⟨_,rfl,H.o.2,H.o.1⟩):zP:=h
namespace LT
open lC (Test mg j5 wO Ir)
open jO (j8 jE)
def K1{w:ay}{v:aA}{xs:List Nat}(h:Rd w 1 j8 v xs):∃a c,v= .slice a xs c/\xs.length<=c/\∀i,(hi:i<xs.length)->∃b o,a=some ⟨b,o,none⟩/\w.cell? ⟨b,o+i,none⟩=some (.int .u64 (xs[i]:Int)):=by obtain⟨a,c,h1,h2,h3,h4⟩:=h;refine⟨a,c,h1,h2,λi hi=> ?_⟩;obtain⟨b,o,e,k⟩:=h4 i hi;have k0:=k 0 gh;exact⟨b,o,e,by simpa[j8]using k0⟩
theorem uQ(ar:Int)(mk ac:Nat)(l:List Nat)(v:aA)(hl:l.length<=900)(w:ay)(hv:Rd w 1 j8 v l):Calls prog 133 #[.int .i64 ar,.int .u64 (mk:Int),.int .u32 ac,v] w λe w'=>∃u,e= .returned u/\Ext w w'/\w'.ownsRow w 137 4 u l ((l.map λx=>(⟨ar,mk,x,ac⟩:Test)).flatMap mg):=by
 obtain⟨a,c,rfl,-,hca⟩:=K1 hv;have tO:=ah hca;clear hca hv;go_in;go_wp2_with fail;go_loopw [9,14] (λso si wr=>∃k:Nat,k<=l/\si= .int .i64 k/\Ext w wr/\wr.ownsRow w 137 4 so k (((l.take k).map λx=>(⟨ar,mk,x,ac⟩:Test)).flatMap mg)) (λ_ si _=>l.length-(intOf si).toNat)
 case atStart=>exact sC
 case round=>
  obtain⟨k,hk,rfl,hx,ho⟩:=hrel;by_cases hlt:k<l
  ·obtain⟨b,o,rfl,r0⟩:=tO.o k hlt;replace r0:=hx.cell r0;have hT:(l.take (k+1)).map (λx=>(⟨ar,mk,x,ac⟩:Test))=(l.take k).map (λx=>(⟨ar,mk,x,ac⟩:Test))++[(λx=>(⟨ar,mk,x,ac⟩:Test)) l[k]]:=by rw[bE hlt,bL];rfl
   have rJ:((l.take k).map (λx=>(⟨ar,mk,x,ac⟩:Test))).length=k:=by simp;omega
   generalize(l.take k).map (λx=>(⟨ar,mk,x,ac⟩:Test))=L at *;generalize l[k]=x at *;obtain⟨au,cu,rfl⟩:=bU ho;subst rJ;have HO:=ah (ak ho hT);have HX:=ah hx;have hsz:=hx.size;have zk:(L:Int)<l:=aq;clear ho hT hx
   go_wp2_with(at_builtin;refine iX rfl (.tmp 18) (.tmp 24) 108 rfl underlying108 Ir rfl az j5 wO w.heap.size (.slice au L.length cu) _ L [(⟨ar,mk,x,ac⟩:Test)] rfl rfl (dM HO.o.1 _) (gI j5 wr [(⟨ar,mk,x,ac⟩:Test)] 137 _ rfl) bp az bp ?_;intro au6 cu6 w6 uF AO
               have A0:=ah uF;have sD:=ah ((HX.o.alloc _).grown AO (λr e=>(HO.o.1.lt r e).1));clear uF AO)
   exact mf
  ·exact px
theorem uz(ar:Int)(ac:Nat)(l:List Nat)(v:aA)(hl:l.length<=900)(w:ay)(hv:Rd w 1 j8 v l):Calls prog 135 #[.int .i64 ar,.int .u32 ac,v] w λe w'=>∃u,e= .returned u/\Ext w w'/\w'.ownsRow w 137 4 u l ((l.map λx=>(⟨ar,x,x,ac⟩:Test)).flatMap mg):=by
 obtain⟨a,c,rfl,-,hca⟩:=K1 hv;have tO:=ah hca;clear hca hv;go_in;go_wp2_with fail;go_loopw [7,12] (λso si wr=>∃k:Nat,k<=l/\si= .int .i64 k/\Ext w wr/\wr.ownsRow w 137 4 so k (((l.take k).map λx=>(⟨ar,x,x,ac⟩:Test)).flatMap mg)) (λ_ si _=>l.length-(intOf si).toNat)
 case atStart=>exact sC
 case round=>
  obtain⟨k,hk,rfl,hx,ho⟩:=hrel;by_cases hlt:k<l
  ·obtain⟨b,o,rfl,r0⟩:=tO.o k hlt;replace r0:=hx.cell r0;have hT:(l.take (k+1)).map (λx=>(⟨ar,x,x,ac⟩:Test))=(l.take k).map (λx=>(⟨ar,x,x,ac⟩:Test))++[(λx=>(⟨ar,x,x,ac⟩:Test)) l[k]]:=by rw[bE hlt,bL];rfl
   have rJ:((l.take k).map (λx=>(⟨ar,x,x,ac⟩:Test))).length=k:=by simp;omega
   generalize(l.take k).map (λx=>(⟨ar,x,x,ac⟩:Test))=L at *;generalize l[k]=x at *;obtain⟨au,cu,rfl⟩:=bU ho;subst rJ;have HO:=ah (ak ho hT);have HX:=ah hx;have hsz:=hx.size;have zk:(L:Int)<l:=aq;clear ho hT hx
   go_wp2_with(at_builtin;refine iX rfl (.tmp 16) (.tmp 22) 108 rfl underlying108 Ir rfl az j5 wO w.heap.size (.slice au L.length cu) _ L [(⟨ar,x,x,ac⟩:Test)] rfl rfl (dM HO.o.1 _) (gI j5 wr [(⟨ar,x,x,ac⟩:Test)] 137 _ rfl) bp az bp ?_;intro au6 cu6 w6 uF AO
               have A0:=ah uF;have sD:=ah ((HX.o.alloc _).grown AO (λr e=>(HO.o.1.lt r e).1));clear uF AO)
   exact mf
  ·exact px
def xM(m n:Nat)(al dn:Bool):Bool:=if m=1 then al||decide (0<n)else if m=2 then dn||decide (0<n)else false
theorem zN(m n:Nat)(al dn:Bool)(w:ay):Calls prog 132 #[.int .u8 m,.int .i64 n,.bool al,.bool dn] w λe w'=>e= .returned (.bool (xM m n al dn))/\w'=w:=by
 obtain⟨R,hR⟩:∃R,xM m n al dn=R:=⟨_,rfl⟩;have HR:=ah hR;rw[hR];unfold xM at hR;have z:decide ((0:Int)<n)=decide (0<n):=aE;by_cases h1:m=1
 ·subst h1;rw[aV rfl]at hR;subst hR;clear HR;cases al
  ·exact lr
  ·exact lr
 ·have q1:((m:Int)==1)=false:=bK.2 aq;rw[aN h1]at hR;by_cases h2:m=2
  ·subst h2;rw[aV rfl]at hR;subst hR;clear HR;cases dn
   ·exact lr
   ·exact lr
  ·have q2:((m:Int)==2)=false:=bK.2 aq;rw[aN h2]at hR;subst hR;clear HR;go_in;exact im
end LT
def sR(h:zP:=by go_wp2_with fail;go_ret;exact⟨rfl,⟨_,_,H3.o.1,H3.o.2.1⟩,H3.o.2.2⟩):zP:=h
def sL(h:zP:=by go_wp2_with fail;go_ret;exact⟨rfl,⟨_,_,H1.o.1,H1.o.2.1⟩,H1.o.2.2⟩):zP:=h
def fi(h:zP:=by rw[rsl H1.o.1];exact aL (jN _ _ _ _ _) (by decide)):zP:=h
def eA(h:zP:=by rw[rsl H0.o.1];decide):zP:=h
namespace LT
open lC (Test Rule PR mg j5)
open jO (j8 jE)
variable{W:ay}{ar:Int}{df mb n n0:Nat}{u:aA}{α:Type}{enc:α->List aA}
def Ar(henc:∀x,(enc x).length=n)(W:ay)(xs:List α)(t:dz)(cs:Array aA)(e:cs=(xs.flatMap enc).toArray):Rd (W.alloc (.cells cs t)) n enc (.slice (some W) xs xs) xs:=by subst e;exact gI henc W xs t _ rfl
def oO(henc:∀x,(enc x).length=n)(W:ay)(xs:List α)(t:dz)(cs:Array aA)(e:cs=(xs.flatMap enc).toArray)(hm:xs.length<=1000):(W.alloc (.cells cs t)).ownsRow 0 t n (.slice (some W) xs xs) xs (xs.flatMap enc):=by subst e;exact jJ henc W xs t _ _ rfl (bP _) cH
def jN(ar:Int)(ac:Nat)(ts:List Test):∀(ns:List (List aZ)) (rs:List Rule),(ns.foldl (qG ar ac ts) rs).length<=rs.length+ns
 | [],_=>aE
 |n::ns,rs=>by
  have h:=jN ar ac ts ns (qG ar ac ts rs n);have:(qG ar ac ts rs n).length<=rs.length+1:=by unfold qG;split<;>simp
  simp only[jD,aO];omega
def rsl{ps:List PR}{rs:List Rule}(h:ps.map PR.r=rs):ps.length=rs:=by rw[<-h,aS]
def Od(ar:Int)(mk ac:Nat)(l:List Nat):List Test:=l.map λx=>⟨ar,mk,x,ac⟩
def F2(ar:Int)(ac:Nat)(l:List Nat):List Test:=l.map λx=>⟨ar,x,x,ac⟩
def yu(n0 mb:Nat)(p:iZ)(s:iF)(ar:Int)(df:Nat)(R:List Rule)(b:Bool)(W:ay)(e:Ending)(w':ay):Prop:=e= .returned (.bool b)/\(∃u' rs',rs'.map PR.r=R/\MK n0 mb p s ar u' df rs' w')/\TK n0 vX W w'
def aco(ar:Int):List Rule:=([[112,101,114,115,111,110,97,108,105,116,121]].foldl (qG ar 327681 (Od 0 4294967295 2147418112 [0,4294967295])) [])
theorem Qe{p:iZ}{s:iF}(h:MK n0 mb p s ar u df [] W)(hn0:n0<=W):Calls prog 83 #[.pointer (some mb)] W λe w'=>yu n0 mb p s ar df (aco ar) p.pe W e w':=by have hnil:List.map PR.r ([]:List PR)=([]:List Rule):=rfl;have H0:=ah (ak hnil (ak h (TK.refl n0 vX W)));clear h hnil;go_in;go_wp2_with fail;refine(uQ 0 4294967295 2147418112 [0,4294967295] _ az _ (Ar jE W [0,4294967295] 34 #[.int .u64 0,.int .u64 4294967295] rfl)).mono ?_;rintro e x0 ⟨v0,rfl,hy0,ho0⟩;have HY0:=ah (ak hy0 ho0);clear hy0 ho0;go_wp2_with fail;have hx0:Ext W (x0.alloc (.cells #[.string ⟨#[112,101,114,115,111,110,97,108,105,116,121]⟩] 9)):=(((aj W).alloc _).trans HY0.o.1).alloc _;refine ap (jl (H0.o.2.1.ext' hx0) (aL hn0 (aL H0.o.2.2.size hx0.size)) eA 327681 (Od 0 4294967295 2147418112 [0,4294967295]) v0 az _ (oG HY0.o.2 ((aj _).alloc _)) [[112,101,114,115,111,110,97,108,105,116,121]] _ az _ (oO eT x0 [[112,101,114,115,111,110,97,108,105,116,121]] 9 #[.string ⟨#[112,101,114,115,111,110,97,108,105,116,121]⟩] rfl az)) ?_;rintro w1 ⟨⟨u1,CB,he1,hm1⟩,ht1⟩;rw[H0.o.1]at he1;have H1:=ah (ak he1 (ak hm1 ((H0.o.2.2.trans (.ext hx0)).trans ht1)));clear he1 hm1 ht1 hx0;have y:w1.cell? ⟨mb,10,none⟩=some (.bool p.pe):=aG H1.o.2.1.b 10;exact sL
def acn(ar:Int):List Rule:=([[115,99,104,101,100,95,115,101,116,115,99,104,101,100,117,108,101,114]].foldl (qG ar 327681 (Od 1 4294967295 2147418112 [0,3,5])) [])
theorem Qd{p:iZ}{s:iF}(h:MK n0 mb p s ar u df [] W)(hn0:n0<=W):Calls prog 84 #[.pointer (some mb)] W λe w'=>yu n0 mb p s ar df (acn ar) p.rt W e w':=by have hnil:List.map PR.r ([]:List PR)=([]:List Rule):=rfl;have H0:=ah (ak hnil (ak h (TK.refl n0 vX W)));clear h hnil;go_in;go_wp2_with fail;refine(uQ 1 4294967295 2147418112 [0,3,5] _ az _ (Ar jE W [0,3,5] 34 #[.int .u64 0,.int .u64 3,.int .u64 5] rfl)).mono ?_;rintro e x0 ⟨v0,rfl,hy0,ho0⟩;have HY0:=ah (ak hy0 ho0);clear hy0 ho0;go_wp2_with fail;have hx0:Ext W (x0.alloc (.cells #[.string ⟨#[115,99,104,101,100,95,115,101,116,115,99,104,101,100,117,108,101,114]⟩] 9)):=(((aj W).alloc _).trans HY0.o.1).alloc _;refine ap (jl (H0.o.2.1.ext' hx0) (aL hn0 (aL H0.o.2.2.size hx0.size)) eA 327681 (Od 1 4294967295 2147418112 [0,3,5]) v0 az _ (oG HY0.o.2 ((aj _).alloc _)) [[115,99,104,101,100,95,115,101,116,115,99,104,101,100,117,108,101,114]] _ az _ (oO eT x0 [[115,99,104,101,100,95,115,101,116,115,99,104,101,100,117,108,101,114]] 9 #[.string ⟨#[115,99,104,101,100,95,115,101,116,115,99,104,101,100,117,108,101,114]⟩] rfl az)) ?_;rintro w1 ⟨⟨u1,CB,he1,hm1⟩,ht1⟩;rw[H0.o.1]at he1;have H1:=ah (ak he1 (ak hm1 ((H0.o.2.2.trans (.ext hx0)).trans ht1)));clear he1 hm1 ht1 hx0;have y:w1.cell? ⟨mb,11,none⟩=some (.bool p.rt):=aG H1.o.2.1.b 11;exact sL
def Uh(ar:Int):List Rule:=([[115,104,109,97,116]].foldl (qG ar 2147418112 (F2 2 327681 [32768])) ([[109,112,114,111,116,101,99,116],[112,107,101,121,95,109,112,114,111,116,101,99,116]].foldl (qG ar 2147418112 (F2 2 327681 [4])) ([[109,109,97,112]].foldl (qG ar 2147418112 (F2 2 327681 [6])) [])))
theorem Qb{p:iZ}{s:iF}(h:MK n0 mb p s ar u df [] W)(hn0:n0<=W):Calls prog 82 #[.pointer (some mb)] W λe w'=>yu n0 mb p s ar df (Uh ar) p.we W e w':=by have hnil:List.map PR.r ([]:List PR)=([]:List Rule):=rfl;have H0:=ah (ak hnil (ak h (TK.refl n0 vX W)));clear h hnil;go_in;go_wp2_with fail;refine(uz 2 327681 [6] _ az _ (Ar jE W [6] 34 #[.int .u64 6] rfl)).mono ?_;rintro e x0 ⟨v0,rfl,hy0,ho0⟩;have HY0:=ah (ak hy0 ho0);clear hy0 ho0;go_wp2_with fail;have hx0:Ext W (x0.alloc (.cells #[.string ⟨#[109,109,97,112]⟩] 9)):=(((aj W).alloc _).trans HY0.o.1).alloc _;refine ap (jl (H0.o.2.1.ext' hx0) (aL hn0 (aL H0.o.2.2.size hx0.size)) eA 2147418112 (F2 2 327681 [6]) v0 az _ (oG HY0.o.2 ((aj _).alloc _)) [[109,109,97,112]] _ az _ (oO eT x0 [[109,109,97,112]] 9 #[.string ⟨#[109,109,97,112]⟩] rfl az)) ?_;rintro w1 ⟨⟨u1,CB,he1,hm1⟩,ht1⟩;rw[H0.o.1]at he1;have H1:=ah (ak he1 (ak hm1 ((H0.o.2.2.trans (.ext hx0)).trans ht1)));clear he1 hm1 ht1 hx0;go_wp2_with fail;refine(uz 2 327681 [4] _ az _ (Ar jE w1 [4] 34 #[.int .u64 4] rfl)).mono ?_;rintro e x1 ⟨v1,rfl,hy1,ho1⟩;have HY1:=ah (ak hy1 ho1);clear hy1 ho1;go_wp2_with fail;have hx1:Ext w1 (x1.alloc (.cells #[.string ⟨#[109,112,114,111,116,101,99,116]⟩,.string ⟨#[112,107,101,121,95,109,112,114,111,116,101,99,116]⟩] 9)):=(((aj w1).alloc _).trans HY1.o.1).alloc _;refine ap (jl (H1.o.2.1.ext' hx1) (aL hn0 (aL H1.o.2.2.size hx1.size)) fi 2147418112 (F2 2 327681 [4]) v1 az _ (oG HY1.o.2 ((aj _).alloc _)) [[109,112,114,111,116,101,99,116],[112,107,101,121,95,109,112,114,111,116,101,99,116]] _ az _ (oO eT x1 [[109,112,114,111,116,101,99,116],[112,107,101,121,95,109,112,114,111,116,101,99,116]] 9 #[.string ⟨#[109,112,114,111,116,101,99,116]⟩,.string ⟨#[112,107,101,121,95,109,112,114,111,116,101,99,116]⟩] rfl az)) ?_;rintro w2 ⟨⟨u2,rs2,he2,hm2⟩,ht2⟩;rw[H1.o.1]at he2;have H2:=ah (ak he2 (ak hm2 ((H1.o.2.2.trans (.ext hx1)).trans ht2)));clear he2 hm2 ht2 hx1;go_wp2_with fail;refine(uz 2 327681 [32768] _ az _ (Ar jE w2 [32768] 34 #[.int .u64 32768] rfl)).mono ?_;rintro e x2 ⟨v2,rfl,hy2,ho2⟩;have HY2:=ah (ak hy2 ho2);clear hy2 ho2;go_wp2_with fail;have hx2:Ext w2 (x2.alloc (.cells #[.string ⟨#[115,104,109,97,116]⟩] 9)):=(((aj w2).alloc _).trans HY2.o.1).alloc _;refine ap (jl (H2.o.2.1.ext' hx2) (aL hn0 (aL H2.o.2.2.size hx2.size)) (by rw[rsl H2.o.1];exact aL (aL (jN _ _ _ _ _) (Nat.add_le_add_right (jN _ _ _ _ _) _)) az) 2147418112 (F2 2 327681 [32768]) v2 az _ (oG HY2.o.2 ((aj _).alloc _)) [[115,104,109,97,116]] _ az _ (oO eT x2 [[115,104,109,97,116]] 9 #[.string ⟨#[115,104,109,97,116]⟩] rfl az)) ?_;rintro w3 ⟨⟨u3,rs3,he3,hm3⟩,ht3⟩;rw[H2.o.1]at he3;have H3:=ah (ak he3 (ak hm3 ((H2.o.2.2.trans (.ext hx2)).trans ht3)));clear he3 hm3 ht3 hx2;have y:w3.cell? ⟨mb,9,none⟩=some (.bool p.we):=aG H3.o.2.1.b 9;exact sR
open qJ (GA sV)
def Xp(a:Nat):(GA a sV).length<=100:=by
 have h:∀l,(GA a l).length<=l.length:=λl=>by
  induction l with
  |nil=>exact aD _
  |cons x r ih=>unfold GA;rw[aH,aO];split<;>simp<;>omega
 exact aL (h sV) az
def Ui(ar:Int)(F:List Nat):List Rule:= [[99,108,111,110,101,51]].foldl (qG ar 327718 []) ([[115,101,116,110,115]].foldl (qG ar 2147418112 (F2 1 327681 F++Od 1 4294967295 327681 [0])) ([[117,110,115,104,97,114,101],[99,108,111,110,101]].foldl (qG ar 2147418112 (F2 0 327681 F)) []))
theorem Qc{p:iZ}{s:iF}(h:MK n0 mb p s ar u df [] W)(hn0:n0<=W)(hsp:p.sp<18446744073709551616):Calls prog 81 #[.pointer (some mb)] W λe w'=>yu n0 mb p s ar df (Ui ar (GA p.sp sV)) (!decide (p.sp=0)) W e w':=by
 have hnil:List.map PR.r ([]:List PR)=([]:List Rule):=rfl;have y0:W.cell? ⟨mb,8,none⟩=some (.int .u64 (p.sp:Int)):=aG h.b 8;have H0:=ah (ak hnil (ak h (TK.refl n0 vX W)));have hF:=qJ.Sw p.sp hsp W;have hFl:=Xp p.sp;generalize GA p.sp sV=F at *;have HF:=ah hF;clear h hnil hF;go_in;go_wp2_with fail;refine HF.o.mono ?_;rintro e x0 ⟨vF,rfl,hx0,hoF⟩;have HO:=ah (ak hx0 hoF);obtain⟨aF,cF,rfl⟩:=bU hoF;clear hx0 hoF;go_wp2_with fail;refine(uz 0 327681 F _ aq x0 (bY (λ_=>rfl) HO.o.2)).mono ?_;rintro e x1 ⟨v1,rfl,hy1,ho1⟩;have hF1:=oG HO.o.2 hy1;have HY1:=ah (ak (HO.o.1.trans hy1) (ak ho1 hF1));clear hy1 ho1 hF1;go_wp2_with fail;have hx0:Ext W _:=HY1.o.1.alloc (.cells #[.string ⟨#[117,110,115,104,97,114,101]⟩,.string ⟨#[99,108,111,110,101]⟩] 9);refine ap (jl (H0.o.2.1.ext' hx0) (aL hn0 (aL H0.o.2.2.size hx0.size)) eA 2147418112 (F2 0 327681 F) v1 (by unfold F2;rw[aS];omega) _ (oG (by unfold F2;rw[aS];exact HY1.o.2.1) ((aj _).alloc _)) [[117,110,115,104,97,114,101],[99,108,111,110,101]] _ az _ (oO eT _ [[117,110,115,104,97,114,101],[99,108,111,110,101]] 9 #[.string ⟨#[117,110,115,104,97,114,101]⟩,.string ⟨#[99,108,111,110,101]⟩] rfl az)) ?_;rintro w1 ⟨⟨u1,CB,he1,hm1⟩,ht1⟩;rw[H0.o.1]at he1;have H1:=ah (ak he1 (ak hm1 ((H0.o.2.2.trans (.ext hx0)).trans ht1)));have HG1:=ah (ht1.own (oG HY1.o.2.2 ((aj _).alloc _)) rfl);clear he1 hm1 ht1 hx0;go_wp2_with fail;refine(uz 1 327681 F _ aq w1 (bY (λ_=>rfl) HG1.o)).mono ?_;rintro e x2 ⟨v2,rfl,hy2,ho2⟩;have HY2:=ah (ak hy2 ho2);obtain⟨a2,c2,rfl⟩:=bU ho2;clear hy2 ho2;go_wp2_with fail;refine(uQ 1 4294967295 327681 [0] _ az _ (Ar jE x2 [0] 34 #[.int .u64 0] rfl)).mono ?_;rintro e x3 ⟨v3,rfl,hy3,ho3⟩;have HY3:=ah (ak (HY2.o.1.trans (((aj _).alloc _).trans hy3)) (ak ho3 (oG HY2.o.2 (((aj _).alloc _).trans hy3))));have hs3:=(HY2.o.1.trans (((aj _).alloc _).trans hy3)).size;clear hy3 ho3
 go_wp2_with(at_builtin;refine iX rfl (.tmp 17) (.tmp 19) 108 rfl underlying108 lC.Ir rfl az j5 lC.wO w1.heap.size (.slice a2 F.length c2) _ (F2 1 327681 F) (Od 1 4294967295 327681 [0]) rfl rfl (by unfold F2;rw[aS];exact HY3.o.2.2) (bY j5 HY3.o.2.1) (by unfold F2 Od;simp;omega) az hs3 ?_;intro au6 cu6 w6 uF AO
             have sD:=ah (HY3.o.1.grown AO (λr e=>(HY3.o.2.2.lt r e).1));have A0:=ah uF;clear uF AO)
 have hx1:Ext w1 _:=sD.o.alloc (.cells #[.string ⟨#[115,101,116,110,115]⟩] 9);refine ap (jl (H1.o.2.1.ext' hx1) (aL hn0 (aL H1.o.2.2.size hx1.size)) fi 2147418112 (F2 1 327681 F++Od 1 4294967295 327681 [0]) _ (by unfold F2 Od;simp;omega) _ (oG (by rw[aH];exact A0.o) ((aj _).alloc _)) [[115,101,116,110,115]] _ az _ (oO eT _ [[115,101,116,110,115]] 9 #[.string ⟨#[115,101,116,110,115]⟩] rfl az)) ?_;rintro w2 ⟨⟨u2,rs2,he2,hm2⟩,ht2⟩;rw[H1.o.1]at he2;have H2:=ah (ak he2 (ak hm2 ((H1.o.2.2.trans (.ext hx1)).trans ht2)));clear he2 hm2 ht2 hx1;go_wp2_with fail;have hx2:Ext w2 _:=(aj _).alloc (.cells #[.string ⟨#[99,108,111,110,101,51]⟩] 9);refine ap (jl (H2.o.2.1.ext' hx2) (aL hn0 (aL H2.o.2.2.size hx2.size)) (by rw[rsl H2.o.1];exact aL (jN _ _ _ _ _) (aL (Nat.add_le_add_right (jN _ _ _ _ _) _) az)) 327718 [] _ az _ (show World.ownsRow _ 0 137 4 (.slice none 0 0) 0 []from⟨rfl,.inl aE⟩) [[99,108,111,110,101,51]] _ az _ (oO eT _ [[99,108,111,110,101,51]] 9 #[.string ⟨#[99,108,111,110,101,51]⟩] rfl az)) ?_;rintro w3 ⟨⟨u3,rs3,he3,hm3⟩,ht3⟩;rw[H2.o.1]at he3;have H3:=ah (ak he3 (ak hm3 ((H2.o.2.2.trans (.ext hx2)).trans ht3)));clear he3 hm3 ht3 hx2;have y8:w3.cell? ⟨mb,8,none⟩=some (.int .u64 (p.sp:Int)):=aG H3.o.2.1.b 8;have z8:((p.sp:Int) !=0)=decide (p.sp≠0):=by rw[bB];simp
 exact sR
end LT
def oA(h:zP:=by exact⟨⟨h.hB,eX h.b 15 _,k2.own h.own rfl,λr hr=>by cases hr⟩,k2.mono (aD _) λt ht=>by unfold vX at ht;unfold D5;simp at ht⊢;exact ht.2⟩):zP:=h
namespace LT
open lC (Test Rule PR mg j5)
open jO (j8 jE)
variable{df mb n n0:Nat}
def MV(a b:Nat):Nat:=if a=0 then b else a
theorem wW(a b:Nat)(g:Nat)(w:ay)(h:w.heap[g]?=some (.cells #[.int .u32 a,.int .u32 b] 32 (0,0))):Rt 131 #[.slice (some g) 2 2] w (.int .u32 (MV a b:Nat)):=by
 obtain⟨R,hR⟩:∃R,MV a b=R:=⟨_,rfl⟩;have HR:=ah hR;rw[hR];clear hR;have c0:w.cell? g=some (.int .u32 a):=aG h 0;have c1:w.cell? ⟨g,1,none⟩=some (.int .u32 b):=aG h 1;clear h;unfold Rt;go_in;go_wp2_with fail;go_loopw [8] (λi wr=>wr=w/\(i= .int .i64 0\/(i= .int .i64 1/\a=0)\/(i= .int .i64 2/\a=0/\b=0))) (λi _=>2-(intOf i).toNat)
 case atStart=>exact⟨rfl,.inl rfl⟩
 case round=>
  obtain⟨rfl,rfl|⟨rfl,rfl⟩|⟨rfl,rfl,rfl⟩⟩:=hrel
  ·by_cases ha:a=0
   ·subst ha;go_wp2_with fail;go_roundw
    case rel=>exact⟨trivial,.inr (.inl ⟨bm,trivial⟩)⟩
    case measure=>simp[intOf]
   ·have q:((a:Int) !=0)=true:=by rw[bne_iff_ne];omega
    go_wp2_with fail;go_ret;exact⟨by rw[<-HR.o];unfold MV;rw[aN ha];rfl,aj _⟩
  ·by_cases hb:b=0
   ·subst hb;go_wp2_with fail;go_roundw
    case rel=>exact⟨trivial,.inr (.inr ⟨bm,trivial,trivial⟩)⟩
    case measure=>simp[intOf]
   ·have q:((b:Int) !=0)=true:=by rw[bne_iff_ne];omega
    go_wp2_with fail;go_ret;exact⟨by rw[<-HR.o];rfl,aj _⟩
  ·go_wp2_with fail;go_ret;exact⟨by rw[<-HR.o];rfl,aj _⟩
def CY{α:Type}{enc:α->List aA}(henc:∀x,(enc x).length=n)(W:ay)(xs:List α)(t:dz)(cs:Array aA)(g:Nat)(hg:g=W.heap.size)(e:cs=(xs.flatMap enc).toArray)(hm:xs.length<=1000):(W.alloc (.cells cs t)).ownsRow 0 t n (.slice (some g) xs xs) xs (xs.flatMap enc):=by subst hg;exact oO henc W xs t cs e hm
def Ev(ar:Int)(own:Cl->Nat)(cs:List Cl)(rs:List Rule):List Rule:=cs.foldl (λrs c=>qG ar (own c) [] rs c.nm) rs
def zM(ar:Int)(own:Cl->Nat):∀(cs:List Cl)(rs:List Rule),(Ev ar own cs rs).length<=rs.length+cs
 | [],_=>aD _
 |c::cs,rs=>by
  have h:=zM ar own cs (qG ar (own c) [] rs c.nm);have:(qG ar (own c) [] rs c.nm).length<=rs.length+1:=by unfold qG;split<;>simp
  unfold Ev at h⊢;simp only[jD,aO];omega
def afW(W:ay):W.ownsRow 0 137 4 (.slice none 0 0) ([]:List Test).length (([]:List Test).flatMap mg):=⟨rfl,.inl aE⟩
def Ik(p:iZ)(df:Nat):Nat:=if p.lm=2 then 2147221504 else df
def Qg(p:iZ):Nat:=if p.lm=2 then 2147418112 else 2147221504
theorem Uj{p:iZ}{s:iF}{ar:Int}{u:aA}{W:ay}(h:MK n0 mb p s ar u df [] W)(w0:ay)(hx0:Ext w0 W)(hw0:w0.heap.size<=n0)(hn0:n0<=W)(hr:yt w0 p s)(hl:p.lc.length<=100):Calls prog 79 #[.pointer (some mb)] W λe w'=>yu n0 mb p s ar (Ik p df) (Ev ar (λ_=>Qg p) p.lc []) (xM p.lm p.lc false true) W e w':=by
 obtain⟨a0,c0,fa,fcc,la,lcc,ga,gcc⟩:=s;have y4:W.cell? ⟨mb,4,none⟩=some (.int .u8 p.lm):=aG h.b 4;have f15:=aP h.b 15;have y15:W.cell? ⟨mb,15,none⟩=some (.int .u32 df):=aG h.b 15;have y5:W.cell? ⟨mb,5,none⟩=some (.slice la p.lc lcc):=aG h.b 5;obtain⟨W2,hW2⟩:∃W2,W2=if p.lm=2 then W.setCell ⟨mb,15,none⟩ (.int .u32 2147221504)else W:=⟨_,rfl⟩
 have hm2:MK n0 mb p ⟨a0,c0,fa,fcc,la,lcc,ga,gcc⟩ ar u (Ik p df) [] W2/\TK n0 vX W W2:=by
  rw[hW2];unfold Ik;by_cases e:p.lm=2
  ·rw[aV e,aV e];have k2:TK n0 (D5 103) W (W.setCell ⟨mb,15,none⟩ (.int .u32 2147221504)):=TK.set (p:=⟨mb,15,none⟩) h.b rfl h.hB _;exact oA
  ·rw[aN e,aN e];exact⟨h,TK.refl _ _ _⟩
 have HM2:=ah hm2;obtain⟨TP,ZI⟩:∃TP:ay->Prop,TP=TK n0 vX W:=⟨_,rfl⟩;have HP:=ah (ak (show TP W2 by rw[ZI];exact hm2.2) (ak (show∀a b,TP a->TK n0 vX a b->TP b fromλa b h1 h2=>by rw[ZI]at h1⊢;exact h1.trans h2) (ak (show∀a,TP a->Ext w0 a fromλa h1=>by rw[ZI]at h1;exact h1.lX hx0 hw0)
  (ak (show∀a,TP a->TK n0 vX W a fromλa h1=>by rw[ZI]at h1;exact h1) (show∀a,TP a->n0<=a.heap.size fromλa h1=>by rw[ZI]at h1;exact aL hn0 h1.size)))))
 have HLC:=ah hr.lc;have hlm:((p.lm:Int)==2)=decide (p.lm=2):=by rw[bB];simp;omega
 generalize hdf:Ik p df=DF at *;generalize how:Qg p=OW at *;unfold Ik at hdf;unfold Qg at how;have HD:=ah (λW=>zN p.lm p.lc false true W);clear h hx0 hm2 hr ZI;by_cases e:p.lm=2
 case' pos=>rw[aQ e]at hlm;rw[aV e]at hW2 how;have HOW:=ah how;have HW2:=ah hW2;clear hW2 hdf how e;go_in;go_upto_region 4 with fail;rw[<-HW2.o];clear HW2
 case' neg=>rw[aT e]at hlm;rw[aN e]at hW2 how;have HOW:=ah how;have HW2:=ah hW2;clear hdf hW2 how e;go_in;go_upto_region 4 with fail;rw[<-HW2.o];clear HW2
 all_goals
  clear hlm;have y5b:=(aG HM2.o.1.b 5).trans (show _=some (Value.slice la p.lc lcc)from rfl);go_wp2_with fail;go_loopw [24] (λi wr=>∃(k:Nat) (u1:aA) (CB:List PR),k<=p.lc/\i= .int .i64 k/\CB.map PR.r=Ev ar (λ_=>OW) (p.lc.take k) []/\MK n0 mb p ⟨a0,c0,fa,fcc,la,lcc,ga,gcc⟩ ar u1 DF CB wr/\TP wr) (λi _=>p.lc.length-(intOf i).toNat)
  case atStart=>exact⟨0,u,[],aq,rfl,rfl,HM2.o.1,HP.o.1⟩
  case round=>
   obtain⟨k,u1,CB,hk,rfl,hrs,hm,ht⟩:=hrel;by_cases hlt:k<p.lc
   ·obtain⟨a3,c3,e3,-,h3⟩:=mY (HLC.o.ext (HP.o.2.2.1 _ ht));simp only[aU,true_and]at e3;obtain⟨rfl,rfl⟩:=e3;obtain⟨b,o,rfl,r0,r1⟩:=h3 k hlt;have hfo:Ev ar (λ_=>OW) (p.lc.take (k+1)) []=qG ar OW [] (CB.map PR.r) p.lc[k].nm:=by unfold Ev at hrs⊢;rw[bE hlt,gU,<-hrs];rfl
    have hlen:CB.length<=100:=by rw[rsl hrs];exact aL (zM _ _ _ _) bp
    generalize p.lc[k]=x at *;have zk:(k:Int)<p.lc:=aq;have HF:=ah (ak hfo hrs);have HM:=ah (ak hm ht);have hns:=HP.o.2.2.2.2 _ ht;have e0:=λob=>((aj wr).alloc ob).cell r0
    clear hfo hrs hm ht h3;go_wp2_with fail;have hx:Ext wr ((wr.alloc (.cells #[.string (str x.nm),.int .u32 x.act] 121)).alloc (.cells #[.string (str x.nm)] 9)):=((aj wr).alloc _).alloc _;have hoL:=CY eT (wr.alloc (.cells #[.string (str x.nm),.int .u32 x.act] 121)) [x.nm] 9 #[.string (str x.nm)] (wr+1) aE rfl aE;have hRu:=jl (HM.o.1.ext' hx) (aL hns hx.size) aq OW [] (.slice none 0 0) az 0 (afW _) [x.nm] _ aE _ hoL;have aoz:=HOW.o;rw[<-aoz]at hRu;clear hoL aoz;refine hRu.mono ?_;clear hRu;rintro e w1 ⟨rfl,⟨u2,rs2,he2,hm2⟩,ht2⟩;have H2:=ah (ak he2 (ak hm2 (HP.o.2.1 _ _ (HP.o.2.1 _ _ HM.o.2 (.ext hx)) ht2)));clear he2 hm2 ht2 hx;go_wp2_with fail;go_roundw
    case rel=>exact⟨k+1,u2,rs2,aq,bm,by rw[HF.o.1,<-HOW.o];exact H2.o.1,H2.o.2.1,H2.o.2.2⟩
    case measure=>simp[intOf];omega
   ·obtain rfl:k=p.lc.length:=aq;rw[bZ]at hrs;have y4b:=(aG hm.b 4).trans (show _=some (Value.int .u8 p.lm)from rfl);have y5c:=(aG hm.b 5).trans (show _=some (Value.slice la p.lc lcc)from rfl);have H:=ah (ak hrs (ak hm ht));have y4x:=nV y4b;have y5x:=nV y5c;clear hrs hm ht;go_wp2_with fail;refine fE ax ax ?_
    repeat(any_goals(first|go_big_quiet_step ((with_reducible exact dx ((HD.o _).mono λ_ _ h=>⟨h.1,h.2▸aj _⟩)))|quiet_step ((with_reducible exact dx ((HD.o _).mono λ_ _ h=>⟨h.1,h.2▸aj _⟩)))))
    all_goals(refine i4 ?_;intro _ B2;obtain⟨x,hw8⟩:=B2;subst hw8)
    have HX:=ah x.h;clear y4x y5x y4b y5c;generalize x.w=w9 at *;clear x;go_wp2_with fail;go_ret;exact⟨rfl,⟨_,_,H.o.1,H.o.2.1.ext' HX.o⟩,(HP.o.2.2.2.1 _ H.o.2.2).trans (.ext HX.o)⟩
end LT
end Go.Proofs.YtopfefhenfineaaGreat
namespace Go.Proofs.YtopfefhenfineaaGreat
open Go.Proofs.Tryz Go.RowKit Go.Shelf V
attribute[local go_sem] Oper.semAt_some V.Oper.idle V.Oper.mE V.Oper.jM
variable{zP:Prop}
def ed(h:zP:=by first|exact aI (aC _ _) (aj _).drew|exact aC _ _|exact aI (aC _ _) (((aj _).alloc _).drew)):zP:=h
def di(h:zP:=by have e:W7.heap.size+1=(W7.alloc (.cells #[.string (str x.nm)] 9)).heap.size:=(by simp);rw[e];exact aI (aC _ _) (aj _).drew):zP:=h
namespace LT
variable{W w:ay}{df fuel mb n n0:Nat}
theorem GN{P:Program}{ops:Array Oper}{md:Region.Mode}{F:Fence}{S:ay->Prop}{Q:Exit->Act->ay->Prop}(j k:Nat){late:List Nat}{oj ok:Oper}{listed:Array Bool}{a:Act}(hr:Region.ready md ops listed=[j,k])(hoj:ops[j]?=some oj)(hok:ops[k]?=some ok)(hj:∀K:Act->ay->Prop,(∀a w',(S w->S w')->kr F n P md ops Q S late fuel (listed.setIfInBounds j true) a w'->K a w')->if Region.wanted oj (yielded ops a.tmps)=true then Oper.wpIn F n P oj a w K Q else(∀f,oj.about P w a.eval=some f->F.fn f)/\K (a.put oj.dst undef) w)(hk:∀K:Act->ay->Prop,(∀a w',(S w->S w')->kr F n P md ops Q S late fuel (listed.setIfInBounds k true) a w'->K a w')->if Region.wanted ok (yielded ops a.tmps)=true then Oper.wpIn F n P ok a w K Q else(∀f,ok.about P w a.eval=some f->F.fn f)/\K (a.put ok.dst undef) w):kr F n P md ops Q S late (fuel+1) listed a w:=by
 refine⟨(λh0=>by rw[hr]at h0;cases h0),λi hi=> ?_⟩;rw[hr]at hi;simp only[dF,List.not_mem_nil,or_false]at hi;rcases hi with rfl|rfl
 ·unfold wpOpIn;rw[hoj];exact hj _ (λa w' hs h2=>⟨λ_=>hs,h2⟩)
 ·unfold wpOpIn;rw[hok];exact hk _ (λa w' hs h2=>⟨λ_=>hs,h2⟩)
open lC (Test Rule PR mg j5)
def IZ(p:iZ)(df:Nat):Nat:=if p.fm=1 then p.dn else df
def QY(p:iZ):Nat:=if p.fm=1 then 2147418112 else p.dn
theorem Uk{p:iZ}{s:iF}{ar:Int}{u:aA}(h:MK n0 mb p s ar u df [] W)(w0:ay)(hx0:Ext w0 W)(hw0:w0.heap.size<=n0)(hn0:n0<=W)(hr:yt w0 p s)(hl:p.fc.length<=100):Calls prog 78 #[.pointer (some mb)] W λe w'=>yu n0 mb p s ar (IZ p df) (Ev ar (λc=>MV c.act (QY p)) p.fc []) (xM p.fm p.fc true false) W e w':=by
 obtain⟨a0,c0,fa,fcc,la,lcc,ga,gcc⟩:=s;have y4:W.cell? ⟨mb,1,none⟩=some (.int .u8 p.fm):=aG h.b 1;have f15:=aP h.b 15;have y3:W.cell? ⟨mb,3,none⟩=some (.int .u32 p.dn):=aG h.b 3;have y15:W.cell? ⟨mb,15,none⟩=some (.int .u32 df):=aG h.b 15;have y5:W.cell? ⟨mb,2,none⟩=some (.slice fa p.fc fcc):=aG h.b 2;obtain⟨W2,hW2⟩:∃W2,W2=if p.fm=1 then W.setCell ⟨mb,15,none⟩ (.int .u32 p.dn)else W:=⟨_,rfl⟩
 have hm2:MK n0 mb p ⟨a0,c0,fa,fcc,la,lcc,ga,gcc⟩ ar u (IZ p df) [] W2/\TK n0 vX W W2:=by
  rw[hW2];unfold IZ;by_cases e:p.fm=1
  ·rw[aV e,aV e];have k2:TK n0 (D5 103) W (W.setCell ⟨mb,15,none⟩ (.int .u32 p.dn)):=TK.set (p:=⟨mb,15,none⟩) h.b rfl h.hB _;exact oA
  ·rw[aN e,aN e];exact⟨h,TK.refl _ _ _⟩
 have HM2:=ah hm2;obtain⟨TP,ZI⟩:∃TP:ay->Prop,TP=TK n0 vX W:=⟨_,rfl⟩;have HP:=ah (ak (show TP W2 by rw[ZI];exact hm2.2) (ak (show∀a b,TP a->TK n0 vX a b->TP b fromλa b h1 h2=>by rw[ZI]at h1⊢;exact h1.trans h2) (ak (show∀a,TP a->Ext w0 a fromλa h1=>by rw[ZI]at h1;exact h1.lX hx0 hw0)
  (ak (show∀a,TP a->TK n0 vX W a fromλa h1=>by rw[ZI]at h1;exact h1) (show∀a,TP a->n0<=a.heap.size fromλa h1=>by rw[ZI]at h1;exact aL hn0 h1.size)))))
 have HLC:=ah hr.fc;have hlm:((p.fm:Int)==1)=decide (p.fm=1):=by rw[bB];simp;omega
 generalize hdf:IZ p df=DF at *;generalize how:QY p=OW at *;unfold IZ at hdf;unfold QY at how;have HD:=ah (λW=>zN p.fm p.fc true false W);clear h hx0 hm2 hr ZI;by_cases e:p.fm=1
 case' pos=>rw[aQ e]at hlm;rw[aV e]at hW2 how;have HOW:=ah how;have HW2:=ah hW2;clear hW2 hdf how e;go_in;go_upto_region 4 with fail;rw[<-HW2.o];clear HW2
 case' neg=>rw[aT e]at hlm;rw[aN e]at hW2 how;have HOW:=ah how;have HW2:=ah hW2;clear hdf hW2 how e;go_in;go_upto_region 4 with fail;rw[<-HW2.o];clear HW2
 all_goals
  clear hlm;have y5b:=(aG HM2.o.1.b 2).trans (show _=some (Value.slice fa p.fc fcc)from rfl);go_wp2_with fail;go_loopw [34] (λi wr=>∃(k:Nat) (u1:aA) (CB:List PR),k<=p.fc/\i= .int .i64 k/\CB.map PR.r=Ev ar (λc=>MV c.act OW) (p.fc.take k) []/\MK n0 mb p ⟨a0,c0,fa,fcc,la,lcc,ga,gcc⟩ ar u1 DF CB wr/\TP wr) (λi _=>p.fc.length-(intOf i).toNat)
  case atStart=>exact⟨0,u,[],aq,rfl,rfl,HM2.o.1,HP.o.1⟩
  case round=>
   obtain⟨k,u1,CB,hk,rfl,hrs,hm,ht⟩:=hrel;by_cases hlt:k<p.fc
   ·obtain⟨a3,c3,e3,-,h3⟩:=mY (HLC.o.ext (HP.o.2.2.1 _ ht));simp only[aU,true_and]at e3;obtain⟨rfl,rfl⟩:=e3;obtain⟨b,o,rfl,r0,r1⟩:=h3 k hlt;have hfo:Ev ar (λc=>MV c.act OW) (p.fc.take (k+1)) []=qG ar (MV p.fc[k].act OW) [] (CB.map PR.r) p.fc[k].nm:=by unfold Ev at hrs⊢;rw[bE hlt,gU,<-hrs];rfl
    have hlen:CB.length<=100:=by rw[rsl hrs];exact aL (zM _ _ _ _) bp
    generalize p.fc[k]=x at *;have zk:(k:Int)<p.fc:=aq;have HF:=ah (ak hfo hrs);have HM:=ah (ak hm ht);have hns:=HP.o.2.2.2.2 _ ht;have e0:=λob=>((aj wr).alloc ob).cell r0
    clear hfo hrs hm ht h3;go_wp2_with fail;obtain⟨W7,Nr⟩:∃W7,W7=wr.alloc (.cells #[.string (str x.nm),.int .u32 x.act] 121):=⟨_,rfl⟩;rw[<-Nr];have hx7:Ext wr W7:=by rw[Nr];exact(aj _).alloc _
    have b7:=aC wr (.cells #[.string (str x.nm),.int .u32 x.act] 121);rw[<-Nr]at b7;have d0:W7.cell? wr=some (.string (str x.nm)):=aG b7 0;have d1:W7.cell? ⟨wr,1,none⟩=some (.int .u32 x.act):=aG b7 1;have d0x:=nV d0;have d1x:=nV d1;clear Nr b7 e0 r0 r1;refine rQ (n:=1) [9] (λX=>∃x:XW W7,X=x.w) ax ?_;have hS0:∃x:XW W7,W7.drew=x.w:=⟨⟨W7.drew,(aj W7).drew⟩,rfl⟩;refine af 0 rfl ?_;refine af 1 rfl ?_;refine am 2 rfl hS0 ?_;refine af 3 rfl ?_;refine af 6 rfl ?_;refine am 7 rfl hS0 ?_;refine GN 4 8 ax rfl rfl (λK hK=> ?_) (λK hK=> ?_)
    ·go_simp;refine hK _ _ (λ_=>⟨⟨_,(aj W7).drew.alloc _⟩,rfl⟩) ?_;clear hK K;refine GN 5 8 ax rfl rfl (λK hK=> ?_) (λK hK=> ?_)
     ·go_simp;refine⟨trivial,?_⟩;(first|refine(bM.2 (wW x.act 2147418112 _ _ ed)).mono ?_|refine(bM.2 (wW x.act p.dn _ _ ed)).mono ?_)
      all_goals
       rintro e w5 ⟨rfl,hx5⟩;have Np:Ext W7 w5:=(((aj W7).alloc _).drew).trans hx5;refine hK _ _ (λ_=>⟨⟨_,Np⟩,rfl⟩) ?_;clear hK K hx5;refine jI 8 ax rfl (λK hK=> ?_);go_simp;refine hK _ _ (λ_=>⟨⟨_,Np.alloc _⟩,rfl⟩) ?_;clear hK K;have Xd:=Np.alloc (.cells #[.string (str x.nm)] 9);have hoN:=CY eT (w5) [x.nm] 9 #[.string (str x.nm)] (w5.heap.size) aE rfl aE;refine gP 9 ax rfl ax (λK hK=> ?_);go_simp;refine⟨trivial,?_⟩;refine tI (bM.2 (jl (HM.o.1.ext' (hx7.trans Xd)) (aL hns (hx7.trans Xd).size) aq _ [] (.slice none 0 0) az 0 (afW _) [x.nm] _ aE _ hoN)) ?_;rintro w1 ⟨⟨u2,rs2,he2,hm2⟩,ht2⟩;refine hK _ _ ?_;refine lG ax ?_;dsimp only[V.Calm,Exit.then];have H2:=ah (ak he2 (ak hm2 (HP.o.2.1 _ _ (HP.o.2.1 _ _ HM.o.2 (.ext (hx7.trans Xd))) ht2)));clear he2 hm2 ht2 Xd hoN hK K;go_wp2_with fail;go_roundw
       case rel=>exact⟨k+1,u2,rs2,aq,bm,by rw[HF.o.1,<-HOW.o];exact H2.o.1,H2.o.2.1,H2.o.2.2⟩
       case measure=>simp[intOf];omega
     ·go_simp;refine hK _ _ (λ_=>⟨⟨_,(((aj W7).alloc _).alloc _).drew⟩,rfl⟩) ?_;clear hK K;refine jI 5 ax rfl (λK hK=> ?_);go_simp;refine⟨trivial,?_⟩;(first|refine(bM.2 (wW x.act 2147418112 _ _ (aI (aC W7 _) (((aj _).alloc _).drew)))).mono ?_|refine(bM.2 (wW x.act p.dn _ _ (aI (aC W7 _) (((aj _).alloc _).drew)))).mono ?_)
      all_goals
       rintro e w5 ⟨rfl,hx5⟩;have Np:Ext W7 w5:=((((aj W7).alloc _).alloc _).drew).trans hx5;have hoM:=oG (CY eT (_) [x.nm] 9 #[.string (str x.nm)] (W7+1) aE rfl aE) ((aj _).drew.trans hx5);refine hK _ _ (λ_=>⟨⟨_,Np⟩,rfl⟩) ?_;clear hK K hx5;have Xd:=Np;have hoN:=hoM;refine gP 9 ax rfl ax (λK hK=> ?_);go_simp;refine⟨trivial,?_⟩;refine tI (bM.2 (jl (HM.o.1.ext' (hx7.trans Xd)) (aL hns (hx7.trans Xd).size) aq _ [] (.slice none 0 0) az 0 (afW _) [x.nm] _ aE _ hoN)) ?_;rintro w1 ⟨⟨u2,rs2,he2,hm2⟩,ht2⟩;refine hK _ _ ?_;refine lG ax ?_;dsimp only[V.Calm,Exit.then];have H2:=ah (ak he2 (ak hm2 (HP.o.2.1 _ _ (HP.o.2.1 _ _ HM.o.2 (.ext (hx7.trans Xd))) ht2)));clear he2 hm2 ht2 Xd hoN hK K;go_wp2_with fail;go_roundw
       case rel=>exact⟨k+1,u2,rs2,aq,bm,by rw[HF.o.1,<-HOW.o];exact H2.o.1,H2.o.2.1,H2.o.2.2⟩
       case measure=>simp[intOf];omega
    ·go_simp;refine hK _ _ (λ_=>⟨⟨_,((aj W7).alloc _).drew⟩,rfl⟩) ?_;clear hK K;refine jI 4 ax rfl (λK hK=> ?_);go_simp;refine hK _ _ (λ_=>⟨⟨_,(((aj W7).alloc _).alloc _).drew⟩,rfl⟩) ?_;clear hK K;refine jI 5 ax rfl (λK hK=> ?_);go_simp;refine⟨trivial,?_⟩;(first|refine(bM.2 (wW x.act 2147418112 _ _ di)).mono ?_|refine(bM.2 (wW x.act p.dn _ _ di)).mono ?_)
     all_goals
      rintro e w5 ⟨rfl,hx5⟩;have Np:Ext W7 w5:=((((aj W7).alloc _).alloc _).drew).trans hx5;have hoM:=oG (CY eT (W7) [x.nm] 9 #[.string (str x.nm)] (W7.heap.size) aE rfl aE) (((aj _).alloc _).drew.trans hx5);refine hK _ _ (λ_=>⟨⟨_,Np⟩,rfl⟩) ?_;clear hK K hx5;have Xd:=Np;have hoN:=hoM;refine gP 9 ax rfl ax (λK hK=> ?_);go_simp;refine⟨trivial,?_⟩;refine tI (bM.2 (jl (HM.o.1.ext' (hx7.trans Xd)) (aL hns (hx7.trans Xd).size) aq _ [] (.slice none 0 0) az 0 (afW _) [x.nm] _ aE _ hoN)) ?_;rintro w1 ⟨⟨u2,rs2,he2,hm2⟩,ht2⟩;refine hK _ _ ?_;refine lG ax ?_;dsimp only[V.Calm,Exit.then];have H2:=ah (ak he2 (ak hm2 (HP.o.2.1 _ _ (HP.o.2.1 _ _ HM.o.2 (.ext (hx7.trans Xd))) ht2)));clear he2 hm2 ht2 Xd hoN hK K;go_wp2_with fail;go_roundw
      case rel=>exact⟨k+1,u2,rs2,aq,bm,by rw[HF.o.1,<-HOW.o];exact H2.o.1,H2.o.2.1,H2.o.2.2⟩
      case measure=>simp[intOf];omega
   ·obtain rfl:k=p.fc.length:=aq;rw[bZ]at hrs;have y4b:=(aG hm.b 1).trans (show _=some (Value.int .u8 p.fm)from rfl);have y5c:=(aG hm.b 2).trans (show _=some (Value.slice fa p.fc fcc)from rfl);have H:=ah (ak hrs (ak hm ht));have y4x:=nV y4b;have y5x:=nV y5c;clear hrs hm ht;go_wp2_with fail;refine fE ax ax ?_
    repeat(any_goals(first|go_big_quiet_step ((with_reducible exact dx ((HD.o _).mono λ_ _ h=>⟨h.1,h.2▸aj _⟩)))|quiet_step ((with_reducible exact dx ((HD.o _).mono λ_ _ h=>⟨h.1,h.2▸aj _⟩)))))
    all_goals(refine i4 ?_;intro _ B2;obtain⟨x,hw8⟩:=B2;subst hw8)
    have HX:=ah x.h;clear y4x y5x y4b y5c;generalize x.w=w9 at *;clear x;go_wp2_with fail;go_ret;exact⟨rfl,⟨_,_,H.o.1,H.o.2.1.ext' HX.o⟩,(HP.o.2.2.2.1 _ H.o.2.2).trans (.ext HX.o)⟩
end LT
end Go.Proofs.YtopfefhenfineaaGreat
namespace Go.Proofs.YtopfefhenfineaaGreat
open Go.Proofs.Tryz Go.RowKit Go.Shelf V
attribute[local go_sem] Oper.semAt_some
variable{zP:Prop}
namespace LT
open lC (Test Rule PR mg j5)
open jO (j8 jE I7 acK)
def Q0(p:iZ):Nat:=if p.fd=2 then 327777 else 2147418112
def QZ(p:iZ):Nat:=if p.fd=2 then 2147418112 else 327777
theorem Ul{n0 mb:Nat}{p:iZ}{s:iF}{ar:Int}{u:aA}{df:Nat}{W:ay}(h:MK n0 mb p s ar u df [] W)(w0:ay)(hx0:Ext w0 W)(hn0:n0<=W)(hr:yt w0 p s)(hl:p.fa.length<=100)(hb:∀x∈p.fa,x<4294967296):Calls prog 80 #[.pointer (some mb)] W λe w'=>yu n0 mb p s ar df ([[115,111,99,107,101,116]].foldl (qG ar (QZ p) (Od 0 4294967295 (Q0 p) p.fa)) []) (xM p.fd p.fa true false) W e w':=by
 obtain⟨a0,c0,fa,fcc,la,lcc,ga,gcc⟩:=s;have y7:W.cell? ⟨mb,7,none⟩=some (.int .u8 p.fd):=aG h.b 7;have y6:W.cell? ⟨mb,6,none⟩=some (.slice ga p.fa gcc):=aG h.b 6;have HM:=ah h;have HFA:=ah (hr.fa.ext hx0);have hlm:((p.fd:Int)==2)=decide (p.fd=2):=by rw[bB];simp;omega
 generalize hnm:Q0 p=NM at *;generalize hot:QZ p=OT at *;unfold Q0 at hnm;unfold QZ at hot;have HB:=ah hb;have HD:=ah (λW=>zN p.fd p.fa true false W);clear h hx0 hr hb;by_cases e:p.fd=2
 case' pos=>rw[aQ e]at hlm;rw[aV e]at hnm hot;have HOW:=ah (ak hnm hot);clear hnm hot e;go_in;go_upto_region 4 with fail
 case' neg=>rw[aT e]at hlm;rw[aN e]at hnm hot;have HOW:=ah (ak hnm hot);clear hnm hot e;go_in;go_upto_region 4 with fail
 all_goals
  clear hlm;go_wp2_with fail;go_loopw [5,22] (λs5 i wr=>∃k:Nat,k<=p.fa/\i= .int .i64 k/\Ext W wr/\wr.ownsRow W 34 1 s5 k ((p.fa.take k).flatMap j8)) (λ_ i _=>p.fa.length-(intOf i).toNat)
  case atStart=>exact⟨0,aq,rfl,aj _,⟨aE,.inl aE⟩⟩
  case round=>
   obtain⟨k,hk,rfl,hx,ho⟩:=hrel;by_cases hlt:k<p.fa
   ·obtain⟨a3,c3,e3,-,h3⟩:=tJ (HFA.o.ext hx);simp only[aU,true_and]at e3;obtain⟨rfl,rfl⟩:=e3;obtain⟨b,o,rfl,r0⟩:=h3 k hlt;have hxb:=HB.o _ (aW hlt);have hT:=bE hlt;have rJ:(p.fa.take k).length=k:=by simp;omega
    generalize p.fa.take k=L at *;generalize p.fa[k]=x at *;have hwx:IntKind.u64.wrap (x:Int)=x:=by simp[IntKind.wrap,IntKind.signed,IntKind.bits];omega
    obtain⟨au,cu,rfl⟩:=bU ho;subst rJ;have HO:=ah (ak ho hT);have HX:=ah hx;have hsz:=hx.size;have zk:(L:Int)<p.fa:=aq;clear ho hT hx h3
    go_wp2_with(at_builtin;refine iX rfl (.tmp 26) (.tmp 29) 223 rfl underlying223 acK rfl az jE I7 W.heap.size (.slice au L.length cu) _ L [x] rfl rfl (dM HO.o.1 _) (gI jE wr [x] 34 _ rfl) bp az bp ?_;intro au6 cu6 w6 uF AO
                have A0:=ah uF;have sD:=ah ((HX.o.alloc _).grown AO (λr e=>(HO.o.1.lt r e).1));clear uF AO)
    go_roundw
    case rel=>exact⟨L.length+1,aq,bm,sD.o,by rw[HO.o.2];exact A0.o⟩
    case measure=>simp[intOf];omega
   ·obtain rfl:k=p.fa.length:=aq;rw[bZ]at ho;obtain⟨au,cu,rfl⟩:=bU ho;have H:=ah (ak ho hx);clear ho hx;go_wp2_with fail;have hT:=uQ 0 4294967295 NM p.fa (.slice au p.fa cu) aq wr (bY (λ_=>rfl) H.o.1);have hq:=HOW.o.1;rw[<-hq]at hT;refine hT.mono ?_;rintro e x1 ⟨v1,rfl,hy1,ho1⟩;rw[hq]at ho1;have HY:=ah (ak (H.o.2.trans hy1) ho1);clear hT hq hy1 ho1;go_wp2_with fail;have hx1:Ext W (x1.alloc (.cells #[.string ⟨#[115,111,99,107,101,116]⟩] 9)):=HY.o.1.alloc _;have hRu:=jl (HM.o.ext' hx1) (aL hn0 hx1.size) az OT (Od 0 4294967295 NM p.fa) v1 (by unfold Od;rw[aS];omega) _ (oG (by unfold Od;rw[aS];exact HY.o.2) ((aj _).alloc _)) [[115,111,99,107,101,116]] _ az _ (oO eT x1 [[115,111,99,107,101,116]] 9 #[.string ⟨#[115,111,99,107,101,116]⟩] rfl az);have hq:=HOW.o.2;rw[<-hq]at hRu;refine ap hRu ?_;rintro w1 ⟨⟨u2,rs2,he2,hm2⟩,ht2⟩;rw[hq]at he2;have y7b:=(aG hm2.b 7).trans (show _=some (Value.int .u8 p.fd)from rfl);have y6b:=(aG hm2.b 6).trans (show _=some (Value.slice ga p.fa gcc)from rfl);have H2:=ah (ak he2 (ak hm2 ((TK.ext (n0:=n0) (T:=vX) hx1).trans ht2)));have y6x:=nV y6b;have y7x:=nV y7b;clear hRu hq he2 hm2 ht2 hx1;go_wp2_with fail;refine fE ax ax ?_
    repeat(any_goals(first|go_big_quiet_step ((with_reducible exact dx ((HD.o _).mono λ_ _ h=>⟨h.1,h.2▸aj _⟩)))|quiet_step ((with_reducible exact dx ((HD.o _).mono λ_ _ h=>⟨h.1,h.2▸aj _⟩)))))
    all_goals(refine i4 ?_;intro _ B2;obtain⟨x,hw8⟩:=B2;subst hw8)
    have HX:=ah x.h;clear y6x y7x y6b y7b;generalize x.w=w9 at *;clear x;go_wp2_with fail;go_ret;exact⟨rfl,⟨_,_,H2.o.1,H2.o.2.1.ext' HX.o⟩,H2.o.2.2.trans (.ext HX.o)⟩
end LT
end Go.Proofs.YtopfefhenfineaaGreat
namespace Go.Proofs.YtopfefhenfineaaGreat
open Go.Proofs.Tryz Go.RowKit Go.Maps Go.Sort Go.Shelf V
attribute[local go_sem] Oper.semAt_some Option.isSome_some
variable{zP:Prop}
def uu(h:zP:=by go_in;go_wp2_with(refine ap (HN.o _ _) ?_;rintro w1 rfl);go_ret;exact uk):zP:=h
namespace LT
open lC (Rule PR qx mR zZ)
variable{base cap e g k q:Nat}{w:ay}
instance:Inhabited PR:=⟨⟨⟨0,[],0⟩,none,0⟩⟩
def Ri(x y:PR):Int:=if x.r.nr<y.r.nr then-1 else if y.r.nr<x.r.nr then 1 else 0
def AB(x y:PR):ltOf Ri x y=decide (x.r.nr<y.r.nr):=by
 unfold ltOf Ri;by_cases h:x.r.nr<y.r.nr
 ·rw[aV h,aQ h];rfl
 ·rw[aN h,aT h];split<;>rfl
def abo:SWO (ltOf Ri)where
 irrefl x:=by rw[AB];simp
 trans x y z h k:=by rw[AB]at *;simp at *;omega
 ntrans x y z h k:=by rw[AB]at *;simp at *;omega
def prV(x:PR):aA:= .agg #[.int .u32 x.r.nr,.slice x.a x.r.tests x.c,.int .u32 x.r.action]
theorem uY(a:Nat)(w:ay):Calls prog 87 #[.int .u32 a] w λe w'=>e= .returned (.bool false)/\w'=w:=lr
theorem U7(a b:Nat)(w:ay):Calls prog 45 #[.int .u32 a,.int .u32 b] w λe w'=>e= .returned (.int .i64 (if a<b then-1 else if b<a then 1 else 0))/\w'=w:=by
 have HN:=ah (λa W=>uY a W);by_cases h1:a<b
 ·rw[aV h1];have z:(a:Int)<b:=aq;exact uu
 ·rw[aN h1];by_cases h2:b<a
  ·rw[aV h2];have z:¬(a:Int)<b:=aq;have z2:(b:Int)<a:=aq;exact uu
  ·rw[aN h2];obtain rfl:a=b:=aq;exact uu
theorem Rh(x y:PR)(w:ay):Calls prog 44 #[prV x,prV y] w λe w'=>e= .returned (.int .i64 (Ri x y))/\w'=(w.alloc (.cells #[.int .u32 x.r.nr,.slice x.a x.r.tests x.c,.int .u32 x.r.action] 110)).alloc (.cells #[.int .u32 y.r.nr,.slice y.a y.r.tests y.c,.int .u32 y.r.action] 110):=by
 have hc:∀W,Calls prog 45 #[.int .u32 x.r.nr,.int .u32 y.r.nr] W λe w'=>e= .returned (.int .i64 (Ri x y))/\w'=W:=λW=>U7 x.r.nr y.r.nr W
 generalize Ri x y=q at *;have HC:=ah hc;clear hc;unfold prV;have c0:=((aj (w.alloc (.cells #[.int .u32 x.r.nr,.slice x.a x.r.tests x.c,.int .u32 x.r.action] 110))).alloc (.cells #[.int .u32 y.r.nr,.slice y.a y.r.tests y.c,.int .u32 y.r.action] 110)).cell (sO (aC w (.cells #[.int .u32 x.r.nr,.slice x.a x.r.tests x.c,.int .u32 x.r.action] 110))).1.1;have c1:=(sO (aC (w.alloc (.cells #[.int .u32 x.r.nr,.slice x.a x.r.tests x.c,.int .u32 x.r.action] 110)) (.cells #[.int .u32 y.r.nr,.slice y.a y.r.tests y.c,.int .u32 y.r.action] 110))).1.1;rw[aR]at c1;go_in;go_wp2_with(refine ap (HC.o _) ?_;rintro w1 rfl);go_ret;exact uk
theorem U9(g size:Nat)(w:ay):CmpLays prog 44 #[] qx 3 Ri g 0 size w:=by
 intro m os dk hdk x y;refine(Rh x y _).mono ?_;rintro e w' ⟨he,rfl⟩;refine⟨he,0,#[.cells #[.int .u32 x.r.nr,.slice x.a x.r.tests x.c,.int .u32 x.r.action] 110 (0,0),.cells #[.int .u32 y.r.nr,.slice y.a y.r.tests y.c,.int .u32 y.r.action] 110 (0,0)],?_⟩;rw[alloc_eq_grow,alloc_eq_grow,grow_grow]
 rfl
def UE{xs:List PR}(h:w.ownsRow base e 3 (.slice (some g) xs cap) xs (xs.flatMap qx)):HoldsK qx 3 w g 0 xs.toArray/\g<w.heap.size:=by
 rcases h.2 with⟨e0,_⟩|⟨g',cap',cur,e0,hb,hg,hn,hm,hs,ht⟩
 ·cases e0
 ·injection e0 with e1 _ e3
  injection e1 with e1
  injection e1 with e1
  subst e1;subst e3;refine⟨λj hj=> ?_,(aB.1 hg).1⟩;rw[size_flatK,bW]at hj;refine⟨?_,by simp[World.frozen?,hg]⟩;have hF:=gZ.B5 mR az xs;have e1:(cur.toList.take (xs.length*3))[j]?=(flatK qx 3 xs.toArray).toList[j]?:=by rw[hF,ht]
  have e2:(flatK qx 3 xs.toArray)[j]?=some ((flatK qx 3 xs.toArray)[j]' ep):=dL _;exact oY
def afm{α:Type}[Inhabited α]{enc:α->List aA}{xs ys:List α}{os:Array Obj}(h:w.ownsRow base e k (.slice (some g) xs cap) xs (xs.flatMap enc))(hB:Below base w (sortWorldK enc k w g 0 q ys.toArray os)):TK base (D5 e) w (sortWorldK enc k w g 0 q ys.toArray os):=
 ⟨hB.os,hB.tape,hB.output,hB.size,λj o hj hk=>by
  obtain⟨hb,cur,hg⟩:=Hu h g rfl;by_cases e2:j=g
  ·subst e2;rw[hg]at hj;cases hj
   rcases hk with hk|hk
   ·omega
   ·have:=hk _ _ _ rfl;unfold D5 at this;simp at this
  ·have hjl:=(aB.1 hj).1;have e3:(putRow id (Sort.ahead w q) g 0 (flatK enc k ys.toArray)).heap[j]?=some o:=by simp[putRow,mapBlock,Sort.ahead,Array.getElem?_modify,Ne.symm e2,hj]
   unfold sortWorldK putRowK grow;show(_++os)[j]?=_;rw[Array.getElem?_append_left (aB.1 e3).1];exact e3⟩
theorem RJ(u:aA)(xs:List PR)(base:Nat)(w:ay)(hl:xs.length<=1000000)(ho:w.ownsRow base 110 3 u xs (xs.flatMap qx)):Calls prog 43 #[u,.func (.func 44) #[] #[]] w λe w'=>e= .returned (.tuple #[])/\∃ys:List PR,ys.Perm xs/\ys.Pairwise (λa b=>a.r.nr<=b.r.nr)/\w'.ownsRow base 110 3 u ys (ys.flatMap qx)/\TK base (D5 110) w w':=by
 cases xs with
 |nil=>obtain⟨a,c,rfl⟩:=bU ho;refine(AnyF.slices_SortFunc_none {Tryz.laysSortR with} a c (.func (.func 44) #[] #[]) w).mono ?_;rintro e w' ⟨he,rfl⟩;exact⟨he,[],List.Perm.refl _,List.Pairwise.nil,ho,TK.refl _ _ _⟩
 |cons x r=>
  obtain⟨g,cap,rfl⟩:=ownsRow_succ ho;obtain⟨hH,hg⟩:=UE ho;have hS:=AnyQ.slices_SortFunc Tryz.laysSortR 3 Tryz.isAgg110 Tryz.sizeOf110 qx mR zZ Ri abo 44 #[] g 0 cap (x::r).toArray w (enters_of func44 ax rfl) (U9 g _ w) hH hg (by simp at hl⊢;omega);refine hS.mono ?_;rintro e w' ⟨he,d',n,os,hp,hs,rfl⟩;obtain⟨p1,p2,p3⟩:=hp;have hsz:d'.toList.length=(x::r).length:=by rw[Array.length_toList,p1];simp
  have hd:d'=d'.toList.toArray:=aE;rw[hd];obtain⟨k1,k2⟩:=gZ.Hw mR az (q:=n) (os:=os) ho hsz;refine⟨he,d'.toList,?_,?_,by rw[hsz];exact k1,afm ho k2⟩
  ·exact vi
  ·rw[i9];intro i j hi hj hij;rw[Array.length_toList]at hi hj;have:=hs i j (bP _) hij (by rw[<-p1];exact hj);rw[AB,getElem!_pos d' j hj,getElem!_pos d' i hi]at this;exact sd
end LT
end Go.Proofs.YtopfefhenfineaaGreat
namespace Go.Proofs.YtopfefhenfineaaGreat
open Go.Proofs.Tryz Go.RowKit Go.Shelf V
attribute[local go_sem] Oper.semAt_some
variable{zP:Prop}
def ld(h:zP:=by have z0:¬(0:Int)<k:=aq;clear h0;generalize xs[k]=x at *;have HW:=ah hw;clear hw hx;go_wp2_with fail;refine ap (HW.o _) ?_;intro w1 hx1;have gK:=ah (HX.o.trans hx1);clear hx1;exact rl):zP:=h
def kw(h:zP:=by
 have HQ:=ah hq;rw[<-hq];clear hw hx hxe hye hu hw0 r0 r1 h0 hq;go_wp2_with fail;refine ap (HW.o _) ?_;intro w1 hx1;have r2:=HC.o w1 hx1;have gK:=ah (HX.o.trans hx1);clear hx1 r0';go_wp2_with fail;go_roundw
 case rel=>exact⟨q+1,by have:=HQ.o;omega,bm,gK.o⟩
 case measure=>have:=HQ.o;exact gO):zP:=h
namespace LT
def OD{α:Type}(lt:α->α->Prop)(l:List α):Prop:= ∀i (h:i+1<l.length),lt (l[i]' aq) l[i+1]
structure kL(p:iZ):Prop where
 lg:∀c∈p.lc,c.act=0
 dn:p.dn=2147483648\/(327680<=p.dn/\p.dn<=331775)
 fd:p.fd<=2/\(p.fd=0->p.fa=[])
 ar:(∀a∈p.ar,0<=a/\a<6)/\OD (· < ·) p.ar
 fa:(∀n∈p.fa,∃x∈qJ.uI,x.2=n)/\OD (· < ·) p.fa
 fc:iq p.fm p.fc=true
 lc:iq p.lm p.lc=true
 sp:p.sp<18446744073709551616/\bits BinOp.andNot IntKind.u64 (p.sp:Int) (qJ.orL qJ.sV:Nat)=0
theorem MH(g:Nat)(eg:∀args w,(callFunc g args).run prog w= .ok (.enter g args) w)(v:aA)(xs:List Int)(hl:xs.length<=1000000)(hup:OD (· < ·) xs)(w:ay)(hv:Rd w 1 i3 v xs)(his:∀x∈xs,∀W,Calls prog g #[.int .i64 (x:Int)] W λr w'=>r= .returned (.bool true)/\Ext W w'):Rt 54 #[v,.func (.func g) #[] #[]] w (.bool true):=by
 obtain⟨a,c,rfl,-,hca⟩:=qQ hv;have tO:=ah hca;have HIS:=ah his;have HUP:=ah hup;clear hca hv his hup;unfold Rt;go_in;go_wp2_with fail;go_loopw [9] (λi wr=>∃k:Nat,k<=xs/\i= .int .i64 k/\Ext w wr) (λi _=>xs.length-(intOf i).toNat)
 case atStart=>exact tg
 case round=>
  obtain⟨k,hk,rfl,hx⟩:=hrel;have HX:=ah hx;by_cases hlt:k<xs
  ·have hw:=λW=>HIS.o xs[k] (aW hlt) W
   obtain⟨b,o,rfl,r0⟩:=tO.o k hlt;replace r0:=hx.cell r0;have zk:(k:Int)<xs:=aq;by_cases h0:k=0
   ·exact ld
   ·obtain⟨j,rfl⟩:∃j,k=j+1:=⟨k-1,aq⟩;obtain⟨b2,o2,e2,r1⟩:=tO.o j aq;cases e2
    replace r1:=hx.cell r1;have hu:=HUP.o j hlt;obtain⟨x,hxe⟩:∃x,xs[j+1]=x:=⟨_,rfl⟩;obtain⟨y,hye⟩:∃y,xs[j]' aq=y:=⟨_,rfl⟩;simp only[hxe,hye]at hu hw r0 r1;have hw0:∀W,Ext wr W->W.cell? ⟨b,o+j,none⟩=some (.int .i64 (y:Int)):=λW h=>h.cell r1
    have zl:¬((x:Int)<=y):=aq;have zp:((j+1:Nat):Int)-1=(j:Int):=aq;have zj:(j:Int)<xs:=aq;have z0:(0:Int)<((j+1:Nat):Int):=aq;have HW:=ah hw;have HC:=ah hw0;obtain⟨q,hq⟩:∃q:Nat,q=j+1:=⟨_,rfl⟩;rw[<-hq]at zp z0 zk;have r0':wr.cell? ⟨b,o+q,none⟩=some (.int .i64 x):=by rw[hq];exact r0
    exact kw
  ·obtain rfl:k=xs.length:=aq;clear hx;exact pZ
theorem MG(g:Nat)(eg:∀args w,(callFunc g args).run prog w= .ok (.enter g args) w)(v:aA)(xs:List Nat)(hl:xs.length<=1000000)(hup:OD (· < ·) xs)(w:ay)(hv:Rd w 1 i8 v xs)(his:∀x∈xs,∀W,Calls prog g #[.int .u32 (x:Int)] W λr w'=>r= .returned (.bool true)/\Ext W w'):Rt 56 #[v,.func (.func g) #[] #[]] w (.bool true):=by
 obtain⟨a,c,rfl,-,hca⟩:=tJ hv;have tO:=ah hca;have HIS:=ah his;have HUP:=ah hup;clear hca hv his hup;unfold Rt;go_in;go_wp2_with fail;go_loopw [9] (λi wr=>∃k:Nat,k<=xs/\i= .int .i64 k/\Ext w wr) (λi _=>xs.length-(intOf i).toNat)
 case atStart=>exact tg
 case round=>
  obtain⟨k,hk,rfl,hx⟩:=hrel;have HX:=ah hx;by_cases hlt:k<xs
  ·have hw:=λW=>HIS.o xs[k] (aW hlt) W
   obtain⟨b,o,rfl,r0⟩:=tO.o k hlt;replace r0:=hx.cell r0;have zk:(k:Int)<xs:=aq;by_cases h0:k=0
   ·exact ld
   ·obtain⟨j,rfl⟩:∃j,k=j+1:=⟨k-1,aq⟩;obtain⟨b2,o2,e2,r1⟩:=tO.o j aq;cases e2
    replace r1:=hx.cell r1;have hu:=HUP.o j hlt;obtain⟨x,hxe⟩:∃x,xs[j+1]=x:=⟨_,rfl⟩;obtain⟨y,hye⟩:∃y,xs[j]' aq=y:=⟨_,rfl⟩;simp only[hxe,hye]at hu hw r0 r1;have hw0:∀W,Ext wr W->W.cell? ⟨b,o+j,none⟩=some (.int .u32 (y:Int)):=λW h=>h.cell r1
    have zl:¬((x:Int)<=y):=aq;have zp:((j+1:Nat):Int)-1=(j:Int):=aq;have zj:(j:Int)<xs:=aq;have z0:(0:Int)<((j+1:Nat):Int):=aq;have HW:=ah hw;have HC:=ah hw0;obtain⟨q,hq⟩:∃q:Nat,q=j+1:=⟨_,rfl⟩;rw[<-hq]at zp z0 zk;have r0':wr.cell? ⟨b,o+q,none⟩=some (.int .u32 x):=by rw[hq];exact r0
    exact kw
  ·obtain rfl:k=xs.length:=aq;clear hx;exact pZ
end LT
def tA(h:zP:=by have:∀i,i<6->(vR.SV i).toList.isEmpty=false:=ci;exact this _ aq):zP:=h
def pH(h:zP:=by have HN:=ah hN;clear hN;unfold Rt;go_in;go_wp2_with(refine ap (HN.o _) ?_;intro w1 hx1);go_ret;exact⟨aE,hx1⟩):zP:=h
namespace LT
theorem YR(c:Cl)(h:c.act=0)(w:ay):Rt 53 #[XB c] w (.bool false):=by unfold XB;rw[h];have b:=aC w (.cells #[.string (str c.nm),.int .u32 ((0:Nat):Int)] 121);have c1:=aG b 1;unfold Rt;go_in;go_wp2_with fail;go_ret;exact kz
theorem YQ(a:Int)(h:0<=a/\a<6)(w:ay):Rt 55 #[.int .i64 a] w (.bool true):=by
 have hN:=λW=>vR.Js a W
 have hne:(vR.wB a).toList.isEmpty=false:=by unfold vR.wB;rw[aV h];exact tA
 generalize vR.wB a=s at *;exact pH
theorem YP(n:Nat)(h:∃x∈qJ.uI,x.2=n)(w:ay):Rt 57 #[.int .u32 n] w (.bool true):=by
 have hN:=λW=>qJ.E4 n W
 have hne:(qJ.str (qJ.ofL qJ.uI n)).toList.isEmpty=false:=by obtain⟨x,hx,rfl⟩:=h;have:∀x∈qJ.uI,(qJ.str (qJ.ofL qJ.uI x.2)).toList.isEmpty=false:=ci;exact this x hx
 generalize qJ.ofL qJ.uI n=s at *;exact pH
def m6(p:iZ)(s:iF):aA:= .agg (fA p s).toArray
def oI{W:ay}{B:Nat}{a b c d e f g h i j k l m:aA}{t:dz}(hb:W.heap[B]?=some (.cells #[a,b,c,d,e,f,g,h,i,j,k,l,m] t (0,0))):W.cell? B=some a/\W.cell? ⟨B,1,none⟩=some b/\W.cell? ⟨B,2,none⟩=some c/\W.cell? ⟨B,3,none⟩=some d/\W.cell? ⟨B,4,none⟩=some e/\W.cell? ⟨B,5,none⟩=some f/\W.cell? ⟨B,6,none⟩=some g/\W.cell? ⟨B,7,none⟩=some h/\W.cell? ⟨B,8,none⟩=some i/\W.cell? ⟨B,9,none⟩=some j/\W.cell? ⟨B,10,none⟩=some k/\W.cell? ⟨B,11,none⟩=some l/\W.cell? ⟨B,12,none⟩=some m:=
 ⟨aG hb 0,aG hb 1,aG hb 2,aG hb 3,aG hb 4,aG hb 5,aG hb 6,aG hb 7,aG hb 8,aG hb 9,aG hb 10,aG hb 11,aG hb 12⟩
theorem Ht(p:iZ)(s:iF)(h:kL p)(w:ay)(hr:yt w p s)(hla:p.ar.length<=1000)(hlf:p.fa.length<=1000):Rt 30 #[m6 p s] w (.bool true):=by
 have hlc:=pF h.lc;have hfc:=pF h.fc;have hC:=λW (hx:Ext w W)=>SG 53 (enters_of func53 ax rfl) (λ_=>false) _ p.lc aq W (hr.lc.ext hx) (λx hx2 W2 _=>YR x (h.lg x hx2) W2)
 have hany:p.lc.any (λ_=>false)=false:=aE;rw[hany]at hC;have hI:=λW (hx:Ext w W)=>MH 55 (enters_of func55 ax rfl) _ p.ar aq h.ar.2 W (hr.ar.ext hx) (λx hx2 W2=>YQ x (h.ar.1 x hx2) W2)
 have hU:=λW (hx:Ext w W)=>MG 57 (enters_of func57 ax rfl) _ p.fa aq h.fa.2 W (hr.fa.ext hx) (λx hx2 W2=>YP x (h.fa.1 x hx2) W2)
 have hF:=λW (hx:Ext w W)=>uq p.fm _ p.fc aq W (hr.fc.ext hx)
 have hL:=λW (hx:Ext w W)=>uq p.lm _ p.lc aq W (hr.lc.ext hx)
 rw[h.fc]at hF;rw[h.lc]at hL;obtain⟨hs1,hs2⟩:=h.sp;have hdn:=h.dn;have Xh:=h.fd;obtain⟨ar,fm,fc,dn,lm,lc,fa,fd,sp,we,pe,rt,np⟩:=p;obtain⟨a0,c0,fa0,fc0,la0,lc0,ga0,gc0⟩:=s;unfold m6 fA;unfold qh at hF hL;dsimp only at *;have b:=aC w (.cells #[.slice a0 ar c0,.int .u8 fm,.slice fa0 fc fc0,.int .u32 dn,.int .u8 lm,.slice la0 lc lc0,.slice ga0 fa gc0,.int .u8 fd,.int .u64 (sp:Int),.bool we,.bool pe,.bool rt,.bool np] 36);obtain⟨y0,y1,y2,y3,y4,y5,y6,y7,y8,-⟩:=oI b;have HB:=ah b;have H:=ah (ak hC (ak hI (ak hU (ak hF hL))));have HSp:=ah (λW=>qJ.DR W);generalize qJ.orL qJ.sV=OR at *;have zf1:(fd:Int)<=2:=aq;have zf2:((fd:Int) !=0)=true\/(((fd:Int) !=0)=false/\fa=[]):=by
  by_cases e:fd=0
  ·right;subst e;exact⟨rfl,Xh.2 rfl⟩
  ·left;rw[bne_iff_ne];omega
 have zd:((dn:Int)==2147483648)=true\/(((dn:Int)==2147483648)=false/\(327680:Int)<=dn/\(dn:Int)<=331775):=by
  rcases hdn with e|e
  ·left;subst e;rfl
  ·right;exact⟨bK.2 aq,aq,aq⟩
 clear hC hI hU hF hL h hr b hdn Xh hany;rcases zd with zd|⟨zd,zd1,zd2⟩<;>rcases zf2 with zf2|⟨zf2,zf3⟩
 all_goals
  (try subst zf3)
  (try simp only[bD]at H HB y6⊢);unfold Rt;go_in;go_upto_region 6 with(first
   |(go_at_call 52;refine ap (H.o.1 _ ((aj _).alloc _)) ?_;intro w1 hx1;have gK:=ah (((aj w).alloc _).trans hx1);obtain⟨a0',a1',a2',a3',a4',a5',a6',a7',a8',-⟩:=oI (aI HB.o hx1);clear hx1)
   |(go_at_call 54;refine ap (H.o.2.1 _ gK.o) ?_;intro w2 hx2;have jm:=ah (gK.o.trans hx2);replace a1':=hx2.cell a1';replace a2':=hx2.cell a2';replace a4':=hx2.cell a4';replace a5':=hx2.cell a5';replace a6':=hx2.cell a6';replace a8':=hx2.cell a8';clear hx2)
   |(go_at_call 56;refine ap (H.o.2.2.1 _ jm.o) ?_;intro w3 hx3;have kg:=ah (jm.o.trans hx3);replace a1':=hx3.cell a1';replace a2':=hx3.cell a2';replace a4':=hx3.cell a4';replace a5':=hx3.cell a5';replace a8':=hx3.cell a8';clear hx3))
  have HXx:=ah (λx:XW w3=>kg.o.trans x.h);have b1x:=nV a1';have b2x:=nV a2';have b4x:=nV a4';have b5x:=nV a5';have b8x:=nV a8';refine fE ax ax ?_
  repeat(any_goals(first|go_big_quiet_step ((first|(go_at_call 59;with_reducible exact dx (H.o.2.2.2.1 _ (HXx.o _)))|(go_at_call 59;with_reducible exact dx (H.o.2.2.2.2 _ (HXx.o _)))|(go_at_call 60;with_reducible exact dx (HSp.o _))))|quiet_step ((first|(go_at_call 59;with_reducible exact dx (H.o.2.2.2.1 _ (HXx.o _)))|(go_at_call 59;with_reducible exact dx (H.o.2.2.2.2 _ (HXx.o _)))|(go_at_call 60;with_reducible exact dx (HSp.o _))))))
  all_goals(refine i4 ?_;intro _ B2;obtain⟨x,hw8⟩:=B2;subst hw8)
  have HX:=ah (HXx.o x);clear b1x b2x b4x b5x b8x a1' a2' a4' a5' a8';generalize x.w=w9 at *;clear x;go_wp2_with fail;go_ret;exact⟨by first|rfl|simp,HX.o⟩
end LT
end Go.Proofs.YtopfefhenfineaaGreat
namespace Go.Proofs.YtopfefhenfineaaGreat
open Go.Proofs.Tryz Go.RowKit V
namespace LT
def abj:∀(l:List Nat),OD (· < ·) l->∀i (h:i<l.length),i<=l[i]
 |l,hu,0,_=>bP _
 |l,hu,i+1,h=>by have h1:=abj l hu i aq;have h2:l[i]<l[i+1]:=hu i h;omega
def Gn{l:List Nat}(hu:OD (· < ·) l){n:Nat}(h:∀x∈l,x<n):l.length<=n:=by
 by_cases e:l.length=0
 ·omega
 ·have h1:=abj l hu (l-1) aq;have h2:=h _ (aW (show l.length-1<l.length from aq));omega
def kL.la{p:iZ}(h:kL p):p.ar.length<=6:=by
 have hu:OD (· < ·) (p.ar.map Int.toNat):=λi hi=>by rw[aS]at hi;have h1:=h.ar.2 i hi;have h2:=h.ar.1 _ (aW (show i<p.ar.length from aq));simp only[gQ];show Int.toNat _<Int.toNat _;have h3:p.ar[i]<p.ar[i+1]:=h1;omega
 have:=Gn hu (n:=6) (λx hx=>by obtain⟨y,hy,rfl⟩:=dW.1 hx;have:=h.ar.1 y hy;omega)
 rwa [aS]at this
def kL.lf{p:iZ}(h:kL p):p.fa.length<=100:=Gn h.fa.2 λx hx=>by obtain⟨y,hy,rfl⟩:=h.fa.1 x hx;have:∀y∈qJ.uI,y.2<100:=az;exact this y hy
end LT
end Go.Proofs.YtopfefhenfineaaGreat
namespace Go.Proofs.YtopfefhenfineaaGreat
open Go.Proofs.Tryz Go.RowKit Go.Shelf V
attribute[local go_sem] Oper.semAt_some
namespace LT
open lC (Test Rule PR Filter qx mR mg j5)
def Zd:Nat->Nat
 |1=>78
 |2=>79
 |3=>80
 |4=>81
 |5=>82
 |6=>83
 |_=>84
def acd:Array aA:= #[.nilFunc,.func (.func (Zd 1)) #[] #[],.func (.func (Zd 2)) #[] #[],.func (.func (Zd 3)) #[] #[],.func (.func (Zd 4)) #[] #[],.func (.func (Zd 5)) #[] #[],.func (.func (Zd 6)) #[] #[],.func (.func (Zd 7)) #[] #[]]
theorem xK(w:ay):Rt 42 #[] w (.agg acd):=by unfold Rt;go_in;go_wp2_with(refine wpList_store_rowTo rfl 105 (.tmp 0) (.tmp 1) rfl rfl w.heap.size acd rfl rfl 105 _ (aC w _) ax rfl rfl ?_;rw[World.setRow_alloc_new]);exact aM (v:= .agg acd) (dV results42 _ _ _ _ _ _ _ rfl (aC w _) underlying105 rfl ax) rfl ⟨rfl,(aj _).alloc _⟩
theorem Zk(d:Nat)(h1:0<d)(h2:d<8)(W:ay):(Instr.index 105 (.agg acd) (.int .i64 d)).run prog W= .ok (.func (.func (Zd d)) #[] #[]) W:=by
 match d,h1,h2 with
 |1,_,_|2,_,_|3,_,_|4,_,_|5,_,_|6,_,_|7,_,_=>rfl
 |n+8,_,h=>exact absurd h aq
theorem Zc(d:Nat)(h1:0<d)(h2:d<8):∀args w,(callFunc (Zd d) args).run prog w= .ok (.enter (Zd d) args) w:=by
 match d,h1,h2 with
 |1,_,_=>exact enters_of func78 ax rfl
 |2,_,_=>exact enters_of func79 ax rfl
 |3,_,_=>exact enters_of func80 ax rfl
 |4,_,_=>exact enters_of func81 ax rfl
 |5,_,_=>exact enters_of func82 ax rfl
 |6,_,_=>exact enters_of func83 ax rfl
 |7,_,_=>exact enters_of func84 ax rfl
 |n+8,_,h=>exact absurd h aq
def Um(p:iZ)(ar:Int):Nat->List Rule
 |1=>Ev ar (λc=>MV c.act (QY p)) p.fc []
 |2=>Ev ar (λ_=>Qg p) p.lc []
 |3=>[[115,111,99,107,101,116]].foldl (qG ar (QZ p) (Od 0 4294967295 (Q0 p) p.fa)) []
 |4=>Ui ar (qJ.GA p.sp qJ.sV)
 |5=>Uh ar
 |6=>aco ar
 |_=>acn ar
def M7(p:iZ):Nat->Nat
 |1=>IZ p 2147418112
 |2=>Ik p 2147418112
 |_=>2147418112
def af8(p:iZ):Nat->Bool
 |1=>xM p.fm p.fc true false
 |2=>xM p.lm p.lc false true
 |3=>xM p.fd p.fa true false
 |4=> !decide (p.sp=0)
 |5=>p.we
 |6=>p.pe
 |_=>p.rt
def adq{p:iZ}(h:kL p):∀x∈p.fa,x<4294967296:=λx hx=>by obtain⟨y,hy,rfl⟩:=h.fa.1 x hx;have:∀y∈qJ.uI,y.2<4294967296:=az;exact this y hy
theorem Qa{n0 mb:Nat}{p:iZ}{s:iF}{ar:Int}{u:aA}{W:ay}(d:Nat)(h1:0<d)(h2:d<8)(hp:kL p)(hlf:p.fa.length<=100)(h:MK n0 mb p s ar u 2147418112 [] W)(w0:ay)(hx0:Ext w0 W)(hw0:w0.heap.size<=n0)(hn0:n0<=W)(hr:yt w0 p s):Calls prog (Zd d) #[.pointer (some mb)] W λe w'=>yu n0 mb p s ar (M7 p d) (Um p ar d) (af8 p d) W e w':=by
 have hlc:=pF hp.lc;have hfc:=pF hp.fc
 match d,h1,h2 with
 |1,_,_=>exact Uk h w0 hx0 hw0 hn0 hr aq
 |2,_,_=>exact Uj h w0 hx0 hw0 hn0 hr aq
 |3,_,_=>exact Ul h w0 hx0 hn0 hr hlf (adq hp)
 |4,_,_=>exact Qc h hn0 hp.sp.1
 |5,_,_=>exact Qb h hn0
 |6,_,_=>exact Qe h hn0
 |7,_,_=>exact Qd h hn0
 |n+8,_,h=>exact absurd h aq
end LT
end Go.Proofs.YtopfefhenfineaaGreat
namespace Go.Proofs.YtopfefhenfineaaGreat
open Go.Proofs.Tryz Go.RowKit V
variable{zP:Prop}
def sY(h:zP:=by exact⟨aL (jN _ _ _ _ _) az,oU az (Mi az az az (c1 _ rfl)) az _ nil⟩):zP:=h
namespace LT
open lC (Test Rule XG Gc)
variable{ac mk:Nat}{ar:Int}{l:List Nat}
def afR(a:Int)(s:List aZ):(Es a s).1<4294967296:=by
 unfold Es;split
 ·decide
 rename_i e he;have h:=Rm e (List.mem_of_find?_eq_some he);have hn:(e.nr a).toNat<1073741824:=by unfold Ca.nr;(repeat' split)<;>omega
 have hz:(Wx e a).1<4294967296:=by
  unfold Wx;split
  ·decide
  show(if a=2 then _ else _)<_;split
  ·exact Nat.or_lt_two_pow (n:=32) aq az
  ·omega
 split
 ·exact hz
 ·decide
def GR(r:Rule):Prop:=XG r/\r.tests.length<=300
def XF{ts:List Test}{rs:List Rule}(n:List aZ)(hac:ac<4294967296)(ht:∀t∈ts,Gc t)(hl:ts.length<=300)(h:∀r∈rs,GR r):∀r∈qG ar ac ts rs n,GR r:=by
 unfold qG;split
 ·intro r hr;rcases dJ.1 hr with h1|h1
  ·exact h r h1
  ·rw[e8.1 h1];exact⟨⟨afR _ _,hac,aL hl az,ht⟩,hl⟩
 ·exact h
def oU{ar:Int}{ac:Nat}{ts:List Test}(hac:ac<4294967296)(ht:∀t∈ts,Gc t)(hl:ts.length<=300):∀(ns:List (List aZ)) {rs:List Rule},(∀r∈rs,GR r)->∀r∈ns.foldl (qG ar ac ts) rs,GR r
 | [],_,h=>h
 |n::ns,_,h=>oU hac ht hl ns (XF n hac ht hl h)
def M6{ar:Int}{own:Cl->Nat}:∀(cs:List Cl) {rs:List Rule},(∀c∈cs,own c<4294967296)->(∀r∈rs,GR r)->∀r∈Ev ar own cs rs,GR r
 | [],_,_,h=>h
 |c::cs,_,hc,h=>M6 cs (λx hx=>hc x ft) (XF c.nm (hc c aE) (λ_ h=>by cases h) aE h)
def Mi(ha:0<=ar/\ar<6)(hm:mk<18446744073709551616)(hac:ac<4294967296)(hl:∀x∈l,x<18446744073709551616):∀t∈Od ar mk ac l,Gc t:=λt ht=>by obtain⟨x,hx,rfl⟩:=dW.1 ht;exact⟨by show _<=ar;omega,by show ar<=_;omega,hm,hl x hx,hac⟩
def GU(ha:0<=ar/\ar<6)(hac:ac<4294967296)(hl:∀x∈l,x<18446744073709551616):∀t∈F2 ar ac l,Gc t:=λt ht=>by obtain⟨x,hx,rfl⟩:=dW.1 ht;exact⟨by show _<=ar;omega,by show ar<=_;omega,hl x hx,hl x hx,hac⟩
def akh(a:Nat):∀x∈qJ.GA a qJ.sV,x<18446744073709551616:=by
 have h:∀l:List qJ.Nm,(∀y∈l,y.2<18446744073709551616)->∀x∈qJ.GA a l,x<18446744073709551616:=λl=>by
  induction l with
  |nil=>intro _ x hx;cases hx
  |cons y r ih=>
   intro hl x hx;rcases dJ.1 hx with h1|h1
   ·split at h1
    ·rw[e8.1 h1];exact hl y aE
    ·cases h1
   ·exact ih (λz hz=>hl z (by simp[hz])) x h1
 exact h _ az
def WU{p:iZ}(hp:kL p)(a:Int)(d:Nat):(Um p a d).length<=300/\∀r∈Um p a d,GR r:=by
 have hdn:p.dn<4294967296:=by rcases hp.dn with h|h<;>omega
 have hfc:p.fc.length<=40:=pF hp.fc;have hlc:p.lc.length<=40:=pF hp.lc;have hlf:=hp.lf;have hac:∀c∈p.fc,c.act<4294967296:=λc hc=>by have h1:=hp.fc;unfold iq at h1;simp only[bA]at h1;have h2:=((zL _).1 h1.2.2).1 c hc;unfold okC wV at h2;simp only[bA,gq,fU,dK]at h2;omega
 have nil:∀r∈([]:List Rule),GR r:=λ_ h=>by cases h
 have c1:∀l:List Nat,l.all (· <18446744073709551616)=true->∀x∈l,x<18446744073709551616:=λl hl x hx=>by simpa using List.all_eq_true.1 hl x hx
 unfold Um;split
 ·refine⟨aL (zM _ _ _ _) bp,M6 _ (λc hc=> ?_) nil⟩;have:=hac c hc;unfold MV QY;(repeat' split)<;>omega
 ·refine⟨aL (zM _ _ _ _) bp,M6 _ (λc hc=> ?_) nil⟩;unfold Qg;split<;>decide
 ·refine⟨aL (jN _ _ _ _ _) az,oU ?_ (Mi az az ?_ (λx hx=>by have:=adq hp x hx;omega)) (by unfold Od;rw[aS];omega) _ nil⟩
  ·unfold QZ;split<;>decide
  ·unfold Q0;split<;>decide
 ·have hF:=Xp p.sp;have hL:=akh p.sp;unfold Ui;refine⟨aL (jN _ _ _ _ _) ?_,oU az (λ_ h=>by cases h) aE _ (oU az (λt ht=> ?_) ?_ _ (oU az (GU az az hL) (by unfold F2;rw[aS];omega) _ nil))⟩
  ·have h1:=jN a 2147418112 (F2 1 327681 (qJ.GA p.sp qJ.sV)++Od 1 4294967295 327681 [0]) [[115,101,116,110,115]] ([[117,110,115,104,97,114,101],[99,108,111,110,101]].foldl (qG a 2147418112 (F2 0 327681 (qJ.GA p.sp qJ.sV))) []);have h2:=jN a 2147418112 (F2 0 327681 (qJ.GA p.sp qJ.sV)) [[117,110,115,104,97,114,101],[99,108,111,110,101]] [];simp only[aO,bD]at h1 h2⊢;omega
  ·rcases dJ.1 ht with h|h
   ·exact GU az az hL t h
   ·exact Mi az az az (c1 _ rfl) t h
  ·unfold F2 Od;rw[aH,aS,aS];simp only[aO,bD];omega
 ·unfold Uh;refine⟨aL (jN _ _ _ _ _) ?_,oU az (GU az az (c1 _ rfl)) az _ (oU az (GU az az (c1 _ rfl)) az _ (oU az (GU az az (c1 _ rfl)) az _ nil))⟩;have h1:=jN a 2147418112 (F2 2 327681 [4]) [[109,112,114,111,116,101,99,116],[112,107,101,121,95,109,112,114,111,116,101,99,116]] ([[109,109,97,112]].foldl (qG a 2147418112 (F2 2 327681 [6])) []);have h2:=jN a 2147418112 (F2 2 327681 [6]) [[109,109,97,112]] [];simp only[aO,bD]at h1 h2⊢;omega
 ·exact sY
 ·exact sY
def af7{p:iZ}(hp:kL p)(d:Nat):M7 p d<4294967296:=by
 have hdn:p.dn<4294967296:=by rcases hp.dn with h|h<;>omega
 unfold M7 IZ Ik;(repeat' split)<;>omega
end LT
end Go.Proofs.YtopfefhenfineaaGreat
