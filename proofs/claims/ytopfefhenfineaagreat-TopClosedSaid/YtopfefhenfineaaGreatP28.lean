import Derived.Test.YtopfefhenfineaaGreatP26
set_option linter.all false
set_option maxRecDepth 100000
set_option maxHeartbeats 8000000
namespace Go.Proofs.YtopfefhenfineaaGreat
open Go.Proofs.Tryz Go.RowKit Go.Shelf V
attribute[local go_sem] Oper.semAt_some
variable{zP:Prop}
def rS(h:zP:=by
 have Xc:∀z∈l7,0<=z:=λz hz=>by have:=hmem z hz;simp at this;omega
 exact gp):zP:=h
def mi(h:zP:=by rintro e w7 ⟨oM,v7,l7,rfl,hle,hmem,qY⟩;have hx7:Ext W w7:=Below.trans (show Below W W _ from(gK.o.alloc _)) oM;exact rS):zP:=h
def le(h:zP:=by
 refine⟨trivial,?_⟩;refine(bM.2 (nS W _ _ ([]:List Int) aE (dB _ _ _ _))).mono ?_;rintro e w7 ⟨oM,v7,l7,rfl,hle,hmem,qY⟩;have hx7:Ext W w7:=Below.trans (show Below W W _ from gK.o) oM;have Xc:∀z∈l7,0<=z:=λz hz=>by have:=hmem z hz;cases this
 exact gp):zP:=h
def gp(h:zP:=by
 have hl7:l7.length<=2:=aL hle aE;have Xl:=HJ.o.1 [] W w7 none HJ.o.2.2 ⟨hx7.os,hx7.tape,hx7.output,hx7.size,λk hk _=>hx7.block hk⟩ (λr e=>by cases e);obtain⟨a7,c7,rfl⟩:=bU qY;have XD:=aI HB.o.2.2 hx7;have H7:=ah (ak Xc (ak qY (ak Xl XD)));clear oM hle hmem Xc qY Xl XD hx7 c0 c1 c2 c3 a0 d0 d1 d2 d3 e0 d0o d3o e0o;gi_wp2;gi_loopw [51] (λi wr=>∃(k:Nat) (pre:List (Fin size)),k<=l7.length/\pre.length=k/\i= .int .i64 k/\J pre wr/\Kc n0 VU w7 wr) (λi _=>l7.length-(intOf i).toNat)
 case atStart=>exact⟨0,[],aq,rfl,rfl,H7.o.2.2.1,Kc.refl _ _ _⟩
 case round=>
  obtain⟨k,pre,hk,hpl,rfl,hJs,hkc⟩:=hrel;by_cases hlt:k<l7
  ·obtain⟨b7,o7,c8,e7,r0⟩:=wo (hkc.own H7.o.2.1 rfl) hlt;simp only[aU,true_and]at e7;obtain⟨rfl,rfl⟩:=e7;obtain⟨q,hq⟩:∃q:Nat,l7[k]=(q:Int):=⟨(l7[k]).toNat,by have:=H7.o.1 _ (aW hlt);omega⟩;rw[hq]at r0;have cs:=aG (hkc.kept _ _ _ _ H7.o.2.2.2 rfl) 0
   change wr.cell? Bs=some (.int .i64 size)at cs
   have zk:(k:Int)<l7:=aq;by_cases Xe:q<size
   ·obtain⟨fn,tmps,assign,body,hy,hR⟩:=HJ.o.2.1 pre ⟨q,Xe⟩ wr hJs aq;have zq:(q:Int)<size:=aq;have HKC:=ah hkc;clear hkc hJs hq;gi_wp2;refine hR.mono ?_;rintro e W3 (⟨rfl,hJ3,hk3⟩|⟨rfl,hJx3⟩)
    ·gi_wp2;go_roundw
     case rel=>exact⟨k+1,pre++[⟨q,Xe⟩],aq,by simp[hpl],bm,hJ3,HKC.o.trans hk3⟩
     case measure=>exact gO
    ·exact nh
   ·have zq:(size:Int)<=q:=aq;clear hkc hq;gi_wp2;refine⟨(λf h=>by cases h),?_⟩;gi_wp2;refine aM (bH rfl _ _ _) rfl ?_;exact⟨⟨_,rfl⟩,.inl ⟨_,trivial,hJs⟩⟩
  ·obtain rfl:k=l7.length:=aq;gi_wp2
   first|go_end0|refine aM (bH rfl _ _ _) rfl ?_
   exact⟨⟨_,rfl⟩,.inl ⟨_,trivial,hJs⟩⟩):zP:=h
namespace LT
open xw (iQ)
variable{A B W w:ay}{T:Nat->Bool}{base e i k l n n0:Nat}{v:aA}
structure Kc(n0:Nat)(T:Nat->Bool)(A B:ay):Prop where
 os:B.os=A.os
 tape:B.tape=A.tape
 output:B.output=A.output
 size:A.heap.size<=B
 low:∀k,k<n0->k<A.heap.size->B.heap[k]?=A.heap[k]?
 kept:∀(k:Nat) (cs:Array aA) (t:dz) (fr:Nat×Nat),A.heap[k]?=some (.cells cs t fr)->T t=false->B.heap[k]?=some (.cells cs t fr)
def Kc.refl(n0:Nat)(T:Nat->Bool)(A:ay):Kc n0 T A A:=⟨rfl,rfl,rfl,aD _,λ_ _ _=>rfl,λ_ _ _ _ h _=>h⟩
def Kc.trans{n0:Nat}{T:Nat->Bool}{A B C:ay}(h:Kc n0 T A B)(k:Kc n0 T B C):Kc n0 T A C:=
 ⟨k.os.trans h.os,k.tape.trans h.tape,k.output.trans h.output,aL h.size k.size,λi h1 h2=>(k.low i h1 (gY h2 h.size)).trans (h.low i h1 h2),λi cs t fr h1 h2=>k.kept i cs t fr (h.kept i cs t fr h1 h2) h2⟩
def Kc.of(h:TK n0 T A B):Kc n0 T A B:=
 ⟨h.os,h.tape,h.output,h.size,λk h1 h2=>(h.kept k _ (dL h2) (.inl h1)).trans (dL h2).symm,λ_ _ _ _ h1 h2=>h.blk h1 (.inr h2)⟩
def Kc.own(h:Kc n0 T A B){zs:List aA}(ho:A.ownsRow base e n v k zs)(he:T e=false):B.ownsRow base e n v k zs:=by
 refine⟨ho.1,?_⟩;rcases ho.2 with h2|⟨g,cap,cur,rfl,hg,hh,r⟩
 ·exact .inl h2
 ·exact .inr ⟨g,cap,cur,rfl,hg,h.kept _ _ _ _ hh he,r⟩
def Kc.putObj{o o':Obj}(hn:n0<=l)(hl:W.heap[l]?=some o)(ho:o.isCells=false):Kc n0 T W (W.putObj l o'):=
 ⟨rfl,rfl,rfl,aE,λk h1 _=>World.putObj_heap_other aq,λk cs t fr h1 _=>(World.putObj_heap_other (λe=>by subst e;rw[hl]at h1;cases h1;cases ho)).trans h1⟩
def wo{xs:List Int}(h:w.ownsRow base 3 1 v xs (xs.flatMap jO.encI))(hi:i<xs):∃b o c,v= .slice (some ⟨b,o,none⟩) xs c/\w.cell? ⟨b,o+i,none⟩=some (.int .i64 xs[i]):=by obtain⟨a,c,h1,h2,h3,h4⟩:=bY (show∀x,(jO.encI x).length=1 fromλ_=>rfl) h;obtain⟨b,o,e,k⟩:=h4 i hi;subst e;have k0:=k 0 (by simp[jO.encI]);rw[eO,iB]at k0;exact⟨b,o,c,h1,by simpa[jO.encI]using k0⟩
theorem abe(l Bi Ba Bs:Nat)(x:Ix)(at_ size n0:Nat)(hat:at_<size)(hsz:size<=4096)(hx:F5 x (size-1-at_)=true)(J Jx:List (Fin size)->ay->Prop)(W:ay)(hJ:AbidesFrom W J)(hY:∀(pre:List (Fin size)) (y:Fin size) W1,J pre W1->pre.length<3->YieldAt Fence.wide (3-1) prog l #[.int .i64 ((y:Nat):Int)] W1 λe W'=>(e= .returned (.bool true)/\J (pre++[y]) W'/\Kc n0 VU W1 W')\/(e= .returned (.bool false)/\Jx (pre++[y]) W'))(bi:W.heap[Bi]?=some (.cells #[.int .u16 x.c,.int .u8 x.jt,.int .u8 x.jf,.int .u32 x.k] 173 (0,0)))(ba:W.heap[Ba]?=some (.cells #[.int .i64 at_] 3 (0,0)))(bs:W.heap[Bs]?=some (.cells #[.int .i64 size] 3 (0,0)))(h0:J [] W):CallsIn Fence.wide 3 prog 375 #[.func (.yield l) #[] #[],.pointer (some Bi),.pointer (some Ba),.pointer (some Bs)] W λe W'=>(∃v,e= .returned v)/\((∃ys,True/\J ys W')\/(∃pre,True/\Jx pre W')):=by
 obtain⟨h1,h2,h3,h4,-,-,-,-,-,-,-,-,h13,h14⟩:=mZ hx;have hO:=xw.kD x.c W;obtain⟨⟨c0,c1,c2,c3⟩,-⟩:=pO bi;have a0:=aG ba 0
 change W.cell? Ba=some (.int .i64 at_)at a0
 have HO:=ah hO;have HB:=ah (ak bi (ak ba bs));have HJ:=ah (ak hJ (ak hY h0));clear hO bi ba bs hJ hY h0 hx;refine kX func375 rfl trivial ?_ rfl;simp only[ntmps375,bW,aO,bD,Nat.reduceAdd,Nat.reduceSub,dU,dS,fq,dZ,dA,dh];gi_wp2_with(refine⟨trivial,?_⟩;refine tI (bM.2 HO.o) ?_;intro w1 hx1;have gK:=ah hx1;have d0:=hx1.cell c0;have d1:=hx1.cell c1;have d2:=hx1.cell c2;have d3:=hx1.cell c3;have e0:=hx1.cell a0;have d0o:=λo=>((aj w1).alloc o).cell d0;have d3o:=λo=>((aj w1).alloc o).cell d3;have e0o:=λo=>((aj w1).alloc o).cell e0;clear hx1)
 ·exact le
 ·exact le
 ·refine⟨trivial,?_⟩;refine(bM.2 (nS W _ _ [(at_:Int)+1+x.k] aE (jJ (show∀x,(jO.encI x).length=1 fromλ_=>rfl) _ [(at_:Int)+1+x.k] 3 _ _ aE (gK.o.alloc _).size cz))).mono ?_;rintro e w7 ⟨oM,v7,l7,rfl,hle,hmem,qY⟩;have hx7:Ext W w7:=Below.trans (show Below W W _ from((gK.o.alloc _).alloc _)) oM;exact rS
 ·refine⟨trivial,?_⟩;refine(bM.2 (nS W _ _ [(at_:Int)+1+min (x.jt:Int) (x.jf:Int),(at_:Int)+1+max (x.jt:Int) (x.jf:Int)] aE (jJ (show∀x,(jO.encI x).length=1 fromλ_=>rfl) _ [(at_:Int)+1+min (x.jt:Int) (x.jf:Int),(at_:Int)+1+max (x.jt:Int) (x.jf:Int)] 3 _ _ aE (gK.o).size cz))).mono ?_;exact mi
 ·refine⟨trivial,?_⟩;refine(bM.2 (nS W _ _ [(at_:Int)+1] aE (jJ (show∀x,(jO.encI x).length=1 fromλ_=>rfl) _ [(at_:Int)+1] 3 _ _ aE (gK.o).size cz))).mono ?_;exact mi
end LT
end Go.Proofs.YtopfefhenfineaaGreat
namespace Go.Proofs.YtopfefhenfineaaGreat
open Go.Proofs.Tryz Go.RowKit Go.Shelf V
attribute[local go_sem] Oper.semAt_some V.Oper.idle V.Oper.mE V.Oper.jM
variable{zP:Prop}
def sE(h:zP:=by exact⟨b',u',j1,j2,t1.blk j3 (.inr rfl),λl9=>j4 (l9.resolve_left az)⟩):zP:=h
def qk(h:zP:=by exact⟨b',j1,j2,t1.blk j3 (.inr rfl)⟩):zP:=h
def gE(h:zP:=by clear hI hw;go_simp;exact⟨_,_,_,_,_,_,_,_,⟨rfl,rfl,rfl,rfl,rfl,rfl,rfl,rfl⟩,HI.o⟩):zP:=h
def br(h:zP:=by obtain⟨b,u,k1,k2,k3,k4⟩:=h.l7 (l.resolve_left (by decide));exact⟨b,u,k1,k2,k3,λl8=>k4 (l8.resolve_left (by decide))⟩):zP:=h
def bz(h:zP:=by obtain⟨b,u,k1,k2,k3,k4⟩:=h.l6 (l.resolve_left (by decide));exact⟨b,u,k1,k2,k3,λl8=>k4 (l8.resolve_left (by decide))⟩):zP:=h
namespace LT
theorem afn(n:Nat)(hn:n<=1000000)(W:ay):(Instr.makeSlice 424 (.int .i64 n) (.int .i64 n)).run prog W= .ok (.slice (some W) n n) (W.alloc (.cells (usA (List.replicate n 0)) 171)):=by have hinfo:(Tryz.prog.info? 171).map (λi=>(i.zero,i.size,i.bytes))=some (some (.int .u16 0),1,2):=ax;obtain⟨i,h1,h2,h3,h4⟩:=jo hinfo;have hr:=run_make (P:=prog) W 424 171 i _ underlying424 h1 h2 .i64 .i64 n n aq aq eS aq;rw[h3,dR,wE _ rfl]at hr;rw[hr];simp[usA]
structure yM(w:ay)(V:aA)(n:Nat)(L:Nat->Prop)(x4 x5 BN BM yT BL BK x18:aA)(W:ay):Prop where
 ext:Ext w W
 l0:L 0->BN=V
 l1:L 1->BM= .int .i64 n
 l2:L 2->∃b,w.heap.size<=b/\yT= .slice (some ⟨b,0,none⟩) n n/\W.heap[b]?=some (.cells (usA (List.replicate n 0)) 171 (0,0))
 l3:L 3->BL=V
 l4:L 4->BK= .int .i64 n
 l5:L 5->∃b,w.heap.size<=b/\x18= .slice (some ⟨b,0,none⟩) n n/\W.heap[b]?=some (.cells (JM (List.replicate n false)) 4 (0,0))
 l6:L 6->∃b u,w.heap.size<=b/\x4= .pointer (some ⟨b,0,none⟩)/\W.heap[b]?=some (.cells #[u] 424 (0,0))/\(L 8->u=yT)
 l7:L 7->∃b u,w.heap.size<=b/\x5= .pointer (some ⟨b,0,none⟩)/\W.heap[b]?=some (.cells #[u] 425 (0,0))/\(L 9->u=x18)
 d8:L 8->L 2/\L 6
 d9:L 9->L 5/\L 7
section
variable {w:ay} {V:aA} {n:Nat} {L:Nat->Prop} {x4 x5 BN BM yT BL BK x18:aA} {W:ay}
def yM.ext'(h:yM w V n L x4 x5 BN BM yT BL BK x18 W){W':ay}(hx:Ext W W'):yM w V n L x4 x5 BN BM yT BL BK x18 W':=
 ⟨h.ext.trans hx,h.l0,h.l1,λl=>by obtain⟨b,h1,h2,h3⟩:=h.l2 l;exact⟨b,h1,h2,aI h3 hx⟩,h.l3,h.l4,λl=>by obtain⟨b,h1,h2,h3⟩:=h.l5 l;exact⟨b,h1,h2,aI h3 hx⟩,
  λl=>by obtain⟨b,u,h1,h2,h3,h4⟩:=h.l6 l;exact⟨b,u,h1,h2,aI h3 hx,h4⟩,λl=>by obtain⟨b,u,h1,h2,h3,h4⟩:=h.l7 l;exact⟨b,u,h1,h2,aI h3 hx,h4⟩,h.d8,h.d9⟩
abbrev Wi(L:Nat->Prop)(j:Nat):Nat->Prop:=λk=>k=j\/L k
def yM.o0(h:yM w V n L x4 x5 BN BM yT BL BK x18 W):yM w V n (Wi L 0) x4 x5 V BM yT BL BK x18 W:=
 ⟨h.ext,λ_=>rfl,λl=>h.l1 (l.resolve_left az),λl=>h.l2 (l.resolve_left az),λl=>h.l3 (l.resolve_left az),λl=>h.l4 (l.resolve_left az),λl=>h.l5 (l.resolve_left az),λl=>bz,λl=>br,λl=>⟨.inr (h.d8 (l.resolve_left az)).1,.inr (h.d8 (l.resolve_left az)).2⟩,λl=>⟨.inr (h.d9 (l.resolve_left az)).1,.inr (h.d9 (l.resolve_left az)).2⟩⟩
def yM.o3(h:yM w V n L x4 x5 BN BM yT BL BK x18 W):yM w V n (Wi L 3) x4 x5 BN BM yT V BK x18 W:=
 ⟨h.ext,λl=>h.l0 (l.resolve_left az),λl=>h.l1 (l.resolve_left az),λl=>h.l2 (l.resolve_left az),λ_=>rfl,λl=>h.l4 (l.resolve_left az),λl=>h.l5 (l.resolve_left az),λl=>bz,λl=>br,λl=>⟨.inr (h.d8 (l.resolve_left az)).1,.inr (h.d8 (l.resolve_left az)).2⟩,λl=>⟨.inr (h.d9 (l.resolve_left az)).1,.inr (h.d9 (l.resolve_left az)).2⟩⟩
def yM.o1(h:yM w V n L x4 x5 BN BM yT BL BK x18 W):yM w V n (Wi L 1) x4 x5 BN (.int .i64 n) yT BL BK x18 W:=
 ⟨h.ext,λl=>h.l0 (l.resolve_left az),λ_=>rfl,λl=>h.l2 (l.resolve_left az),λl=>h.l3 (l.resolve_left az),λl=>h.l4 (l.resolve_left az),λl=>h.l5 (l.resolve_left az),λl=>bz,λl=>br,λl=>⟨.inr (h.d8 (l.resolve_left az)).1,.inr (h.d8 (l.resolve_left az)).2⟩,λl=>⟨.inr (h.d9 (l.resolve_left az)).1,.inr (h.d9 (l.resolve_left az)).2⟩⟩
def yM.o4(h:yM w V n L x4 x5 BN BM yT BL BK x18 W):yM w V n (Wi L 4) x4 x5 BN BM yT BL (.int .i64 n) x18 W:=
 ⟨h.ext,λl=>h.l0 (l.resolve_left az),λl=>h.l1 (l.resolve_left az),λl=>h.l2 (l.resolve_left az),λl=>h.l3 (l.resolve_left az),λ_=>rfl,λl=>h.l5 (l.resolve_left az),λl=>bz,λl=>br,λl=>⟨.inr (h.d8 (l.resolve_left az)).1,.inr (h.d8 (l.resolve_left az)).2⟩,λl=>⟨.inr (h.d9 (l.resolve_left az)).1,.inr (h.d9 (l.resolve_left az)).2⟩⟩
def yM.o2(h:yM w V n L x4 x5 BN BM yT BL BK x18 W)(hn:¬L 2){b:Nat}(hb:w.heap.size<=b)(hh:W.heap[b]?=some (.cells (usA (List.replicate n 0)) 171 (0,0))):yM w V n (Wi L 2) x4 x5 BN BM (.slice (some b) n n) BL BK x18 W:=
 ⟨h.ext,λl=>h.l0 (l.resolve_left az),λl=>h.l1 (l.resolve_left az),λ_=>⟨b,hb,rfl,hh⟩,λl=>h.l3 (l.resolve_left az),λl=>h.l4 (l.resolve_left az),λl=>h.l5 (l.resolve_left az),λl=>(by obtain⟨b,u,k1,k2,k3,k4⟩:=h.l6 (l.resolve_left az);exact⟨b,u,k1,k2,k3,λl8=>absurd (h.d8 (l8.resolve_left az)).1 hn⟩),λl=>br,λl=>⟨.inr (h.d8 (l.resolve_left az)).1,.inr (h.d8 (l.resolve_left az)).2⟩,λl=>⟨.inr (h.d9 (l.resolve_left az)).1,.inr (h.d9 (l.resolve_left az)).2⟩⟩
def yM.o5(h:yM w V n L x4 x5 BN BM yT BL BK x18 W)(hn:¬L 5){b:Nat}(hb:w.heap.size<=b)(hh:W.heap[b]?=some (.cells (JM (List.replicate n false)) 4 (0,0))):yM w V n (Wi L 5) x4 x5 BN BM yT BL BK (.slice (some b) n n) W:=
 ⟨h.ext,λl=>h.l0 (l.resolve_left az),λl=>h.l1 (l.resolve_left az),λl=>h.l2 (l.resolve_left az),λl=>h.l3 (l.resolve_left az),λl=>h.l4 (l.resolve_left az),λ_=>⟨b,hb,rfl,hh⟩,λl=>bz,λl=>(by obtain⟨b,u,k1,k2,k3,k4⟩:=h.l7 (l.resolve_left az);exact⟨b,u,k1,k2,k3,λl8=>absurd (h.d9 (l8.resolve_left az)).1 hn⟩),λl=>⟨.inr (h.d8 (l.resolve_left az)).1,.inr (h.d8 (l.resolve_left az)).2⟩,λl=>⟨.inr (h.d9 (l.resolve_left az)).1,.inr (h.d9 (l.resolve_left az)).2⟩⟩
def yM.o6(h:yM w V n L x4 x5 BN BM yT BL BK x18 W)(hn:¬L 6){b:Nat}{u:aA}(hb:w.heap.size<=b)(hh:W.heap[b]?=some (.cells #[u] 424 (0,0))):yM w V n (Wi L 6) (.pointer (some b)) x5 BN BM yT BL BK x18 W:=
 ⟨h.ext,λl=>h.l0 (l.resolve_left az),λl=>h.l1 (l.resolve_left az),λl=>h.l2 (l.resolve_left az),λl=>h.l3 (l.resolve_left az),λl=>h.l4 (l.resolve_left az),λl=>h.l5 (l.resolve_left az),λ_=>⟨b,u,hb,rfl,hh,λl8=>absurd (h.d8 (l8.resolve_left az)).2 hn⟩,λl=>br,λl=>⟨.inr (h.d8 (l.resolve_left az)).1,.inr (h.d8 (l.resolve_left az)).2⟩,λl=>⟨.inr (h.d9 (l.resolve_left az)).1,.inr (h.d9 (l.resolve_left az)).2⟩⟩
def yM.o7(h:yM w V n L x4 x5 BN BM yT BL BK x18 W)(hn:¬L 7){b:Nat}{u:aA}(hb:w.heap.size<=b)(hh:W.heap[b]?=some (.cells #[u] 425 (0,0))):yM w V n (Wi L 7) x4 (.pointer (some b)) BN BM yT BL BK x18 W:=
 ⟨h.ext,λl=>h.l0 (l.resolve_left az),λl=>h.l1 (l.resolve_left az),λl=>h.l2 (l.resolve_left az),λl=>h.l3 (l.resolve_left az),λl=>h.l4 (l.resolve_left az),λl=>h.l5 (l.resolve_left az),λl=>bz,λ_=>⟨b,u,hb,rfl,hh,λl8=>absurd (h.d9 (l8.resolve_left az)).2 hn⟩,λl=>⟨.inr (h.d8 (l.resolve_left az)).1,.inr (h.d8 (l.resolve_left az)).2⟩,λl=>⟨.inr (h.d9 (l.resolve_left az)).1,.inr (h.d9 (l.resolve_left az)).2⟩⟩
def yM.o8(h:yM w V n L x4 x5 BN BM yT BL BK x18 W)(h2:L 2)(h6:L 6){b:Nat}(e:x4= .pointer (some b)):yM w V n (Wi L 8) x4 x5 BN BM yT BL BK x18 (W.setCell b yT):=by
 obtain⟨b6,u6,k1,k2,k3,-⟩:=h.l6 h6;subst e;simp only[Value.pointer.injEq,dw,gD,and_true]at k2;subst k2;have t1:TK w (D5 424) W (W.setCell b yT):=TK.set (p:=⟨b,0,none⟩) k3 rfl k1 _;refine⟨h.ext.setCell (by exact k1) _,λl=>h.l0 (l.resolve_left az),λl=>h.l1 (l.resolve_left az),λl=> ?_,λl=>h.l3 (l.resolve_left az),λl=>h.l4 (l.resolve_left az),λl=> ?_,λ_=>⟨b,yT,k1,rfl,eX k3 0 yT,λ_=>rfl⟩,λl=> ?_,λ_=>⟨.inr h2,.inr h6⟩,λl=>⟨.inr (h.d9 (l.resolve_left az)).1,.inr (h.d9 (l.resolve_left az)).2⟩⟩
 ·obtain⟨b',j1,j2,j3⟩:=h.l2 (l.resolve_left az);exact qk
 ·obtain⟨b',j1,j2,j3⟩:=h.l5 (l.resolve_left az);exact qk
 ·obtain⟨b',u',j1,j2,j3,j4⟩:=h.l7 (l.resolve_left az);exact sE
def yM.o9(h:yM w V n L x4 x5 BN BM yT BL BK x18 W)(h5:L 5)(h7:L 7){b:Nat}(e:x5= .pointer (some b)):yM w V n (Wi L 9) x4 x5 BN BM yT BL BK x18 (W.setCell b x18):=by
 obtain⟨b6,u6,k1,k2,k3,-⟩:=h.l7 h7;subst e;simp only[Value.pointer.injEq,dw,gD,and_true]at k2;subst k2;have t1:TK w (D5 425) W (W.setCell b x18):=TK.set (p:=⟨b,0,none⟩) k3 rfl k1 _;refine⟨h.ext.setCell (by exact k1) _,λl=>h.l0 (l.resolve_left az),λl=>h.l1 (l.resolve_left az),λl=> ?_,λl=>h.l3 (l.resolve_left az),λl=>h.l4 (l.resolve_left az),λl=> ?_,λl=> ?_,λ_=>⟨b,x18,k1,rfl,eX k3 0 x18,λ_=>rfl⟩,λl=>⟨.inr (h.d8 (l.resolve_left az)).1,.inr (h.d8 (l.resolve_left az)).2⟩,λ_=>⟨.inr h5,.inr h7⟩⟩
 ·obtain⟨b',j1,j2,j3⟩:=h.l2 (l.resolve_left az);exact qk
 ·obtain⟨b',j1,j2,j3⟩:=h.l5 (l.resolve_left az);exact qk
 ·obtain⟨b',u',j1,j2,j3,j4⟩:=h.l6 (l.resolve_left az);exact sE
def yM.sub(h:yM w V n L x4 x5 BN BM yT BL BK x18 W){M:Nat->Prop}(hM:∀k,M k↔L k):yM w V n M x4 x5 BN BM yT BL BK x18 W:=by
 have:M=L:=funext λk=>propext (hM k)
 rw[this];exact h
end
def P9{B n0:Nat}{T:Nat->Bool}{Ds:List Nat}{A A':ay}(h:Marks B Ds A)(ht:TK n0 T A A'):Marks B Ds A':=
 h.kept λD hD=>(ht.kept D _ (h.lies D hD).1 (.inr λ_ _ _ e=>by cases e)).trans (h.lies D hD).1.symm
structure WI(w:ay)(C R S rb sb n:Nat)(bl:List Bool)(sl:List Int)(W:ay):Prop where
 cw:CW R S rb sb n bl sl W
 ext:Ext w W
 c:Boxed W C 381 (.func (.func 305) #[] #[.pointer (some R),.pointer (some S)])
 h1:w.heap.size<=rb
 h2:w.heap.size<=sb
section
variable {w W W':ay} {C R S rb sb n:Nat} {bl:List Bool} {sl:List Int}
def WI.ext'(h:WI w C R S rb sb n bl sl W)(hx:Ext W W'):WI w C R S rb sb n bl sl W':=
 ⟨⟨aI h.cw.cR hx,aI h.cw.cS hx,aI h.cw.b hx,aI h.cw.s hx,h.cw.lb,h.cw.ls⟩,h.ext.trans hx,aI h.c hx,h.h1,h.h2⟩
theorem WI.come(h:WI w C R S rb sb n bl sl W)(i:Nat)(hi:i<n)(m:Int):Calls prog 305 #[.int .i64 i,.int .u16 m,.pointer (some R),.pointer (some S)] W λe w'=>e= .returned (.tuple #[])/\(∃bl' sl',WI w C R S rb sb n bl' sl' w')/\TK w VU W w':=
 (U6 h.cw h.h1 h.h2 i hi m).mono λ_ _ ⟨e,bl',sl',hc,ht⟩=>⟨e,⟨bl',sl',hc,ht.lX h.ext (aD _),ht.boxed h.c rfl,h.h1,h.h2⟩,ht⟩
end
theorem S8(Bi Ba Bs:Nat)(x:Ix)(at_ size n0:Nat)(hat:at_<size)(hsz:size<=4096)(hx:F5 x (size-1-at_)=true)(w0:ay)(bi:w0.heap[Bi]?=some (.cells #[.int .u16 x.c,.int .u8 x.jt,.int .u8 x.jf,.int .u32 x.k] 173 (0,0)))(ba:w0.heap[Ba]?=some (.cells #[.int .i64 at_] 3 (0,0)))(bs:w0.heap[Bs]?=some (.cells #[.int .i64 size] 3 (0,0))):SeqStopsK Fence.wide 3 prog 375 #[.pointer (some Bi),.pointer (some Ba),.pointer (some Bs)] (λy:Fin size=> #[.int .i64 ((y:Nat):Int)]) (Kc n0 VU) (λ_=>True) (λ_=>True) 3 w0:=
 λl J Jx W hb hJ _ hY h0=>abe l Bi Ba Bs x at_ size n0 hat hsz hx J Jx W hJ hY (aI bi hb) (aI ba hb) (aI bs hb) h0
def WI.row{w W A:ay}{C R S rb sb n:Nat}{bl:List Bool}{sl:List Int}(h:WI w C R S rb sb n bl sl W){row:Option Nat}(hg:W.grownBy A row)(hr:∀r,row=some r->∃o:Obj,W.heap[r]?=some o/\o.isCells=false)(hr2:∀r,row=some r->w.heap.size<=r):WI w C R S rb sb n bl sl A:=
 ⟨⟨iY h.cw.cR hg hr,iY h.cw.cS hg hr,iY h.cw.b hg hr,iY h.cw.s hg hr,h.cw.lb,h.cw.ls⟩,h.ext.grown hg hr2,iY h.c hg hr,h.h1,h.h2⟩
theorem Ta(v:aA)(xs:List Ix)(hl:xs.length<=4096)(gf:Nat)(cap:Array aA)(eg:∀args w,(callFunc gf args).run prog w= .ok (.enter gf args) w)(hok:JH xs=true)(w:ay)(hv:Rd w 4 jS v xs)(acO:∀(i:Nat)(s:Int) W,i<xs->Ext w W->Calls prog gf (#[.int .i64 i,.int .u16 s]++cap) W λe w'=>e= .returned (.tuple #[])/\Ext W w'):Rt 252 #[v,.func (.func gf) #[] cap] w (.tuple #[]):=by
 obtain⟨a,c,rfl,hac,hca⟩:=uf hv;have HV:=ah hv;have tO:=ah hca;have at5:=ah acO;have HOK:=ah hok;clear hv hca acO hok;refine(bM (n:=4)).1 ?_;refine callsIn_of_wp_marks func252 rfl trivial ?_ rfl;simp only[ntmps252,bW,aO,bD,Nat.reduceAdd,Nat.reduceSub,dU,dS,fq,dZ,dA,dh];gi_upto_region 1 with(fail)
 refine JW ax (λlisted a' W'=>listed.size=10/\∃x4 x5 BN BM yT BL BK x18,a'= {tmps:= #[.slice a xs c,.func (.func gf) #[] cap,undef,undef,x4,x5,undef,undef,undef,undef,.slice a xs c,.int .i64 xs,.bool (decide (4096<(xs:Int))),BN,BM,yT,BL,BK,x18,undef,undef,undef,undef,undef,undef,undef,undef,undef,undef,undef,undef,undef,undef,undef,undef,undef,undef,undef,undef,undef,undef,undef,undef,undef,undef,undef,undef,undef,undef,undef,undef,undef,undef,undef,undef,undef,undef,undef,undef,undef],defers:= []}/\yM w (.slice a xs c) xs (λk=>listed.getD k false=true) x4 x5 BN BM yT BL BK x18 W') ?h0 ?hstep ?hend
 case h0=>have hf:∀k,k<10->(Array.replicate 10 false).getD k false=true->False:=az;exact⟨rfl,_,_,_,_,_,_,_,_,rfl,(aj _).drew,λl=>(hf 0 az l).elim,λl=>(hf 1 az l).elim,λl=>(hf 2 az l).elim,λl=>(hf 3 az l).elim,λl=>(hf 4 az l).elim,λl=>(hf 5 az l).elim,λl=>(hf 6 az l).elim,λl=>(hf 7 az l).elim,λl=>(hf 8 az l).elim,λl=>(hf 9 az l).elim⟩
 case hstep=>
  rintro listed _ W ⟨hs,x4,x5,BN,BM,yT,BL,BK,x18,rfl,hI⟩ i hi;obtain⟨hlt,hun⟩:=abM hi;have hlt':i<10:=hlt;have hno:¬listed.getD i false=true:=by have:i<listed.size:=aq;simpa[this]using hun
  have hw:∀k,(listed.setIfInBounds i true)[k]?.getD false=true↔Wi (λk=>listed.getD k false=true) i k:=λk=>by rw[<-Array.getD_eq_getD_getElem?];exact(ain aq k).symm
  have hL:i=0\/i=1\/i=2\/i=3\/i=4\/i=5\/i=6\/i=7\/i=8\/i=9:=aq;rcases hL with rfl|rfl|rfl|rfl|rfl|rfl|rfl|rfl|rfl|rfl
  ·refine mW rfl ?_;have HI:=ah ((hI.o0).sub hw);exact gE
  ·refine mW rfl ?_;obtain rfl:=hI.l0 (jQ hi ax);have HI:=ah ((hI.o1).sub hw);exact gE
  ·refine mW rfl ?_;obtain rfl:=hI.l1 (jQ hi ax);have hrun:=afn xs aq W;have HI:=ah (((hI.ext' ((aj W).alloc (.cells (usA (List.replicate xs 0)) 171))).o2 hno hI.ext.size (aC W _)).sub hw);exact gE
  ·refine mW rfl ?_;have HI:=ah ((hI.o3).sub hw);exact gE
  ·refine mW rfl ?_;obtain rfl:=hI.l3 (jQ hi ax);have HI:=ah ((hI.o4).sub hw);exact gE
  ·refine mW rfl ?_;obtain rfl:=hI.l4 (jQ hi ax);have hrun:=Wo xs aq W;have HI:=ah (((hI.ext' ((aj W).alloc (.cells (JM (List.replicate xs false)) 4))).o5 hno hI.ext.size (aC W _)).sub hw);exact gE
  ·refine mW rfl ?_;have HI:=ah (((hI.ext' ((aj W).alloc (.cells #[.slice none 0 0] 424))).o6 hno hI.ext.size (aC W _)).sub hw);exact gE
  ·refine mW rfl ?_;have HI:=ah (((hI.ext' ((aj W).alloc (.cells #[.slice none 0 0] 425))).o7 hno hI.ext.size (aC W _)).sub hw);exact gE
  ·refine mW rfl ?_;obtain⟨b6,u6,-,rfl,k3,-⟩:=hI.l6 (jQ hi ax);obtain⟨b2,-,rfl,-⟩:=hI.l2 (jQ hi ax);have y0:W.cell? b6=some u6:=aG k3 0;have f0:=aP k3 0;clear k3;have HI:=ah ((hI.o8 (jQ hi ax) (jQ hi ax) rfl).sub hw);exact gE
  ·refine mW rfl ?_;obtain⟨b6,u6,-,rfl,k3,-⟩:=hI.l7 (jQ hi ax);obtain⟨b2,-,rfl,-⟩:=hI.l5 (jQ hi ax);have y0:W.cell? b6=some u6:=aG k3 0;have f0:=aP k3 0;clear k3;have HI:=ah ((hI.o9 (jQ hi ax) (jQ hi ax) rfl).sub hw);exact gE
 case hend=>
  rintro listed _ W ⟨hs,x4,x5,BN,BM,yT,BL,BK,x18,rfl,hI⟩ hr;have hall:=Ka hr (by rw[hs];rfl) ax;obtain⟨S,u4,hS,rfl,hS4,hSu⟩:=hI.l6 (hall 6 az);obtain⟨R,u5,hR,rfl,hR4,hRu⟩:=hI.l7 (hall 7 az);obtain⟨sb,hsb,rfl,ajF⟩:=hI.l2 (hall 2 az);obtain⟨rb,hrb,rfl,ajK⟩:=hI.l5 (hall 5 az);obtain rfl:=hSu (hall 8 az);obtain rfl:=hRu (hall 9 az);have hcw:CW R S rb sb xs (List.replicate xs false) (List.replicate xs 0) W:=⟨hR4,hS4,ajK,ajF,aE,aE⟩;obtain⟨C,hC⟩:∃C,C=W.heap.size:=⟨_,rfl⟩;have hRl:=(aB.1 hR4).1;have hSl:=(aB.1 hS4).1;have hwi:WI w C R S rb sb xs (List.replicate xs false) (List.replicate xs 0) (W.alloc (.cells #[.func (.func 305) #[] #[.pointer (some R),.pointer (some S)]] 381)):=
   ⟨⟨aI hR4 ((aj _).alloc _),aI hS4 ((aj _).alloc _),aI ajK ((aj _).alloc _),aI ajF ((aj _).alloc _),aE,aE⟩,hI.ext.alloc _,by rw[hC];exact aC W _,hrb,hsb⟩
  have HW:=ah hwi;have hCl:R<C/\S<C/\w.heap.size<=C:=⟨aq,aq,by rw[hC];exact hI.ext.size⟩;clear hI hall hs hr hS hR hsb hrb hS4 hR4 ajF ajK hSu hRu hRl hSl hwi;gi_wp2;rw[<-hC];clear hC;generalize W.alloc _=W0 at *;refine wpIn_loop (λa' W'=>∃(k:Nat) (Ds:List Nat) (bl:List Bool) (sl:List Int) (u7 u8 u9 u23 u24 u25 u26 u27 u28 u29 u30 u31 u32 u33 u34 u35 u36 u37 u38 u39 u40 u41 u42 u43 u44 u45 u46 u47 u48 u49 u50 u51 u52 u53 u54 u55 u56 u57 u58 u59:aA),k<=xs/\WI w C R S rb sb xs bl sl W'/\Marks (C+1) Ds W'/\a'= {tmps:= #[.slice a xs c,.func (.func gf) #[] cap,undef,undef,.pointer (some S),.pointer (some R),.pointer (some C),u7,u8,u9,.slice a xs c,.int .i64 xs,.bool (decide (4096<(xs:Int))),BN,BM,.slice (some sb) xs xs.length,BL,BK,.slice (some rb) xs xs.length,.func (.func 305) #[] #[.pointer (some R),.pointer (some S)],.slice a xs c,.int .i64 xs,.int .i64 k,u23,u24,u25,u26,u27,u28,u29,u30,u31,u32,u33,u34,u35,u36,u37,u38,u39,u40,u41,u42,u43,u44,u45,u46,u47,u48,u49,u50,u51,u52,u53,u54,u55,u56,u57,u58,u59],defers:=Ds.map ahu}) (λa' _=>xs.length-(intOf (a'.tmps.getD 22 undef)).toNat) ?start ?round
  case start=>exact⟨0,[],_,_,_,_,_,_,_,_,_,_,_,_,_,_,_,_,_,_,_,_,_,_,_,_,_,_,_,_,_,_,_,_,_,_,_,_,_,_,_,_,_,_,bP _,HW.o,Marks.nil _ _,rfl⟩
  case round=>
   clear HW;rintro _ W ⟨k,Ds,bl,sl,u7,u8,u9,u23,u24,u25,u26,u27,u28,u29,u30,u31,u32,u33,u34,u35,u36,u37,u38,u39,u40,u41,u42,u43,u44,u45,u46,u47,u48,u49,u50,u51,u52,u53,u54,u55,u56,u57,u58,u59,hk,hI,hM,rfl⟩;by_cases hlt:k<xs
   ·obtain⟨b,o,rfl,r0,r1,r2,r3⟩:=tO.o k hlt;replace r0:=hI.ext.cell r0;replace r1:=hI.ext.cell r1;replace r2:=hI.ext.cell r2;replace r3:=hI.ext.cell r3;have hx:=Aw HOK.o hlt;have hv:=λW s=>at5.o k s W hlt
    obtain⟨x,hxe⟩:∃x,xs[k]=x:=⟨_,rfl⟩;simp only[hxe]at r0 r1 r2 r3 hx;obtain⟨W2,hW2⟩:∃W2,W2=(W.alloc (.cells #[.int .i64 k] 3)).alloc (.cells #[.int .u16 x.c,.int .u8 x.jt,.int .u8 x.jf,.int .u32 x.k] 173):=⟨_,rfl⟩;have hx2:Ext W W2:=by rw[hW2];exact((aj _).alloc _).alloc _
    have g7:W2.heap[W.heap.size]?=some (.cells #[.int .i64 k] 3 (0,0)):=by rw[hW2];exact aI (aC W _) ((aj _).alloc _)
    have g8:=aC (W.alloc (.cells #[.int .i64 k] 3)) (.cells #[.int .u16 x.c,.int .u8 x.jt,.int .u8 x.jf,.int .u32 x.k] 173);rw[<-hW2,aR]at g8;have HX:=ah (ak hx hv);have hI2:=hI.ext' hx2;have hM2:=hM.ext hx2;have hCW:C<W.heap.size:=(aB.1 hI.c).1;have hc0:=((aj W).alloc (.cells #[.int .i64 k] 3)).alloc (.cells #[.int .u16 x.c,.int .u8 x.jt,.int .u8 x.jf,.int .u32 x.k] 173) |>.cell hI.c.cell;have HW2:=ah hW2;have HI2:=ah hI2;have HG:=ah (ak g7 (ak g8 hM2));clear hxe hx hv hI hM hI2 hM2 g7 g8 hW2;cases q0:((k:Int)==0)
    case' true=>have HC:=ah (HI2.o.come 0 aq 0);gi_upto_region 8 with(rw[<-HW2.o];refine⟨trivial,?_⟩;refine tI (bM.2 HC.o) ?_;rintro W1 ⟨⟨bl1,sl1,hI1⟩,ht1⟩;have HJ:=ah (ak hI1 (ak (ht1.blk HG.o.1 (.inr rfl)) (ak (ht1.blk HG.o.2.1 (.inr rfl)) (P9 HG.o.2.2 ht1))));clear hI1 ht1)
    case' false=>
     gi_upto_region 8 with fail
     rw[<-HW2.o];have HJ:=ah (ak HI2.o HG.o);generalize W2=W1 at *;generalize bl=bl1 at *;generalize sl=sl1 at *
    all_goals
     clear HI2 HW2 HG r0 r1 r2 r3 hc0;have d1:=aG HJ.o.1.cw.cR 0
     change W1.cell? R=some _ at d1
     have d2:=aG HJ.o.1.cw.cS 0
     change W1.cell? S=some _ at d2
     have d3:W1.cell? W=some _:=aG HJ.o.2.1 0;have d4:W1.cell? C=some _:=HJ.o.1.c.cell;have d5:=lF HJ.o.1.cw.b (show k<bl1.length by rw[HJ.o.1.cw.lb];exact hlt);have d6:=wS HJ.o.1.cw.s (show k<sl1.length by rw[HJ.o.1.cw.ls];exact hlt);obtain⟨⟨e0,e1,e2,e3⟩,-⟩:=pO HJ.o.2.2.1;have zk:(k:Int)<xs:=aq;cases hrc:bl1.getD k false
     ·rw[hrc]at d5;gi_wp2;exact⟨⟨k+1,Ds,bl1,sl1,_,_,_,_,_,_,_,_,_,_,_,_,_,_,_,_,_,_,_,_,_,_,_,_,_,_,_,_,_,_,_,_,_,_,_,_,_,_,_,_,hlt,HJ.o.1,HJ.o.2.2.2,rfl⟩,by simp[intOf];omega⟩
     ·rw[hrc]at d5;gi_upto_region 9 with fail
      have d2x:=nV d2;have d3x:=nV d3;have d6x:=nV d6;refine vG [] (λX=>∃x:XW W1,X=x.w) ax ?_;have hS0:∃x:XW W1,W1.drew=x.w:=⟨⟨W1.drew,(aj W1).drew⟩,rfl⟩;refine af 0 rfl ?_;refine nW (λ_=>trivial) 1 rfl ax ax ax ax ax hS0 (λK hK=> ?_);go_simp;refine hK _ ?_;clear hK K;refine nW (λ_=>trivial) 2 rfl ax ax ax ax ax hS0 (λK hK=> ?_);go_simp;refine hK _ ?_;clear hK K;refine nW (λ_=>trivial) 3 rfl ax ax ax ax ax hS0 (λK hK=> ?_);go_simp;refine hK _ ?_;clear hK K;refine af 4 rfl ?_;refine nW (λ_=>trivial) 5 rfl ax ax ax ax ax hS0 (λK hK=> ?_);go_simp;refine hK _ ?_;clear hK K;refine jI 6 ax rfl (λK hK=> ?_);go_simp;refine⟨trivial,?_⟩;refine tI (bM.2 (HX.o.2 _ _ ((HJ.o.1.ext).drew))) ?_;intro w3 hx3;have lZ:Ext W1 w3:=(aj W1).drew.trans hx3;refine hK _ _ (λ_=>⟨⟨w3,lZ⟩,rfl⟩) ?_;refine lG ax ?_;dsimp only[V.Calm,Exit.then];have HJ3:=ah (ak (HJ.o.1.ext' lZ) (ak (aI HJ.o.2.1 lZ) (ak (aI HJ.o.2.2.1 lZ) (HJ.o.2.2.2.ext lZ))));have HXo:=ah HX.o.1;replace e0:=lZ.cell e0;replace e1:=lZ.cell e1;replace e2:=lZ.cell e2;replace e3:=lZ.cell e3;replace d3:=lZ.cell d3;clear hK K d1 d2 d4 d5 d6 d2x d3x d6x hS0 hx3 lZ HJ HX;generalize bl1=bl2 at *;gi_wp2_with(refine⟨trivial,?_⟩;refine tI (bM.2 (S9 x k xs _)) ?_;intro w4 hw4);obtain⟨W5,yR⟩:∃W5,W5=((w3.alloc (.cells #[.int .u16 x.c,.int .u8 x.jt,.int .u8 x.jf,.int .u32 x.k] 173)).alloc (.cells #[.int .i64 k] 3)).alloc (.cells #[.int .i64 xs] 3):=⟨_,rfl⟩;rw[<-yR];have hx5:Ext w3 W5:=by rw[yR];exact(((aj _).alloc _).alloc _).alloc _
      have p1:W5.heap[w3.heap.size]?=some (.cells #[.int .u16 x.c,.int .u8 x.jt,.int .u8 x.jf,.int .u32 x.k] 173 (0,0)):=by rw[yR];exact aI (aC w3 (.cells #[.int .u16 x.c,.int .u8 x.jt,.int .u8 x.jf,.int .u32 x.k] 173)) (((aj _).alloc _).alloc _)
      have p2:=aC (w3.alloc (.cells #[.int .u16 x.c,.int .u8 x.jt,.int .u8 x.jf,.int .u32 x.k] 173)) (.cells #[.int .i64 k] 3);have p3:=aC ((w3.alloc (.cells #[.int .u16 x.c,.int .u8 x.jt,.int .u8 x.jf,.int .u32 x.k] 173)).alloc (.cells #[.int .i64 k] 3)) (.cells #[.int .i64 xs] 3);replace p2:=aI p2 ((aj _).alloc (.cells #[.int .i64 xs] 3));rw[<-yR]at p2 p3;simp only[aR]at p2 p3;have hM5:=HJ3.o.2.2.2.ext hx5;have aoB:=hM5.lt;have h5s:=hx5.size;have h7s:=(aB.1 HJ3.o.2.1).1;have h0s:=(HJ3.o.1.ext' hx5).ext.size;have n4:1<=4:=aq;refine wpIn_rangeFunc_ownH (w0:=W5) rfl n4 (gf:=375) (lb:= #[.pointer (some w3),.pointer (some ⟨w3+1,0,none⟩),.pointer (some ⟨w3+1+1,0,none⟩)]) rfl trivial (enters_of func375 ax rfl)
       (S8 _ _ _ x k xs w hlt aq HXo.o W5 p1 p2 p3) (λh k=>h.trans k) (λW' l o o' hl ho hc _=>Kc.putObj aq ho hc) (Below.refl _ _) (λ_=>rfl)
       (λpre W'=>(∃bl sl,WI w C R S rb sb xs bl sl W')/\W'.heap[W.heap.size]?=some (.cells #[.int .i64 k] 3 (0,0))/\W'.heap[W.heap.size+1]?=some (.cells #[.int .u16 x.c,.int .u8 x.jt,.int .u8 x.jf,.int .u32 x.k] 173 (0,0))/\Marks (C+1) Ds W') (λ_ _ _=>False)
       (λs A B' row hs hg hr=> ?hI1) (λ_ _ _ _ _ hs _ _=>hs) ⟨⟨_,_,HJ3.o.1.ext' hx5⟩,aI HJ3.o.2.1 hx5,aI HJ3.o.2.2.1 hx5,hM5⟩
       (λy a' W'=>∃v0 v1 v2 v3 v5 v10 v11 v12 v13 v14 v15 v16 v17 v18 v19 v20 v21 v22 v23 v24 v25 v26 v27 v28 v29 v30 v31 v32 v33 v34 v35 v36 v37 v38 v39 v40 v41 v42 v43 v44 v45 v46 v47 v48 v49 v50 v51 v52 v53 v54 v55 v56 v57 v58 v59,a'= {tmps:= #[v0,v1,v2,v3,.pointer (some S),v5,.pointer (some C),.pointer (some W),.pointer (some ⟨W+1,0,none⟩),.int .i64 ((y:Nat):Int),v10,v11,v12,v13,v14,v15,v16,v17,v18,v19,v20,v21,v22,v23,v24,v25,v26,v27,v28,v29,v30,v31,v32,v33,v34,v35,v36,v37,v38,v39,v40,v41,v42,v43,v44,v45,v46,v47,v48,v49,v50,v51,v52,v53,v54,v55,v56,v57,v58,v59],defers:= []}) (λy a' _ X Y row hs hg hr=>hs)
       ?assign ?body ?done ?stop
      case hI1=>
       obtain⟨⟨bl3,sl3,h1⟩,h2,h3,h4⟩:=hs;have hr2:=λr e=>(hr r e).2
       exact⟨⟨bl3,sl3,h1.row hg hr2 (λr e=>by have:=(hr r e).1;omega)⟩,iY h2 hg hr2,iY h3 hg hr2,h4.grown hg (λr e hD=>by have:=(hr r e).1;have:=aoB r hD;omega)⟩
      case assign=>rintro l pre y W' K hI hK;gi_wp2;exact hK _ _ ((KeepsOthers.refl _).from _) (Kc.refl _ _ _) hI ⟨_,_,_,_,_,_,_,_,_,_,_,_,_,_,_,_,_,_,_,_,_,_,_,_,_,_,_,_,_,_,_,_,_,_,_,_,_,_,_,_,_,_,_,_,_,_,_,_,_,_,_,_,_,_,_,rfl⟩
      case body=>
       rintro l pre y a' W' hl-⟨⟨bl3,sl3,h1⟩,h2,h3,h4⟩ ⟨v0,v1,v2,v3,v5,v10,v11,v12,v13,v14,v15,v16,v17,v18,v19,v20,v21,v22,v23,v24,v25,v26,v27,v28,v29,v30,v31,v32,v33,v34,v35,v36,v37,v38,v39,v40,v41,v42,v43,v44,v45,v46,v47,v48,v49,v50,v51,v52,v53,v54,v55,v56,v57,v58,v59,rfl⟩-;have d1:W'.cell? C=some _:=h1.c.cell;have d2:=aG h1.cw.cS 0
       change W'.cell? S=some _ at d2
       have d3:W'.cell? W=some (.int .i64 k):=aG h2 0;have d6:=wS h1.cw.s (show k<sl3.length by rw[h1.cw.ls];exact hlt);obtain⟨⟨f0,f1,f2,f3⟩,-⟩:=pO h3;have H:=ah (ak h1 (ak h2 (ak h3 h4)));have d1x:=nV d1;have d2x:=nV d2;have d3x:=nV d3;have d6x:=nV d6;have f0x:=nV f0;have f1x:=nV f1;have f2x:=nV f2;have f3x:=nV f3;have HWr:=λX=>Me x (by exact(mZ HXo.o).2.2.2.2.2.2.2.2.2.2.1) X
       unfold m8 at HWr;have HWR:=ah HWr;clear h1 h2 h3 h4 HWr e0 e1 e2 e3 d3;dsimp only;gi_wp2;refine vG [9] (λX=>∃x:XW W',X=x.w) ax ?_;have hS0:∃x:XW W',W'.drew=x.w:=⟨⟨W'.drew,(aj W').drew⟩,rfl⟩;refine am 0 rfl hS0 ?_;refine am 1 rfl hS0 ?_;refine am 2 rfl hS0 ?_;refine am 3 rfl hS0 ?_;refine am 4 rfl hS0 ?_;refine am 5 rfl hS0 ?_;refine am 6 rfl hS0 ?_;refine jI 7 ax rfl (λK hK=> ?_);go_simp;refine⟨trivial,?_⟩;refine tI (CallsIn.inRound l (bM.2 (HWR.o _))) ?_;intro w7 hx7;have C9:Ext W' w7:=(aj W').drew.trans hx7;have hS7:∃x:XW W',w7=x.w:=⟨⟨w7,C9⟩,rfl⟩;refine hK _ _ (λ_=>hS7) ?_;clear hK K hx7;refine jI 8 ax rfl (λK hK=> ?_);go_simp;refine hK _ _ (λ_=>hS7) ?_;clear hK K;refine gP 9 ax rfl ax (λK hK=> ?_);go_simp;refine⟨trivial,?_⟩;refine tI (CallsIn.inRound l (bM.2 ((H.o.1.ext' C9).come y y.2 _))) ?_;rintro w8 ⟨hI8,FD⟩;have ht:TK w VU W' w8:=(TK.ext C9).trans FD;refine hK _ _ ?_;refine lG ax ?_;exact⟨ht.ko.from _,Kc.of ht,hI8,ht.blk H.o.2.1 (.inr rfl),ht.blk H.o.2.2.1 (.inr rfl),P9 H.o.2.2.2 ht⟩
      case done=>rintro D ys W' hD-⟨⟨bl3,sl3,h1⟩,h2,h3,h4⟩ hK;gi_wp2;exact⟨⟨k+1,D::Ds,bl3,sl3,_,_,_,_,_,_,_,_,_,_,_,_,_,_,_,_,_,_,_,_,_,_,_,_,_,_,_,_,_,_,_,_,_,_,_,_,_,_,_,_,hlt,h1,h4.cons (λh=>by have:=aoB D h;omega) hK aq,rfl⟩,by simp[intOf];omega⟩
      case stop=>intro D cd pre W' hD _ hf;exact hf.elim
   ·obtain rfl:k=xs.length:=aq;gi_wp2;refine C5 (B:=C+1) Ds W hM ?_;intro W9 o1 o2 o3 o4 o5 o6;refine⟨.tuple #[],by simp[results,results252,go_sem],rfl,?_⟩;exact Below.trans hI.ext ⟨o1,o2,o3,aq,λj hj=>o5 j (by have:=hCl.2.2;omega)⟩
end LT
end Go.Proofs.YtopfefhenfineaaGreat
