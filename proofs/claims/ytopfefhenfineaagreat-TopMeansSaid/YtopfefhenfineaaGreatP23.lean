import Derived.Test.YtopfefhenfineaaGreatP22
set_option linter.all false
set_option maxRecDepth 100000
set_option maxHeartbeats 8000000
namespace Go.Proofs.YtopfefhenfineaaGreat
open Go.Proofs.Tryz Go.RowKit Go.Shelf bh
attribute[local go_sem] Oper.semAt_some
variable{S:Prop}
def xr(h:S:=by
 have X1:∀aR∈l7,0<=aR:=λaR bL=>by have:=qe aR bL;simp at this;omega
 exact aiq):S:=h
def air(h:S:=by rintro e dy ⟨e6,X2,l7,rfl,ge,qe,hM⟩;have en:Ext W dy:=Below.trans (show Below W W _ from(bF.o.alloc _)) e6;exact xr):S:=h
def ais(h:S:=by
 refine⟨trivial,?_⟩;refine(eP.2 (RZ W _ _ ([]:List Int) ay (jR _ _ _ _))).mono ?_;rintro e dy ⟨e6,X2,l7,rfl,ge,qe,hM⟩;have en:Ext W dy:=Below.trans (show Below W W _ from bF.o) e6;have X1:∀aR∈l7,0<=aR:=λaR bL=>by have:=qe aR bL;cases this
 exact aiq):S:=h
def aiq(h:S:=by
 have X6:l7.length<=2:=cB ge ay;have ait:=h7.o.1 [] W dy none h7.o.2.2 ⟨en.os,en.tape,en.output,en.size,λk hk _=>en.block hk⟩ (λr e=>by cases e);obtain⟨h5,c7,rfl⟩:=dP hM;have aiu:=aJ ce.o.2.2 en;have k9:=z (ah X1 (ah hM (ah ait aiu)));clear e6 ge qe X1 hM ait aiu en c0 c1 c2 c3 a0 dm cs eg h6 cG azR azS azT;gi_wp2;gi_loopw [51] (λi wr=>∃(k:Nat) (pre:List (Fin size)),k<=l7.length/\pre.length=k/\i=H k/\cm pre wr/\gT n0 AX dy wr) (λi _=>l7.length-(intOf i).toNat)
 case atStart=>exact⟨0,[],aE,rfl,rfl,k9.o.2.2.1,gT.refl _ _ _⟩
 case round=>
  obtain⟨k,pre,hk,nS,rfl,ll,pj⟩:=hrel;by_cases ad:k<l7
  ·obtain⟨te,o7,c8,m3,r0⟩:=azU (pj.own k9.o.2.1 rfl) ad;simp only[eZ,true_and]at m3;obtain⟨rfl,rfl⟩:=m3;obtain⟨q,aW⟩:∃q:Nat,l7[k]=(q:Int):=⟨(l7[k]).toNat,by have:=k9.o.1 _ (eB ad);omega⟩;rw[aW]at r0;have U:=aG (pj.kept _ _ _ _ k9.o.2.2.2 rfl) 0
   change wr.cell? ez=some (H size)at U
   have nc:(k:Int)<l7:=aE;by_cases aiv:q<size
   ·obtain⟨fn,tmps,assign,body,bN,bd⟩:=h7.o.2.1 pre ⟨q,aiv⟩ wr ll aE;have xT:(q:Int)<size:=aE;have XL:=z pj;clear pj ll aW;gi_wp2;refine bd.mono ?_;rintro e cd (⟨rfl,vf,hI⟩|⟨rfl,hJx3⟩)
    ·gi_wp2;go_roundw
     case rel=>exact⟨k+1,pre++[⟨q,aiv⟩],aE,by simp[nS],cZ,vf,XL.o.trans hI⟩
     case measure=>exact eO
    ·exact ab8
   ·have xT:(size:Int)<=q:=aE;clear pj aW;gi_wp2;refine⟨(λf h=>by cases h),?_⟩;gi_wp2;refine cO (gq rfl _ _ _) rfl ?_;exact⟨⟨_,rfl⟩,.inl ⟨_,trivial,ll⟩⟩
  ·obtain rfl:k=l7.length:=aE;gi_wp2
   first|go_end0|refine cO (gq rfl _ _ _) rfl ?_
   exact⟨⟨_,rfl⟩,.inl ⟨_,trivial,ll⟩⟩):S:=h
namespace LT
open yK (i3)
variable{aq B W w:G}{bz:Nat->Bool}{base e i k l n n0:Nat}{v:K}
structure gT(n0:Nat)(bz:Nat->Bool)(aq B:G):Prop where
 os:B.os=aq.os
 tape:B.tape=aq.tape
 output:B.output=aq.output
 size:aq.heap.size<=B
 low:∀k,k<n0->k<aq.heap.size->B.heap[k]?=aq.heap[k]?
 kept:∀(k:Nat) (U:Array K) (t:dD) (fr:Nat×Nat),aq.heap[k]?=some (J U t fr)->bz t=false->B.heap[k]?=some (J U t fr)
def gT.refl(n0:Nat)(bz:Nat->Bool)(aq:G):gT n0 bz aq aq:=⟨rfl,rfl,rfl,aZ _,λ_ _ _=>rfl,λ_ _ _ _ h _=>h⟩
def gT.trans{n0:Nat}{bz:Nat->Bool}{aq B C:G}(h:gT n0 bz aq B)(k:gT n0 bz B C):gT n0 bz aq C:=
 ⟨k.os.trans h.os,k.tape.trans h.tape,k.output.trans h.output,cB h.size k.size,λi h1 h2=>(k.low i h1 (vw h2 h.size)).trans (h.low i h1 h2),λi U t fr h1 h2=>k.kept i U t fr (h.kept i U t fr h1 h2) h2⟩
def gT.of(h:bq n0 bz aq B):gT n0 bz aq B:=
 ⟨h.os,h.tape,h.output,h.size,λk h1 h2=>(h.kept k _ (sG h2) (.inl h1)).trans (sG h2).symm,λ_ _ _ _ h1 h2=>h.blk h1 (.inr h2)⟩
def gT.own(h:gT n0 bz aq B){b3:List K}(ho:aq.ownsRow base e n v k b3)(bx:bz e=false):B.ownsRow base e n v k b3:=by
 refine⟨ho.1,?_⟩;rcases ho.2 with h2|⟨g,cap,bm,rfl,hg,be,r⟩
 ·exact .inl h2
 ·exact .inr ⟨g,cap,bm,rfl,hg,h.kept _ _ _ _ be bx,r⟩
def gT.putObj{o fe:Obj}(hn:n0<=l)(X:W.heap[l]?=some o)(ho:o.isCells=false):gT n0 bz W (W.putObj l fe):=
 ⟨rfl,rfl,rfl,ay,λk h1 _=>World.putObj_heap_other aE,λk U t fr h1 _=>(World.putObj_heap_other (λe=>by subst e;rw[X]at h1;cases h1;cases ho)).trans h1⟩
def azU{A:List Int}(h:w.ownsRow base 3 1 v A (A.flatMap jG.qV))(hi:i<A):∃b o c,v=E (some ⟨b,o,none⟩) A c/\w.cell? ⟨b,o+i,none⟩=some (H A[i]):=by obtain⟨a,c,h1,h2,T,af⟩:=eD (show∀x,(jG.qV x).length=1 fromλ_=>rfl) h;obtain⟨b,o,e,k⟩:=af i hi;subst e;have eK:=k 0 (by simp[jG.qV]);rw[qA,nO]at eK;exact⟨b,o,c,h1,by simpa[jG.qV]using eK⟩
theorem azV(l Jz G0 ez:Nat)(x:Ix)(at_ size n0:Nat)(b8:at_<size)(ci:size<=4096)(D:mY x (size-1-at_)=true)(cm g8:List (Fin size)->G->Prop)(W:G)(lx:AbidesFrom W cm)(hu:∀(pre:List (Fin size)) (y:Fin size) az,cm pre az->pre.length<3->YieldAt Fence.wide (3-1) prog l #[H ((y:Nat):Int)] az λe aa=>(e=aI (av true)/\cm (pre++[y]) aa/\gT n0 AX az aa)\/(e=aI (av false)/\g8 (pre++[y]) aa))(bi:W.heap[Jz]?=some (J #[bf x.c,aC x.jt,aC x.jf,M x.k] 173 (0,0)))(ba:W.heap[G0]?=some (J #[H at_] 3 (0,0)))(bs:W.heap[ez]?=some (J #[H size] 3 (0,0)))(ae:cm [] W):CallsIn Fence.wide 3 prog 375 #[.func (.yield l) #[] #[],aB (some Jz),aB (some G0),aB (some ez)] W λe aa=>(∃v,e=aI v)/\((∃ys,True/\cm ys aa)\/(∃pre,True/\g8 pre aa)):=by
 obtain⟨h1,h2,T,af,-,-,-,-,-,-,-,-,GT,GW⟩:=AV D;have cn:=yK.jT x.c W;obtain⟨⟨c0,c1,c2,c3⟩,-⟩:=jY bi;have a0:=aG ba 0
 change W.cell? G0=some (H at_)at a0
 have cx:=z cn;have ce:=z (ah bi (ah ba bs));have h7:=z (ah lx (ah hu ae));clear cn bi ba bs lx hu ae D;refine y8 func375 rfl trivial ?_ rfl;simp only[ntmps375,ku,dJ,fu,Nat.reduceAdd,Nat.reduceSub,oD,oC,oH,oG,iq,gZ];gi_wp2_with(refine⟨trivial,?_⟩;refine iN (eP.2 cx.o) ?_;intro I Q;have bF:=z Q;have dm:=Q.cell c0;have cs:=Q.cell c1;have eg:=Q.cell c2;have h6:=Q.cell c3;have cG:=Q.cell a0;have azR:=λo=>((O I).alloc o).cell dm;have azS:=λo=>((O I).alloc o).cell h6;have azT:=λo=>((O I).alloc o).cell cG;clear Q)
 ·exact ais
 ·exact ais
 ·refine⟨trivial,?_⟩;refine(eP.2 (RZ W _ _ [(at_:Int)+1+x.k] ay (qQ (show∀x,(jG.qV x).length=1 fromλ_=>rfl) _ [(at_:Int)+1+x.k] 3 _ _ ay (bF.o.alloc _).size vF))).mono ?_;rintro e dy ⟨e6,X2,l7,rfl,ge,qe,hM⟩;have en:Ext W dy:=Below.trans (show Below W W _ from((bF.o.alloc _).alloc _)) e6;exact xr
 ·refine⟨trivial,?_⟩;refine(eP.2 (RZ W _ _ [(at_:Int)+1+min (x.jt:Int) (x.jf:Int),(at_:Int)+1+max (x.jt:Int) (x.jf:Int)] ay (qQ (show∀x,(jG.qV x).length=1 fromλ_=>rfl) _ [(at_:Int)+1+min (x.jt:Int) (x.jf:Int),(at_:Int)+1+max (x.jt:Int) (x.jf:Int)] 3 _ _ ay (bF.o).size vF))).mono ?_;exact air
 ·refine⟨trivial,?_⟩;refine(eP.2 (RZ W _ _ [(at_:Int)+1] ay (qQ (show∀x,(jG.qV x).length=1 fromλ_=>rfl) _ [(at_:Int)+1] 3 _ _ ay (bF.o).size vF))).mono ?_;exact air
end LT
end Go.Proofs.YtopfefhenfineaaGreat
namespace Go.Proofs.YtopfefhenfineaaGreat
open Go.Proofs.Tryz Go.RowKit Go.Shelf bh
attribute[local go_sem] Oper.semAt_some bh.Oper.idle bh.Oper.lV bh.Oper.jF
variable{S:Prop}
def aiw(h:S:=by exact⟨e4,d1,lB,md,f3.blk Cn (.inr rfl),λazW=>aix (azW.resolve_left Y)⟩):S:=h
def R3(h:S:=by exact⟨e4,lB,md,f3.blk Cn (.inr rfl)⟩):S:=h
def AZ(h:S:=by clear bS bJ;go_simp;exact⟨_,_,_,_,_,_,_,_,⟨rfl,rfl,rfl,rfl,rfl,rfl,rfl,rfl⟩,cg.o⟩):S:=h
def JA(h:S:=by obtain⟨b,u,bk,bW,d7,g3⟩:=h.l7 (l.resolve_left (by decide));exact⟨b,u,bk,bW,d7,λzb=>g3 (zb.resolve_left (by decide))⟩):S:=h
def JB(h:S:=by obtain⟨b,u,bk,bW,d7,g3⟩:=h.l6 (l.resolve_left (by decide));exact⟨b,u,bk,bW,d7,λzb=>g3 (zb.resolve_left (by decide))⟩):S:=h
namespace LT
theorem azX(n:Nat)(hn:n<=1000000)(W:G):(Instr.makeSlice 424 (H n) (H n)).run prog W= .ok (E (some W) n n) (W.alloc (J (zx (List.replicate n 0)) 171)):=by have i5:(Tryz.prog.info? 171).map (λi=>(i.zero,i.size,i.bytes))=some (some (bf 0),1,2):=aj;obtain⟨i,h1,h2,T,af⟩:=sJ i5;have hr:=run_make (P:=prog) W 424 171 i _ underlying424 h1 h2 .i64 .i64 n n aE aE Lb aE;rw[T,kr,IV _ rfl]at hr;rw[hr];simp[zx]
structure iQ(w:G)(bh:K)(n:Nat)(L:Nat->Prop)(gO hE j8 j9 io j' kb ir:K)(W:G):Prop where
 ext:Ext w W
 l0:L 0->j8=bh
 l1:L 1->j9=H n
 l2:L 2->∃b,w.heap.size<=b/\io=E (some ⟨b,0,none⟩) n n/\W.heap[b]?=some (J (zx (List.replicate n 0)) 171 (0,0))
 l3:L 3->j'=bh
 l4:L 4->kb=H n
 l5:L 5->∃b,w.heap.size<=b/\ir=E (some ⟨b,0,none⟩) n n/\W.heap[b]?=some (J (oQ (List.replicate n false)) 4 (0,0))
 l6:L 6->∃b u,w.heap.size<=b/\gO=aB (some ⟨b,0,none⟩)/\W.heap[b]?=some (J #[u] 424 (0,0))/\(L 8->u=io)
 l7:L 7->∃b u,w.heap.size<=b/\hE=aB (some ⟨b,0,none⟩)/\W.heap[b]?=some (J #[u] 425 (0,0))/\(L 9->u=ir)
 d8:L 8->L 2/\L 6
 d9:L 9->L 5/\L 7
section
variable {w:G} {bh:K} {n:Nat} {L:Nat->Prop} {gO hE j8 j9 io j' kb ir:K} {W:G}
def iQ.ext'(h:iQ w bh n L gO hE j8 j9 io j' kb ir W){aa:G}(D:Ext W aa):iQ w bh n L gO hE j8 j9 io j' kb ir aa:=
 ⟨h.ext.trans D,h.l0,h.l1,λl=>by obtain⟨b,h1,h2,T⟩:=h.l2 l;exact⟨b,h1,h2,aJ T D⟩,h.l3,h.l4,λl=>by obtain⟨b,h1,h2,T⟩:=h.l5 l;exact⟨b,h1,h2,aJ T D⟩,
  λl=>by obtain⟨b,u,h1,h2,T,af⟩:=h.l6 l;exact⟨b,u,h1,h2,aJ T D,af⟩,λl=>by obtain⟨b,u,h1,h2,T,af⟩:=h.l7 l;exact⟨b,u,h1,h2,aJ T D,af⟩,h.d8,h.d9⟩
abbrev zA(L:Nat->Prop)(j:Nat):Nat->Prop:=λk=>k=j\/L k
def iQ.o0(h:iQ w bh n L gO hE j8 j9 io j' kb ir W):iQ w bh n (zA L 0) gO hE bh j9 io j' kb ir W:=
 ⟨h.ext,λ_=>rfl,λl=>h.l1 (l.resolve_left Y),λl=>h.l2 (l.resolve_left Y),λl=>h.l3 (l.resolve_left Y),λl=>h.l4 (l.resolve_left Y),λl=>h.l5 (l.resolve_left Y),λl=>JB,λl=>JA,λl=>⟨.inr (h.d8 (l.resolve_left Y)).1,.inr (h.d8 (l.resolve_left Y)).2⟩,λl=>⟨.inr (h.d9 (l.resolve_left Y)).1,.inr (h.d9 (l.resolve_left Y)).2⟩⟩
def iQ.o3(h:iQ w bh n L gO hE j8 j9 io j' kb ir W):iQ w bh n (zA L 3) gO hE j8 j9 io bh kb ir W:=
 ⟨h.ext,λl=>h.l0 (l.resolve_left Y),λl=>h.l1 (l.resolve_left Y),λl=>h.l2 (l.resolve_left Y),λ_=>rfl,λl=>h.l4 (l.resolve_left Y),λl=>h.l5 (l.resolve_left Y),λl=>JB,λl=>JA,λl=>⟨.inr (h.d8 (l.resolve_left Y)).1,.inr (h.d8 (l.resolve_left Y)).2⟩,λl=>⟨.inr (h.d9 (l.resolve_left Y)).1,.inr (h.d9 (l.resolve_left Y)).2⟩⟩
def iQ.o1(h:iQ w bh n L gO hE j8 j9 io j' kb ir W):iQ w bh n (zA L 1) gO hE j8 (H n) io j' kb ir W:=
 ⟨h.ext,λl=>h.l0 (l.resolve_left Y),λ_=>rfl,λl=>h.l2 (l.resolve_left Y),λl=>h.l3 (l.resolve_left Y),λl=>h.l4 (l.resolve_left Y),λl=>h.l5 (l.resolve_left Y),λl=>JB,λl=>JA,λl=>⟨.inr (h.d8 (l.resolve_left Y)).1,.inr (h.d8 (l.resolve_left Y)).2⟩,λl=>⟨.inr (h.d9 (l.resolve_left Y)).1,.inr (h.d9 (l.resolve_left Y)).2⟩⟩
def iQ.o4(h:iQ w bh n L gO hE j8 j9 io j' kb ir W):iQ w bh n (zA L 4) gO hE j8 j9 io j' (H n) ir W:=
 ⟨h.ext,λl=>h.l0 (l.resolve_left Y),λl=>h.l1 (l.resolve_left Y),λl=>h.l2 (l.resolve_left Y),λl=>h.l3 (l.resolve_left Y),λ_=>rfl,λl=>h.l5 (l.resolve_left Y),λl=>JB,λl=>JA,λl=>⟨.inr (h.d8 (l.resolve_left Y)).1,.inr (h.d8 (l.resolve_left Y)).2⟩,λl=>⟨.inr (h.d9 (l.resolve_left Y)).1,.inr (h.d9 (l.resolve_left Y)).2⟩⟩
def iQ.o2(h:iQ w bh n L gO hE j8 j9 io j' kb ir W)(hn:¬L 2){b:Nat}(V:w.heap.size<=b)(be:W.heap[b]?=some (J (zx (List.replicate n 0)) 171 (0,0))):iQ w bh n (zA L 2) gO hE j8 j9 (E (some b) n n) j' kb ir W:=
 ⟨h.ext,λl=>h.l0 (l.resolve_left Y),λl=>h.l1 (l.resolve_left Y),λ_=>⟨b,V,rfl,be⟩,λl=>h.l3 (l.resolve_left Y),λl=>h.l4 (l.resolve_left Y),λl=>h.l5 (l.resolve_left Y),λl=>(by obtain⟨b,u,bk,bW,d7,g3⟩:=h.l6 (l.resolve_left Y);exact⟨b,u,bk,bW,d7,λzb=>absurd (h.d8 (zb.resolve_left Y)).1 hn⟩),λl=>JA,λl=>⟨.inr (h.d8 (l.resolve_left Y)).1,.inr (h.d8 (l.resolve_left Y)).2⟩,λl=>⟨.inr (h.d9 (l.resolve_left Y)).1,.inr (h.d9 (l.resolve_left Y)).2⟩⟩
def iQ.o5(h:iQ w bh n L gO hE j8 j9 io j' kb ir W)(hn:¬L 5){b:Nat}(V:w.heap.size<=b)(be:W.heap[b]?=some (J (oQ (List.replicate n false)) 4 (0,0))):iQ w bh n (zA L 5) gO hE j8 j9 io j' kb (E (some b) n n) W:=
 ⟨h.ext,λl=>h.l0 (l.resolve_left Y),λl=>h.l1 (l.resolve_left Y),λl=>h.l2 (l.resolve_left Y),λl=>h.l3 (l.resolve_left Y),λl=>h.l4 (l.resolve_left Y),λ_=>⟨b,V,rfl,be⟩,λl=>JB,λl=>(by obtain⟨b,u,bk,bW,d7,g3⟩:=h.l7 (l.resolve_left Y);exact⟨b,u,bk,bW,d7,λzb=>absurd (h.d9 (zb.resolve_left Y)).1 hn⟩),λl=>⟨.inr (h.d8 (l.resolve_left Y)).1,.inr (h.d8 (l.resolve_left Y)).2⟩,λl=>⟨.inr (h.d9 (l.resolve_left Y)).1,.inr (h.d9 (l.resolve_left Y)).2⟩⟩
def iQ.o6(h:iQ w bh n L gO hE j8 j9 io j' kb ir W)(hn:¬L 6){b:Nat}{u:K}(V:w.heap.size<=b)(be:W.heap[b]?=some (J #[u] 424 (0,0))):iQ w bh n (zA L 6) (aB (some b)) hE j8 j9 io j' kb ir W:=
 ⟨h.ext,λl=>h.l0 (l.resolve_left Y),λl=>h.l1 (l.resolve_left Y),λl=>h.l2 (l.resolve_left Y),λl=>h.l3 (l.resolve_left Y),λl=>h.l4 (l.resolve_left Y),λl=>h.l5 (l.resolve_left Y),λ_=>⟨b,u,V,rfl,be,λzb=>absurd (h.d8 (zb.resolve_left Y)).2 hn⟩,λl=>JA,λl=>⟨.inr (h.d8 (l.resolve_left Y)).1,.inr (h.d8 (l.resolve_left Y)).2⟩,λl=>⟨.inr (h.d9 (l.resolve_left Y)).1,.inr (h.d9 (l.resolve_left Y)).2⟩⟩
def iQ.o7(h:iQ w bh n L gO hE j8 j9 io j' kb ir W)(hn:¬L 7){b:Nat}{u:K}(V:w.heap.size<=b)(be:W.heap[b]?=some (J #[u] 425 (0,0))):iQ w bh n (zA L 7) gO (aB (some b)) j8 j9 io j' kb ir W:=
 ⟨h.ext,λl=>h.l0 (l.resolve_left Y),λl=>h.l1 (l.resolve_left Y),λl=>h.l2 (l.resolve_left Y),λl=>h.l3 (l.resolve_left Y),λl=>h.l4 (l.resolve_left Y),λl=>h.l5 (l.resolve_left Y),λl=>JB,λ_=>⟨b,u,V,rfl,be,λzb=>absurd (h.d9 (zb.resolve_left Y)).2 hn⟩,λl=>⟨.inr (h.d8 (l.resolve_left Y)).1,.inr (h.d8 (l.resolve_left Y)).2⟩,λl=>⟨.inr (h.d9 (l.resolve_left Y)).1,.inr (h.d9 (l.resolve_left Y)).2⟩⟩
def iQ.o8(h:iQ w bh n L gO hE j8 j9 io j' kb ir W)(h2:L 2)(a9:L 6){b:Nat}(e:gO=aB (some b)):iQ w bh n (zA L 8) gO hE j8 j9 io j' kb ir (W.setCell b io):=by
 obtain⟨pp,ui,bk,bW,d7,-⟩:=h.l6 a9;subst e;simp only[Value.pointer.injEq,jB,pJ,and_true]at bW;subst bW;have f3:bq w (lT 424) W (W.setCell b io):=bq.set (p:=⟨b,0,none⟩) d7 rfl bk _;refine⟨h.ext.setCell (by exact bk) _,λl=>h.l0 (l.resolve_left Y),λl=>h.l1 (l.resolve_left Y),λl=> ?_,λl=>h.l3 (l.resolve_left Y),λl=>h.l4 (l.resolve_left Y),λl=> ?_,λ_=>⟨b,io,bk,rfl,fH d7 0 io,λ_=>rfl⟩,λl=> ?_,λ_=>⟨.inr h2,.inr a9⟩,λl=>⟨.inr (h.d9 (l.resolve_left Y)).1,.inr (h.d9 (l.resolve_left Y)).2⟩⟩
 ·obtain⟨e4,lB,md,Cn⟩:=h.l2 (l.resolve_left Y);exact R3
 ·obtain⟨e4,lB,md,Cn⟩:=h.l5 (l.resolve_left Y);exact R3
 ·obtain⟨e4,d1,lB,md,Cn,aix⟩:=h.l7 (l.resolve_left Y);exact aiw
def iQ.o9(h:iQ w bh n L gO hE j8 j9 io j' kb ir W)(aQ:L 5)(cF:L 7){b:Nat}(e:hE=aB (some b)):iQ w bh n (zA L 9) gO hE j8 j9 io j' kb ir (W.setCell b ir):=by
 obtain⟨pp,ui,bk,bW,d7,-⟩:=h.l7 cF;subst e;simp only[Value.pointer.injEq,jB,pJ,and_true]at bW;subst bW;have f3:bq w (lT 425) W (W.setCell b ir):=bq.set (p:=⟨b,0,none⟩) d7 rfl bk _;refine⟨h.ext.setCell (by exact bk) _,λl=>h.l0 (l.resolve_left Y),λl=>h.l1 (l.resolve_left Y),λl=> ?_,λl=>h.l3 (l.resolve_left Y),λl=>h.l4 (l.resolve_left Y),λl=> ?_,λl=> ?_,λ_=>⟨b,ir,bk,rfl,fH d7 0 ir,λ_=>rfl⟩,λl=>⟨.inr (h.d8 (l.resolve_left Y)).1,.inr (h.d8 (l.resolve_left Y)).2⟩,λ_=>⟨.inr aQ,.inr cF⟩⟩
 ·obtain⟨e4,lB,md,Cn⟩:=h.l2 (l.resolve_left Y);exact R3
 ·obtain⟨e4,lB,md,Cn⟩:=h.l5 (l.resolve_left Y);exact R3
 ·obtain⟨e4,d1,lB,md,Cn,aix⟩:=h.l6 (l.resolve_left Y);exact aiw
def iQ.sub(h:iQ w bh n L gO hE j8 j9 io j' kb ir W){f8:Nat->Prop}(em:∀k,f8 k↔L k):iQ w bh n f8 gO hE j8 j9 io j' kb ir W:=by
 have:f8=L:=funext λk=>propext (em k)
 rw[this];exact h
end
def aiy{B n0:Nat}{bz:Nat->Bool}{Ds:List Nat}{aq RM:G}(h:Marks B Ds aq)(an:bq n0 bz aq RM):Marks B Ds RM:=
 h.kept λax cE=>(an.kept ax _ (h.lies ax cE).1 (.inr λ_ _ _ e=>by cases e)).trans (h.lies ax cE).1.symm
structure yc(w:G)(C aH a7 rb ix n:Nat)(gE:List Bool)(j4:List Int)(W:G):Prop where
 cw:AY aH a7 rb ix n gE j4 W
 ext:Ext w W
 c:Boxed W C 381 (.func (.func 305) #[] #[aB (some aH),aB (some a7)])
 h1:w.heap.size<=rb
 h2:w.heap.size<=ix
section
variable {w W aa:G} {C aH a7 rb ix n:Nat} {gE:List Bool} {j4:List Int}
def yc.ext'(h:yc w C aH a7 rb ix n gE j4 W)(D:Ext W aa):yc w C aH a7 rb ix n gE j4 aa:=
 ⟨⟨aJ h.cw.cR D,aJ h.cw.cS D,aJ h.cw.b D,aJ h.cw.s D,h.cw.lb,h.cw.ls⟩,h.ext.trans D,aJ h.c D,h.h1,h.h2⟩
theorem yc.come(h:yc w C aH a7 rb ix n gE j4 W)(i:Nat)(hi:i<n)(m:Int):Calls prog 305 #[H i,bf m,aB (some aH),aB (some a7)] W λe F=>e=aI (bH #[])/\(∃M1 M2,yc w C aH a7 rb ix n M1 M2 F)/\bq w AX W F:=
 (azP h.cw h.h1 h.h2 i hi m).mono λ_ _ ⟨e,M1,M2,ao,an⟩=>⟨e,⟨M1,M2,ao,an.lX h.ext (aZ _),an.boxed h.c rfl,h.h1,h.h2⟩,an⟩
end
theorem azY(Jz G0 ez:Nat)(x:Ix)(at_ size n0:Nat)(b8:at_<size)(ci:size<=4096)(D:mY x (size-1-at_)=true)(w0:G)(bi:w0.heap[Jz]?=some (J #[bf x.c,aC x.jt,aC x.jf,M x.k] 173 (0,0)))(ba:w0.heap[G0]?=some (J #[H at_] 3 (0,0)))(bs:w0.heap[ez]?=some (J #[H size] 3 (0,0))):SeqStopsK Fence.wide 3 prog 375 #[aB (some Jz),aB (some G0),aB (some ez)] (λy:Fin size=> #[H ((y:Nat):Int)]) (gT n0 AX) (λ_=>True) (λ_=>True) 3 w0:=
 λl cm g8 W V lx _ hu ae=>azV l Jz G0 ez x at_ size n0 b8 ci D cm g8 W lx hu (aJ bi V) (aJ ba V) (aJ bs V) ae
def yc.row{w W aq:G}{C aH a7 rb ix n:Nat}{gE:List Bool}{j4:List Int}(h:yc w C aH a7 rb ix n gE j4 W){row:Option Nat}(hg:W.grownBy aq row)(hr:∀r,row=some r->∃o:Obj,W.heap[r]?=some o/\o.isCells=false)(cQ:∀r,row=some r->w.heap.size<=r):yc w C aH a7 rb ix n gE j4 aq:=
 ⟨⟨jl h.cw.cR hg hr,jl h.cw.cS hg hr,jl h.cw.b hg hr,jl h.cw.s hg hr,h.cw.lb,h.cw.ls⟩,h.ext.grown hg cQ,jl h.c hg hr,h.h1,h.h2⟩
theorem azZ(v:K)(A:List Ix)(X:A.length<=4096)(gf:Nat)(cap:Array K)(g1:∀args w,(callFunc gf args).run prog w= .ok (.enter gf args) w)(cv:oV A=true)(w:G)(hv:aS w 4 iD v A)(RR:∀(i:Nat)(s:Int) W,i<A->Ext w W->Calls prog gf (#[H i,bf s]++cap) W λe F=>e=aI (bH #[])/\Ext W F):aM 252 #[v,.func (.func gf) #[] cap] w (bH #[]):=by
 obtain⟨a,c,rfl,ep,bV⟩:=G6 hv;have k1:=z hv;have gt:=z bV;have az0:=z RR;have X7:=z cv;clear hv bV RR cv;refine(eP (n:=4)).1 ?_;refine callsIn_of_wp_marks func252 rfl trivial ?_ rfl;simp only[ntmps252,ku,dJ,fu,Nat.reduceAdd,Nat.reduceSub,oD,oC,oH,oG,iq,gZ];gi_upto_region 1 with(fail)
 refine az1 aj (λlisted bu aa=>listed.size=10/\∃gO hE j8 j9 io j' kb ir,bu= {tmps:= #[E a A c,.func (.func gf) #[] cap,undef,undef,gO,hE,undef,undef,undef,undef,E a A c,H A,av (decide (4096<(A:Int))),j8,j9,io,j',kb,ir,undef,undef,undef,undef,undef,undef,undef,undef,undef,undef,undef,undef,undef,undef,undef,undef,undef,undef,undef,undef,undef,undef,undef,undef,undef,undef,undef,undef,undef,undef,undef,undef,undef,undef,undef,undef,undef,undef,undef,undef,undef],defers:= []}/\iQ w (E a A c) A (λk=>listed.getD k false=true) gO hE j8 j9 io j' kb ir aa) ?ae ?v8 ?sA
 case ae=>have ai:∀k,k<10->(Array.replicate 10 false).getD k false=true->False:=Y;exact⟨rfl,_,_,_,_,_,_,_,_,rfl,(O _).drew,λl=>(ai 0 Y l).elim,λl=>(ai 1 Y l).elim,λl=>(ai 2 Y l).elim,λl=>(ai 3 Y l).elim,λl=>(ai 4 Y l).elim,λl=>(ai 5 Y l).elim,λl=>(ai 6 Y l).elim,λl=>(ai 7 Y l).elim,λl=>(ai 8 Y l).elim,λl=>(ai 9 Y l).elim⟩
 case v8=>
  rintro listed _ W ⟨ab,gO,hE,j8,j9,io,j',kb,ir,rfl,bS⟩ i hi;obtain⟨ad,ro⟩:=az2 hi;have Ak:i<10:=ad;have hp:¬listed.getD i false=true:=by have:i<listed.size:=aE;simpa[this]using ro
  have bJ:∀k,(listed.setIfInBounds i true)[k]?.getD false=true↔zA (λk=>listed.getD k false=true) i k:=λk=>by rw[<-Array.getD_eq_getD_getElem?];exact(az3 aE k).symm
  have da:i=0\/i=1\/i=2\/i=3\/i=4\/i=5\/i=6\/i=7\/i=8\/i=9:=aE;rcases da with rfl|rfl|rfl|rfl|rfl|rfl|rfl|rfl|rfl|rfl
  ·refine A9 rfl ?_;have cg:=z ((bS.o0).sub bJ);exact AZ
  ·refine A9 rfl ?_;obtain rfl:=bS.l0 (yg hi aj);have cg:=z ((bS.o1).sub bJ);exact AZ
  ·refine A9 rfl ?_;obtain rfl:=bS.l1 (yg hi aj);have uC:=azX A aE W;have cg:=z (((bS.ext' ((O W).alloc (J (zx (List.replicate A 0)) 171))).o2 hp bS.ext.size (bA W _)).sub bJ);exact AZ
  ·refine A9 rfl ?_;have cg:=z ((bS.o3).sub bJ);exact AZ
  ·refine A9 rfl ?_;obtain rfl:=bS.l3 (yg hi aj);have cg:=z ((bS.o4).sub bJ);exact AZ
  ·refine A9 rfl ?_;obtain rfl:=bS.l4 (yg hi aj);have uC:=ae3 A aE W;have cg:=z (((bS.ext' ((O W).alloc (J (oQ (List.replicate A false)) 4))).o5 hp bS.ext.size (bA W _)).sub bJ);exact AZ
  ·refine A9 rfl ?_;have cg:=z (((bS.ext' ((O W).alloc (J #[E none 0 0] 424))).o6 hp bS.ext.size (bA W _)).sub bJ);exact AZ
  ·refine A9 rfl ?_;have cg:=z (((bS.ext' ((O W).alloc (J #[E none 0 0] 425))).o7 hp bS.ext.size (bA W _)).sub bJ);exact AZ
  ·refine A9 rfl ?_;obtain⟨pp,ui,-,rfl,d7,-⟩:=bS.l6 (yg hi aj);obtain⟨b2,-,rfl,-⟩:=bS.l2 (yg hi aj);have y0:W.cell? pp=some ui:=aG d7 0;have f0:=dw d7 0;clear d7;have cg:=z ((bS.o8 (yg hi aj) (yg hi aj) rfl).sub bJ);exact AZ
  ·refine A9 rfl ?_;obtain⟨pp,ui,-,rfl,d7,-⟩:=bS.l7 (yg hi aj);obtain⟨b2,-,rfl,-⟩:=bS.l5 (yg hi aj);have y0:W.cell? pp=some ui:=aG d7 0;have f0:=dw d7 0;clear d7;have cg:=z ((bS.o9 (yg hi aj) (yg hi aj) rfl).sub bJ);exact AZ
 case sA=>
  rintro listed _ W ⟨ab,gO,hE,j8,j9,io,j',kb,ir,rfl,bS⟩ hr;have fX:=az4 hr (by rw[ab];rfl) aj;obtain⟨a7,aNl,hS,rfl,JC,aiz⟩:=bS.l6 (fX 6 Y);obtain⟨aH,Jn,bd,rfl,RT,xd⟩:=bS.l7 (fX 7 Y);obtain⟨ix,jn,rfl,X8⟩:=bS.l2 (fX 2 Y);obtain⟨rb,MD,rfl,X9⟩:=bS.l5 (fX 5 Y);obtain rfl:=aiz (fX 8 Y);obtain rfl:=xd (fX 9 Y);have aNm:AY aH a7 rb ix A (List.replicate A false) (List.replicate A 0) W:=⟨RT,JC,X9,X8,ay,ay⟩;obtain⟨C,cq⟩:∃C,C=W.heap.size:=⟨_,rfl⟩;have tj:=(dG.1 RT).1;have az5:=(dG.1 JC).1;have DA:yc w C aH a7 rb ix A (List.replicate A false) (List.replicate A 0) (W.alloc (J #[.func (.func 305) #[] #[aB (some aH),aB (some a7)]] 381)):=
   ⟨⟨aJ RT ((O _).alloc _),aJ JC ((O _).alloc _),aJ X9 ((O _).alloc _),aJ X8 ((O _).alloc _),ay,ay⟩,bS.ext.alloc _,by rw[cq];exact bA W _,MD,jn⟩
  have eo:=z DA;have Qh:aH<C/\a7<C/\w.heap.size<=C:=⟨aE,aE,by rw[cq];exact bS.ext.size⟩;clear bS fX ab hr hS bd jn MD JC RT X8 X9 aiz xd tj az5 DA;gi_wp2;rw[<-cq];clear cq;generalize W.alloc _=bX at *;refine wpIn_loop (λbu aa=>∃(k:Nat) (Ds:List Nat) (gE:List Bool) (j4:List Int) (aiA u8 JD aiB aiC aiD aiE aiF aiG aiH aiI aiJ u32 aiK aiL aiM aiN aiO aiP aiQ aiR aiS aiT aiU aiV aiW aiX aiY aiZ ai0 ai1 ai2 ai3 ai4 ai5 ai6 ai7 ai8 ai9 aja:K),k<=A/\yc w C aH a7 rb ix A gE j4 aa/\Marks (C+1) Ds aa/\bu= {tmps:= #[E a A c,.func (.func gf) #[] cap,undef,undef,aB (some a7),aB (some aH),aB (some C),aiA,u8,JD,E a A c,H A,av (decide (4096<(A:Int))),j8,j9,E (some ix) A A.length,j',kb,E (some rb) A A.length,.func (.func 305) #[] #[aB (some aH),aB (some a7)],E a A c,H A,H k,aiB,aiC,aiD,aiE,aiF,aiG,aiH,aiI,aiJ,u32,aiK,aiL,aiM,aiN,aiO,aiP,aiQ,aiR,aiS,aiT,aiU,aiV,aiW,aiX,aiY,aiZ,ai0,ai1,ai2,ai3,ai4,ai5,ai6,ai7,ai8,ai9,aja],defers:=Ds.map acU}) (λbu _=>A.length-(intOf (bu.tmps.getD 22 undef)).toNat) ?start ?round
  case start=>exact⟨0,[],_,_,_,_,_,_,_,_,_,_,_,_,_,_,_,_,_,_,_,_,_,_,_,_,_,_,_,_,_,_,_,_,_,_,_,_,_,_,_,_,_,_,eG _,eo.o,Marks.nil _ _,rfl⟩
  case round=>
   clear eo;rintro _ W ⟨k,Ds,gE,j4,aiA,u8,JD,aiB,aiC,aiD,aiE,aiF,aiG,aiH,aiI,aiJ,u32,aiK,aiL,aiM,aiN,aiO,aiP,aiQ,aiR,aiS,aiT,aiU,aiV,aiW,aiX,aiY,aiZ,ai0,ai1,ai2,ai3,ai4,ai5,ai6,ai7,ai8,ai9,aja,hk,bS,em,rfl⟩;by_cases ad:k<A
   ·obtain⟨b,o,rfl,r0,dq,ei,eM⟩:=gt.o k ad;replace r0:=bS.ext.cell r0;replace dq:=bS.ext.cell dq;replace ei:=bS.ext.cell ei;replace eM:=bS.ext.cell eM;have D:=JE X7.o ad;have hv:=λW s=>az0.o k s W ad
    obtain⟨x,AH⟩:∃x,A[k]=x:=⟨_,rfl⟩;simp only[AH]at r0 dq ei eM D;obtain⟨a8,b'⟩:∃a8,a8=(W.alloc (J #[H k] 3)).alloc (J #[bf x.c,aC x.jt,aC x.jf,M x.k] 173):=⟨_,rfl⟩;have ag:Ext W a8:=by rw[b'];exact((O _).alloc _).alloc _
    have s5:a8.heap[W.heap.size]?=some (J #[H k] 3 (0,0)):=by rw[b'];exact aJ (bA W _) ((O _).alloc _)
    have vd:=bA (W.alloc (J #[H k] 3)) (J #[bf x.c,aC x.jt,aC x.jf,M x.k] 173);rw[<-b',dR]at vd;have aT:=z (ah D hv);have sk:=bS.ext' ag;have ajb:=em.ext ag;have aNn:C<W.heap.size:=(dG.1 bS.c).1;have ads:=((O W).alloc (J #[H k] 3)).alloc (J #[bf x.c,aC x.jt,aC x.jf,M x.k] 173) |>.cell bS.c.cell;have h':=z b';have Mg:=z sk;have g4:=z (ah s5 (ah vd ajb));clear AH D hv bS em sk ajb s5 vd b';cases e3:((k:Int)==0)
    case' true=>have dt:=z (Mg.o.come 0 aE 0);gi_upto_region 8 with(rw[<-h'.o];refine⟨trivial,?_⟩;refine iN (eP.2 dt.o) ?_;rintro az ⟨⟨M3,X',se⟩,ki⟩;have h7:=z (ah se (ah (ki.blk g4.o.1 (.inr rfl)) (ah (ki.blk g4.o.2.1 (.inr rfl)) (aiy g4.o.2.2 ki))));clear se ki)
    case' false=>
     gi_upto_region 8 with fail
     rw[<-h'.o];have h7:=z (ah Mg.o g4.o);generalize a8=az at *;generalize gE=M3 at *;generalize j4=X' at *
    all_goals
     clear Mg h' g4 r0 dq ei eM ads;have cs:=aG h7.o.1.cw.cR 0
     change az.cell? aH=some _ at cs
     have eg:=aG h7.o.1.cw.cS 0
     change az.cell? a7=some _ at eg
     have h6:az.cell? W=some _:=aG h7.o.2.1 0;have v7:az.cell? C=some _:=h7.o.1.c.cell;have ra:=xV h7.o.1.cw.b (show k<M3.length by rw[h7.o.1.cw.lb];exact ad);have Cp:=Nk h7.o.1.cw.s (show k<X'.length by rw[h7.o.1.cw.ls];exact ad);obtain⟨⟨cG,aK,aV,cC⟩,-⟩:=jY h7.o.2.2.1;have nc:(k:Int)<A:=aE;cases MC:M3.getD k false
     ·rw[MC]at ra;gi_wp2;exact⟨⟨k+1,Ds,M3,X',_,_,_,_,_,_,_,_,_,_,_,_,_,_,_,_,_,_,_,_,_,_,_,_,_,_,_,_,_,_,_,_,_,_,_,_,_,_,_,_,ad,h7.o.1,h7.o.2.2.2,rfl⟩,by simp[intOf];omega⟩
     ·rw[MC]at ra;gi_upto_region 9 with fail
      have ajc:=dh eg;have ajd:=dh h6;have Ya:=dh Cp;refine R4 [] (λaP=>∃x:fG az,aP=x.w) aj ?_;have eQ:∃x:fG az,az.drew=x.w:=⟨⟨az.drew,(O az).drew⟩,rfl⟩;refine mq 0 rfl ?_;refine I5 (λ_=>trivial) 1 rfl aj aj aj aj aj eQ (λaX am=> ?_);go_simp;refine am _ ?_;clear am aX;refine I5 (λ_=>trivial) 2 rfl aj aj aj aj aj eQ (λaX am=> ?_);go_simp;refine am _ ?_;clear am aX;refine I5 (λ_=>trivial) 3 rfl aj aj aj aj aj eQ (λaX am=> ?_);go_simp;refine am _ ?_;clear am aX;refine mq 4 rfl ?_;refine I5 (λ_=>trivial) 5 rfl aj aj aj aj aj eQ (λaX am=> ?_);go_simp;refine am _ ?_;clear am aX;refine wY 6 aj rfl (λaX am=> ?_);go_simp;refine⟨trivial,?_⟩;refine iN (eP.2 (aT.o.2 _ _ ((h7.o.1.ext).drew))) ?_;intro bj a';have kA:Ext az bj:=(O az).drew.trans a';refine am _ _ (λ_=>⟨⟨bj,kA⟩,rfl⟩) ?_;refine AJ aj ?_;dsimp only[bh.Calm,Exit.then];have JF:=z (ah (h7.o.1.ext' kA) (ah (aJ h7.o.2.1 kA) (ah (aJ h7.o.2.2.1 kA) (h7.o.2.2.2.ext kA))));have aje:=z aT.o.1;replace cG:=kA.cell cG;replace aK:=kA.cell aK;replace aV:=kA.cell aV;replace cC:=kA.cell cC;replace h6:=kA.cell h6;clear am aX cs eg v7 ra Cp ajc ajd Ya eQ a' kA h7 aT;generalize M3=ajf at *;gi_wp2_with(refine⟨trivial,?_⟩;refine iN (eP.2 (azL x k A _)) ?_;intro dC aNo);obtain⟨eL,ib⟩:∃eL,eL=((bj.alloc (J #[bf x.c,aC x.jt,aC x.jf,M x.k] 173)).alloc (J #[H k] 3)).alloc (J #[H A] 3):=⟨_,rfl⟩;rw[<-ib];have bR:Ext bj eL:=by rw[ib];exact(((O _).alloc _).alloc _).alloc _
      have et:eL.heap[bj.heap.size]?=some (J #[bf x.c,aC x.jt,aC x.jf,M x.k] 173 (0,0)):=by rw[ib];exact aJ (bA bj (J #[bf x.c,aC x.jt,aC x.jf,M x.k] 173)) (((O _).alloc _).alloc _)
      have fp:=bA (bj.alloc (J #[bf x.c,aC x.jt,aC x.jf,M x.k] 173)) (J #[H k] 3);have k5:=bA ((bj.alloc (J #[bf x.c,aC x.jt,aC x.jf,M x.k] 173)).alloc (J #[H k] 3)) (J #[H A] 3);replace fp:=aJ fp ((O _).alloc (J #[H A] 3));rw[<-ib]at fp k5;simp only[dR]at fp k5;have ajg:=JF.o.2.2.2.ext bR;have ajh:=ajg.lt;have aNp:=bR.size;have aNq:=(dG.1 JF.o.2.1).1;have aNr:=(JF.o.1.ext' bR).ext.size;have n4:1<=4:=aE;refine wpIn_rangeFunc_ownH (w0:=eL) rfl n4 (gf:=375) (lb:= #[aB (some bj),aB (some ⟨bj+1,0,none⟩),aB (some ⟨bj+1+1,0,none⟩)]) rfl trivial (enters_of func375 aj rfl)
       (azY _ _ _ x k A w ad aE aje.o eL et fp k5) (λh k=>h.trans k) (λaa l o fe X ho ao _=>gT.putObj aE ho ao) (Below.refl _ _) (λ_=>rfl)
       (λpre aa=>(∃gE j4,yc w C aH a7 rb ix A gE j4 aa)/\aa.heap[W.heap.size]?=some (J #[H k] 3 (0,0))/\aa.heap[W.heap.size+1]?=some (J #[bf x.c,aC x.jt,aC x.jf,M x.k] 173 (0,0))/\Marks (C+1) Ds aa) (λ_ _ _=>False)
       (λs aq B' row ab hg hr=> ?se) (λ_ _ _ _ _ ab _ _=>ab) ⟨⟨_,_,JF.o.1.ext' bR⟩,aJ JF.o.2.1 bR,aJ JF.o.2.2.1 bR,ajg⟩
       (λy bu aa=>∃mj gv ct sy AF EL EM M' EN aji Nd ajj ajk ajl ajm ajn ajo ajp ajq ajr ajs ajt aju ajv ajw ajx ajy ajz ajA ajB ajD ajE ajF ajG ajH ajI ajJ ajK ajL ajM ajN ajO ajP ajQ ajR ajS ajT ajU ajV ajW ajX ajY ajZ aj0 aj1,bu= {tmps:= #[mj,gv,ct,sy,aB (some a7),AF,aB (some C),aB (some W),aB (some ⟨W+1,0,none⟩),H ((y:Nat):Int),EL,EM,M',EN,aji,Nd,ajj,ajk,ajl,ajm,ajn,ajo,ajp,ajq,ajr,ajs,ajt,aju,ajv,ajw,ajx,ajy,ajz,ajA,ajB,ajD,ajE,ajF,ajG,ajH,ajI,ajJ,ajK,ajL,ajM,ajN,ajO,ajP,ajQ,ajR,ajS,ajT,ajU,ajV,ajW,ajX,ajY,ajZ,aj0,aj1],defers:= []}) (λy bu _ aP Ad row ab hg hr=>ab)
       ?assign ?body ?done ?stop
      case se=>
       obtain⟨⟨RW,Nl,h1⟩,h2,T,af⟩:=ab;have cQ:=λr e=>(hr r e).2
       exact⟨⟨RW,Nl,h1.row hg cQ (λr e=>by have:=(hr r e).1;omega)⟩,jl h2 hg cQ,jl T hg cQ,af.grown hg (λr e cE=>by have:=(hr r e).1;have:=ajh r cE;omega)⟩
      case assign=>rintro l pre y aa aX bS am;gi_wp2;exact am _ _ ((KeepsOthers.refl _).from _) (gT.refl _ _ _) bS ⟨_,_,_,_,_,_,_,_,_,_,_,_,_,_,_,_,_,_,_,_,_,_,_,_,_,_,_,_,_,_,_,_,_,_,_,_,_,_,_,_,_,_,_,_,_,_,_,_,_,_,_,_,_,_,_,rfl⟩
      case body=>
       rintro l pre y bu aa X-⟨⟨RW,Nl,h1⟩,h2,T,af⟩ ⟨mj,gv,ct,sy,AF,EL,EM,M',EN,aji,Nd,ajj,ajk,ajl,ajm,ajn,ajo,ajp,ajq,ajr,ajs,ajt,aju,ajv,ajw,ajx,ajy,ajz,ajA,ajB,ajD,ajE,ajF,ajG,ajH,ajI,ajJ,ajK,ajL,ajM,ajN,ajO,ajP,ajQ,ajR,ajS,ajT,ajU,ajV,ajW,ajX,ajY,ajZ,aj0,aj1,rfl⟩-;have cs:aa.cell? C=some _:=h1.c.cell;have eg:=aG h1.cw.cS 0
       change aa.cell? a7=some _ at eg
       have h6:aa.cell? W=some (H k):=aG h2 0;have Cp:=Nk h1.cw.s (show k<Nl.length by rw[h1.cw.ls];exact ad);obtain⟨⟨f0,dg,fg,mw⟩,-⟩:=jY T;have bC:=z (ah h1 (ah h2 (ah T af)));have az6:=dh cs;have ajc:=dh eg;have ajd:=dh h6;have Ya:=dh Cp;have aNs:=dh f0;have aNt:=dh dg;have aNu:=dh fg;have aNv:=dh mw;have R0:=λaP=>azK x (by exact(AV aje.o).2.2.2.2.2.2.2.2.2.2.1) aP
       unfold iO at R0;have az7:=z R0;clear h1 h2 T af R0 cG aK aV cC h6;dsimp only;gi_wp2;refine R4 [9] (λaP=>∃x:fG aa,aP=x.w) aj ?_;have eQ:∃x:fG aa,aa.drew=x.w:=⟨⟨aa.drew,(O aa).drew⟩,rfl⟩;refine vY 0 rfl eQ ?_;refine vY 1 rfl eQ ?_;refine vY 2 rfl eQ ?_;refine vY 3 rfl eQ ?_;refine vY 4 rfl eQ ?_;refine vY 5 rfl eQ ?_;refine vY 6 rfl eQ ?_;refine wY 7 aj rfl (λaX am=> ?_);go_simp;refine⟨trivial,?_⟩;refine iN (CallsIn.inRound l (eP.2 (az7.o _))) ?_;intro dy en;have Cq:Ext aa dy:=(O aa).drew.trans en;have Nn:∃x:fG aa,dy=x.w:=⟨⟨dy,Cq⟩,rfl⟩;refine am _ _ (λ_=>Nn) ?_;clear am aX en;refine wY 8 aj rfl (λaX am=> ?_);go_simp;refine am _ _ (λ_=>Nn) ?_;clear am aX;refine nZ 9 aj rfl aj (λaX am=> ?_);go_simp;refine⟨trivial,?_⟩;refine iN (CallsIn.inRound l (eP.2 ((bC.o.1.ext' Cq).come y y.2 _))) ?_;rintro hz ⟨az8,oy⟩;have an:bq w AX aa hz:=(bq.ext Cq).trans oy;refine am _ _ ?_;refine AJ aj ?_;exact⟨an.ko.from _,gT.of an,az8,an.blk bC.o.2.1 (.inr rfl),an.blk bC.o.2.2.1 (.inr rfl),aiy bC.o.2.2.2 an⟩
      case done=>rintro ax ys aa cE-⟨⟨RW,Nl,h1⟩,h2,T,af⟩ am;gi_wp2;exact⟨⟨k+1,ax::Ds,RW,Nl,_,_,_,_,_,_,_,_,_,_,_,_,_,_,_,_,_,_,_,_,_,_,_,_,_,_,_,_,_,_,_,_,_,_,_,_,_,_,_,_,ad,h1,af.cons (λh=>by have:=ajh ax h;omega) am aE,rfl⟩,by simp[intOf];omega⟩
      case stop=>intro ax az9 pre aa cE _ ai;exact ai.elim
   ·obtain rfl:k=A.length:=aE;gi_wp2;refine acV (B:=C+1) Ds W em ?_;intro hN o1 o2 o3 o4 o5 o6;refine⟨bH #[],by simp[results,results252,go_sem],rfl,?_⟩;exact Below.trans bS.ext ⟨o1,o2,o3,aE,λj Z=>o5 j (by have:=Qh.2.2;omega)⟩
end LT
end Go.Proofs.YtopfefhenfineaaGreat
