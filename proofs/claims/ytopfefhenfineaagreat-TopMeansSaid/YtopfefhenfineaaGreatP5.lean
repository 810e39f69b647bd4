import Derived.Test.YtopfefhenfineaaGreatP3
set_option linter.all false
set_option maxRecDepth 100000
set_option maxHeartbeats 1000000
namespace Go.Proofs.YtopfefhenfineaaGreat
open Go.Proofs.Tryz Go.RowKit bh
namespace m9
open jG (aD dI gQ mR)
open j7 (nT qj jw Bg)
variable{B e k n t:Nat}{W w0:G}{u v ct:K}
def aG8{base:Nat}{b3:List K}(V:Boxed W B t u)(h:W.ownsRow base e n v k b3)(bx:t≠e):some B≠v.ownBlock:=λhg=>by obtain⟨bm,ae⟩:=jw h B hg.symm;have:=gL (ae.symm.trans V);simp only[vB]at this;exact bx this.2.1.symm
theorem j5{ls:List aD}{bZ:List gB}(h:gY w0 B v ct ls bZ W)(X:ls.length<=100000)(Z:bZ.length<=100000)(code k th:Nat)(el:Option Nat):Calls prog 233 #[fE B,bf code,M k,fE th,.pointer (el.map λb=>⟨b,0,none⟩)] W λe F=>e=aI (bH #[])/\∃e7 Z2 j,gY w0 B e7 Z2 (ls++[⟨code,k,0,0⟩]) (bZ++[j]) F/\fq (λ_=>False) W F/\j.at_=ls.length/\j.code=code/\j.th=th/\j.el=el:=by
 have bY:=z h;have b0:=h.b0;have mC:=h.lt;obtain⟨bv,bp,rfl⟩:=dP h.own;obtain⟨Ks,Kw,rfl⟩:=dP h.late;obtain⟨q,aW⟩:∃q:Option Addr,q=el.map λb=>⟨b,0,none⟩:=⟨_,rfl⟩
 rw[<-aW];have t6:=z aW;clear h aW;have Gs:=λo1 o2 o3 o4=>(((((O W).alloc o1).alloc o2).alloc o3).alloc o4).cell b0
 clear b0;unfold fE;go_in;go_wp2_with fail;obtain⟨az,b7⟩:∃az,az=W.alloc (J #[aB (some B)] 333):=⟨_,rfl⟩;obtain⟨a8,b'⟩:∃a8,a8=az.alloc (J #[bf code] 171):=⟨_,rfl⟩;obtain⟨cd,fh⟩:∃cd,cd=a8.alloc (J #[aB (some th)] 337):=⟨_,rfl⟩;obtain⟨dj,fw⟩:∃dj,dj=cd.alloc (J #[.pointer q] 337):=⟨_,rfl⟩;obtain⟨eL,ib⟩:∃eL,eL=dj.alloc (J #[H ls] 3):=⟨_,rfl⟩;rw[<-b7,<-b',<-fh,<-fw,<-ib];have dl:az.heap.size=W.heap.size+1:=by rw[b7];simp
 have gS:a8.heap.size=W+2:=by rw[b'];simp[dl]
 have nW:cd.heap.size=W+3:=by rw[fh];simp[gS]
 have D1:dj.heap.size=W+4:=by rw[fw];simp[nW]
 have JG:eL.heap.size=W+5:=by rw[ib];simp[D1]
 have aK:Ext W az:=by rw[b7];exact(O _).alloc _
 have aV:Ext az a8:=by rw[b'];exact(O _).alloc _
 have cC:Ext a8 cd:=by rw[fh];exact(O _).alloc _
 have gA:Ext cd dj:=by rw[fw];exact(O _).alloc _
 have hR:Ext dj eL:=by rw[ib];exact(O _).alloc _
 have g2:Boxed az W 333 (fE B):=by rw[b7];exact Boxed.new _ _ _
 have ov:Boxed a8 (W+1) 171 (bf code):=by rw[b',<-dl];exact Boxed.new _ _ _
 have mf:Boxed cd (W+2) 337 (fE th):=by rw[fh,<-gS];exact Boxed.new _ _ _
 have gO:Boxed dj (W+3) 337 (.pointer q):=by rw[fw,<-nW];exact Boxed.new _ _ _
 have hE:Boxed eL (W+4) 3 (H ls):=by rw[ib,<-D1];exact Boxed.new _ _ _
 have hT:∀ {a b:G} {k t:Nat} {v:K},Ext a b->Boxed a k t v->Boxed b k t v:=λD V=>(D.block V.lt).trans V
 have aG9:Hid (Hu eL B ⟨ls.length,code,th,el,W.heap.size+2,W.heap.size,W.heap.size+4,W.heap.size+1,W.heap.size+3⟩):=
  z ⟨hT (gA.trans hR) mf,hT (aV.trans (cC.trans (gA.trans hR))) g2,hE,hT (cC.trans (gA.trans hR)) ov,by rw[<-t6.o];exact hT hR gO⟩
 have c9:=z (aK.trans (aV.trans (cC.trans (gA.trans hR))));have ia:=z (bY.o.kept c9.o);have aHa:=z JG;clear b7 b' fh fw ib dl gS nW D1 JG aK aV cC gA hR g2 ov mf gO hE hT Gs;refine ak (lC (ys:= [⟨code,k,0,0⟩]) (ia.o.kept ((O eL).alloc _)) (Zq eL [⟨code,k,0,0⟩] _ _ aHa.o.symm) dU) ?_;rintro cT ⟨aPw,ks,Ay⟩;have Z3:=fq.after _ Ay;have Z':=aG9.o.kept Z3 (λk hk=>hk.elim);have b1:=ks.b1;have c0:=Z'.w.cell;have aPx:=ks.lt;dsimp only at c0;unfold fE at c0;have vr:=z ks;have aHb:=z Z';have S3:=z ((fq.ext c9.o).trans Z3);have Gt:=dh b1;clear ks Z' Ay Z3;go_wp2_with fail;have aii:=λo=>((O cT).alloc o).cell c0
 have aPy:=λo=>((O cT).alloc o).cell b1
 (go_region_law
  ((refine FL rfl (.tmp 26) (.tmp 28) _ rfl underlying334 aDG rfl Y SN aDE (B+1) _ _ bZ [⟨ls.length,code,th,el,W.heap.size+2,W.heap.size,W.heap.size+4,W.heap.size+1,W.heap.size+3⟩] (by rfl) (by rfl) (by exact pG vr.o.late _) (aS.ext ((O _).drew) (jh SN cT [⟨ls.length,code,th,el,W.heap.size+2,W.heap.size,W.heap.size+4,W.heap.size+1,W.heap.size+3⟩] _ _ rfl)) dU Y dU ?_;intro Qp Qq dy hM k7
    have oA:=z (vr.o.kept (((O cT).alloc (J #[gB.val ⟨ls.length,code,th,el,W.heap.size+2,W.heap.size,W.heap.size+4,W.heap.size+1,W.heap.size+3⟩] 1)).drew));have aaa:=z (aHb.o.kept (fq.ext (aP:=λ_=>False) (((O cT).alloc (J #[gB.val ⟨ls.length,code,th,el,W.heap.size+2,W.heap.size,W.heap.size+4,W.heap.size+1,W.heap.size+3⟩] 1)).drew)) (λ_ hk=>hk.elim));have Ct:=z (oA.o.later k7 aaa.o (by dsimp only;simp) hM);have c7:dy.cell? W=some (aB (some B)):=k7.cell (aaa.o.w.cell) (aG8 aaa.o.w oA.o.late Y);have Se:dy.cell? ⟨B,1,none⟩=some (E Ks bZ Kw):=k7.cell oA.o.b1 (λe=>by have:=(oA.o.late.lt _ e.symm).1;dsimp only at this;omega);have xj:dy.frozen? ⟨B,1,none⟩=false:=(kS (a:=⟨B,1,none⟩) (k7.block B oA.o.lt (λe=>by have:=(oA.o.late.lt _ e.symm).1;omega))).trans (oA.o.f 1);have e6:=gD _ _ Se;clear hM k7)))
 all_goals
  go_wp2;go_end0;exact⟨rfl,_,_,_,Ct.o.1,S3.o.trans ((fq.ext (((O cT).alloc (J #[gB.val ⟨ls.length,code,th,el,W.heap.size+2,W.heap.size,W.heap.size+4,W.heap.size+1,W.heap.size+3⟩] 1)).drew)).trans Ct.o.2),rfl,rfl,rfl,rfl⟩
end m9
end Go.Proofs.YtopfefhenfineaaGreat
