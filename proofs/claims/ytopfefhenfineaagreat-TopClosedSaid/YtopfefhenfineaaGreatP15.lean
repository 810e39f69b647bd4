import Derived.Test.YtopfefhenfineaaGreatP2
set_option linter.all false
set_option maxRecDepth 100000
set_option maxHeartbeats 1000000
namespace Go.Proofs.YtopfefhenfineaaGreat
open Go.Proofs.Tryz Go.RowKit V
namespace mV
open jO (Sy gB eH iM)
open lC (nk pE jd tX)
variable{B e k n t:Nat}{W w0:ay}{u v v2:aA}
def abF{base:Nat}{zs:List aA}(hb:Boxed W B t u)(h:W.ownsRow base e n v k zs)(he:t≠e):some B≠v.ownBlock:=λhg=>by obtain⟨cur,h0⟩:=jd h B hg.symm;have:=bV (h0.symm.trans hb);simp only[iT]at this;exact he this.2.1.symm
theorem jL{ls:List Sy}{js:List Jm}(h:WS w0 B v v2 ls js W)(hl:ls.length<=100000)(hj:js.length<=100000)(code k th:Nat)(el:Option Nat):Calls prog 233 #[pv B,.int .u16 code,.int .u32 k,pv th,.pointer (el.map λb=>⟨b,0,none⟩)] W λe w'=>e= .returned (.tuple #[])/\∃v' v2' j,WS w0 B v' v2' (ls++[⟨code,k,0,0⟩]) (js++[j]) w'/\WK (λ_=>False) W w'/\j.at_=ls.length/\j.code=code/\j.th=th/\j.el=el:=by
 have HS:=ah h;have b0:=h.b0;have hbb:=h.lt;obtain⟨au,cu,rfl⟩:=bU h.own;obtain⟨au2,cu2,rfl⟩:=bU h.late;obtain⟨q,hq⟩:∃q:Option Addr,q=el.map λb=>⟨b,0,none⟩:=⟨_,rfl⟩
 rw[<-hq];have HQ:=ah hq;clear h hq;have b0x:=λo1 o2 o3 o4=>(((((aj W).alloc o1).alloc o2).alloc o3).alloc o4).cell b0
 clear b0;unfold pv;go_in;go_wp2_with fail;obtain⟨W1,hW1⟩:∃W1,W1=W.alloc (.cells #[.pointer (some B)] 333):=⟨_,rfl⟩;obtain⟨W2,hW2⟩:∃W2,W2=W1.alloc (.cells #[.int .u16 code] 171):=⟨_,rfl⟩;obtain⟨W3,hW3⟩:∃W3,W3=W2.alloc (.cells #[.pointer (some th)] 337):=⟨_,rfl⟩;obtain⟨W4,rH⟩:∃W4,W4=W3.alloc (.cells #[.pointer q] 337):=⟨_,rfl⟩;obtain⟨W5,yR⟩:∃W5,W5=W4.alloc (.cells #[.int .i64 ls] 3):=⟨_,rfl⟩;rw[<-hW1,<-hW2,<-hW3,<-rH,<-yR];have s1:W1.heap.size=W.heap.size+1:=by rw[hW1];simp
 have s2:W2.heap.size=W+2:=by rw[hW2];simp[s1]
 have s3:W3.heap.size=W+3:=by rw[hW3];simp[s2]
 have s4:W4.heap.size=W+4:=by rw[rH];simp[s3]
 have s5:W5.heap.size=W+5:=by rw[yR];simp[s4]
 have e1:Ext W W1:=by rw[hW1];exact(aj _).alloc _
 have e2:Ext W1 W2:=by rw[hW2];exact(aj _).alloc _
 have e3:Ext W2 W3:=by rw[hW3];exact(aj _).alloc _
 have e4:Ext W3 W4:=by rw[rH];exact(aj _).alloc _
 have e5:Ext W4 W5:=by rw[yR];exact(aj _).alloc _
 have x1:Boxed W1 W 333 (pv B):=by rw[hW1];exact Boxed.new _ _ _
 have x2:Boxed W2 (W+1) 171 (.int .u16 code):=by rw[hW2,<-s1];exact Boxed.new _ _ _
 have x3:Boxed W3 (W+2) 337 (pv th):=by rw[hW3,<-s2];exact Boxed.new _ _ _
 have x4:Boxed W4 (W+3) 337 (.pointer q):=by rw[rH,<-s3];exact Boxed.new _ _ _
 have x5:Boxed W5 (W+4) 3 (.int .i64 ls):=by rw[yR,<-s4];exact Boxed.new _ _ _
 have hkp:∀ {a b:ay} {k t:Nat} {v:aA},Ext a b->Boxed a k t v->Boxed b k t v:=λhx hb=>(hx.block hb.lt).trans hb
 have HJ5:Hid (JOk W5 B ⟨ls.length,code,th,el,W.heap.size+2,W.heap.size,W.heap.size+4,W.heap.size+1,W.heap.size+3⟩):=
  ah ⟨hkp (e4.trans e5) x3,hkp (e2.trans (e3.trans (e4.trans e5))) x1,x5,hkp (e3.trans (e4.trans e5)) x2,by rw[<-HQ.o];exact hkp e5 x4⟩
 have kM:=ah (e1.trans (e2.trans (e3.trans (e4.trans e5))));have yS:=ah (HS.o.kept kM.o);have HN5:=ah s5;clear hW1 hW2 hW3 rH yR s1 s2 s3 s4 s5 e1 e2 e3 e4 e5 x1 x2 x3 x4 x5 hkp b0x;refine ap (kT (ys:= [⟨code,k,0,0⟩]) (yS.o.kept ((aj W5).alloc _)) (MJ W5 [⟨code,k,0,0⟩] _ _ HN5.o.symm) bp) ?_;rintro w6 ⟨v6,hs6,UF⟩;have ajS:=WK.after _ UF;have hj6:=HJ5.o.kept ajS (λk hk=>hk.elim);have b1:=hs6.b1;have c0:=hj6.w.cell;have ayX:=hs6.lt;dsimp only at c0;unfold pv at c0;have HS6:=ah hs6;have HJ6:=ah hj6;have HK6:=ah ((WK.ext kM.o).trans ajS);have b1x:=nV b1;clear hs6 hj6 UF ajS;go_wp2_with fail;have c0o:=λo=>((aj w6).alloc o).cell c0
 have b1o:=λo=>((aj w6).alloc o).cell b1
 (go_region_law
  ((refine pI rfl (.tmp 26) (.tmp 28) _ rfl underlying334 ajs rfl az Dt adx (B+1) _ _ js [⟨ls.length,code,th,el,W.heap.size+2,W.heap.size,W.heap.size+4,W.heap.size+1,W.heap.size+3⟩] (by rfl) (by rfl) (by exact dM HS6.o.late _) (Rd.ext ((aj _).drew) (gI Dt w6 [⟨ls.length,code,th,el,W.heap.size+2,W.heap.size,W.heap.size+4,W.heap.size+1,W.heap.size+3⟩] _ _ rfl)) bp az bp ?_;intro au7 cu7 w7 qY Df
    have JU:=ah (HS6.o.kept (((aj w6).alloc (.cells #[Jm.val ⟨ls.length,code,th,el,W.heap.size+2,W.heap.size,W.heap.size+4,W.heap.size+1,W.heap.size+3⟩] 1)).drew));have HJ7:=ah (HJ6.o.kept (WK.ext (X:=λ_=>False) (((aj w6).alloc (.cells #[Jm.val ⟨ls.length,code,th,el,W.heap.size+2,W.heap.size,W.heap.size+4,W.heap.size+1,W.heap.size+3⟩] 1)).drew)) (λ_ hk=>hk.elim));have HR7:=ah (JU.o.later Df HJ7.o (by dsimp only;simp) qY);have c7:w7.cell? W=some (.pointer (some B)):=Df.cell (HJ7.o.w.cell) (abF HJ7.o.w JU.o.late az);have d7:w7.cell? ⟨B,1,none⟩=some (.slice au2 js cu2):=Df.cell JU.o.b1 (λe=>by have:=(JU.o.late.lt _ e.symm).1;dsimp only at this;omega);have f7:w7.frozen? ⟨B,1,none⟩=false:=(dD (a:=⟨B,1,none⟩) (Df.block B JU.o.lt (λe=>by have:=(JU.o.late.lt _ e.symm).1;omega))).trans (JU.o.f 1);have oM:=aY _ _ d7;clear qY Df)))
 all_goals
  go_wp2;go_end0;exact⟨rfl,_,_,_,HR7.o.1,HK6.o.trans ((WK.ext (((aj w6).alloc (.cells #[Jm.val ⟨ls.length,code,th,el,W.heap.size+2,W.heap.size,W.heap.size+4,W.heap.size+1,W.heap.size+3⟩] 1)).drew)).trans HR7.o.2),rfl,rfl,rfl,rfl⟩
end mV
end Go.Proofs.YtopfefhenfineaaGreat
