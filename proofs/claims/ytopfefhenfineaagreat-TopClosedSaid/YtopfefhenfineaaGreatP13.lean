import Derived.Test.YtopfefhenfineaaGreatP1
set_option linter.all false
set_option maxRecDepth 100000
set_option maxHeartbeats 1000000
namespace Go.Proofs.YtopfefhenfineaaGreat
open Go.Proofs.Tryz Go.RowKit V
variable{zP:Prop}
def qr(h:zP:=by rcases ajg j hj with rfl|rfl|rfl|rfl|rfl|rfl|rfl|rfl|rfl|rfl|rfl|rfl|rfl|rfl|rfl|rfl<;>simp[go_sem]):zP:=h
namespace jO
variable{B k:Nat}{d:Dat}{w:ay}
def tb(d:Dat)(k j:Nat):Nat:=if j<2+2*k then(wds d).getD j 0 else 0
def ajg(j:Nat)(h:j<16):j=0\/j=1\/j=2\/j=3\/j=4\/j=5\/j=6\/j=7\/j=8\/j=9\/j=10\/j=11\/j=12\/j=13\/j=14\/j=15:=aq
def lt7(j:Nat)(h:j<7):j=0\/j=1\/j=2\/j=3\/j=4\/j=5\/j=6:=aq
def aio(d:Dat)(k:Nat)(h:k<7):(wds d).getD (2+2*k) 0=lo ((wide d)[k]'h)/\(wds d).getD (3+2*k) 0=hi ((wide d)[k]'h):=by rcases lt7 k h with rfl|rfl|rfl|rfl|rfl|rfl|rfl<;>exact⟨rfl,rfl⟩
def ae0(hd:EU d)(k:Nat)(h:k<7):(wide d)[k]'h<18446744073709551616:=by
 rcases lt7 k h with rfl|rfl|rfl|rfl|rfl|rfl|rfl
 ·exact hd.ip
 ·exact hd.a0
 ·exact hd.a1
 ·exact hd.a2
 ·exact hd.a3
 ·exact hd.a4
 ·exact hd.a5
def aiA(d:Dat):Array aA:=((wds d).map λn:Nat=>Value.int .u32 n).toArray
def aiz(d:Dat):aA:= .agg (aiA d)
def aiy(h:k<7)(hc:∀j,j<16->w.cell? ⟨B,j,none⟩=some (.int .u32 (tb d k j:Nat))):∀j,j<16->((w.setCell ⟨B,2+2*k,none⟩ (.int .u32 (lo ((wide d)[k]'h):Nat))).setCell ⟨B,3+2*k,none⟩ (.int .u32 (hi ((wide d)[k]'h):Nat))).cell? ⟨B,j,none⟩=some (.int .u32 (tb d (k+1) j:Nat)):=by
 intro j hj;obtain⟨e1,e2⟩:=aio d k h;by_cases h3:j=3+2*k
 ·subst h3;rw[World.cell?_setCell_same' _ _ _ (by rw[dG _ _ _ _ cy,hc _ hj];rfl)];unfold tb;rw[aV aq,e2]
 rw[dG _ _ _ _ cy];by_cases h2:j=2+2*k
 ·subst h2;rw[World.cell?_setCell_same' _ _ _ (by rw[hc _ hj];rfl)];unfold tb;rw[aV aq,e1]
 rw[dG _ _ _ _ cy,hc j hj];unfold tb;by_cases h1:j<2+2*k
 ·rw[aV h1,aV aq]
 ·rw[aN h1,aN aq]
def afs(d:Dat)(h0:w.cell? ⟨B,3,none⟩=some (.int .u64 (d.a0:Int)))(h1:w.cell? ⟨B,4,none⟩=some (.int .u64 (d.a1:Int)))(h2:w.cell? ⟨B,5,none⟩=some (.int .u64 (d.a2:Int)))(h3:w.cell? ⟨B,6,none⟩=some (.int .u64 (d.a3:Int)))(h4:w.cell? ⟨B,7,none⟩=some (.int .u64 (d.a4:Int)))(h5:w.cell? ⟨B,8,none⟩=some (.int .u64 (d.a5:Int))):Rd w 1 j8 (.slice (some ⟨B,3,none⟩) 6 6) [d.a0,d.a1,d.a2,d.a3,d.a4,d.a5]:=by
 refine⟨_,_,rfl,aD _,(λh=>by cases h),λi hi=>⟨B,3,rfl,λj hj=> ?_⟩⟩;obtain rfl:j=0:=by simp[j8]at hj;omega
 rcases(show i=0\/i=1\/i=2\/i=3\/i=4\/i=5 by simp at hi;omega)with rfl|rfl|rfl|rfl|rfl|rfl
 ·exact h0
 ·exact h1
 ·exact h2
 ·exact h3
 ·exact h4
 ·exact h5
theorem rR(d:Dat)(hd:EU d)(w:ay):Rt 256 #[yL d] w (aiz d):=by
 have hWl:=abc d;have hH:=λ(k:Nat) (h:k<7) (W:ay)=>oF _ (ae0 hd k h) W
 have hR:=λ(W:ay) (B:Nat)=>afs (w:=W) (B:=B) d
 have hWi:∀(v:aA) (W:ay),Rd W 1 j8 v [d.a0,d.a1,d.a2,d.a3,d.a4,d.a5]->Calls prog 308 #[.int .u64 (d.ip:Int),v] W λe w'=>∃a c,e= .returned (.slice a 7 c)/\Rd w' 1 j8 (.slice a 7 c) (wide d)/\(∀b o,a=some ⟨b,o,none⟩->W.heap.size<=b)/\Ext W w':=
  λv W hv=>S7 d.ip v _ aE W hv
 have hT:∀j,j<16->tb d 0 j=if j=0 then d.nr else if j=1 then d.ar else 0:=by
  intro j hj;unfold tb;by_cases h:j<2
  ·rw[aV aq];rcases(show j=0\/j=1 from aq)with rfl|rfl<;>rfl
  ·rw[aN aq,aN aq,aN aq]
 have HhH:=ah hH;have A8:=ah hR;clear hH hR;have atE:=ah hWi;have vV:=ah hT;clear hWi hT hWl;unfold yL;unfold Rt;go_in;go_wp2_with fail;refine P3 (λW1=>Ext w W1/\W1.heap.size=w.heap.size+3/\W1.cell? ⟨w,2,none⟩=some (.int .u64 (d.ip:Int))/\Rd W1 1 j8 (.slice (some ⟨w,3,none⟩) 6 6) [d.a0,d.a1,d.a2,d.a3,d.a4,d.a5]/\(∀j,j<16->W1.cell? ⟨w+2,j,none⟩=some (.int .u32 (tb d 0 j:Nat)))/\(∀j,j<16->W1.cell? ⟨w+1,j,none⟩=some (.int .u32 0))/\Fz W1 (w+2)/\Fz W1 (w+1)) ⟨?_,?_,?_,?_,?_,?_,?_,?_⟩ ?_
 ·exact(((aj _).alloc _).alloc _).alloc _
 ·simp
 ·simp[go_sem]
 ·refine A8.o _ _ ?_ ?_ ?_ ?_ ?_ ?_<;>simp[go_sem]
 ·intro j hj;rw[vV.o j hj];exact qr
 ·intro j hj;exact qr
 ·intro j;simp[go_sem]
 ·intro j;simp[go_sem]
 rintro W1 ⟨hx1,hs1,c2,hr1,ht1,hz1,hf1,hg1⟩;have HF1:=ah hf1;have HG1:=ah hg1;clear hf1 hg1;have gK:=ah hx1;have HR1:=ah hr1;have HT1:=ah ht1;have HZ1:=ah hz1;clear hx1 hr1 ht1 hz1;rw[show w.heap.size+1+1=w.heap.size+2 from aq]
 (go_region_held3 (λw'=>w'.cell? ⟨w,2,none⟩=some (.int .u64 (d.ip:Int))) (first|exact c2|exact hx2.cell c2)
  ((go_at_call 308;refine(atE.o _ _ (HR1.o.ext ((aj _).drewN 1))).mono ?_;rintro e w2 ⟨au,cu,rfl,hu,hn2,hx2⟩)))
 have HU:=ah hu;have jm:=ah (((gK.o.drewN 1).trans hx2));have ht2:∀j,j<16->w2.cell? ⟨w+2,j,none⟩=some (.int .u32 (tb d 0 j:Nat)):=λj hj=>hx2.cell (HT1.o j hj)
 have hz2:∀j,j<16->w2.cell? ⟨w+1,j,none⟩=some (.int .u32 0):=λj hj=>hx2.cell (HZ1.o j hj)
 have hs2:w.heap.size+3<=w2.heap.size:=by have:=hx2.size;rw[heap_drewN]at this;omega
 have hf2:Fz w2 (w+2):=Fz.ext hx2 (by rw[heap_drewN];omega) (λj=>(World.frozen?_drewN _ _ _).trans (HF1.o j));have hg2:Fz w2 (w+1):=Fz.ext hx2 (by rw[heap_drewN];omega) (λj=>(World.frozen?_drewN _ _ _).trans (HG1.o j));have HF2:=ah hf2;have HG2:=ah hg2;clear hf2 hg2;have HT2:=ah ht2;have HZ2:=ah hz2;have FE:∀b o,au=some ⟨b,o,none⟩->w.heap.size+3<=b:=λb o h=>by have:=hn2 b o h;rw[heap_drewN]at this;omega
 have VH:=ah FE;clear hu hx2 ht2 hz2 c2 hn2 FE;go_wp2_with fail;go_loopw [17] (λi wr=>∃k:Nat,k<=7/\i= .int .i64 k/\Ext w wr/\Keep (λb=>b≠w.heap.size+2/\b<w2.heap.size) w2 wr/\Fz wr (w+2)/\∀j,j<16->wr.cell? ⟨w+2,j,none⟩=some (.int .u32 (tb d k j:Nat))) (λi _=>7-(intOf i).toNat)
 case atStart=>exact⟨0,aq,rfl,jm.o,Keep.refl _ _,HF2.o,HT2.o⟩
 case round=>
  obtain⟨k,hk,rfl,hx,hkp,hfz,htb⟩:=hrel;have HX:=ah hx;by_cases hlt:k<7
  ·obtain⟨a,c,e,-,-,hat⟩:=HU.o;obtain⟨rfl,-,rfl⟩:=Value.slice.inj e;obtain⟨b,o,rfl,hc⟩:=hat k hlt;have hcb:w2.cell? ⟨b,o+k,none⟩=some (.int .u64 ((wide d)[k]'hlt:Nat)):=by have:=hc 0 gh;simpa[j8]using this
   have hbn:=VH.o b o rfl;have hbl:=aY _ _ hcb;have hcr:wr.cell? ⟨b,o+k,none⟩=some (.int .u64 ((wide d)[k]'hlt:Nat)):=by rw[hkp.cell ⟨by simp only;omega,hbl⟩];exact hcb
   have hset:=λ(W:ay) (h:∀j,j<16->W.cell? ⟨w+2,j,none⟩=some (.int .u32 (tb d k j:Nat)))=>aiy (d:=d) hlt h
   have hHk:=HhH.o k hlt;have q1:=htb (2+2*k) aq;have q2:=htb (3+2*k) aq;have anu:=htb;have hzl:w.heap.size+2<wr.heap.size:=aY _ _ q1;have apf:=ah hset;have apd:=ah anu;clear hset anu;have ak6:=ah hkp;have EW:=ah hc;clear hkp hc hat hcb e hx htb;generalize(wide d)[k]'hlt=x at *;have atR:=ah hHk;clear hHk;go_wp2_with((go_at_call 309;refine ap (atR.o _) ?_;intro w4 hx4;have Ck:=ah hx4;have q4:=hx4.cell q1;have q5:=hx4.cell q2;have hf4:=Fz.ext hx4 hzl hfz;have f1:=hf4 (2+2*k);have f2:=hf4 (3+2*k);have HF4:=ah hf4;clear hx4 hf4));refine⟨?_,?_⟩
   ·refine⟨k+1,aq,bm,((HX.o.trans Ck.o).setCell cG _).setCell cG _,?_,(HF4.o.set _ _).set _ _,apf.o _ λj hj=>Ck.o.cell (apd.o j hj)⟩;refine(ak6.o.trans (Keep.of_below Ck.o λb hb=>by have:=ak6.o.size;omega)).trans ((Keep.setCell _ (λh=>h.1 rfl) _).trans (Keep.setCell _ (λh=>h.1 rfl) _))
   ·exact gO
  ·obtain rfl:k=7:=aq;have c0:wr.cell? ⟨w+2,0,none⟩=some (.int .u32 (d.nr:Nat)):=htb 0 aq;have z0:wr.cell? ⟨w+1,0,none⟩=some (.int .u32 0):=(hkp.cell ⟨by simp only;omega,by simp only;omega⟩).trans (HZ2.o 0 aq);have c1:wr.cell? ⟨w+2,1,none⟩=some (.int .u32 (d.ar:Nat)):=htb 1 aq;have z1:wr.cell? ⟨w+1,1,none⟩=some (.int .u32 0):=(hkp.cell ⟨by simp only;omega,by simp only;omega⟩).trans (HZ2.o 1 aq);have c2:wr.cell? ⟨w+2,2,none⟩=some (.int .u32 (lo d.ip:Nat)):=htb 2 aq;have z2:wr.cell? ⟨w+1,2,none⟩=some (.int .u32 0):=(hkp.cell ⟨by simp only;omega,by simp only;omega⟩).trans (HZ2.o 2 aq);have c3:wr.cell? ⟨w+2,3,none⟩=some (.int .u32 (hi d.ip:Nat)):=htb 3 aq;have z3:wr.cell? ⟨w+1,3,none⟩=some (.int .u32 0):=(hkp.cell ⟨by simp only;omega,by simp only;omega⟩).trans (HZ2.o 3 aq);have c4:wr.cell? ⟨w+2,4,none⟩=some (.int .u32 (lo d.a0:Nat)):=htb 4 aq;have z4:wr.cell? ⟨w+1,4,none⟩=some (.int .u32 0):=(hkp.cell ⟨by simp only;omega,by simp only;omega⟩).trans (HZ2.o 4 aq);have c5:wr.cell? ⟨w+2,5,none⟩=some (.int .u32 (hi d.a0:Nat)):=htb 5 aq;have z5:wr.cell? ⟨w+1,5,none⟩=some (.int .u32 0):=(hkp.cell ⟨by simp only;omega,by simp only;omega⟩).trans (HZ2.o 5 aq);have c6:wr.cell? ⟨w+2,6,none⟩=some (.int .u32 (lo d.a1:Nat)):=htb 6 aq;have z6:wr.cell? ⟨w+1,6,none⟩=some (.int .u32 0):=(hkp.cell ⟨by simp only;omega,by simp only;omega⟩).trans (HZ2.o 6 aq);have c7:wr.cell? ⟨w+2,7,none⟩=some (.int .u32 (hi d.a1:Nat)):=htb 7 aq;have z7:wr.cell? ⟨w+1,7,none⟩=some (.int .u32 0):=(hkp.cell ⟨by simp only;omega,by simp only;omega⟩).trans (HZ2.o 7 aq);have c8:wr.cell? ⟨w+2,8,none⟩=some (.int .u32 (lo d.a2:Nat)):=htb 8 aq;have z8:wr.cell? ⟨w+1,8,none⟩=some (.int .u32 0):=(hkp.cell ⟨by simp only;omega,by simp only;omega⟩).trans (HZ2.o 8 aq);have c9:wr.cell? ⟨w+2,9,none⟩=some (.int .u32 (hi d.a2:Nat)):=htb 9 aq;have z9:wr.cell? ⟨w+1,9,none⟩=some (.int .u32 0):=(hkp.cell ⟨by simp only;omega,by simp only;omega⟩).trans (HZ2.o 9 aq);have c10:wr.cell? ⟨w+2,10,none⟩=some (.int .u32 (lo d.a3:Nat)):=htb 10 aq;have z10:wr.cell? ⟨w+1,10,none⟩=some (.int .u32 0):=(hkp.cell ⟨by simp only;omega,by simp only;omega⟩).trans (HZ2.o 10 aq);have c11:wr.cell? ⟨w+2,11,none⟩=some (.int .u32 (hi d.a3:Nat)):=htb 11 aq;have z11:wr.cell? ⟨w+1,11,none⟩=some (.int .u32 0):=(hkp.cell ⟨by simp only;omega,by simp only;omega⟩).trans (HZ2.o 11 aq);have c12:wr.cell? ⟨w+2,12,none⟩=some (.int .u32 (lo d.a4:Nat)):=htb 12 aq;have z12:wr.cell? ⟨w+1,12,none⟩=some (.int .u32 0):=(hkp.cell ⟨by simp only;omega,by simp only;omega⟩).trans (HZ2.o 12 aq);have c13:wr.cell? ⟨w+2,13,none⟩=some (.int .u32 (hi d.a4:Nat)):=htb 13 aq;have z13:wr.cell? ⟨w+1,13,none⟩=some (.int .u32 0):=(hkp.cell ⟨by simp only;omega,by simp only;omega⟩).trans (HZ2.o 13 aq);have c14:wr.cell? ⟨w+2,14,none⟩=some (.int .u32 (lo d.a5:Nat)):=htb 14 aq;have z14:wr.cell? ⟨w+1,14,none⟩=some (.int .u32 0):=(hkp.cell ⟨by simp only;omega,by simp only;omega⟩).trans (HZ2.o 14 aq);have c15:wr.cell? ⟨w+2,15,none⟩=some (.int .u32 (hi d.a5:Nat)):=htb 15 aq;have z15:wr.cell? ⟨w+1,15,none⟩=some (.int .u32 0):=(hkp.cell ⟨by simp only;omega,by simp only;omega⟩).trans (HZ2.o 15 aq);have xQ:Fz wr (w+1):=Fz.keep hkp ⟨aq,aq⟩ HG2.o;have g0:wr.frozen? ⟨w+1,0,none⟩=false:=xQ 0;have g1:wr.frozen? ⟨w+1,1,none⟩=false:=xQ 1;have g2:wr.frozen? ⟨w+1,2,none⟩=false:=xQ 2;have g3:wr.frozen? ⟨w+1,3,none⟩=false:=xQ 3;have g4:wr.frozen? ⟨w+1,4,none⟩=false:=xQ 4;have g5:wr.frozen? ⟨w+1,5,none⟩=false:=xQ 5;have g6:wr.frozen? ⟨w+1,6,none⟩=false:=xQ 6;have g7:wr.frozen? ⟨w+1,7,none⟩=false:=xQ 7;have g8:wr.frozen? ⟨w+1,8,none⟩=false:=xQ 8;have g9:wr.frozen? ⟨w+1,9,none⟩=false:=xQ 9;have g10:wr.frozen? ⟨w+1,10,none⟩=false:=xQ 10;have g11:wr.frozen? ⟨w+1,11,none⟩=false:=xQ 11;have g12:wr.frozen? ⟨w+1,12,none⟩=false:=xQ 12;have g13:wr.frozen? ⟨w+1,13,none⟩=false:=xQ 13;have g14:wr.frozen? ⟨w+1,14,none⟩=false:=xQ 14;have g15:wr.frozen? ⟨w+1,15,none⟩=false:=xQ 15;have aw7:=ah xQ;have aAx:=ah hfz;clear xQ hfz;have aAq:=ah htb;have ak6:=ah hkp;clear htb hkp hx;go_wp2_with fail;refine aM (v:=aiz d) (by simp[results,results256,go_sem,z0,z1,z2,z3,z4,z5,z6,z7,z8,z9,z10,z11,z12,z13,z14,z15];rfl) rfl ⟨rfl,?_⟩
   repeat(refine Ext.setCell ?_ cG _)
   exact HX.o
end jO
def tG(h:zP:=by unfold Rt;go_in;go_wp2;go_ret2;exact⟨rfl,((aj _).alloc _)⟩):zP:=h
namespace jO
theorem agl(d:Dat)(k:Nat)(h:k<64)(w:ay):(Instr.index 165 (.agg (aiA d)) (.int .u32 ((k:Int)/4))).run prog w= .ok (.int .u32 (wd d k:Nat)) w:=by have hj:k/4<16:=aq;have e:((k:Int)/4)=((k/4:Nat):Int):=aq;have hw:wd d k=(wds d).getD (k/4) 0:=rfl;rw[e,hw];generalize k/4=j at *;rcases ajg j hj with rfl|rfl|rfl|rfl|rfl|rfl|rfl|rfl|rfl|rfl|rfl|rfl|rfl|rfl|rfl|rfl<;>rfl
theorem Cg(d:Dat)(hd:EU d)(k:Nat)(w:ay):Rt 191 #[yL d,.int .u32 k] w (.tuple #[.int .u32 ((yB d k).1:Nat),.int .i64 (yB d k).2]):=by
 have hT:=λW=>rR d hd W
 unfold yL aiz at hT;unfold yL;by_cases h1:k%4=0
 ·have d1:((k:Int)%4 !=0)=false:=by simp;omega
  by_cases h2:k<64
  ·have hA:yB d k=(wd d k,0):=by unfold yB;rw[aV (by simp[okW,h1,h2])]
   have d2:decide (64<=(k:Int))=false:=aT aq;have d2':decide (64<=k)=false:=aT aq;have hI:=agl d k h2;rw[hA];have pQ:=ah hA;have vV:=ah hT;have Hh1:=ah h1;clear hA hT h1;generalize aiA d=T at *;unfold Rt;go_in;go_wp2_with((go_at_call 256;refine ap (vV.o _) ?_;intro w1 hx1));go_ret2;exact lP
  ·have hA:yB d k=(0,41):=by unfold yB;rw[aN (by simp[okW];omega)]
   have d2:decide (64<=(k:Int))=true:=aQ aq;have d2':decide (64<=k)=true:=aQ aq;rw[hA];have pQ:=ah hA;have vV:=ah hT;clear hA hT;have Hh1:=ah h1;have Hh2:=ah h2;clear h1 h2;exact tG
 ·have d1:((k:Int)%4 !=0)=true:=by simp;omega
  have hA:yB d k=(0,41):=by unfold yB;rw[aN (by simp[okW];omega)]
  rw[hA];have pQ:=ah hA;have vV:=ah hT;have Hh1:=ah h1;clear hA hT h1;exact tG
end jO
end Go.Proofs.YtopfefhenfineaaGreat
