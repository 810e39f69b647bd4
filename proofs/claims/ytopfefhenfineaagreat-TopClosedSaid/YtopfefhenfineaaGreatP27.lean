import Derived.Test.YtopfefhenfineaaGreatP26
import Derived.Defers
import Derived.Recover
set_option linter.all false
set_option maxRecDepth 100000
set_option maxHeartbeats 8000000
namespace Go.Proofs.YtopfefhenfineaaGreat
open Go.Proofs.Tryz Go.RowKit V
attribute[local go_sem] Oper.semAt_some
variable{zP:Prop}
def nB(h:zP:=by
 match i with
 |0=>rfl
 |1=>rfl
 |2=>rfl
 |3=>rfl
 |4=>rfl
 |5=>rfl
 |6=>rfl
 |7=>rfl
 |8=>rfl
 |9=>rfl
 |10=>rfl
 |11=>rfl
 |12=>rfl
 |13=>rfl
 |n+14=>rfl):zP:=h
namespace LT
def BS:Array aA:= #[.int .u16 4,.func (.func 310) #[] #[],.nilFunc,.int .u16 20,.func (.func 311) #[] #[],.nilFunc,.int .u16 36,.func (.func 312) #[] #[],.nilFunc,.int .u16 52,.func (.func 313) #[] #[],.nilFunc,.int .u16 68,.func (.func 314) #[] #[],.nilFunc,.int .u16 84,.func (.func 315) #[] #[],.nilFunc,.int .u16 100,.func (.func 316) #[] #[],.nilFunc,.int .u16 116,.func (.func 317) #[] #[],.nilFunc,.int .u16 164,.func (.func 318) #[] #[],.nilFunc,.int .u16 132,.func (.func 319) #[] #[],.nilFunc,.int .u16 21,.nilFunc,.func (.func 320) #[] #[],.int .u16 37,.nilFunc,.func (.func 321) #[] #[],.int .u16 53,.nilFunc,.func (.func 322) #[] #[],.int .u16 69,.nilFunc,.func (.func 323) #[] #[]]
theorem Pz(w:ay):Rt 258 #[] w (.agg BS):=by
 unfold Rt;go_in;go_upto_region 1 with fail;apply wp_region_lit;refine bT 309 1 (#[.int .u16 4,.func (.func 310) #[] #[],.nilFunc]) ?_;refine bT 309 2 (#[.int .u16 20,.func (.func 311) #[] #[],.nilFunc]) ?_;refine bT 309 3 (#[.int .u16 36,.func (.func 312) #[] #[],.nilFunc]) ?_;refine bT 309 4 (#[.int .u16 52,.func (.func 313) #[] #[],.nilFunc]) ?_;refine bT 309 5 (#[.int .u16 68,.func (.func 314) #[] #[],.nilFunc]) ?_;refine bT 309 6 (#[.int .u16 84,.func (.func 315) #[] #[],.nilFunc]) ?_;refine bT 309 7 (#[.int .u16 100,.func (.func 316) #[] #[],.nilFunc]) ?_;refine bT 309 8 (#[.int .u16 116,.func (.func 317) #[] #[],.nilFunc]) ?_;refine bT 309 9 (#[.int .u16 164,.func (.func 318) #[] #[],.nilFunc]) ?_;refine bT 309 10 (#[.int .u16 132,.func (.func 319) #[] #[],.nilFunc]) ?_;refine bT 309 11 (#[.int .u16 21,.nilFunc,.func (.func 320) #[] #[]]) ?_;refine bT 309 12 (#[.int .u16 37,.nilFunc,.func (.func 321) #[] #[]]) ?_;refine bT 309 13 (#[.int .u16 53,.nilFunc,.func (.func 322) #[] #[]]) ?_;refine bT 309 14 (#[.int .u16 69,.nilFunc,.func (.func 323) #[] #[]]) ?_;refine bT 386 15 (BS) ?_;refine wpList_store_rowTo rfl 386 _ _ rfl rfl w.heap.size BS bj bj 386 _ (heap_alloc_last w _) ax ax ax ?_;rw[World.setRow_alloc_new];apply wpList_nil;rename_i hK;refine hK _ _ ?_;have key:∀A:Act,A.tmps.getD 0 undef= .pointer (some w)->A.defers=[]->Code.wp prog Code.ret (bodyPost prog Tryz.f258 λe w'=>e= .returned (.agg BS)/\Ext w w') A (w.alloc (.cells BS 386)):=by intro A h0 hd;go_wp2_with fail;exact aM (v:= .agg BS) (dV results258 _ _ _ _ _ _ _ h0 (heap_alloc_last w _) underlying386 rfl ax) hd ⟨rfl,(aj _).alloc _⟩
 exact tw
def pcd:List Nat:= [4,20,36,52,68,84,100,116,164,132,21,37,53,69]
def pdo:List aA:= [.func (.func 310) #[] #[],.func (.func 311) #[] #[],.func (.func 312) #[] #[],.func (.func 313) #[] #[],.func (.func 314) #[] #[],.func (.func 315) #[] #[],.func (.func 316) #[] #[],.func (.func 317) #[] #[],.func (.func 318) #[] #[],.func (.func 319) #[] #[],.nilFunc,.nilFunc,.nilFunc,.nilFunc]
def phl:List aA:= [.nilFunc,.nilFunc,.nilFunc,.nilFunc,.nilFunc,.nilFunc,.nilFunc,.nilFunc,.nilFunc,.nilFunc,.func (.func 320) #[] #[],.func (.func 321) #[] #[],.func (.func 322) #[] #[],.func (.func 323) #[] #[]]
def TT(k:Nat):Nat:=pcd.getD k 0
def pdK(k:Nat):aA:=pdo.getD k .nilFunc
def phK(k:Nat):aA:=phl.getD k .nilFunc
theorem abZ(i:Nat)(h:i<14)(W:ay):(Instr.index 386 (.agg BS) (.int .i64 i)).run prog W= .ok (.agg #[.int .u16 (TT i:Int),pdK i,phK i]) W:=by
 match i,h with
 |0,_=>rfl
 |1,_=>rfl
 |2,_=>rfl
 |3,_=>rfl
 |4,_=>rfl
 |5,_=>rfl
 |6,_=>rfl
 |7,_=>rfl
 |8,_=>rfl
 |9,_=>rfl
 |10,_=>rfl
 |11,_=>rfl
 |12,_=>rfl
 |13,_=>rfl
 |n+14,h=>exact absurd h aq
def am2:∀i,i<14->TT i<65536:=az
def am1:∀i,i<14->∀k,k<i->TT k≠TT i:=az
def aiW(i:Nat):(pdK i).oneCell'=true:=by
 unfold pdK pdo
 exact nB
def aiT(i:Nat):(phK i).oneCell'=true:=by
 unfold phK phl
 exact nB
def akJ{a D H:aA}(h0:a.oneCell'=true)(h1:D.oneCell'=true)(h2:H.oneCell'=true):(#[a,D,H]:Array aA).all (·.oneCell')=true:=by rw[<-Array.all_toList];simp only[List.all_cons,List.all_nil,h0,h1,h2,Bool.and_self]
theorem Mk:(Tryz.prog.info? 309).map (·.size)=some 3:=ax
theorem KS(j:Nat)(hj:j<14)(hw:xw.wx (TT j)=false)(w:ay):Rt 193 #[.int .u16 (TT j:Int)] w (.agg #[.int .u16 (TT j:Int),pdK j,phK j]):=by
 have hX:=λW=>xw.Ab (TT j) (am2 j hj) W
 rw[hw]at hX;have hP:=λW=>Pz W
 have hne:=am1 j hj;have hb0:=aC w (.cells #[.int .u16 0,.nilFunc,.nilFunc] 309);obtain⟨W0,hW0⟩:∃W0,W0=w.alloc (.cells #[.int .u16 0,.nilFunc,.nilFunc] 309):=⟨_,rfl⟩;have hx0:Ext w W0:=by rw[hW0];exact(aj _).alloc _
 rw[<-hW0]at hb0;have HW0:=ah hW0;have HB0:=ah (ak hb0 hx0);have HhX:=ah hX;have VD:=ah hP;have Sk:=ah hne;clear hX hP hne hw hW0 hb0 hx0;unfold Rt;go_in;go_upto_region 1 with fail;rw[<-HW0.o];go_wp2_with fail;refine ap (HhX.o _) ?_;intro w1 hx1;have gK:=ah hx1;clear hx1;go_wp2_with fail;refine ap (VD.o _) ?_;intro w2 hx2;have jm:=ah (gK.o.trans hx2);clear hx2;go_wp2_with fail;go_loopw [10] (λi wr=>∃k:Nat,k<=j/\i= .int .i64 k/\Ext W0 wr) (λi _=>14-(intOf i).toNat)
 case atStart=>exact⟨0,aq,rfl,jm.o⟩
 case round=>
  obtain⟨k,hk,rfl,hx⟩:=hrel;have aoa:k<14:=aq;have hz:(k:Int)<14:=aq;have hix:=abZ k aoa;have d1:=aiW k;have h1:=aiT k;have HX:=ah hx;have hr0:=aI HB0.o.1 hx;have HR:=ah hr0;have hnk:k<j->TT k≠TT j:=λh=>Sk.o k h
  clear hx;by_cases hkj:k=j
  ·subst hkj;clear hnk hz aoa hk;generalize hpc:TT k=pc at *;generalize hD:pdK k=D at *;generalize hH:phK k=H at *;have HE:=ah (ak hpc (ak hD hH));clear hpc hD hH;have hc4:=aC wr (.cells #[.int .u16 pc,D,H] 309);obtain⟨⟨c0,c1,c2⟩,-⟩:=sO hc4;have hg:((wr.alloc (.cells #[.int .u16 pc,D,H] 309))).heap[w.heap.size]?=_:=aI hr0 ((aj _).alloc _);go_wp2_with(first
    |(refine wpList_store_rowTo rfl 309 (.tmp 4) (.tmp 12) rfl rfl wr.heap.size #[.int .u16 pc,D,H] rfl rfl 309 _ (aC wr _) Mk rfl (akJ rfl d1 h1) ?_;simp only[World.setRow_alloc_new])
    |(refine wpList_store_rowTo rfl 309 (.tmp 2) (.tmp 17) rfl rfl w.heap.size #[.int .u16 pc,D,H] rfl rfl 309 _ hg Mk rfl (akJ rfl d1 h1) ?_))
   rw[HE.o.1,HE.o.2.1,HE.o.2.2];exact aM (v:= .agg #[.int .u16 pc,D,H]) (dV results193 _ _ _ _ _ _ _ rfl (dH _ _ _ _ _ _ hg) underlying309 rfl Mk) rfl
    ⟨rfl,eB ((HB0.o.2.trans HX.o).alloc _) (aD _) _⟩
  ·have hlt:k<j:=aq;have hne:((TT k:Int)==(TT j:Int))=false:=by have:=hnk hlt;exact bK.2 aq
   generalize TT k=pc at *;generalize pdK k=D at *;generalize phK k=H at *;clear hnk hr0;have hc4:=aC wr (.cells #[.int .u16 pc,D,H] 309);obtain⟨⟨c0,c1,c2⟩,-⟩:=sO hc4;go_wp2_with(refine wpList_store_rowTo rfl 309 (.tmp 4) (.tmp 12) rfl rfl wr.heap.size #[.int .u16 pc,D,H] rfl rfl 309 _ (aC wr _) Mk rfl (akJ rfl d1 h1) ?_;simp only[World.setRow_alloc_new]);go_roundw
   case rel=>exact⟨k+1,aq,bm,HX.o.alloc _⟩
   case measure=>exact gO
end LT
def mA(h:zP:=by clear hx1 hx hm;go_wp2_with fail;refine ap HL.o ?_;rintro w2 ⟨hg,hm2⟩;have HE:=ah (ak (wL (B4 HX.o _) hg) hm2);clear hg hm2;go_wp2_with fail;go_ret;exact⟨rfl,HE.o⟩):zP:=h
def lR(h:zP:=by go_wp2_with fail;refine ap HL.o ?_;intro w2 hx2;have HE:=ah (ak (B4 (HX.o.1.trans hx2) (some mb)) (show Mb w2 mb a d t false from aI HX.o.2 hx2));clear hx2;go_wp2_with fail;go_ret;exact⟨rfl,HE.o⟩):zP:=h
namespace LT
open jO (Dat yL EU wd okW Cg)
open xw (iQ wx Ab)
abbrev mC(a:Nat)(d:Dat)(t:Nat)(o:Bool):Array aA:= #[.int .u32 a,.int .u32 0,.int .u32 0,.int .u32 0,.int .u32 0,.int .u32 0,.int .u32 0,.int .u32 0,.int .u32 0,.int .u32 0,.int .u32 0,.int .u32 0,.int .u32 0,.int .u32 0,.int .u32 0,.int .u32 0,.int .u32 0,.int .u32 0,
 .int .u32 d.nr,.int .u32 d.ar,.int .u64 (d.ip:Int),.int .u64 (d.a0:Int),.int .u64 (d.a1:Int),.int .u64 (d.a2:Int),.int .u64 (d.a3:Int),.int .u64 (d.a4:Int),.int .u64 (d.a5:Int),.int .u32 t,.bool o]
def Mb(W:ay)(mb a:Nat)(d:Dat)(t:Nat)(o:Bool):Prop:=W.heap[mb]?=some (.cells (mC a d t o) 167 (0,0))
def B4{W w2:ay}(h:Ext W w2)(r:Option Nat):W.grownBy w2 r:=⟨h.os,h.tape,h.output,h.size,λ_ hk _=>h.block hk⟩
def wL{A B C:ay}{r:Option Nat}(h:A.grownBy B r)(k:B.grownBy C r):A.grownBy C r:=⟨k.os.trans h.os,k.tape.trans h.tape,k.output.trans h.output,aL h.size k.size,λi hi hn=>(k.block i (gY hi h.size) hn).trans (h.block i hi hn)⟩
def Nu(W:ay)(b k:Nat)(v:aA):W.grownBy (W.setCell ⟨b,k,none⟩ v) (some b):=⟨rfl,rfl,rfl,aE,λi _ hn=>aX _ _ _ _ (λe=>hn (by rw[e]))⟩
theorem Cw(x:Ix)(hx:wx x.c=false)(hc:x.c<65536)(p:aA)(W:ay):Rt 192 #[p,m8 x] W (.int .u32 x.k):=by
 have hO:=λW=>Ab x.c hc W
 rw[hx]at hO;obtain⟨c,jt,jf,k⟩:=x;unfold m8;have b0:=aC W (.cells #[.int .u16 c,.int .u8 jt,.int .u8 jf,.int .u32 k] 173);have HB:=ah b0;have HO:=ah hO;clear hO b0 hx;unfold Rt;go_in;go_wp2_with fail;refine ap (HO.o _) ?_;intro w1 hx1;obtain⟨⟨-,-,-,c3⟩,-⟩:=pO (aI HB.o hx1);have HX:=ah (((aj W).alloc _).trans hx1);clear hx1;exact pZ
theorem P6(d:Dat)(hd:EU d)(jt jf k:Nat)(hk:okW k=true)(a t mb:Nat)(W:ay)(hm:Mb W mb a d t false):Calls prog 148 #[.pointer (some mb),(.agg #[.int .u16 32,.int .u8 jt,.int .u8 jf,.int .u32 k])] W λe w'=>e= .returned (.tuple #[])/\W.grownBy w' (some mb)/\Mb w' mb (wd d k) d t false:=by
 have hO:=λW=>Cg d hd k W
 have e1:jO.yB d k=(wd d k,0):=by unfold jO.yB;rw[aV hk]
 rw[e1]at hO;dsimp only at hO;generalize wd d k=x at *;obtain⟨W1,hW1⟩:∃W1,W1=W.alloc (.cells #[.int .u16 32,.int .u8 jt,.int .u8 jf,.int .u32 k] 173):=⟨_,rfl⟩;have hx1:Ext W W1:=by rw[hW1];exact(aj _).alloc _
 have m1:=aI hm hx1;have b1:W1.heap[W.heap.size]?=some (.cells #[.int .u16 32,.int .u8 jt,.int .u8 jf,.int .u32 k] 173 (0,0)):=by rw[hW1];exact aC W _
 obtain⟨⟨c0,-,-,c3⟩,-⟩:=pO b1;have d18:=aG m1 18;have d19:=aG m1 19;have d20:=aG m1 20;have d21:=aG m1 21;have d22:=aG m1 22;have d23:=aG m1 23;have d24:=aG m1 24;have d25:=aG m1 25;have d26:=aG m1 26;simp only[mC,List.getElem?_toArray,List.getElem?_cons_succ,List.getElem?_cons_zero]at d18 d19 d20 d21 d22 d23 d24 d25 d26;have HK:=ah (hO W1.drew);unfold yL at HK;have HX:=ah (ak hx1 m1);have HW:=ah hW1;clear hO hm e1 hx1 m1 hW1;go_in;go_upto_region 2 with fail;rw[<-HW.o];go_wp2_with fail;go_region_with(refine ap HK.o ?_;intro w2 hx2;have jm:=ah hx2;have m2:=aI HX.o.2 ((aj _).drew.trans jm.o);have y0:w2.cell? mb=some (.int .u32 a):=aG m2 0;have f0:=aP m2 0;have HM:=ah m2;clear hx2 m2)
 all_goals
  go_wp2_with fail
  first|go_end0|refine aM (bH rfl _ _ _) rfl ?_
  exact⟨rfl,wL (B4 (HX.o.1.trans ((aj _).drew.trans jm.o)) _) (Nu _ _ _ _),eX HM.o 0 _⟩
def ao4{a b:Nat}(ha:a<4294967296)(hb:b<4294967296):bits .and .u32 a (b:Int)=((a&&&b:Nat):Int):=by rw[u32_and _ _ aq aq aq aq];simp
theorem aat(a b:Nat)(ha:a<4294967296)(hb:b<4294967296)(w:ay):Calls prog 315 #[.int .u32 a,.int .u32 b] w λe w'=>e= .returned (.int .u32 ((a&&&b:Nat):Int))/\w'=w:=by have h:=ao4 ha hb;go_in;exact im
def adY(c:Nat):Nat:=if c=21 then 10 else if c=37 then 11 else if c=53 then 12 else 13
theorem Iz(c k a jt jf:Nat)(ha:a<4294967296)(hb:k<4294967296)(hc:jO.gF c=true)(w:ay):∃g,phK (adY c)= .func (.func g) #[] #[]/\(∀args w,(callFunc g args).run prog w= .ok (.enter g args) w)/\Calls prog g #[.int .u32 a,.int .u32 k] w λe w'=>e= .returned (.bool (hlX ⟨c,jt,jf,k⟩ a))/\w'=w:=by
 simp only[jO.gF,gq,fU]at hc;unfold hlX jO.hld;rcases hc with rfl|rfl|rfl|rfl
 ·refine⟨320,rfl,enters_of func320 ax rfl,?_⟩;go_in;go_wp2_with fail;go_ret;exact⟨(by show Ending.returned (.bool ((a:Int)==(k:Int)))=_;congr 2;rw[bB];simp;omega),rfl⟩
 ·refine⟨321,rfl,enters_of func321 ax rfl,?_⟩;go_in;exact im
 ·refine⟨322,rfl,enters_of func322 ax rfl,?_⟩;go_in;exact im
 ·refine⟨323,rfl,enters_of func323 ax rfl,?_⟩;have h:=ao4 ha hb;have h2:(((a&&&k:Nat):Int) !=0)=((a&&&k) !=0):=by rw[bB];simp
  go_in;exact im
theorem M0(d:Dat)(jt jf k:Nat)(hk:k<4294967296)(a t mb:Nat)(ha:a<4294967296)(W:ay)(hm:Mb W mb a d t false):Calls prog 150 #[.pointer (some mb),(.agg #[.int .u16 84,.int .u8 jt,.int .u8 jf,.int .u32 k])] W λe w'=>e= .returned (.tuple #[])/\W.grownBy w' (some mb)/\Mb w' mb (a&&&k) d t false:=by
 have hS:=λW=>Cw ⟨84,jt,jf,k⟩ (show wx 84=false from ci) (show 84<65536 from az) (.pointer (some mb)) W
 have hB:=λW=>KS 5 az ci W
 have hA:=λW=>aat a k ha hk W
 have eg:=enters_of func315 ax rfl
 change∀W,Calls prog 193 #[.int .u16 84] W λe w'=>e= .returned (.agg #[.int .u16 84,.func (.func 315) #[] #[],.nilFunc])/\Ext W w' at hB
 have hf:∀W,(Instr.field 309 (.agg #[.int .u16 84,.func (.func 315) #[] #[],.nilFunc]) 1).run prog W= .ok (.func (.func 315) #[] #[]) W:=λ_=>rfl
 generalize a&&&k=y at *;have b1:=aC W (.cells #[.int .u16 84,.int .u8 jt,.int .u8 jf,.int .u32 k] 173);obtain⟨⟨c0,c1,c2,c3⟩,-⟩:=pO b1;have HM:=ah (ak hm b1);unfold m8 at hS;have HS:=ah hS;have HB:=ah hB;have HA:=ah hA;clear hS hB hA hm b1;go_in;go_wp2_with fail;refine ap (HS.o _) ?_;intro w1 hx1;have HX:=ah (((aj W).alloc _).trans hx1);have m1:=aI HM.o.1 HX.o;have y0:w1.cell? mb=some (.int .u32 a):=aG m1 0;have d0:=hx1.cell c0;have HM1:=ah m1;clear hx1 m1 c0 c1 c2 c3;go_wp2_with fail;go_region_with(first|(go_at_call 193;refine ap (HB.o _) ?_;intro w2 hx2;have jm:=ah hx2;have m2:=aI HM1.o ((aj _).drew.trans hx2);have z0:w2.cell? mb=some (.int .u32 a):=aG m2 0;have f0:=aP m2 0;have HM2:=ah m2;clear hx2 m2)|(go_at_call 315;refine ap (HA.o _) ?_;rintro w3 rfl))
 all_goals
  go_wp2_with fail
  first|go_end0|refine aM (bH rfl _ _ _) rfl ?_
  exact⟨rfl,wL (B4 (HX.o.trans ((aj _).drew.trans jm.o)) _) (Nu _ _ _ _),eX HM2.o 0 _⟩
def w64{k:Nat}(hk:k<4294967296):wrap64 (k:Int)=k:=by simp[wrap64];omega
theorem Qx(jt jf k:Nat)(hk:k<4294967296)(p:aA)(W:ay):Rt 151 #[p,(.agg #[.int .u16 5,.int .u8 jt,.int .u8 jf,.int .u32 k])] W (.int .i64 k):=by obtain⟨⟨c0,c1,c2,c3⟩,-⟩:=pO (aC W (.cells #[.int .u16 5,.int .u8 jt,.int .u8 jf,.int .u32 k] 173));unfold Rt;go_in;go_wp2_with fail;go_ret;exact⟨by rw[<-w64 hk];rfl,(aj _).alloc _⟩
theorem Qw(c jt jf k:Nat)(hc:jO.gF c=true)(hk:k<4294967296)(hjt:jt<256)(hjf:jf<256)(d:Dat)(a t mb:Nat)(ha:a<4294967296)(W:ay)(hm:Mb W mb a d t false):Calls prog 151 #[.pointer (some mb),(.agg #[.int .u16 c,.int .u8 jt,.int .u8 jf,.int .u32 k])] W λe w'=>e= .returned (.int .i64 ((if hlX ⟨c,jt,jf,k⟩ a=true then jt else jf:Nat):Int))/\Ext W w':=by
 have hq:adY c<14/\TT (adY c)=c/\wx c=false/\c<65536/\c≠5:=by simp only[jO.gF,gq,fU]at hc;rcases hc with rfl|rfl|rfl|rfl<;>decide+kernel
 obtain⟨q1,q2,q3,q4,q5⟩:=hq;have hS:=λW=>Cw ⟨c,jt,jf,k⟩ q3 q4 (.pointer (some mb)) W
 have hB:=λW=>KS (adY c) q1 (by rw[q2];exact q3) W
 obtain⟨g,hg,eg,-⟩:=Iz c k a jt jf ha hk hc W;have hH:=λw=>Iz c k a jt jf ha hk hc w
 rw[hg,q2]at hB;have hH2:∀w,Calls prog g #[.int .u32 a,.int .u32 k] w λe w'=>e= .returned (.bool (hlX ⟨c,jt,jf,k⟩ a))/\w'=w:=λw=>by obtain⟨g2,e2,-,h2⟩:=hH w;rw[hg]at e2;cases e2;exact h2
 have hf:∀D W,(Instr.field 309 (.agg #[.int .u16 c,D,.func (.func g) #[] #[]]) 2).run prog W= .ok (.func (.func g) #[] #[]) W:=λ_ _=>rfl
 have q6:((c:Int)==5)=false:=bK.2 aq;have u1:wrap64 (jt:Int)=jt:=w64 aq;have u2:wrap64 (jf:Int)=jf:=w64 aq;generalize hlX ⟨c,jt,jf,k⟩ a=hb at *;generalize pdK (adY c)=D at *;obtain⟨W1,hW1⟩:∃W1,W1=W.alloc (.cells #[.int .u16 c,.int .u8 jt,.int .u8 jf,.int .u32 k] 173):=⟨_,rfl⟩;have hx1:Ext W W1:=by rw[hW1];exact(aj _).alloc _
 have b1:=aC W (.cells #[.int .u16 c,.int .u8 jt,.int .u8 jf,.int .u32 k] 173);rw[<-hW1]at b1;obtain⟨⟨c0,c1,c2,c3⟩,-⟩:=pO b1;have y0:W1.cell? mb=some (.int .u32 a):=aG (aI hm hx1) 0;unfold m8 at hS;have HS:=ah hS;have HB:=ah hB;have HA:=ah hH2;have HX:=ah hx1;have HW:=ah hW1;clear hS hB hH2 hm hx1 hH hg hW1 b1 hc q1 q2 q3 q4 q5;go_in;go_upto_region 3 with fail;rw[<-HW.o];have c0x:=nV c0;have c1x:=nV c1;have c2x:=nV c2;have c3x:=nV c3;have y0x:=nV y0;refine fE ax ax ?_
 repeat(any_goals(first|go_big_quiet_step ((first|(go_at_call 193;with_reducible exact dx (HB.o _))|(go_at_call 192;with_reducible exact dx (HS.o _))|with_reducible exact dx ((HA.o _).mono λ_ _ h=>⟨h.1,h.2▸aj _⟩)))|quiet_step ((first|(go_at_call 193;with_reducible exact dx (HB.o _))|(go_at_call 192;with_reducible exact dx (HS.o _))|with_reducible exact dx ((HA.o _).mono λ_ _ h=>⟨h.1,h.2▸aj _⟩)))))
 all_goals(refine i4 ?_;intro _ B2;obtain⟨x,hw8⟩:=B2;subst hw8)
 have c1':=x.h.cell c1;have c2':=x.h.cell c2;have jm:=ah (HX.o.trans x.h);clear c0x c1x c2x c3x y0x c0 c1 c2 c3 y0;generalize x.w=w2 at *;clear x;cases hb
 ·go_wp2_with fail;go_ret;exact⟨by rw[<-u2];rfl,jm.o⟩
 ·go_wp2_with fail;go_ret;exact⟨by rw[<-u1];rfl,jm.o⟩
def SL(d:Dat)(x:Ix)(a t:Nat):(Nat×Nat×Bool)×Nat:=if x.c=6 then((a,x.k,true),0)else if x.c=32 then((wd d x.k,t,false),0)else if x.c=84 then((a&&&x.k,t,false),0)
 else if x.c=5 then((a,t,false),x.k)else((a,t,false),if hlX x a=true then x.jt else x.jf)
def arj(d:Dat)(W w':ay)(mb:Nat)(e:Ending)(s:(Nat×Nat×Bool)×Nat):Prop:=e= .returned (.int .i64 s.2)/\W.grownBy w' (some mb)/\Mb w' mb s.1.1 d s.1.2.1 s.1.2.2
theorem adF(x:Ix)(left:Nat)(hx:F5 x left=true)(d:Dat)(hd:EU d)(a t mb:Nat)(ha:a<4294967296)(W:ay)(hm:Mb W mb a d t false):Calls prog 93 #[.pointer (some mb),m8 x] W λe w'=>arj d W w' mb e (SL d x a t):=by
 have hO:=λW=>xw.kD x.c W
 obtain⟨c,jt,jf,k⟩:=x;simp only[F5,bA,gq,dK,fU]at hx;unfold m8;dsimp only at hx hO⊢;obtain⟨⟨h1,h2,h3,h4⟩,h5⟩:=hx;have b1:=aC W (.cells #[.int .u16 c,.int .u8 jt,.int .u8 jf,.int .u32 k] 173);have hw1:Ext W (W.alloc (.cells #[.int .u16 c,.int .u8 jt,.int .u8 jf,.int .u32 k] 173)):=(aj _).alloc _;have hgo:∀w1,Ext (W.alloc (.cells #[.int .u16 c,.int .u8 jt,.int .u8 jf,.int .u32 k] 173)) w1->
  ((w1.cell? W=some (.int .u16 c)/\w1.cell? ⟨W,1,none⟩=some (.int .u8 jt)/\w1.cell? ⟨W,2,none⟩=some (.int .u8 jf)/\w1.cell? ⟨W,3,none⟩=some (.int .u32 k))/\Ext W w1/\Mb w1 mb a d t false):=
  λw1 h=>⟨(pO (aI b1 h)).1,hw1.trans h,aI hm (hw1.trans h)⟩
 have HG:=ah hgo;have HO:=ah hO;have HD:=ah hd;clear hO hm b1 hw1 hgo hd;rcases h5 with((((⟨rfl,k1⟩|rfl)|rfl)|⟨rfl,k1⟩)|⟨⟨k1,k2⟩,k3⟩)
 ·have e:SL d ⟨32,jt,jf,k⟩ a t=((wd d k,t,false),0):=rfl;rw[e];have q:iQ 32=1:=ci;rw[q]at HO;go_in;go_wp2_with fail;refine ap (HO.o _) ?_;intro w1 hx1;obtain⟨⟨c0,c1,c2,c3⟩,hx,hm⟩:=HG.o w1 hx1;have HX:=ah hx;have HL:=ah (P6 d HD.o jt jf k k1 a t mb w1 hm);exact mA
 ·have e:SL d ⟨84,jt,jf,k⟩ a t=((a&&&k,t,false),0):=rfl;rw[e];have q:iQ 84=3:=ci;rw[q]at HO;go_in;go_wp2_with fail;refine ap (HO.o _) ?_;intro w1 hx1;obtain⟨⟨c0,c1,c2,c3⟩,hx,hm⟩:=HG.o w1 hx1;have HX:=ah hx;have HL:=ah (M0 d jt jf k h4 a t mb ha w1 hm);exact mA
 ·have e:SL d ⟨6,jt,jf,k⟩ a t=((a,k,true),0):=rfl;rw[e];have q:iQ 6=5:=ci;rw[q]at HO;go_in;go_wp2_with fail;refine ap (HO.o _) ?_;intro w1 hx1;obtain⟨⟨c0,c1,c2,c3⟩,hx,hm⟩:=HG.o w1 hx1;have y0:w1.cell? ⟨mb,27,none⟩=some (.int .u32 t):=aG hm 27;have y1:w1.cell? ⟨mb,28,none⟩=some (.bool false):=aG hm 28;have f0:=aP hm 27;have f1:=aP hm 28;have HX:=ah hx;have HM:=ah (eX (eX hm 27 (.int .u32 k)) 28 (.bool true));clear hx1 hx hm;go_wp2_with fail;go_ret;exact⟨rfl,wL (wL (B4 HX.o _) (Nu _ _ _ _)) (Nu _ _ _ _),HM.o⟩
 ·have e:SL d ⟨5,jt,jf,k⟩ a t=((a,t,false),k):=rfl;rw[e];have q:iQ 5=4:=ci;rw[q]at HO;go_in;go_wp2_with fail;refine ap (HO.o _) ?_;intro w1 hx1;obtain⟨⟨c0,c1,c2,c3⟩,hx,hm⟩:=HG.o w1 hx1;have HX:=ah (ak hx hm);have HL:=ah (Qx jt jf k h4 (.pointer (some mb)) w1);clear hx1 hx hm;exact lR
 ·obtain⟨m,hmm⟩:∃m,(if hlX ⟨c,jt,jf,k⟩ a=true then jt else jf)=m:=⟨_,rfl⟩;have e:SL d ⟨c,jt,jf,k⟩ a t=((a,t,false),m):=by have:=pG k1;unfold SL;dsimp only;rw[aN this.2.2.1,aN this.1,aN this.2.1,aN this.2.2.2,hmm]
  rw[e];have q:iQ c=4:=by simp only[jO.gF,gq,fU]at k1;rcases k1 with rfl|rfl|rfl|rfl<;>decide+kernel
  rw[q]at HO;go_in;go_wp2_with fail;refine ap (HO.o _) ?_;intro w1 hx1;obtain⟨⟨c0,c1,c2,c3⟩,hx,hm⟩:=HG.o w1 hx1;have HX:=ah (ak hx hm);have hl:=Qw c jt jf k k1 h4 h2 h3 d a t mb ha w1 hm;rw[hmm]at hl;have HL:=ah hl;clear hx1 hx hm k1 q e hmm hl;exact lR
end LT
def eM(h:zP:=by show _<=w.heap.size+1+1;omega):zP:=h
namespace LT
open jO (Dat yL EU wd okW)
variable{W W' w:ay}{a a' f i t t':Nat}{d:Dat}{o o':Bool}{tr tr':List Int}{v v':aA}
def ae2(hd:EU d){p:List Ix}(hp:TW p=true)(hi:i<p)(hf:p.length-i<=f)(a t:Nat)(ha:a<4294967296):(p[i].c=6/\vr d f (p.drop i) a=p[i].k/\SL d p[i] a t=((a,p[i].k,true),0))\/(i+1+(SL d p[i] a t).2<p.length/\vr d f (p.drop i) a=vr d (f-1) (p.drop (i+1+(SL d p[i] a t).2)) (SL d p[i] a t).1.1/\(SL d p[i] a t).1.2=(t,false)/\(SL d p[i] a t).1.1<4294967296):=by
 unfold TW at hp;rw[bA]at hp;obtain⟨hs,hl⟩:=hp;have hx:=Aw hs hi;obtain⟨g,rfl⟩:∃g,f=g+1:=⟨f-1,aq⟩;have hdr:=bJ hi;rw[hdr,jr];have hlast:p[i].c≠6->i+1<p:=λh6=>by
  by_cases e:i+1<p
  ·exact e
  ·exfalso;have:i=p.length-1:=aq;subst this;rw[List.getLast?_eq_getElem?,aJ hi]at hl;exact h6 ek
 generalize hxe:p[i]=x at *;obtain⟨c,jt,jf,k⟩:=x;simp only[F5,bA,gq,dK,fU]at hx;dsimp only at hx hlast⊢;obtain⟨⟨h1,h2,h3,h4⟩,h5⟩:=hx;rcases h5 with((((⟨rfl,k1⟩|rfl)|rfl)|⟨rfl,k1⟩)|⟨⟨k1,k2⟩,k3⟩)
 ·exact .inr ⟨hlast az,amF rfl,rfl,jO.abd hd _⟩
 ·exact .inr ⟨hlast az,amI rfl,rfl,Nat.lt_of_le_of_lt (Nat.and_le_left) ha⟩
 ·exact .inl ⟨rfl,air rfl,rfl⟩
 ·exact .inr ⟨by show i+1+k<_;omega,(amG rfl).trans (by rw[List.drop_drop];rfl),rfl,ha⟩
 ·have h:=pG k1;have e:SL d ⟨c,jt,jf,k⟩ a t=((a,t,false),if hlX ⟨c,jt,jf,k⟩ a=true then jt else jf):=by unfold SL;dsimp only;rw[aN h.2.2.1,aN h.1,aN h.2.1,aN h.2.2.2]
  rw[e];refine .inr ⟨?_,?_,rfl,ha⟩
  ·show i+1+(if _ then _ else _)<_;split<;>omega
  ·rw[amH k1,List.drop_drop]
structure RnS(w:ay)(a:Nat)(d:Dat)(t:Nat)(o:Bool)(v:aA)(tr:List Int)(W:ay):Prop where
 ext:Ext w W
 c1:Boxed W (w+1) 32 (.int .u32 0)
 c2:Boxed W (w+2) 43 (.int .i64 0)
 m:Mb W (w+3) a d t o
 tr:W.ownsRow (w+4) 3 1 v tr (tr.flatMap i3)
def RnS.do(h:RnS w a d t o v tr W)(hg:W.grownBy W' (some (w.heap.size+3)))(hm:Mb W' (w+3) a' d t' o'):RnS w a' d t' o' v tr W':=
 ⟨h.ext.grown hg (λk e=>by cases e;omega),h.c1.kept hg aE,h.c2.kept hg aE,hm,h.tr.kept hg (.inr λe=>by have:=(h.tr.lt _ e).1;omega)⟩
def RnS.app(h:RnS w a d t o v tr W)(hg:W.grownBy W' v.ownBlock)(ho:W'.ownsRow (w+4) 3 1 v' tr' (tr'.flatMap i3)):RnS w a d t o v' tr' W':=by
 have hl:∀k,v.ownBlock=some k->w.heap.size+4<=k:=λk e=>(h.tr.lt k e).1
 refine⟨h.ext.grown hg (λk e=>by have:=hl k e;omega),h.c1.kept hg (λe=>by have:=hl _ e.symm;omega),h.c2.kept hg (λe=>by have:=hl _ e.symm;omega),?_,ho⟩;have hlt:=(aB.1 h.m).1;exact(hg.block _ hlt (λe=>by have:=hl _ e.symm;omega)).trans h.m
def RnS.ext'(h:RnS w a d t o v tr W)(hx:Ext W W'):RnS w a d t o v tr W':=
 ⟨h.ext.trans hx,aI h.c1 hx,aI h.c2 hx,aI h.m hx,(TK.ext (n0:=0) (T:=λ_=>false) hx).own h.tr rfl⟩
theorem TG(p q:Addr)(w:ay):CallsD prog 90 #[.pointer (some p),.pointer (some q)] .returning w λe u' w'=>e= .returned (.tuple #[])/\u'= .returning/\w'=w:=by
 refine callsD_of_wpS func90 rfl λc₀ cs hu=> ?_
 apply wpS_seq;apply wpS_region;simp[wpOpsS,go_sem,recoverD,hu,ntmps90,Exit.thenS];apply wpS_seq;apply wpS_region;simp[wpOpsS,go_sem,Exit.thenS];refine wpS_cond (t:=false) (by simp[Act.eval,Array.replicate]) ?_;refine wpS_of_wp (wp_skip ?_);cases c₀
 simp_all[bodyPostS,results,results90]
theorem Yy(v:aA)(p:List Ix)(hl:p.length<=4096)(hp:TW p=true)(d:Dat)(hd:EU d)(w:ay)(hv:Rd w 4 jS v p):Calls prog 50 #[v,yL d] w λe w'=>Ext w w'/\∃(st:Nat)(u:aA),e= .returned (.tuple #[.int .u32 (qK d p:Int),.int .i64 st,u,.int .i64 0]):=by
 have hmf:∀(fn:Fn) (first cap:Array aA) (w:ay),(Instr.makeFunc fn first cap).run prog w= .ok (.func fn first cap) w:=λ_ _ _ _=>rfl
 have hlen:0<p.length:=by
  rcases p with _|⟨x,r⟩
  ·cases hp
  ·simp
 have hv0:=hv;obtain⟨a,c,rfl,hac,hca⟩:=uf hv;obtain⟨R,hR⟩:∃R,qK d p=R:=⟨_,rfl⟩;have h0:RnS w 0 d 0 false (.slice none 0 0) [] ((((w.alloc (.cells #[.int .u32 d.nr,.int .u32 d.ar,.int .u64 (d.ip:Int),.int .u64 (d.a0:Int),.int .u64 (d.a1:Int),.int .u64 (d.a2:Int),.int .u64 (d.a3:Int),.int .u64 (d.a4:Int),.int .u64 (d.a5:Int)] 57)).alloc (.cells #[.int .u32 0] 32)).alloc (.cells #[.int .i64 0] 43)).alloc (.cells (mC 0 d 0 false) 167)):=by
  obtain⟨W1,hW1⟩:∃W1,W1=w.alloc (.cells #[.int .u32 d.nr,.int .u32 d.ar,.int .u64 (d.ip:Int),.int .u64 (d.a0:Int),.int .u64 (d.a1:Int),.int .u64 (d.a2:Int),.int .u64 (d.a3:Int),.int .u64 (d.a4:Int),.int .u64 (d.a5:Int)] 57):=⟨_,rfl⟩;have hx1:Ext w W1:=by rw[hW1];exact(aj _).alloc _
  have hs1:W1.heap.size=w+1:=by rw[hW1];simp
  rw[<-hW1];have b1:=aC W1 (.cells #[.int .u32 0] 32);have b2:=aC (W1.alloc (.cells #[.int .u32 0] 32)) (.cells #[.int .i64 0] 43);have b3:=aC ((W1.alloc (.cells #[.int .u32 0] 32)).alloc (.cells #[.int .i64 0] 43)) (.cells (mC 0 d 0 false) 167);simp only[aR,hs1]at b1 b2 b3;exact⟨((hx1.alloc _).alloc _).alloc _,aI b1 (((aj _).alloc _).alloc _),aI b2 ((aj _).alloc _),b3,⟨rfl,.inl aE⟩⟩
 have HF:=ah (ak hp (ak hd (ak hv0 hR)));have tO:=ah hca;have H0:=ah h0;rw[hR];clear hp hd hv hv0 hR hca h0;unfold yL;go_enter_defers func50,ntmps50;go_wp2_with fail;go_loopw [5,6,9,10] (λs5 s6 s9 s10 wr=>∃(i st a t:Nat) (bh:Int) (ov:Bool) (tr:List Int),s5= .int .i64 st/\s9= .int .i64 bh/\s10= .int .i64 i/\RnS w a d t ov s6 tr wr/\tr.length=st/\st<=i/\i<=p/\a<4294967296/\(ov=false->i<p/\∃f,p.length-i<=f/\vr d f (p.drop i) a=R)/\(ov=true->t=R)) (λ_ _ _ s10 _=>p.length-(intOf s10).toNat)
 case atStart=>exact⟨0,0,0,0,46,false,[],rfl,rfl,rfl,H0.o,rfl,aD _,bP _,az,λ_=>⟨hlen,p.length,Nat.sub_le _ _,HF.o.2.2.2⟩,λh=>by cases h⟩
 case round=>
  obtain⟨i,st,an,tt,bh,ov,tr,rfl,rfl,rfl,hr,htr,hst,hi,ha,h1,h2⟩:=hrel;have y28:wr.cell? ⟨w+3,28,none⟩=some (.bool ov):=aG hr.m 28;have hml:=(aB.1 hr.m).1;obtain⟨au,cu,rfl⟩:=bU hr.tr;subst htr;cases ov
  ·obtain⟨hlt,f,hf,hvr⟩:=h1 rfl;obtain⟨b,o,rfl,r0,r1,r2,r3⟩:=tO.o i hlt;have hstp:=ae2 HF.o.2.1 HF.o.1 hlt hf an tt ha;have hsp:=HF.o.1;unfold TW at hsp;rw[bA]at hsp;have hdo:=λW hm=>adF p[i] _ (Aw hsp.1 hlt) d HF.o.2.1 an tt (w+1+1+1) ha W hm
   have hO:=λW=>xw.kD p[i].c W
   rw[hvr]at hstp;obtain⟨x,hx⟩:∃x,p[i]=x:=⟨_,rfl⟩;simp only[hx]at hstp hdo hO r0 r1 r2 r3;clear hx hsp hvr h1 h2;obtain⟨c0,jt,jf,k0⟩:=x;unfold m8 at hdo;dsimp only at hdo hO r0 r1 r2 r3;generalize xw.iQ c0=cl at *;have zi:(p:Int)<=i↔False:=by simp;omega
   have zi2:(i:Int)<p:=aq;have HR:=ah hr;have HD:=ah hdo;have HO:=ah hO;have HS:=ah hstp;have HC:=ah (λ(W:ay) (h:Ext w W)=>ak (h.cell r0) (ak (h.cell r1) (ak (h.cell r2) (h.cell r3))));clear hr hdo hO hstp r0 r1 r2 r3
   go_wp2_with(at_builtin;refine iX rfl (.tmp 28) (.tmp 30) 28 rfl underlying28 FC rfl az iD oq (w.heap.size+4) (.slice au tr.length cu) _ tr [(i:Int)] rfl rfl (HR.o.ext' ((aj _).alloc _)).tr (gI iD wr [(i:Int)] 3 _ rfl) bp az bp ?_;intro EN EJ w5 lM hg5
               have ZC:RnS w an d tt false (.slice EN (tr.length+[(i:Int)].length) EJ) (tr++[(i:Int)]) w5:=(HR.o.ext' ((aj _).alloc _)).app hg5 (by rw[aH];exact lM);have HR5:=ah ZC;obtain⟨e0,e1,e2,e3⟩:=HC.o w5 ZC.ext;clear lM hg5 ZC y28)
   refine ap (HO.o _) ?_;intro w6 hx6;have ZB:=HR5.o.ext' hx6;have HR6:=ah ZB;have HD6:=ah (HD.o w6 ZB.m);replace e0:=hx6.cell e0;replace e1:=hx6.cell e1;replace e2:=hx6.cell e2;replace e3:=hx6.cell e3;clear ZB hx6;generalize hg:SL d ⟨c0,jt,jf,k0⟩ an tt=sp at *;obtain⟨⟨a',t',o'⟩,sk⟩:=sp;have HE:Hid ((an<4294967296->a'<4294967296)/\i+1+sk<=p.length/\sk<=p.length/\(o'=false->i+1+sk<p.length/\∃f,p.length-(i+1+sk)<=f/\vr d f (p.drop (i+1+sk)) a'=R)/\(o'=true->t'=R)):=by
    refine ah ?_;rcases HS.o with⟨-,h1,h2⟩|⟨h1,h2,h3,h4⟩
    ·simp only[Prod.mk.injEq]at h2;obtain⟨⟨rfl,rfl,rfl⟩,rfl⟩:=h2;exact⟨id,aq,aq,(λh=>by cases h),λ_=>h1.symm⟩
    ·simp only[Prod.mk.injEq]at h1 h2 h3 h4;obtain⟨rfl,rfl⟩:=h3;exact⟨λ_=>h4,aq,aq,λ_=>⟨h1,f-1,aq,h2.symm⟩,(λh=>by cases h)⟩
   have zw:wrap64 (1+(sk:Int))=1+(sk:Int):=by have:=HE.o.2.2.1;simp[wrap64];omega
   have zv:wrap64 ((i:Int)+(1+(sk:Int)))=((i+1+sk:Nat):Int):=by have:=HE.o.2.2.1;simp[wrap64];omega
   clear hg;cases hq:((cl:Int)==4)
   all_goals
    go_wp2_with fail;refine ap HD6.o ?_;rintro w7 ⟨Df,hm7⟩;have HR7:=ah (HR6.o.do Df hm7);clear Df hm7 e0 e1 e2 e3 zi zi2 HS HD HO HC HD6 HR5 HR6;obtain⟨m,hm⟩:∃m:Int,m=(sk:Int):=⟨_,rfl⟩;have HM:=ah (ak hm (ak zw zv));rw[<-hm];clear zw zv hm;go_wp2_with fail;obtain⟨rfl,z1,z2⟩:=HM.o;rw[z1,z2];obtain⟨g1,g2,g3,g4,g5⟩:=HE.o;refine⟨⟨i+1+sk,tr.length+1,a',t',_,o',tr++[(i:Int)],congrArg (Value.int .i64) (by push_cast;rfl),rfl,rfl,HR7.o,aE,aL (Nat.succ_le_succ hst) (fI _ _),g2,g1 ha,g4,g5⟩,?_⟩;simp only[intOf,dR];exact Nat.sub_lt_sub_left hlt (gY (Nat.lt_succ_self i) (fI _ _))
  ·have ht:tt=R:=h2 rfl;subst ht;have y27:wr.cell? ⟨w+3,27,none⟩=some (.int .u32 tt):=aG hr.m 27;have y1:wr.cell? ⟨w+1,0,none⟩=some (.int .u32 0):=aG hr.c1 0;have y2:wr.cell? ⟨w+2,0,none⟩=some (.int .i64 0):=aG hr.c2 0;have f1:=aP hr.c1 0;have f2:=aP hr.c2 0;have HR:=ah hr;clear hr h1 h2 hml;go_wp2_with fail;refine leaves_cons (f:=90) (args:= #[.pointer (some ⟨w+1,0,none⟩),.pointer (some ⟨w+1+1,0,none⟩)]) aE cq ?_;have q1:=Boxed.cell ((HR.o.c1.set (.int .u32 tt)).other (B':=w.heap.size+1+1) aq (.int .i64 0));have q2:=Boxed.cell ((HR.o.c2.other (B':=w.heap.size+1) aq (.int .u32 tt)).set (.int .i64 0));have hx:Ext w ((wr.setCell ⟨w+1,0,none⟩ (.int .u32 tt)).setCell ⟨w+1+1,0,none⟩ (.int .i64 0)):=(HR.o.ext.setCell cx _).setCell eM _
   change(World.setCell _ ⟨w+1+1,0,none⟩ _).cell? ⟨w+1+1,0,none⟩=_ at q2
   generalize World.setCell _ _ _=WE at *;refine(TG ⟨w+1,0,none⟩ ⟨w+1+1,0,none⟩ WE).mono ?_;rintro e u' w'' ⟨rfl,rfl,rfl⟩;simp[Leaves,settle,results,results50,go_sem,q1,q2];exact⟨hx,tr.length,rfl⟩
theorem Td(v:aA)(p:List Ix)(hl:p.length<=4096)(hp:TW p=true)(d:Dat)(hd:EU d)(w:ay)(hv:Rd w 4 jS v p):Calls prog 28 #[v,yL d] w λe w'=>Ext w w'/\∃st:Nat,e= .returned (.tuple #[.int .u32 (qK d p:Int),.int .i64 st,.int .i64 0]):=by
 have hr:=λW (hx:Ext w W)=>Yy v p hl hp d hd W (hv.ext hx)
 obtain⟨a,c,rfl,-,-⟩:=uf hv;unfold yL at hr⊢;have HR:=ah hr;clear hr hv;go_in;go_wp2_with fail;refine(HR.o _ ((aj _).alloc _)).mono ?_;rintro e w1 ⟨hx1,st,u,rfl⟩;have HX:=ah (((aj w).alloc _).trans hx1);clear hx1;go_wp2_with fail;refine aM (results_tmp3 rfl _ _ _) rfl ?_;exact⟨HX.o,st,rfl⟩
end LT
open Go.Shelf
def pB(h:zP:=by
 rw[set2 E0.o];go_roundw
 case rel=>exact⟨q+1,a5,c5,bm,agq,by rw[HST.o];exact HE.o.1,HE.o.2⟩
 case measure=>exact gO):zP:=h
namespace LT
open nG (kJ eZ)
variable{B e g k m m' n n0:Nat}{W W' w:ay}{a b u u' v x y:aA}{cs cs':List Cl}{t:dz}
def KW(p:Nat->Bool)(s:aK):∀(f pos:Nat)(st:Option Nat)(acc:List (Nat×Nat)),(Lib.spansFromP p s f pos st acc).1.length<=acc.length+f
 |0,_,_,_=>by simp[Lib.spansFromP]
 |f+1,pos,st,acc=>by
  unfold Lib.spansFromP;have h:=λpos st acc=>KW p s f pos st acc
  (repeat' split)<;>first|(refine aL (h _ _ _) ?_;first|(rw[aH,iN];omega)|omega)|(dsimp only;omega)
def lV(p:Nat->Bool)(s:aK):(Lib.goFieldsP p s).length<=s.size+1:=by
 unfold Lib.goFieldsP Lib.spansOfP Lib.closeSpans;have h:=KW p s s.size 0 none [];rw[aS];simp only[bD,cO]at h;split
 ·rw[aH,iN];omega
 ·omega
def vk(p:Nat->Bool)(s:aK):∀x∈Lib.goFieldsP p s,x.size<=s.size:=λx hx=>by unfold Lib.goFieldsP at hx;obtain⟨q,-,rfl⟩:=dW.1 hx;rw[ByteArray.size_extract];omega
def set2(h:W.heap[B]?=some (.cells #[a,b] t (0,0))):(W.setCell B x).setCell ⟨B,1,none⟩ y=W.setRow B #[x,y]:=by
 rw[fQ _ _ _ _ _ _ _ h,fQ _ _ _ _ _ _ _ (dH _ _ _ _ _ _ h),setRow_setRow]
 rfl
def dX{base:Nat}{zs:List aA}(h:W.ownsRow base e n v k zs){old:Array aA}(hg:W.heap[g]?=some (.cells old t (0,0)))(hne:e≠t)(cs:Array aA):(W.setRow g cs).ownsRow base e n v k zs:=
 (TK.setRow (n0:=0) (T:=λx=>x==t) hg aE (bP _) cs).own h (by simpa using hne)
structure SB(w:ay)(m:Nat)(u:aA)(cs:List Cl)(W:ay):Prop where
 ext:Ext w W
 bo:W.heap[w.heap.size]?=some (.cells #[.int .u8 m,u] 31 (0,0))
 res:W.heap[w.heap.size+1]?=some (.cells #[.int .u8 0,.slice none 0 0] 31 (0,0))
 own:W.ownsRow 0 121 2 u cs (cs.flatMap fD)
def SB.ext'(h:SB w m u cs W)(hx:Ext W W'):SB w m u cs W':=⟨h.ext.trans hx,aI h.bo hx,aI h.res hx,(TK.ext (n0:=0) (T:=λ_=>false) hx).own h.own rfl⟩
def SB.put(h:SB w m u cs W)(ho:W.ownsRow 0 121 2 u' cs' (cs'.flatMap fD)):SB w m' u' cs' (W.setRow w #[.int .u8 m',u']):=
 ⟨eB h.ext (aD _) _,dH _ _ _ _ _ _ h.bo,(fJ _ _ _ _ aq).trans h.res,dX ho h.bo az _⟩
def SB.tk(h:SB w m u cs W){T:Nat->Bool}(ht:TK n0 T W W')(hn:w.heap.size<=n0)(h1:T 31=false)(h2:T 121=false):SB w m u cs W':=⟨ht.lX h.ext hn,ht.blk h.bo (.inr h1),ht.blk h.res (.inr h1),ht.own h.own h2⟩
def SB.cells(h:SB w m u cs W):(W.cell? w=some (.int .u8 m)/\W.cell? ⟨w,1,none⟩=some u)/\(W.frozen? w=false/\W.frozen? ⟨w,1,none⟩=false)/\(W.cell? ⟨w+1,0,none⟩=some (.int .u8 0)/\W.cell? ⟨w+1,1,none⟩=some (.slice none 0 0))/\W.frozen? ⟨w+1,0,none⟩=false/\W.frozen? ⟨w+1,1,none⟩=false:=
 ⟨⟨aG h.bo 0,aG h.bo 1⟩,⟨aP h.bo 0,aP h.bo 1⟩,⟨aG h.res 0,aG h.res 1⟩,aP h.res 0,aP h.res 1⟩
structure StI(w:ay)(m:Nat)(suf tn:Bool)(cs:List Cl)(L:List aK)(Bn:Nat)(wb:Option Addr)(wd k:Nat)(cs1:List Cl)(yQ:List Nn)(W:ay):Prop where
 hk:k<=L
 sb:∃a c,SB w m (.slice a cs1 c) cs1 W
 nb:∃un,NB w Bn un yQ W
 ow:W.ownsRow 0 9 1 (.slice wb L wd) L (L.flatMap nG.zY)
 fo:Fo (V7 suf tn m) (L.take k) (cs,[]) (cs1,yQ)
 my:iq m cs1=true
 nl:yQ.length<=k
theorem Vn(m:Nat)(a0:Option Addr)(c0:Nat)(cs:List Cl)(v:aK)(suf:Bool)(hv:v.size<=100000)(hm:iq m cs=true)(w:ay)(hr:Rd w 2 fD (.slice a0 cs c0) cs):Calls prog 268 #[qh m (.slice a0 cs c0),.string v,.bool suf] w λe w'=>∃(m':Nat)(cs':List Cl)(ns:List Nn)(a:Option Addr)(c:Nat)(un:aA),e= .returned (.tuple #[qh m' (.slice a cs' c),un])/\Ext w w'/\oV suf m cs v m' cs' ns/\w'.ownsRow 0 121 2 (.slice a cs' c) cs' (cs'.flatMap fD)/\w'.ownsRow w 45 4 un ns (ns.flatMap jF):=by
 have hcl:=pF hm;have HC:=ah (λW (hx:Ext w W)=>vN m _ cs aq W (hr.ext hx));have HM:=ah (λu W (h:Rd W 2 fD u cs)=>by have:=uq m u cs aq W h;rw[hm]at this;exact this);have HW:=ah (λW=>nG.nU v aq W);have HT:Hid (∀W,Calls prog 274 #[.string v] W λe w'=>e= .returned (.tuple #[.string (str (Lib.trimPrefix (bytes v) [126])),.bool (Lib.hasPrefix (bytes v) [126])])/\w'=W):=ah (λW=>nG.DN v W);have hL:=lV eZ v;have hS:oV suf m cs v=oV suf m cs v:=rfl;have hb0:=aC w (.cells #[.int .u8 m,.slice a0 cs c0] 31);have hr0:=aC (w.alloc (.cells #[.int .u8 m,.slice a0 cs c0] 31)) (.cells #[.int .u8 0,.slice none 0 0] 31);rw[aR]at hr0;have HB:=ah (ak hb0 hr0);unfold qh at *;clear hr hb0 hr0;go_in
 go_upto_region 2 with(refine(HC.o _ (((aj w).alloc _).alloc _)).mono ?_;rintro e w1 ⟨a1,c1,rfl,hx1,ho1⟩
                       have hbb:=aI HB.o.1 (((aj _).alloc _).trans hx1);have hrr:=aI HB.o.2 hx1;obtain⟨g0,g1⟩:=uJ hbb;have gf0:=aP hbb 0;have gf1:=aP hbb 1;have H1:=ah (ak ((((aj w).alloc _).alloc _).trans hx1) (ak hbb (ak hrr ho1)));clear hx1 hbb hrr ho1)
 rw[set2 H1.o.2.1];have hsb:SB w m (.slice a1 cs c1) cs (w1.setRow w #[.int .u8 m,.slice a1 cs c1]):=
  ⟨eB H1.o.1 (aD _) _,dH _ _ _ _ _ _ H1.o.2.1,(fJ _ _ _ _ aq).trans H1.o.2.2.1,dX (H1.o.2.2.2.mono (bP _)) H1.o.2.1 az _⟩
 generalize w1.setRow w #[.int .u8 m,.slice a1 cs c1]=W1 at *;clear H1 g0 g1 gf0 gf1;obtain⟨⟨g0,g1⟩,-,-,-⟩:=hsb.cells;have HSB:=ah hsb;clear hsb;by_cases hz:(Lib.goFieldsP eZ v).length=0
 ·go_wp2_with(first
   |(go_at_call 59;refine ap (HM.o _ _ (bY fM HSB.o.own)) ?_;intro w2 hx2;have HS2:=ah (HSB.o.ext' hx2);clear hx2)
   |(go_at_call 270;refine(HW.o _).mono ?_;rintro e w3 ⟨wv,rfl,hx3,ho3⟩;obtain⟨wa,wc,rfl⟩:=bU ho3;have wZ:=ah (HS2.o.ext' hx3);obtain⟨-,-,⟨r0,r1⟩,rf0,rf1⟩:=wZ.o.cells;clear hx3 ho3))
  rw[set2 wZ.o.res];have hh:=dH _ _ _ #[.int .u8 0,.slice none 0 0] _ _ wZ.o.res;refine aM (v:= .tuple #[.agg #[.int .u8 0,.slice none 0 0],.slice none 0 0]) (fG results268 _ _ (w+1) _ #[.int .u8 0,.slice none 0 0] (0,0) _ rfl hh underlying31 rfl ax) rfl ?_;refine⟨0,[],[],none,0,_,rfl,eB wZ.o.ext aq _,?_,⟨rfl,.inl aE⟩,⟨rfl,.inl aE⟩⟩;unfold oV;rw[aN (by rw[hm];decide),aV (bG hz)];exact⟨rfl,rfl,rfl⟩
 ·have hz0:Lib.goFieldsP eZ v≠[]:=λh=>hz (by rw[h];rfl)
  have zl:(((Lib.goFieldsP eZ v).length:Int)==0)=false:=bK.2 aq;obtain⟨tn,htn⟩:∃tn,tn=Lib.hasPrefix (bytes v) [126]:=⟨_,rfl⟩;obtain⟨rv,zR⟩:∃rv,rv=str (Lib.trimPrefix (bytes v) [126]):=⟨_,rfl⟩;obtain⟨m',hm'⟩:∃m',m'=(if m=0 then(if tn=true then 2 else 1)else m):=⟨_,rfl⟩;have HSR:Hid (∀cs' ns,Fo (V7 suf tn m') (Lib.goFieldsP eZ rv) (cs,[]) (cs',ns)->oV suf m cs v m' cs' ns):=ah λcs' ns h=>by unfold oV;rw[aN (by rw[hm];decide),aN hz0,<-htn];exact⟨hm',by rw[<-zR];exact h⟩
  rw[<-htn,<-zR]at HT;have hrl:rv.size<=100000:=by rw[zR,kI];refine aL ?_ hv;rw[<-eD];exact od
  have hm2:m<=2:=by unfold iq at hm;simp only[bA,dK]at hm;exact hm.1
  have hm0:iq m' cs=true/\(m'=1\/m'=2):=by
   rw[hm'];by_cases e:m=0
   ·rw[aV e];subst e;obtain rfl:cs=[]:=by unfold iq at hm;simpa using(by simpa using hm:_/\_).1
    cases tn<;>exact⟨rfl,az⟩
   ·rw[aN e];exact⟨hm,aq⟩
  have HM0:=ah hm0;have HMM:=ah hm';have HW2:=ah (λW=>nG.nU rv aq W);have HL2:=ah (ak (lV eZ rv) (vk eZ rv));clear zR htn hz0 hm' hm0 hL hS;generalize Lib.goFieldsP eZ v=L1 at *;generalize ask:Lib.goFieldsP eZ rv=L2 at *;clear ask;go_upto_if 37 with(first
   |(go_at_call 59;refine ap (HM.o _ _ (bY fM HSB.o.own)) ?_;intro w2 hx2;have HS2:=ah (HSB.o.ext' hx2);clear hx2)
   |(go_at_call 270;refine(HW.o _).mono ?_;rintro e w3 ⟨wv,rfl,hx3,ho3⟩;obtain⟨wa,wc,rfl⟩:=bU ho3;have wZ:=ah (HS2.o.ext' hx3);clear hx3 ho3)
   |(go_at_call 274;refine ap (HT.o _) ?_;rintro w4 rfl))
  obtain⟨way,Zy⟩:∃way:Nat,way=if tn=true then 1 else 0:=⟨_,rfl⟩
  go_cut [10] (λs10 wx=>s10= .int .i64 way/\w4=wx)
  case first=>
   cases tn
   all_goals
    go_wp2_with fail;go_meet;exact⟨by rw[Zy];rfl,rfl⟩
  case rest=>
   obtain⟨rfl,rfl⟩:=hcut;obtain⟨⟨g0,g1⟩,⟨gf0,gf1⟩,-,-⟩:=wZ.o.cells;have hmm:m'=if m=0 then 1+way else m:=by rw[HMM.o,Zy];cases tn<;>rfl
   have hwl:way<=1:=by rw[Zy];split<;>omega
   go_upto_if 40 with fail;go_cut [] (λwx=>∃W,W=wx/\SB w m' (.slice a1 cs c1) cs W)
   case first=>
    by_cases e:m=0
    ·rw[aV e]at hmm;have zm:((m:Int)==0)=true:=by subst e;rfl
     have hp:=λk:Nat=>wZ.o.put (m':=k) wZ.o.own
     have hs:∀x,w4.setCell w x=w4.setRow w #[x,.slice a1 cs c1]:=λx=>fQ _ _ _ _ _ _ _ wZ.o.bo
     have hw2:way=0\/way=1:=aq;rcases hw2 with h|h
     all_goals
      clear Zy;subst h;go_wp2_with fail;go_meet;exact⟨_,rfl,by rw[hmm];exact hp _⟩
    ·rw[aN e]at hmm;have zm:((m:Int)==0)=false:=bK.2 aq;go_wp2_with fail;go_meet;exact⟨_,rfl,by rw[hmm];exact wZ.o⟩
   case rest=>
    obtain⟨hmk,h12⟩:=HM0.o;obtain⟨W5,rfl,hs5⟩:=hcut;have at3:=ah Zy;have yS:=ah hs5;clear Zy hs5 g0 g1 gf0 gf1 HS2 hmm zl hz;go_wp2_with(go_at_call 270;refine(HW2.o _).mono ?_;rintro e w6 ⟨wv,rfl,hx6,uF⟩;obtain⟨wb,wd,rfl⟩:=bU uF);have hnb:=aI (aC W5 (.cells #[.slice none 0 0] 38)) hx6;have hs6:=yS.o.ext' (((aj _).alloc _).trans hx6);have hBn:w.heap.size<=W5:=yS.o.ext.size;obtain⟨Bn,aoH⟩:∃Bn,Bn=W5.heap.size:=⟨_,rfl⟩;rw[<-aoH]at hnb hBn⊢;have A0:=ah (ak hs6 (ak hnb (uF.mono (bP _))));clear hx6 uF hnb hs6 aoH yS;go_loopw [48] (λi wr=>∃(k:Nat) (cs1:List Cl) (yQ:List Nn),i= .int .i64 k/\StI w m' suf tn cs L2 Bn wb wd k cs1 yQ wr) (λi _=>L2.length-(intOf i).toNat)
    case atStart=>exact⟨0,cs,[],rfl,aq,⟨a1,c1,A0.o.1⟩,⟨_,hBn,A0.o.2.1,⟨rfl,.inl aE⟩⟩,A0.o.2.2,rfl,hmk,aE⟩
    case round=>
     obtain⟨k,cs1,yQ,rfl,hk,⟨a,c,hsb⟩,⟨un,hnb⟩,how,hfo,hmy,hnl⟩:=hrel;by_cases hlt:k<L2
     ·obtain⟨a',c',e',-,-,h4⟩:=bY (show∀x,(nG.zY x).length=1 fromλ_=>rfl) how;simp only[aU,true_and]at e';obtain⟨rfl,rfl⟩:=e';obtain⟨b,o,rfl,hat⟩:=h4 k hlt;have r0:=hat 0 (Nat.succ_pos _);rw[eO,iB]at r0
      change wr.cell? _=some (.string L2[k])at r0
      have hsz:=HL2.o.2 _ (aW hlt);have hF:=λt (h:V7 suf tn m' L2[k] (cs1,yQ) t)=>Fo.take hlt hfo h
      clear h4 hat;generalize L2[k]=s at *;have hrd:∀W,Calls prog 335 #[.string s] W λe w'=>e= .returned (.tuple #[.agg #[.string (str (kJ (bytes s)).1.1),.int .u32 ((kJ (bytes s)).1.2.1:Int),.bool (kJ (bytes s)).1.2.2],.int .i64 (kJ (bytes s)).2])/\Ext W w':=λW=>nG.Vp s aq W
      have her:=O9 (bytes s);have hac:=Eo (bytes s);unfold V7 at hF;generalize kJ (bytes s)=R at *;obtain⟨⟨nm,ac,hs⟩,er⟩:=R;dsimp only at hF hrd her hac;obtain⟨en,rfl⟩:∃en:Nat,er=(en:Int):=⟨er.toNat,aq⟩;have hbw:∀W,Ext (wr.alloc (.cells #[.string s] 9)) W->Boxed W wr 9 (.string s):=λW hx=>aI (aC _ _) hx
      have hno:=λ(e:Nat) W (hx:Ext (wr.alloc (.cells #[.string s] 9)) W)=>T7 w Bn wr un yQ s aq e W (hnb.ext (((aj _).alloc _).trans hx)) (by have:=hsb.ext.size;have:=hx.size;rw[aR]at this;omega) (by have:=HL2.o.1;omega) (hbw W hx)
      have hxa:∀W,Ext (wr.alloc (.cells #[.string s] 9)) W->Ext wr W:=λW hx=>((aj _).alloc _).trans hx
      have zk:(k:Int)<L2:=aq;have hl2:=HL2.o.1;have HK:=ah (ak hsb (ak hnb (ak how (ak hmy hnl))));have HRD:=ah hrd;have JC:=ah hno;have HF:=ah hF;have HAC:=ah hac;have HX:=ah hxa;have hdone:∀(e:Nat) W (hx:Ext (wr.alloc (.cells #[.string s] 9)) W) un8 w8,NB w Bn un8 (yQ++[⟨[],0,e,(bytes s).take 60⟩]) w8->TK w tyN W w8->Fo (V7 suf tn m') (L2.take (k+1)) (cs,[]) (cs1,yQ++[⟨[],0,e,(bytes s).take 60⟩])->StI w m' suf tn cs L2 Bn (some ⟨b,o,none⟩) wd (k+1) cs1 (yQ++[⟨[],0,e,(bytes s).take 60⟩]) w8:=
       λe W hx un8 w8 h8 ht hf=>⟨aq,⟨_,_,(hsb.ext' (hxa W hx)).tk ht (aD _) rfl rfl⟩,⟨un8,h8⟩,ht.own ((TK.ext (n0:=0) (T:=λ_=>false) (hxa W hx)).own how rfl) rfl,hf,hmy,by rw[aH,iN];omega⟩
      have HDN:=ah hdone;clear hsb hnb how hfo hmy hnl hrd hno hF hac hbw hxa hdone her;by_cases he0:en=0
      ·subst he0;have hMm:=λW=>Kj (str nm) W
       rw[iE]at hMm;have hme:=WL nm;have HF2:=ah (λt h=>HF.o t (by rw[aN az];exact h));have aBK:=HDN;clear HF;generalize BU nm=mn at *;obtain⟨mn,rfl⟩:∃q:Nat,mn=(q:Int):=⟨mn.toNat,aq⟩;have alA:=ah hMm;clear hMm hme;by_cases hm0:mn=0
       ·subst hm0;obtain⟨j,hj⟩:∃j:Nat,m'=j+1:=⟨m'-1,aq⟩;have hj2:j<2:=aq;have hw2:way<2:=aq;have zj:IntKind.u8.wrap ((m':Int)-1)=(j:Int):=by
         rw[hj]
         match j,hj2 with
         |0,_|1,_=>rfl
        have hi1:∀W,(Instr.index 448 (.agg #[.bool true,.bool false,.bool false,.bool true]) (.int .u8 j)).run prog W= .ok (.agg #[.bool (j==0),.bool (j==1)]) W:=λW=>by
         match j,hj2 with
         |0,_|1,_=>rfl
        have hi2:∀W,(Instr.index 447 (.agg #[.bool (j==0),.bool (j==1)]) (.int .i64 way)).run prog W= .ok (.bool (j==way)) W:=λW=>by
         match j,hj2,way,hw2 with
         |0,_,0,_|0,_,1,_|1,_,0,_|1,_,1,_=>rfl
        have hjw:(j==way)=((m'==2)==tn):=by
         rw[at3.o,hj]
         match j,hj2 with
         |0,_|1,_=>cases tn<;>rfl
        have HJ:=ah (ak hj hjw);obtain⟨bi,hbi⟩:∃bi,bi=(j==way):=⟨_,rfl⟩;rw[<-hbi]at hi2 HJ;clear hbi hj hjw;go_upto_region 23 with(first
         |(go_at_call 335;refine ap (HRD.o _) ?_;intro w7 hx7;have hE7:=aC w7 (.cells #[.string (str nm),.int .u32 ac,.bool hs] 442);have DY:=ah (ak hx7 hE7);clear hx7 hE7)
         |(go_at_call 336;refine(alA.o _).mono ?_;rintro e w9 ⟨D9,mv,ml,rfl,zS,hkn,-,hml,hone⟩;have JR:=ah (ak ((DY.o.1.alloc _).trans D9) (ak (aI DY.o.2 D9) (ak zS (ak hkn (ak hml hone)))));obtain⟨ma,mc,rfl⟩:=bU zS;clear D9 zS hkn hone))
        have anC:=HK.o.1.ext' (HX.o _ JR.o.1);obtain⟨⟨g0,-⟩,-,-,-⟩:=anC.cells;have g0x:=nV g0;have HI:=ah (λW=>Zu W);refine fE ax ax ?_
        repeat(any_goals(first|go_big_quiet_step ((go_at_call 337;with_reducible exact dx (HI.o _)))|quiet_step ((go_at_call 337;with_reducible exact dx (HI.o _)))))
        all_goals(refine i4 ?_;intro _ B2;obtain⟨x,hw8⟩:=B2;subst hw8)
        have HY:=ah (ak (JR.o.1.trans x.h) (ak (aI JR.o.2.1 x.h) (ak ((TK.ext (n0:=0) (T:=λ_=>false) x.h).own JR.o.2.2.1 rfl) JR.o.2.2.2)));clear g0x g0 anC;generalize x.w=W10 at *;clear x;obtain⟨⟨y0,y1,y2⟩,yf⟩:=sO HY.o.2.1;have yf1:=yf 1;clear yf
        iterate 3 go_step
        go_cut [18] (λs18 wx=>∃(W:ay) (b2:Bool) (aa:Nat) (T6:List Nn) (un2:aA),W=wx/\s18= .bool b2/\SB w m' (.slice a cs1 c) cs1 W/\NB w Bn un2 T6 W/\W.ownsRow 0 9 1 (.slice (some ⟨b,o,none⟩) L2 wd) L2 (L2.flatMap nG.zY)/\W.ownsRow 0 9 1 (.slice ma ml mc) ml (ml.flatMap encStr)/\W.heap[w7.heap.size]?=some (.cells #[.string (str nm),.int .u32 aa,.bool hs] 442 (0,0))/\wV aa=true/\T6.length<=k+1/\Fo (V7 suf tn m') (L2.take (k+1)) (cs,[]) (ml.foldl (upd m' b2 aa) cs1,T6))
        case first=>
         have hxa:=HX.o _ HY.o.1;have hF3:=λt ht=>HF2.o t (by rw[aN az];exact⟨ml,HY.o.2.2.2.1,λhh=>HY.o.2.2.2.2.2 hh rfl,ht⟩)
         have HF3:=ah hF3;have HXA:=ah hxa;clear hF3 hxa;cases hs
         ·go_wp2_with fail;go_meet;exact⟨W10,bi,ac,yQ,un,rfl,rfl,HK.o.1.ext' HXA.o,HK.o.2.1.ext HXA.o,(TK.ext (n0:=0) (T:=λ_=>false) HXA.o).own HK.o.2.2.1 rfl,HY.o.2.2.1,HY.o.2.1,HAC.o,by have:=HK.o.2.2.2.2;omega,HF3.o _ (by rw[HJ.o.2];simp)⟩
         ·by_cases hst:(suf&&tn)=true
          ·obtain⟨rfl,rfl⟩:suf=true/\tn=true:=by simpa using hst
           go_wp2_with fail;go_meet;exact⟨W10,true,ac,yQ,un,rfl,rfl,HK.o.1.ext' HXA.o,HK.o.2.1.ext HXA.o,(TK.ext (n0:=0) (T:=λ_=>false) HXA.o).own HK.o.2.2.1 rfl,HY.o.2.2.1,HY.o.2.1,HAC.o,by have:=HK.o.2.2.2.2;omega,HF3.o _ aE⟩
          ·have qE:suf=false\/(suf=true/\tn=false):=by
            cases suf
            ·exact vq
            ·exact .inr ⟨rfl,by simpa using hst⟩
           have hN:=JC.o 161 W10 HY.o.1;have HN:=ah hN;clear hN hst;rcases qE with rfl|⟨rfl,rfl⟩
           all_goals
            go_wp2_with(refine ap HN.o ?_;rintro w8 ⟨un8,QE,FD⟩;have hE8:=FD.blk HY.o.2.1 (.inr rfl);obtain⟨⟨z0,z1,z2⟩,zf⟩:=sO hE8;have zf1:=zf 1;have H8:=ah (ak QE (ak FD hE8));clear QE FD hE8 zf);go_meet;have arR:w.heap.size<=w7:=by have:=HK.o.1.ext.size;have:=DY.o.1.size;rw[aR]at this;omega
            have ts:TK w (Tf 442) w8 (w8.setCell ⟨w7,1,none⟩ (.int .u32 0)):=TK.set (p:=⟨w7,1,none⟩) H8.o.2.2 rfl arR _;exact⟨_,bi,0,_,un8,rfl,rfl,((HK.o.1.ext' HXA.o).tk H8.o.2.1 (aD _) rfl rfl).tk ts (aD _) rfl rfl,H8.o.1.kept ts rfl rfl,ts.own (H8.o.2.1.own ((TK.ext (n0:=0) (T:=λ_=>false) HXA.o).own HK.o.2.2.1 rfl) rfl) rfl,ts.own (H8.o.2.1.own HY.o.2.2.1 rfl) rfl,eX H8.o.2.2 1 _,rfl,by have:=HK.o.2.2.2.2;rw[aH,iN];omega,HF3.o _ (by rw[HJ.o.2];simp;rfl)⟩
        case rest=>
         obtain⟨W,b2,aa,T6,un2,rfl,rfl,Iy,ags,anN,anX,hE2,haa,hn2,aoh⟩:=hcut;have hfb:∀q,iq m' ((ml.take q).foldl (upd m' b2 aa) cs1)=true:=λq=>yZ haa aq _ HK.o.2.2.2.1 λn hn=>HY.o.2.2.2.1 n (iU hn)
         have hml:ml.length<=300000:=HY.o.2.2.2.2.1;have H2:=ah (ak ags (ak anN (ak anX (ak hE2 (ak aoh (ak hfb (ak hn2 Iy)))))));clear ags anN anX hE2 aoh Iy haa hfb hn2 y0 y1 y2 yf1 JR HY HK HF2 HRD JC HDN alA;go_wp2_with fail;go_loopw [97] (λi wr2=>∃(q:Nat) (a2:Option Addr) (c2:Nat),i= .int .i64 q/\q<=ml.length/\SB w m' (.slice a2 ((ml.take q).foldl (upd m' b2 aa) cs1).length c2) ((ml.take q).foldl (upd m' b2 aa) cs1) wr2/\TK w (Tf 31) W wr2) (λi _=>ml.length-(intOf i).toNat)
         case atStart=>exact⟨0,a,c,rfl,aq,H2.o.2.2.2.2.2.2.2,TK.refl _ _ _⟩
         case round=>
          obtain⟨q,a2,c2,rfl,hq,Iy,htk⟩:=hrel;by_cases agq:q<ml.length
          ·obtain⟨a',c',e',hcell⟩:=xE (bY eT (htk.own H2.o.2.2.1 rfl));simp only[aU,true_and]at e';obtain⟨rfl,rfl⟩:=e';obtain⟨b4,o4,rfl,s0⟩:=hcell.2 q agq;have hst:(ml.take (q+1)).foldl (upd m' b2 aa) cs1=upd m' b2 aa ((ml.take q).foldl (upd m' b2 aa) cs1) ml[q]:=by rw[bE agq,gU];rfl
           have hlq:=pF (H2.o.2.2.2.2.2.1 q);generalize(ml.take q).foldl (upd m' b2 aa) cs1=csq at *;generalize ml[q]=nq at *;obtain⟨⟨-,y1,-⟩,-⟩:=sO (htk.blk H2.o.2.2.2.1 (.inr rfl));obtain⟨⟨g0,g1⟩,⟨gf0,gf1⟩,-,-⟩:=Iy.cells;have hP:=aay m' _ csq (str nq) aa aq wr (bY fM Iy.own);have hT:=Vm m' _ csq (str nq) aq wr (bY fM Iy.own);rw[iE]at hP hT;unfold qh at hP hT;have zq:(q:Int)<ml:=aq;have HP:=ah hP;have HTK:=ah hT;have HS:=ah (ak Iy htk);have HST:=ah hst;clear hP hT Iy htk hst hcell;have hend:∀(csn:List Cl) (a5:Option Addr) (c5:Nat) (w5:ay),Ext wr w5->w5.ownsRow wr 121 2 (.slice a5 csn.length c5) csn.length (csn.flatMap fD)->SB w m' (.slice a5 csn.length c5) csn (w5.setRow w #[.int .u8 m',.slice a5 csn.length c5])/\TK w (Tf 31) W (w5.setRow w #[.int .u8 m',.slice a5 csn.length c5]):=λcsn a5 c5 w5 hx ho=>⟨(HS.o.1.ext' hx).put (ho.mono (bP _)),(HS.o.2.trans (.ext hx)).trans (TK.setRow (HS.o.1.ext' hx).bo rfl (aD _) _)⟩
           have ap4:=ah hend;clear hend;cases b2
           ·go_wp2_with(refine HTK.o.mono ?_;rintro e w5 ⟨a5,c5,rfl,hx5,lM⟩;have hc5:=(HS.o.1.ext' hx5);obtain⟨⟨k0,k1⟩,⟨kf0,kf1⟩,-,-⟩:=hc5.cells;have HE:=ah (ap4.o _ _ _ _ hx5 lM);have E0:=ah hc5.bo;clear hx5 lM hc5);exact pB
           ·go_wp2_with(refine HP.o.mono ?_;rintro e w5 ⟨a5,c5,rfl,hx5,lM⟩;have hc5:=(HS.o.1.ext' hx5);obtain⟨⟨k0,k1⟩,⟨kf0,kf1⟩,-,-⟩:=hc5.cells;have HE:=ah (ap4.o _ _ _ _ hx5 lM);have E0:=ah hc5.bo;clear hx5 lM hc5);exact pB
          ·obtain rfl:q=ml.length:=aq;rw[bZ]at Iy;have HS:=ah (ak Iy htk);have hmf:=H2.o.2.2.2.2.2.1 ml.length;rw[bZ]at hmf;clear Iy htk;go_wp2_with fail;go_roundw
           case rel=>exact⟨k+1,_,T6,bm,hlt,⟨a2,c2,HS.o.1⟩,⟨un2,H2.o.1.kept HS.o.2 rfl rfl⟩,HS.o.2.own H2.o.2.1 rfl,H2.o.2.2.2.2.1,hmf,H2.o.2.2.2.2.2.2.1⟩
           case measure=>exact gO
       ·have he1:(((mn:Int) !=0)=true):=by rw[bne_iff_ne];omega
        go_wp2_with(first
         |(go_at_call 335;refine ap (HRD.o _) ?_;intro w7 hx7;have DY:=ah hx7;clear hx7)
         |(go_at_call 336;refine(alA.o _).mono ?_;rintro e w9 ⟨D9,mv,ml,rfl,-⟩;have JR:=ah ((DY.o.alloc _).trans D9);clear D9)
         |(refine ap (JC.o mn _ JR.o) ?_;rintro w8 ⟨un8,QE,FD⟩;have H8:=ah (ak QE FD);clear QE FD))
        go_roundw
        case rel=>exact⟨k+1,cs1,_,bm,HDN.o mn _ JR.o _ _ H8.o.1 H8.o.2 (HF2.o _ (by rw[aV aq];rfl))⟩
        case measure=>exact gO
      ·have he1:(((en:Int) !=0)=true):=by rw[bne_iff_ne];omega
       go_wp2_with(first
        |(go_at_call 335;refine ap (HRD.o _) ?_;intro w7 hx7;have DY:=ah hx7;clear hx7)
        |(refine ap (JC.o en _ (DY.o.alloc _)) ?_;rintro w8 ⟨un8,QE,FD⟩;have H8:=ah (ak QE FD);clear QE FD))
       go_roundw
       case rel=>exact⟨k+1,cs1,_,bm,HDN.o en _ (DY.o.alloc _) _ _ H8.o.1 H8.o.2 (HF.o _ (by rw[aV aq];rfl))⟩
       case measure=>exact gO
     ·obtain rfl:k=L2.length:=aq;rw[bZ]at hfo;obtain⟨⟨g0,g1⟩,-,⟨r0,r1⟩,rf0,rf1⟩:=hsb.cells;have n0:=hnb.bo.cell;have hne:Bn≠w.heap.size+1:=λe=>by have h1:=hnb.bo;rw[e]at h1;exact absurd (hsb.res.symm.trans h1) aE
      have n1:∀x,(wr.setCell ⟨w+1,0,none⟩ x).cell? Bn=some un:=λx=>by rw[<-n0];unfold World.cell?;rw[aX _ _ _ _ hne]
      obtain⟨na,nc,rfl⟩:=bU hnb.own;have HK:=ah (ak hsb (ak hnb hfo));clear hsb hnb how hfo hmy;go_wp2_with fail;go_region
      all_goals
       go_wp2_with fail;have hh:=dH _ _ _ #[.int .u8 m',.slice a cs1 c] _ _ HK.o.1.res;have hx:wr.setRow (w+1) #[.int .u8 m',.slice a cs1 c]=_:=(set2 HK.o.1.res).symm;rw[hx]at hh;refine aM (v:= .tuple #[.agg #[.int .u8 m',.slice a cs1 c],.slice na yQ nc]) (fG results268 _ _ (w+1) _ #[.int .u8 m',.slice a cs1 c] (0,0) _ rfl hh underlying31 rfl ax) rfl ?_;refine⟨m',cs1,yQ,a,c,_,rfl,?_,HSR.o _ _ HK.o.2.2,?_,?_⟩
       ·exact((HK.o.1.ext.setCell cx _).setCell cx _).drew
       ·show World.ownsRow ((wr.setCell _ _).setCell _ _) _ _ _ _ _ _;rw[<-hx];exact dX HK.o.1.own HK.o.1.res az _
       ·show World.ownsRow ((wr.setCell _ _).setCell _ _) _ _ _ _ _ _;rw[<-hx];exact dX HK.o.2.1.own HK.o.1.res az _
end LT
end Go.Proofs.YtopfefhenfineaaGreat
