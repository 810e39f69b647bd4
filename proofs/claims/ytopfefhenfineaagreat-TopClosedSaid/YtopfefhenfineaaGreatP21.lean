import Derived.Test.YtopfefhenfineaaGreatP8
import Derived.BigCall
import Derived.BigGuard
set_option linter.all false
set_option maxRecDepth 100000
set_option maxHeartbeats 16000000
namespace Go.Proofs.YtopfefhenfineaaGreat
open Go.Proofs.Tryz Go.RowKit Go.Shelf V
attribute[local go_sem] Oper.semAt_some
namespace LT
variable{v:aA}{w:ay}
def encStr(s:List aZ):List aA:= [.string (str s)]
def eT(s:List aZ):(encStr s).length=1:=rfl
structure GM where
 nm:List aZ
 hv:aA
 has:List (List aZ)
def LU(g:GM):List aA:= [.string (str g.nm),g.hv]
def aaa(g:GM):(LU g).length=2:=rfl
def YG{xs:List GM}(h:Rd w 2 LU v xs):∃a c,v= .slice a xs c/\xs.length<=c/\∀i,(hi:i<xs.length)->∃b o,a=some ⟨b,o,none⟩/\w.cell? ⟨b,o+i*2,none⟩=some (.string (str xs[i].nm))/\w.cell? ⟨b,o+i*2+1,none⟩=some xs[i].hv:=by obtain⟨a,c,h1,h2,h3,h4⟩:=h;refine⟨a,c,h1,h2,λi hi=> ?_⟩;obtain⟨b,o,e,k⟩:=h4 i hi;exact⟨b,o,e,k 0 (by simp[LU]),k 1 (by simp[LU])⟩
def xE{xs:List (List aZ)}(h:Rd w 1 encStr v xs):∃a c,v= .slice a xs c/\xs.length<=c/\∀i,(hi:i<xs.length)->∃b o,a=some ⟨b,o,none⟩/\w.cell? ⟨b,o+i,none⟩=some (.string (str xs[i])):=by obtain⟨a,c,h1,h2,h3,h4⟩:=h;refine⟨a,c,h1,h2,λi hi=> ?_⟩;obtain⟨b,o,e,k⟩:=h4 i hi;have k0:=k 0 (by simp[encStr]);exact⟨b,o,e,by simpa[encStr]using k0⟩
theorem jY(s:aK)(a:Option Addr)(n c:Nat)(w:ay):Rt 422 #[.string s,.slice a n c] w (.agg #[.string s,.slice a n c]):=by unfold Rt;go_in;go_wp2_with(refine wpList_store_rowTo rfl 511 _ _ rfl rfl w.heap.size #[.string s,.slice a n c] bj bj 511 _ (aC w _) ax ax ax ?_;rw[World.setRow_alloc_new]);exact aM (dV results422 _ _ w 511 #[.string s,.slice a n c] (0,0) _ rfl (aC w _) underlying511 rfl ax) rfl ⟨rfl,(aj w).alloc _⟩
theorem Ns(w:ay):Calls prog 416 #[] w λe w'=>(∃v gs,e= .returned v/\Rd w' 2 LU v gs/\gs.map (λg=>(g.nm,g.has))=xS/\∀g∈gs,Rd w' 1 encStr g.hv g.has/\∃b,g.hv= .slice (some ⟨b,0,none⟩) g.has.length g.has.length/\w.heap.size<=b)/\Ext w w':=by
 go_in;go_wp2_with fail;refine ap (jY _ _ _ _ _) ?_;intro w1 hx1;have R1:=ah ((gI eT w [[114,101,97,100],[119,114,105,116,101],[99,108,111,115,101]] 9 _ rfl).ext hx1);have X1:=ah (((aj w).alloc _).trans hx1);clear hx1;go_wp2_with fail;refine ap (jY _ _ _ _ _) ?_;intro w2 hx2;have R2:=ah ((gI eT w1 [[99,108,111,99,107,95,115,101,116,116,105,109,101],[115,101,116,116,105,109,101,111,102,100,97,121]] 9 _ rfl).ext hx2);have X2:=ah (((aj w1).alloc _).trans hx2);clear hx2;go_wp2_with fail;refine ap (jY _ _ _ _ _) ?_;intro w3 hx3;have R3:=ah ((gI eT w2 [[112,116,114,97,99,101],[112,101,114,115,111,110,97,108,105,116,121]] 9 _ rfl).ext hx3);have X3:=ah (((aj w2).alloc _).trans hx3);clear hx3;go_wp2_with fail;refine ap (jY _ _ _ _ _) ?_;intro w4 hx4;have R4:=ah ((gI eT w3 [[64,98,97,115,105,99,45,105,111],[111,112,101,110],[111,112,101,110,97,116],[105,111,99,116,108]] 9 _ rfl).ext hx4);have X4:=ah (((aj w3).alloc _).trans hx4);clear hx4;go_wp2_with fail;refine ap (jY _ _ _ _ _) ?_;intro w5 hx5;have R5:=ah ((gI eT w4 [[98,114,107],[109,109,97,112],[109,112,114,111,116,101,99,116],[109,117,110,109,97,112],[112,107,101,121,95,109,112,114,111,116,101,99,116],[115,104,109,97,116]] 9 _ rfl).ext hx5);have X5:=ah (((aj w4).alloc _).trans hx5);clear hx5;go_wp2_with fail;refine ap (jY _ _ _ _ _) ?_;intro w6 hx6;have R6:=ah ((gI eT w5 [[100,101,108,101,116,101,95,109,111,100,117,108,101],[102,105,110,105,116,95,109,111,100,117,108,101],[105,110,105,116,95,109,111,100,117,108,101]] 9 _ rfl).ext hx6);have X6:=ah (((aj w5).alloc _).trans hx6);clear hx6;go_wp2_with fail;refine ap (jY _ _ _ _ _) ?_;intro w7 hx7;have R7:=ah ((gI eT w6 [[109,111,117,110,116],[117,109,111,117,110,116,50]] 9 _ rfl).ext hx7);have X7:=ah (((aj w6).alloc _).trans hx7);clear hx7;go_wp2_with fail;refine ap (jY _ _ _ _ _) ?_;intro w8 vT;have R8:=ah ((gI eT w7 [[64,110,101,115,116,45,50],[107,105,108,108]] 9 _ rfl).ext vT);have X8:=ah (((aj w7).alloc _).trans vT);clear vT;go_wp2_with fail;refine ap (jY _ _ _ _ _) ?_;intro w9 D9;have R9:=ah ((gI eT w8 [[64,110,101,115,116,45,51],[103,101,116,117,105,100]] 9 _ rfl).ext D9);have X9:=ah (((aj w8).alloc _).trans D9);clear D9;go_wp2_with fail;refine ap (jY _ _ _ _ _) ?_;intro Yf Zx;have R10:=ah ((gI eT w9 [[64,110,101,115,116,45,52],[115,101,116,117,105,100]] 9 _ rfl).ext Zx);have X10:=ah (((aj w9).alloc _).trans Zx);clear Zx;go_wp2_with fail;refine ap (jY _ _ _ _ _) ?_;intro w11 Zw;have R11:=ah ((gI eT Yf [[64,110,101,115,116,45,53],[101,120,105,116]] 9 _ rfl).ext Zw);have X11:=ah (((aj Yf).alloc _).trans Zw);clear Zw;go_wp2_with fail;refine ap (jY _ _ _ _ _) ?_;intro w12 ajA;have R12:=ah ((gI eT w11 [[114,101,97,100]] 9 _ rfl).ext ajA);have X12:=ah (((aj w11).alloc _).trans ajA);clear ajA;go_wp2_with fail;refine ap (jY _ _ _ _ _) ?_;intro w13 lZ;have R13:=ah ((gI eT w12 [[98,105,110,100],[99,111,110,110,101,99,116],[108,105,115,116,101,110],[115,111,99,107,101,116]] 9 _ rfl).ext lZ);have X13:=ah (((aj w12).alloc _).trans lZ);clear lZ;go_wp2_with fail;refine ap (jY _ _ _ _ _) ?_;intro w14 ajz;have R14:=ah ((gI eT w13 [[64,99,108,111,99,107],[64,109,111,100,117,108,101],[64,109,111,117,110,116],[64,114,101,98,111,111,116],[98,112,102],[115,101,116,117,105,100]] 9 _ rfl).ext ajz);have X14:=ah (((aj w13).alloc _).trans ajz);clear ajz;go_wp2_with fail;refine ap (jY _ _ _ _ _) ?_;intro w15 ajy;have R15:=ah ((gI eT w14 [[99,108,111,110,101],[99,108,111,110,101,51],[101,120,101,99,118,101],[101,120,105,116],[102,111,114,107],[107,105,108,108],[115,101,116,110,115],[117,110,115,104,97,114,101]] 9 _ rfl).ext ajy);have X15:=ah (((aj w14).alloc _).trans ajy);clear ajy;go_wp2_with fail;refine ap (jY _ _ _ _ _) ?_;intro w16 hx16;have R16:=ah ((gI eT w15 [[114,101,98,111,111,116]] 9 _ rfl).ext hx16);have X16:=ah (((aj w15).alloc _).trans hx16);clear hx16;go_wp2_with fail;refine ap (jY _ _ _ _ _) ?_;intro w17 C9;have R17:=ah ((gI eT w16 [[115,99,104,101,100,95,115,101,116,97,116,116,114],[115,99,104,101,100,95,115,101,116,115,99,104,101,100,117,108,101,114]] 9 _ rfl).ext C9);have X17:=ah (((aj w16).alloc _).trans C9);clear C9;go_wp2_with fail;refine ap (jY _ _ _ _ _) ?_;intro w18 ajx;have R18:=ah ((gI eT w17 [[64,102,105,108,101],[64,109,101,109,111,114,121],[64,110,101,116,119,111,114,107],[64,112,114,111,99,101,115,115],[103,101,116,117,105,100]] 9 _ rfl).ext ajx);have X18:=ah (((aj w17).alloc _).trans ajx);clear ajx;go_wp2_with fail;go_ret;have Y18:=(aj w18).alloc (.cells (([⟨[64,98,97,115,105,99,45,105,111],.slice (some w) 3 3,[[114,101,97,100],[119,114,105,116,101],[99,108,111,115,101]]⟩,⟨[64,99,108,111,99,107],.slice (some w1) 2 2,[[99,108,111,99,107,95,115,101,116,116,105,109,101],[115,101,116,116,105,109,101,111,102,100,97,121]]⟩,⟨[64,100,101,98,117,103],.slice (some w2) 2 2,[[112,116,114,97,99,101],[112,101,114,115,111,110,97,108,105,116,121]]⟩,⟨[64,102,105,108,101],.slice (some w3) 4 4,[[64,98,97,115,105,99,45,105,111],[111,112,101,110],[111,112,101,110,97,116],[105,111,99,116,108]]⟩,⟨[64,109,101,109,111,114,121],.slice (some w4) 6 6,[[98,114,107],[109,109,97,112],[109,112,114,111,116,101,99,116],[109,117,110,109,97,112],[112,107,101,121,95,109,112,114,111,116,101,99,116],[115,104,109,97,116]]⟩,⟨[64,109,111,100,117,108,101],.slice (some w5) 3 3,[[100,101,108,101,116,101,95,109,111,100,117,108,101],[102,105,110,105,116,95,109,111,100,117,108,101],[105,110,105,116,95,109,111,100,117,108,101]]⟩,⟨[64,109,111,117,110,116],.slice (some w6) 2 2,[[109,111,117,110,116],[117,109,111,117,110,116,50]]⟩,⟨[64,110,101,115,116],.slice (some w7) 2 2,[[64,110,101,115,116,45,50],[107,105,108,108]]⟩,⟨[64,110,101,115,116,45,50],.slice (some w8) 2 2,[[64,110,101,115,116,45,51],[103,101,116,117,105,100]]⟩,⟨[64,110,101,115,116,45,51],.slice (some w9) 2 2,[[64,110,101,115,116,45,52],[115,101,116,117,105,100]]⟩,⟨[64,110,101,115,116,45,52],.slice (some Yf) 2 2,[[64,110,101,115,116,45,53],[101,120,105,116]]⟩,⟨[64,110,101,115,116,45,53],.slice (some w11) 1 1,[[114,101,97,100]]⟩,⟨[64,110,101,116,119,111,114,107],.slice (some w12) 4 4,[[98,105,110,100],[99,111,110,110,101,99,116],[108,105,115,116,101,110],[115,111,99,107,101,116]]⟩,⟨[64,112,114,105,118,105,108,101,103,101,100],.slice (some w13) 6 6,[[64,99,108,111,99,107],[64,109,111,100,117,108,101],[64,109,111,117,110,116],[64,114,101,98,111,111,116],[98,112,102],[115,101,116,117,105,100]]⟩,⟨[64,112,114,111,99,101,115,115],.slice (some w14) 8 8,[[99,108,111,110,101],[99,108,111,110,101,51],[101,120,101,99,118,101],[101,120,105,116],[102,111,114,107],[107,105,108,108],[115,101,116,110,115],[117,110,115,104,97,114,101]]⟩,⟨[64,114,101,98,111,111,116],.slice (some w15) 1 1,[[114,101,98,111,111,116]]⟩,⟨[64,114,101,115,111,117,114,99,101,115],.slice (some w16) 2 2,[[115,99,104,101,100,95,115,101,116,97,116,116,114],[115,99,104,101,100,95,115,101,116,115,99,104,101,100,117,108,101,114]]⟩,⟨[64,115,121,115,116,101,109],.slice (some w17) 5 5,[[64,102,105,108,101],[64,109,101,109,111,114,121],[64,110,101,116,119,111,114,107],[64,112,114,111,99,101,115,115],[103,101,116,117,105,100]]⟩]:List GM).flatMap LU).toArray 511);have Y17:=X18.o.trans Y18;have Y16:=X17.o.trans Y17;have Y15:=X16.o.trans Y16;have Y14:=X15.o.trans Y15;have Y13:=X14.o.trans Y14;have Y12:=X13.o.trans Y13;have Y11:=X12.o.trans Y12;have Y10:=X11.o.trans Y11;have Y9:=X10.o.trans Y10;have Y8:=X9.o.trans Y9;have Y7:=X8.o.trans Y8;have Y6:=X7.o.trans Y7;have Y5:=X6.o.trans Y6;have Y4:=X5.o.trans Y5;have Y3:=X4.o.trans Y4;have Y2:=X3.o.trans Y3;have Y1:=X2.o.trans Y2;have Y0:=X1.o.trans Y1;have Z0:w.heap.size<=w:=aD _;have Z1:=aL Z0 X1.o.size;have Z2:=aL Z1 X2.o.size;have Z3:=aL Z2 X3.o.size;have Z4:=aL Z3 X4.o.size;have Z5:=aL Z4 X5.o.size;have Z6:=aL Z5 X6.o.size;have Z7:=aL Z6 X7.o.size;have Z8:=aL Z7 X8.o.size;have Z9:=aL Z8 X9.o.size;have Z10:=aL Z9 X10.o.size;have Z11:=aL Z10 X11.o.size;have Z12:=aL Z11 X12.o.size;have Z13:=aL Z12 X13.o.size;have Z14:=aL Z13 X14.o.size;have Z15:=aL Z14 X15.o.size;have Z16:=aL Z15 X16.o.size;have Z17:=aL Z16 X17.o.size;have RG:=gI aaa w18 ([⟨[64,98,97,115,105,99,45,105,111],.slice (some w) 3 3,[[114,101,97,100],[119,114,105,116,101],[99,108,111,115,101]]⟩,⟨[64,99,108,111,99,107],.slice (some w1) 2 2,[[99,108,111,99,107,95,115,101,116,116,105,109,101],[115,101,116,116,105,109,101,111,102,100,97,121]]⟩,⟨[64,100,101,98,117,103],.slice (some w2) 2 2,[[112,116,114,97,99,101],[112,101,114,115,111,110,97,108,105,116,121]]⟩,⟨[64,102,105,108,101],.slice (some w3) 4 4,[[64,98,97,115,105,99,45,105,111],[111,112,101,110],[111,112,101,110,97,116],[105,111,99,116,108]]⟩,⟨[64,109,101,109,111,114,121],.slice (some w4) 6 6,[[98,114,107],[109,109,97,112],[109,112,114,111,116,101,99,116],[109,117,110,109,97,112],[112,107,101,121,95,109,112,114,111,116,101,99,116],[115,104,109,97,116]]⟩,⟨[64,109,111,100,117,108,101],.slice (some w5) 3 3,[[100,101,108,101,116,101,95,109,111,100,117,108,101],[102,105,110,105,116,95,109,111,100,117,108,101],[105,110,105,116,95,109,111,100,117,108,101]]⟩,⟨[64,109,111,117,110,116],.slice (some w6) 2 2,[[109,111,117,110,116],[117,109,111,117,110,116,50]]⟩,⟨[64,110,101,115,116],.slice (some w7) 2 2,[[64,110,101,115,116,45,50],[107,105,108,108]]⟩,⟨[64,110,101,115,116,45,50],.slice (some w8) 2 2,[[64,110,101,115,116,45,51],[103,101,116,117,105,100]]⟩,⟨[64,110,101,115,116,45,51],.slice (some w9) 2 2,[[64,110,101,115,116,45,52],[115,101,116,117,105,100]]⟩,⟨[64,110,101,115,116,45,52],.slice (some Yf) 2 2,[[64,110,101,115,116,45,53],[101,120,105,116]]⟩,⟨[64,110,101,115,116,45,53],.slice (some w11) 1 1,[[114,101,97,100]]⟩,⟨[64,110,101,116,119,111,114,107],.slice (some w12) 4 4,[[98,105,110,100],[99,111,110,110,101,99,116],[108,105,115,116,101,110],[115,111,99,107,101,116]]⟩,⟨[64,112,114,105,118,105,108,101,103,101,100],.slice (some w13) 6 6,[[64,99,108,111,99,107],[64,109,111,100,117,108,101],[64,109,111,117,110,116],[64,114,101,98,111,111,116],[98,112,102],[115,101,116,117,105,100]]⟩,⟨[64,112,114,111,99,101,115,115],.slice (some w14) 8 8,[[99,108,111,110,101],[99,108,111,110,101,51],[101,120,101,99,118,101],[101,120,105,116],[102,111,114,107],[107,105,108,108],[115,101,116,110,115],[117,110,115,104,97,114,101]]⟩,⟨[64,114,101,98,111,111,116],.slice (some w15) 1 1,[[114,101,98,111,111,116]]⟩,⟨[64,114,101,115,111,117,114,99,101,115],.slice (some w16) 2 2,[[115,99,104,101,100,95,115,101,116,97,116,116,114],[115,99,104,101,100,95,115,101,116,115,99,104,101,100,117,108,101,114]]⟩,⟨[64,115,121,115,116,101,109],.slice (some w17) 5 5,[[64,102,105,108,101],[64,109,101,109,111,114,121],[64,110,101,116,119,111,114,107],[64,112,114,111,99,101,115,115],[103,101,116,117,105,100]]⟩]:List GM) 511 _ rfl;refine⟨⟨_,_,rfl,RG,rfl,?_⟩,Y0⟩;intro g hg;simp only[dF,List.not_mem_nil,or_false]at hg;rcases hg with rfl|rfl|rfl|rfl|rfl|rfl|rfl|rfl|rfl|rfl|rfl|rfl|rfl|rfl|rfl|rfl|rfl|rfl
 ·exact⟨R1.o.ext Y1,_,rfl,Z0⟩
 ·exact⟨R2.o.ext Y2,_,rfl,Z1⟩
 ·exact⟨R3.o.ext Y3,_,rfl,Z2⟩
 ·exact⟨R4.o.ext Y4,_,rfl,Z3⟩
 ·exact⟨R5.o.ext Y5,_,rfl,Z4⟩
 ·exact⟨R6.o.ext Y6,_,rfl,Z5⟩
 ·exact⟨R7.o.ext Y7,_,rfl,Z6⟩
 ·exact⟨R8.o.ext Y8,_,rfl,Z7⟩
 ·exact⟨R9.o.ext Y9,_,rfl,Z8⟩
 ·exact⟨R10.o.ext Y10,_,rfl,Z9⟩
 ·exact⟨R11.o.ext Y11,_,rfl,Z10⟩
 ·exact⟨R12.o.ext Y12,_,rfl,Z11⟩
 ·exact⟨R13.o.ext Y13,_,rfl,Z12⟩
 ·exact⟨R14.o.ext Y14,_,rfl,Z13⟩
 ·exact⟨R15.o.ext Y15,_,rfl,Z14⟩
 ·exact⟨R16.o.ext Y16,_,rfl,Z15⟩
 ·exact⟨R17.o.ext Y17,_,rfl,Z16⟩
 ·exact⟨R18.o.ext Y18,_,rfl,Z17⟩
end LT
variable{zP:Prop}
def vf(h:zP:=by
 cases hm:xI (bytes s)with
 |none=>rfl
 |some l=>have:=MP _ (wD hm);simp only at this;omega):zP:=h
def ve(h:zP:=by rw[show(λg:GM=>g.nm==bytes s)=(λx=>x.1==bytes s)∘(λg:GM=>(g.nm,g.has))from rfl]at h;rw[h];rfl):zP:=h
def uB(h:zP:=by rw[hm]at hK;have hr:=Ep hm;rw[hr];have Gh:=ah hK;clear hK hm hr h;unfold Rt;go_in;go_wp2_with fail;refine ap Gh.o ?_;intro w1 hx1;go_wp2_with fail;exact vl):zP:=h
namespace LT
variable{B:Nat}{W w w':ay}{a b v:aA}
def agX(B:Nat)(w:ay)(v:aA):Option (List (List aZ))->Prop
 |some l=>(∃b c,v= .slice (some ⟨b,0,none⟩) l c/\B<=b)/\Rd w 1 encStr v l
 |none=>v= .slice none 0 0
def agX.ext{o:Option (List (List aZ))}(h:agX B w v o)(hx:Ext w w'):agX B w' v o:=by
 cases o with
 |none=>exact h
 |some l=>exact⟨h.1,h.2.ext hx⟩
def uJ{t:dz}(hb:W.heap[B]?=some (.cells #[a,b] t (0,0))):W.cell? B=some a/\W.cell? ⟨B,1,none⟩=some b:=
 ⟨by simp[World.cell?,hb],by simp[World.cell?,hb]⟩
theorem rP(s:aK)(w:ay):Calls prog 406 #[.string s] w λe w'=>Ext w w'/\∃v,e= .returned v/\agX w w' v (xI (bytes s)):=by
 go_in;go_wp2_with fail;refine(Ns _).mono ?_;rintro e w1 ⟨⟨v,gs,rfl,hr,hgs,hall⟩,hx1⟩;have hM:xI (bytes s)=(gs.find? (λg=>g.nm==bytes s)).map (·.has):=by
  unfold xI;rw[<-hgs,List.find?_map];cases h:gs.find? (λg=>g.nm==bytes s)with
  |none=>exact ve
  |some g=>exact ve
 obtain⟨a,c,rfl,hac,hca⟩:=YG hr;have hl:gs.length=18:=by rw[show gs.length=xS by rw[<-hgs,aS]];rfl
 have HM:=ah hM;have alJ:=ah hall;have ayN:gs.length<=1000:=aq;have HL:=ah hl;have gK:=ah hx1;have HC:=ah hca;clear hall hl hx1 hca hr hgs hM hac;go_wp2_with fail;go_loopw [7] (λi wr=>∃k:Nat,k<=gs/\i= .int .i64 k/\Ext w1 wr/\∀(j:Nat) (hj:j<gs),j<k->(gs[j].nm==bytes s)=false) (λi _=>gs.length-(intOf i).toNat)
 case atStart=>exact⟨0,aq,rfl,aj _,λj _ h=>aq⟩
 case round=>
  obtain⟨k,hk,rfl,hx,hno⟩:=hrel;have HX:=ah hx;have JC:=ah hno;clear hno;by_cases hlt:k<gs
  ·obtain⟨b,o,rfl,h0,h1⟩:=HC.o k hlt;replace h0:=hx.cell h0;replace h1:=hx.cell h1;have hq:=sU (str gs[k].nm) s;rw[iE]at hq;have hat:(gs[k].nm==bytes s)=true->gs.find? (λg=>g.nm==bytes s)=some gs[k]:=λh=>oh (p:=λg:GM=>g.nm==bytes s) hlt JC.o h
   have hnx:(gs[k].nm==bytes s)=false->∀(j:Nat) (hj:j<gs.length),j<k+1->(gs[j].nm==bytes s)=false:=λhf j hj h=>by
    by_cases e:j=k
    ·subst e;exact hf
    ·exact JC.o j hj aq
   have hrk:=alJ.o gs[k] (aW hlt);generalize gs[k]=g at *;obtain⟨nm,hv,has⟩:=g;dsimp only at *;generalize(nm==bytes s)=bb at *;have HAT:=ah hat;have HNX:=ah hnx;obtain⟨hrk,b0,rfl,hb0⟩:=hrk;have HRK:=ah (ak hrk hb0);clear hat hnx hrk hb0 hx;cases bb
   ·go_wp2_with fail;go_roundw
    case rel=>exact⟨k+1,aq,bm,HX.o.alloc _,HNX.o (by trivial)⟩
    case measure=>exact gO
   ·go_wp2_with fail;go_ret;refine⟨gK.o.trans (HX.o.alloc _),_,rfl,?_⟩;rw[HM.o,HAT.o (by trivial)];exact⟨⟨b0,_,rfl,HRK.o.2⟩,HRK.o.1.ext (HX.o.alloc _)⟩
  ·have hkk:k=gs.length:=aq;have hR0:gs.find? (λg=>g.nm==bytes s)=none:=tu (λj hj=>JC.o j hj aq);have HR:=ah hR0;clear hx hR0 hkk;go_wp2_with fail;go_ret;exact⟨gK.o.trans HX.o,_,rfl,by rw[HM.o,HR.o];rfl⟩
theorem xV(s:aK)(w:ay):Rt 403 #[.string s] w (.bool (xI (bytes s)).isSome):=by
 have hM:=rP s w;have Jz:=ah hM;clear hM;unfold Rt;go_in;go_wp2_with fail;refine Jz.o.mono ?_;rintro e w1 ⟨hx1,v,rfl,hv⟩;cases hm:xI (bytes s)with
 |none=>
  rw[hm]at hv;have hv2:v= .slice none 0 0:=hv;subst hv2;have hq:∀W,(binOp .neq 293 (.slice none 0 0) (.slice none 0 0)).run prog W= .ok (.bool false) W:=λW=>rfl
  have HMm:=ah hm;clear hv hm;go_wp2_with fail;go_ret;exact⟨by rw[HMm.o];rfl,hx1⟩
 |some l=>
  rw[hm]at hv;obtain⟨⟨b,c,rfl,-⟩,-⟩:=hv;have hq:∀W,(binOp .neq 293 (.slice (some b) l c) (.slice none 0 0)).run prog W= .ok (.bool true) W:=λW=>rfl
  have HMm:=ah hm;clear hm;go_wp2_with fail;go_ret;exact⟨by rw[HMm.o];rfl,hx1⟩
def LY(l:List (List aZ))(n:Nat):Nat:=l.foldl (λn m=>max n (nL m)) n
theorem VN(k:Nat):∀(s:aK)(w:ay),nL (bytes s)<=k->Rt 404 #[.string s] w (.int .i64 (nL (bytes s):Int)):=by
 induction k with
 |zero=>
  intro s w h;have hm:xI (bytes s)=none:=vf
  have hK:=xV s w;exact uB
 |succ k ih=>
  intro s w h;have hK:=xV s w;have hM:=λW=>rP s W
  cases hm:xI (bytes s)with
  |none=>exact uB
  |some l=>
   rw[hm]at hK hM;have hg:=wD hm;have hr:nL (bytes s)=LY l 0+1:=MP _ hg;have hup:∀m∈l,nL m<=k:=λm h2=>by have:=MO _ hg m h2;simp only at this;omega
   have hl8:l.length<=8:=(uT _ hg).2.1;have h6:nL (bytes s)<=6:=(uT _ hg).1;rw[hr];have hd6:LY l 0<=5:=aq;have anF:∀m∈l,nL m<=6:=λm h2=>by have:=MO _ hg m h2;simp only at this;omega
   have HI:=ah (ak ih (ak hup anF));have Gh:=ah hK;have Jz:=ah hM;clear hK hM hm hr h hg hup ih h6 anF;generalize hD:LY l 0=D at *;have HD:=ah hD;clear hD;unfold Rt;go_in;go_wp2_with fail;refine ap Gh.o ?_;intro w1 hx1;have gK:=ah hx1;clear hx1;go_wp2_with fail;refine(Jz.o _).mono ?_;rintro e w2 ⟨hx2,v,rfl,⟨b0,c0,rfl,-⟩,hr2⟩;obtain⟨a,c,e2,-,hca⟩:=xE hr2;simp only[aU]at e2;obtain⟨rfl,-,rfl⟩:=e2;have jm:=ah (gK.o.trans hx2);have HC:=ah hca;clear hx2 hr2 hca;go_wp2_with fail;go_loopw [3,12] (λn i wr=>∃(j m:Nat),j<=l/\i= .int .i64 j/\n= .int .i64 m/\m<=6/\LY (l.drop j) m=D/\Ext w2 wr) (λ_ i _=>l.length-(intOf i).toNat)
   case atStart=>exact⟨0,0,aq,rfl,rfl,aq,HD.o,aj _⟩
   case round=>
    obtain⟨j,m,hj,rfl,rfl,hm6,hdl,hx⟩:=hrel;by_cases hlt:j<l
    ·obtain⟨b,o,e3,h0⟩:=HC.o j hlt;cases e3
     replace h0:=hx.cell h0;rw[cO]at h0;rw[bJ hlt]at hdl;have hup:=HI.o.2.1 l[j] (aW hlt);have ZB:=HI.o.2.2 l[j] (aW hlt);have hst:LY (l[j]::l.drop (j+1)) m=LY (l.drop (j+1)) (max m (nL l[j])):=rfl;rw[hst]at hdl;have hIH:=λW=>HI.o.1 (str l[j]) W (by rw[iE];exact hup)
     simp only[iE]at hIH;have HX:=ah hx;have HDL:=ah hdl;generalize nL l[j]=q at *;generalize str l[j]=sj at *;have ale:=ah hIH;clear hIH hx hdl hst hup;go_wp2_with fail;refine ap (ale.o _) ?_;intro w4 hx4;go_wp2_with fail;refine⟨⟨j+1,max m q,aq,bm,?_,aq,HDL.o,HX.o.trans hx4⟩,by simp[intOf];omega⟩
     congr 1
     omega
    ·have hjj:j=l.length:=aq;rw[hjj,dQ]at hdl;have hmD:m=D:=hdl;subst hmD;have HX:=ah hx;clear hx hjj hdl;go_wp2_with fail;go_ret;exact⟨rfl,jm.o.trans HX.o⟩
abbrev ltB(a b:List aZ):Bool:=Op.bytesLess a b
def okC(c:Cl):Bool:=lu c.nm&&wV c.act
def upC:Option (List aZ)->List aZ->Bool
 |none,_=>true
 |some q,n=>ltB q n
def ny:Option (List aZ)->List Cl->Bool
 |_,[]=>true
 |p,c::r=>okC c&&(upC p c.nm&&ny (some c.nm) r)
def iq(m:Nat)(cs:List Cl):Bool:=decide (m<=2)&&((!(m==0)||cs.isEmpty)&&ny none cs)
def Pk(cs:List Cl)(k:Nat):Option (List aZ):=match k with
 |0=>none
 |j+1=>(cs[j]?).map (·.nm)
def qh(m:Nat)(v:aA):aA:= .agg #[.int .u8 m,v]
theorem uq(m:Nat)(v:aA)(cs:List Cl)(hl:cs.length<=1000000)(w:ay)(hv:Rd w 2 fD v cs):Calls prog 59 #[qh m v] w λr w'=>r= .returned (.bool (iq m cs))/\Ext w w':=by
 obtain⟨a,c,rfl,-,hca⟩:=mY hv;have hm:iq m cs=(decide (m<=2)&&((!(m==0)||cs.isEmpty)&&ny none cs)):=rfl;have q1:decide ((2:Int)<m)=decide (2<m):=by rw[bB];simp;omega
 have q2:((m:Int)==0)=(m==0):=by rw[bB];simp
 have q3:decide ((0:Int)<cs)= !cs.isEmpty:=by rw[bB];cases cs<;>simp<;>omega
 have q4:decide (0<cs.length)= !cs.isEmpty:=by rw[bB];cases cs<;>simp
 generalize iq m cs=R at *;have HM:=ah hm;have HC:=ah hca;clear hm hv hca;unfold qh;by_cases h2:2<m
 ·have d1:decide (2<m)=true:=aQ h2;have hR:R=false:=by rw[HM.o,aT aq];rfl
  subst hR;rw[d1]at q1;go_in;go_wp2_with fail;go_ret;exact kz
 have d1:decide (2<m)=false:=aT h2;rw[d1]at q1;obtain⟨W0,hW0⟩:∃W0,w.alloc (.cells #[.int .u8 m,.slice a cs c] 31)=W0:=⟨_,rfl⟩;have hb0:W0.heap[w.heap.size]?=some (.cells #[.int .u8 m,.slice a cs c] 31 (0,0)):=by rw[<-hW0];exact aC _ _
 have hx0:Ext w W0:=by rw[<-hW0];exact(aj _).alloc _
 obtain⟨b0,b1⟩:=uJ hb0;have HB0:=ah hb0;have HX0:=ah hx0;clear hb0 hx0;by_cases h0:(!(m==0)||cs.isEmpty)=true
 ·have hR:R=ny none cs:=by rw[HM.o,aQ aq,h0];rfl
  have HR:=ah hR;clear hR;have Xf:∀(A:Prop),True:=λ_=>trivial
  have key:Calls prog 59 #[.agg #[.int .u8 m,.slice a cs c]] w λr w'=>r= .returned (.bool R)/\Ext w w':=by
   have hcs:(m==0)=false\/((m==0)=true/\cs.isEmpty=true):=by
    cases hm0:(m==0)
    ·exact vq
    ·rw[hm0]at h0;exact .inr ⟨rfl,by simpa using h0⟩
   clear h0 Xf;rcases hcs with hm0|⟨hm0,hce⟩
   all_goals
    rw[hm0]at q2
    try rw[hce]at q3 q4
    try simp only[Bool.not_true]at q3 q4
    go_in;go_wp2_with fail;go_loopw [22] (λi wr=>∃k:Nat,k<=cs/\i= .int .i64 k/\Ext W0 wr/\ny none cs=ny (Pk cs k) (cs.drop k)) (λi _=>cs.length-(intOf i).toNat)
    case atStart=>exact⟨0,aq,rfl,aj _,rfl⟩
    case round=>
     obtain⟨k,hk,rfl,hx,heq⟩:=hrel;have HX:=ah hx;have HE:=ah heq;clear heq;by_cases hlt:k<cs
     ·obtain⟨b,o,rfl,h0,h1⟩:=HC.o k hlt;replace h0:=hx.cell (HX0.o.cell h0);replace h1:=hx.cell (HX0.o.cell h1);have g1:=hx.cell b1;have HST:=ah (bJ hlt);have hKn:=λW=>yg (str cs[k].nm) W
      simp only[iE]at hKn;have hAc:∀W,Calls prog 100 #[.int .u32 (cs[k].act:Int)] W λr w'=>r= .returned (.bool (wV cs[k].act))/\Ext W w':=λW=>(NV _ W).mono λ_ _ ⟨h,e⟩=>⟨h,by rw[e];exact aj _⟩
      clear hx;generalize hck:cs[k]=ck at *;obtain⟨nm,act⟩:=ck;dsimp only at *;have HCK:=ah hck;have DW:=ah hKn;have DX:=ah hAc;clear hKn hAc hck
      try clear q2
      try clear q3
      try clear q4
      clear q1;have Gx:ny (Pk cs k) (⟨nm,act⟩::cs.drop (k+1))=((lu nm&&wV act)&&(upC (Pk cs k) nm&&ny (some nm) (cs.drop (k+1)))):=rfl;have hpk:Pk cs (k+1)=some nm:=by show(cs[k]?).map (·.nm)=_;rw[aJ hlt,HCK.o];rfl
      have HR1:=ah Gx;have HPK:=ah hpk;clear Gx hpk;go_upto_region 6 with fail;obtain⟨W6,Xk⟩:∃W6,wr.alloc (.cells #[.string (str nm),.int .u32 act] 121)=W6:=⟨_,rfl⟩;have hb6:W6.heap[wr.heap.size]?=some (.cells #[.string (str nm),.int .u32 act] 121 (0,0)):=by rw[<-Xk];exact aC _ _
      have hx6:Ext wr W6:=by rw[<-Xk];exact(aj _).alloc _
      rw[Xk];clear Xk;obtain⟨e0,e1⟩:=uJ hb6;have x0:=nV e0;have x1:=nV e1;have x2:=nV (hx6.cell g1);have sD:=ah (HX0.o.trans (HX.o.trans hx6));have apM:=ah (HX.o.trans hx6);have hp0:=λj (hj:j<cs.length)=>HC.o j hj
      clear e0 e1 hb6 g1 h0 h1;generalize hsn:str nm=sn at *;have HSN:=ah hsn;clear hsn;generalize hkc:lu nm=kc at *;generalize hac:wV act=ac at *;have HKA:=ah (ak hkc hac);clear hkc hac;cases k with
      |zero=>
       clear hp0 hx6;cases kc
       ·cases ac
        all_goals
         refine fE ax ax ?_
         repeat(any_goals(first|go_big_quiet_step ((first|(go_at_call 99;with_reducible exact dx (DW.o _))|(go_at_call 100;with_reducible exact dx (DX.o _))))|quiet_step ((first|(go_at_call 99;with_reducible exact dx (DW.o _))|(go_at_call 100;with_reducible exact dx (DX.o _))))))
         all_goals(refine i4 ?_;intro _ B2;obtain⟨xq,hw8⟩:=B2;subst hw8)
         go_wp2_with fail;go_ret;exact⟨by rw[HR.o,HE.o,HST.o,HR1.o];rfl,sD.o.trans xq.h⟩
       ·cases ac
        ·skip
         refine fE ax ax ?_
         repeat(any_goals(first|go_big_quiet_step ((first|(go_at_call 99;with_reducible exact dx (DW.o _))|(go_at_call 100;with_reducible exact dx (DX.o _))))|quiet_step ((first|(go_at_call 99;with_reducible exact dx (DW.o _))|(go_at_call 100;with_reducible exact dx (DX.o _))))))
         all_goals(refine i4 ?_;intro _ B2;obtain⟨xq,hw8⟩:=B2;subst hw8)
         go_wp2_with fail;go_ret;exact⟨by rw[HR.o,HE.o,HST.o,HR1.o];rfl,sD.o.trans xq.h⟩
        ·skip
         refine fE ax ax ?_
         repeat(any_goals(first|go_big_quiet_step ((first|(go_at_call 99;with_reducible exact dx (DW.o _))|(go_at_call 100;with_reducible exact dx (DX.o _))))|quiet_step ((first|(go_at_call 99;with_reducible exact dx (DW.o _))|(go_at_call 100;with_reducible exact dx (DX.o _))))))
         all_goals(refine i4 ?_;intro _ B2;obtain⟨xq,hw8⟩:=B2;subst hw8)
         go_wp2_with fail;go_roundw
         case rel=>exact⟨0+1,aq,bm,apM.o.trans xq.h,by rw[HE.o,HST.o,HR1.o,HPK.o];rfl⟩
         case measure=>simp[intOf];omega
      |succ j=>
       obtain⟨b',o',e',p0,-⟩:=hp0 j aq;simp only[dw,gD,and_true]at e';obtain⟨rfl,rfl⟩:=e';have x3:=nV (sD.o.cell p0);have hup:upC (Pk cs (j+1)) nm=Op.bytesLess cs[j].nm nm:=by show upC ((cs[j]?).map (·.nm)) nm=_;rw[aJ aq];rfl
       have hw:IntKind.i64.wrap ((j:Int)+1-1)=(j:Int):=by rw[show(j:Int)+1-1=(j:Int)from aq];exact IntWalk.i64_in _ aq
       have hji:(j:Int)<cs:=aq;have tn:sn.toList=nm:=by rw[<-HSN.o];exact OP nm
       have tp:=OP cs[j].nm;generalize cs[j].nm=pn at *;generalize str pn=sp at *;have d5:decide ((0:Int)<j+1)=true:=aQ aq;have HUP:=ah hup;clear hup hp0 p0 hx6;cases kc
       ·clear tn tp;cases ac
        all_goals
         refine fE ax ax ?_
         repeat(any_goals(first|go_big_quiet_step ((first|(go_at_call 99;with_reducible exact dx (DW.o _))|(go_at_call 100;with_reducible exact dx (DX.o _))))|quiet_step ((first|(go_at_call 99;with_reducible exact dx (DW.o _))|(go_at_call 100;with_reducible exact dx (DX.o _))))))
         all_goals(refine i4 ?_;intro _ B2;obtain⟨xq,hw8⟩:=B2;subst hw8)
         go_wp2_with fail;go_ret;exact⟨by rw[HR.o,HE.o,HST.o,HR1.o];rfl,sD.o.trans xq.h⟩
       ·cases ac
        ·clear tn tp;refine fE ax ax ?_
         repeat(any_goals(first|go_big_quiet_step ((first|(go_at_call 99;with_reducible exact dx (DW.o _))|(go_at_call 100;with_reducible exact dx (DX.o _))))|quiet_step ((first|(go_at_call 99;with_reducible exact dx (DW.o _))|(go_at_call 100;with_reducible exact dx (DX.o _))))))
         all_goals(refine i4 ?_;intro _ B2;obtain⟨xq,hw8⟩:=B2;subst hw8)
         go_wp2_with fail;go_ret;exact⟨by rw[HR.o,HE.o,HST.o,HR1.o];rfl,sD.o.trans xq.h⟩
        ·cases hlt2:Op.bytesLess pn nm
         ·have HL:=ah hlt2;refine fE ax ax ?_
          repeat(any_goals(first|go_big_quiet_step ((first|(go_at_call 99;with_reducible exact dx (DW.o _))|(go_at_call 100;with_reducible exact dx (DX.o _))))|quiet_step ((first|(go_at_call 99;with_reducible exact dx (DW.o _))|(go_at_call 100;with_reducible exact dx (DX.o _))))))
          all_goals(refine i4 ?_;intro _ B2;obtain⟨xq,hw8⟩:=B2;subst hw8)
          go_wp2_with fail;go_ret;exact⟨by rw[HR.o,HE.o,HST.o,HR1.o,HUP.o,HL.o];rfl,sD.o.trans xq.h⟩
         ·have HL:=ah hlt2;refine fE ax ax ?_
          repeat(any_goals(first|go_big_quiet_step ((first|(go_at_call 99;with_reducible exact dx (DW.o _))|(go_at_call 100;with_reducible exact dx (DX.o _))))|quiet_step ((first|(go_at_call 99;with_reducible exact dx (DW.o _))|(go_at_call 100;with_reducible exact dx (DX.o _))))))
          all_goals(refine i4 ?_;intro _ B2;obtain⟨xq,hw8⟩:=B2;subst hw8)
          go_wp2_with fail;go_roundw
          case rel=>exact⟨j+1+1,aq,bm,apM.o.trans xq.h,by rw[HE.o,HST.o,HR1.o,HPK.o,HUP.o,HL.o];rfl⟩
          case measure=>simp[intOf];omega
     ·have hkk:k=cs.length:=aq;have HS:Hid (R=true):=ah (by rw[HR.o,HE.o,hkk,dQ];rfl);clear hx hkk;go_wp2_with fail;go_ret;exact⟨by rw[HS.o];rfl,HX0.o.trans HX.o⟩
  exact key
 ·have hR:R=false:=by rw[HM.o,show(!(m==0)||cs.isEmpty)=false from Bool.eq_false_iff.2 h0];simp
  subst hR;have hm0:(m==0)=true:=by
   cases h:(m==0)
   ·rw[h]at h0;simp at h0
   ·rfl
  have hce:cs.isEmpty=false:=by rw[hm0]at h0;simpa using h0
  rw[hm0]at q2;rw[hce]at q3 q4;simp only[Bool.not_false]at q3 q4;clear h0 hm0 hce;go_in;go_wp2_with fail;go_ret;exact⟨rfl,HX0.o⟩
end LT
end Go.Proofs.YtopfefhenfineaaGreat
