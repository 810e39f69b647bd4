import Derived.Test.YtopfefhenfineaaGreatP9
import Derived.Test.YtopfefhenfineaaGreatP8
import Derived.Deep.RegionWith
import Derived.Maps.Own
import Derived.Maps.OwnSet
import Derived.Maps.Views
import Derived.Laws.MakeOwn
import Derived.Shelf.RegionOpen
import Derived.TacticsInMore
import Derived.LoopNIn
import Derived.LoopIn
set_option linter.all false
set_option maxRecDepth 100000
set_option maxHeartbeats 8000000
namespace Go.Proofs.YtopfefhenfineaaGreat
open Go.Proofs.Tryz Go.RowKit V
attribute[local go_sem] Oper.semAt_some
namespace xw
variable{B:Nat}{T t:dz}{W w w1:ay}{a b c v x y z:aA}
def enE(e:En):aA:= .agg #[.int .u16 e.c,.string (str e.nm),.int .u8 e.cl]
def qw:Array aA:= #[.int .u16 32,.string ⟨#[108,100,97,98,115]⟩,.int .u8 1,.int .u16 128,.string ⟨#[108,100,108,101,110]⟩,.int .u8 1,.int .u16 0,.string ⟨#[108,100,105]⟩,.int .u8 1,.int .u16 96,.string ⟨#[108,100,109]⟩,.int .u8 1,.int .u16 129,.string ⟨#[108,100,120,108,101,110]⟩,.int .u8 1,.int .u16 1,.string ⟨#[108,100,120,105]⟩,.int .u8 1,.int .u16 97,.string ⟨#[108,100,120,109]⟩,.int .u8 1,.int .u16 2,.string ⟨#[115,116]⟩,.int .u8 2,.int .u16 3,.string ⟨#[115,116,120]⟩,.int .u8 2,.int .u16 4,.string ⟨#[97,100,100]⟩,.int .u8 3,.int .u16 20,.string ⟨#[115,117,98]⟩,.int .u8 3,.int .u16 36,.string ⟨#[109,117,108]⟩,.int .u8 3,.int .u16 52,.string ⟨#[100,105,118]⟩,.int .u8 3,.int .u16 68,.string ⟨#[111,114]⟩,.int .u8 3,.int .u16 84,.string ⟨#[97,110,100]⟩,.int .u8 3,.int .u16 100,.string ⟨#[108,115,104]⟩,.int .u8 3,.int .u16 116,.string ⟨#[114,115,104]⟩,.int .u8 3,.int .u16 164,.string ⟨#[120,111,114]⟩,.int .u8 3,.int .u16 12,.string ⟨#[97,100,100,120]⟩,.int .u8 3,.int .u16 28,.string ⟨#[115,117,98,120]⟩,.int .u8 3,.int .u16 44,.string ⟨#[109,117,108,120]⟩,.int .u8 3,.int .u16 60,.string ⟨#[100,105,118,120]⟩,.int .u8 3,.int .u16 76,.string ⟨#[111,114,120]⟩,.int .u8 3,.int .u16 92,.string ⟨#[97,110,100,120]⟩,.int .u8 3,.int .u16 108,.string ⟨#[108,115,104,120]⟩,.int .u8 3,.int .u16 124,.string ⟨#[114,115,104,120]⟩,.int .u8 3,.int .u16 172,.string ⟨#[120,111,114,120]⟩,.int .u8 3,.int .u16 132,.string ⟨#[110,101,103]⟩,.int .u8 3,.int .u16 5,.string ⟨#[106,97]⟩,.int .u8 4,.int .u16 21,.string ⟨#[106,101,113]⟩,.int .u8 4,.int .u16 37,.string ⟨#[106,103,116]⟩,.int .u8 4,.int .u16 53,.string ⟨#[106,103,101]⟩,.int .u8 4,.int .u16 69,.string ⟨#[106,115,101,116]⟩,.int .u8 4,.int .u16 29,.string ⟨#[106,101,113,120]⟩,.int .u8 4,.int .u16 45,.string ⟨#[106,103,116,120]⟩,.int .u8 4,.int .u16 61,.string ⟨#[106,103,101,120]⟩,.int .u8 4,.int .u16 77,.string ⟨#[106,115,101,116,120]⟩,.int .u8 4,.int .u16 6,.string ⟨#[114,101,116]⟩,.int .u8 5,.int .u16 22,.string ⟨#[114,101,116,97]⟩,.int .u8 5,.int .u16 7,.string ⟨#[116,97,120]⟩,.int .u8 6,.int .u16 135,.string ⟨#[116,120,97]⟩,.int .u8 6]
def afc:za.length=41:=rfl
theorem U1(i:Nat)(h:i<za)(W:ay):(Instr.index 382 (.agg qw) (.int .i64 i)).run prog W= .ok (enE za[i]) W:=by
 match i,h with
 |0,_=>rfl
 |1,_=>rfl
 |2,_=>rfl
 |3,_=>rfl
 |4,_=>rfl
 |5,_=>rfl
 |6,_=>rfl
 |7,_=>rfl
 |8,_=>rfl
 |9,_=>rfl
 |10,_=>rfl
 |11,_=>rfl
 |12,_=>rfl
 |13,_=>rfl
 |14,_=>rfl
 |15,_=>rfl
 |16,_=>rfl
 |17,_=>rfl
 |18,_=>rfl
 |19,_=>rfl
 |20,_=>rfl
 |21,_=>rfl
 |22,_=>rfl
 |23,_=>rfl
 |24,_=>rfl
 |25,_=>rfl
 |26,_=>rfl
 |27,_=>rfl
 |28,_=>rfl
 |29,_=>rfl
 |30,_=>rfl
 |31,_=>rfl
 |32,_=>rfl
 |33,_=>rfl
 |34,_=>rfl
 |35,_=>rfl
 |36,_=>rfl
 |37,_=>rfl
 |38,_=>rfl
 |39,_=>rfl
 |40,_=>rfl
 |n+41,h=>exact absurd h (by rw[afc];omega)
theorem Kw(w:ay):Rt 255 #[] w (.agg qw):=by
 unfold Rt;go_in;go_upto_region 1 with fail;apply wp_region_lit;refine bT 239 1 #[.int .u16 32,.string ⟨#[108,100,97,98,115]⟩,.int .u8 1] ?_;refine bT 239 2 #[.int .u16 128,.string ⟨#[108,100,108,101,110]⟩,.int .u8 1] ?_;refine bT 239 3 #[.int .u16 0,.string ⟨#[108,100,105]⟩,.int .u8 1] ?_;refine bT 239 4 #[.int .u16 96,.string ⟨#[108,100,109]⟩,.int .u8 1] ?_;refine bT 239 5 #[.int .u16 129,.string ⟨#[108,100,120,108,101,110]⟩,.int .u8 1] ?_;refine bT 239 6 #[.int .u16 1,.string ⟨#[108,100,120,105]⟩,.int .u8 1] ?_;refine bT 239 7 #[.int .u16 97,.string ⟨#[108,100,120,109]⟩,.int .u8 1] ?_;refine bT 239 8 #[.int .u16 2,.string ⟨#[115,116]⟩,.int .u8 2] ?_;refine bT 239 9 #[.int .u16 3,.string ⟨#[115,116,120]⟩,.int .u8 2] ?_;refine bT 239 10 #[.int .u16 4,.string ⟨#[97,100,100]⟩,.int .u8 3] ?_;refine bT 239 11 #[.int .u16 20,.string ⟨#[115,117,98]⟩,.int .u8 3] ?_;refine bT 239 12 #[.int .u16 36,.string ⟨#[109,117,108]⟩,.int .u8 3] ?_;refine bT 239 13 #[.int .u16 52,.string ⟨#[100,105,118]⟩,.int .u8 3] ?_;refine bT 239 14 #[.int .u16 68,.string ⟨#[111,114]⟩,.int .u8 3] ?_;refine bT 239 15 #[.int .u16 84,.string ⟨#[97,110,100]⟩,.int .u8 3] ?_;refine bT 239 16 #[.int .u16 100,.string ⟨#[108,115,104]⟩,.int .u8 3] ?_;refine bT 239 17 #[.int .u16 116,.string ⟨#[114,115,104]⟩,.int .u8 3] ?_;refine bT 239 18 #[.int .u16 164,.string ⟨#[120,111,114]⟩,.int .u8 3] ?_;refine bT 239 19 #[.int .u16 12,.string ⟨#[97,100,100,120]⟩,.int .u8 3] ?_;refine bT 239 20 #[.int .u16 28,.string ⟨#[115,117,98,120]⟩,.int .u8 3] ?_;refine bT 239 21 #[.int .u16 44,.string ⟨#[109,117,108,120]⟩,.int .u8 3] ?_;refine bT 239 22 #[.int .u16 60,.string ⟨#[100,105,118,120]⟩,.int .u8 3] ?_;refine bT 239 23 #[.int .u16 76,.string ⟨#[111,114,120]⟩,.int .u8 3] ?_;refine bT 239 24 #[.int .u16 92,.string ⟨#[97,110,100,120]⟩,.int .u8 3] ?_;refine bT 239 25 #[.int .u16 108,.string ⟨#[108,115,104,120]⟩,.int .u8 3] ?_;refine bT 239 26 #[.int .u16 124,.string ⟨#[114,115,104,120]⟩,.int .u8 3] ?_;refine bT 239 27 #[.int .u16 172,.string ⟨#[120,111,114,120]⟩,.int .u8 3] ?_;refine bT 239 28 #[.int .u16 132,.string ⟨#[110,101,103]⟩,.int .u8 3] ?_;refine bT 239 29 #[.int .u16 5,.string ⟨#[106,97]⟩,.int .u8 4] ?_;refine bT 239 30 #[.int .u16 21,.string ⟨#[106,101,113]⟩,.int .u8 4] ?_;refine bT 239 31 #[.int .u16 37,.string ⟨#[106,103,116]⟩,.int .u8 4] ?_;refine bT 239 32 #[.int .u16 53,.string ⟨#[106,103,101]⟩,.int .u8 4] ?_;refine bT 239 33 #[.int .u16 69,.string ⟨#[106,115,101,116]⟩,.int .u8 4] ?_;refine bT 239 34 #[.int .u16 29,.string ⟨#[106,101,113,120]⟩,.int .u8 4] ?_;refine bT 239 35 #[.int .u16 45,.string ⟨#[106,103,116,120]⟩,.int .u8 4] ?_;refine bT 239 36 #[.int .u16 61,.string ⟨#[106,103,101,120]⟩,.int .u8 4] ?_;refine bT 239 37 #[.int .u16 77,.string ⟨#[106,115,101,116,120]⟩,.int .u8 4] ?_;refine bT 239 38 #[.int .u16 6,.string ⟨#[114,101,116]⟩,.int .u8 5] ?_;refine bT 239 39 #[.int .u16 22,.string ⟨#[114,101,116,97]⟩,.int .u8 5] ?_;refine bT 239 40 #[.int .u16 7,.string ⟨#[116,97,120]⟩,.int .u8 6] ?_;refine bT 239 41 #[.int .u16 135,.string ⟨#[116,120,97]⟩,.int .u8 6] ?_;refine bT 382 42 (qw) ?_;refine wpList_store_rowTo rfl 382 _ _ rfl rfl w.heap.size qw bj bj 382 _ (heap_alloc_last w _) ax ax ax ?_;rw[World.setRow_alloc_new];apply wpList_nil;rename_i hK;refine hK _ _ ?_;have key:∀A:Act,A.tmps.getD 0 undef= .pointer (some w)->A.defers=[]->Code.wp prog Code.ret (bodyPost prog Tryz.f255 λe w'=>e= .returned (.agg qw)/\Ext w w') A (w.alloc (.cells qw 382)):=by intro A h0 hd;go_wp2_with fail;exact aM (v:= .agg qw) (dV results255 _ _ _ _ _ _ _ h0 (heap_alloc_last w _) underlying382 rfl ax) hd ⟨rfl,(aj _).alloc _⟩
 exact tw
def DC(hx:Ext (w.alloc (.cells #[a,b,c] t)) w1):w1.cell? w=some a/\w1.cell? ⟨w,1,none⟩=some b/\w1.cell? ⟨w,2,none⟩=some c/\w1.frozen? w=false/\w1.frozen? ⟨w,1,none⟩=false/\w1.frozen? ⟨w,2,none⟩=false/\w.heap.size<w1:=by exact kO
def aiP(x y z:aA)(c0:w1.cell? B=some a)(c1:w1.cell? ⟨B,1,none⟩=some b)(c2:w1.cell? ⟨B,2,none⟩=some c):(((w1.setCell B x).setCell ⟨B,1,none⟩ y).setCell ⟨B,2,none⟩ z).cell? B=some x/\(((w1.setCell B x).setCell ⟨B,1,none⟩ y).setCell ⟨B,2,none⟩ z).cell? ⟨B,1,none⟩=some y/\(((w1.setCell B x).setCell ⟨B,1,none⟩ y).setCell ⟨B,2,none⟩ z).cell? ⟨B,2,none⟩=some z:=by exact iu
theorem acr(hz:(Tryz.prog.info? t).map (·.size)=some 3)(hu:∃fs,Tryz.prog.underlying t=some (.struct fs))(c0:W.cell? B=some x)(c1:W.cell? ⟨B,1,none⟩=some y)(c2:W.cell? ⟨B,2,none⟩=some z):(loadVar t ⟨B,0,none⟩).run prog W= .ok (.agg #[x,y,z]) W:=by
 obtain⟨fs,hu⟩:=hu;cases hq:Tryz.prog.info? t with
 |none=>simp[hq]at hz
 |some i=>simp[hq]at hz;simp[loadVar,isAgg,sizeOf,typeInfo,underlying,hq,hz,hu,loadCells,loadCellsFrom,go_sem,c0,c1,c2]
theorem Je{fn:Func}{A:Act}{Q:Ending->ay->Prop}(hr:fn.results= #[.cell 2 T,.tmp 3])(hz:(Tryz.prog.info? T).map (·.size)=some 3)(hu:∃fs,Tryz.prog.underlying T=some (.struct fs))(h2:A.tmps.getD 2 undef= .pointer (some B))(h3:A.tmps.getD 3 undef=v)(hd:A.defers=[])(c0:W.cell? B=some a)(c1:W.cell? ⟨B,1,none⟩=some b)(c2:W.cell? ⟨B,2,none⟩=some c)(hE:Ext w W)(hB:w.heap.size<=B)(hQ:∀W',Ext w W'->Q (.returned (.tuple #[.agg #[x,y,z],v])) W'):bodyPost prog fn Q .ret A (((W.setCell B x).setCell ⟨B,1,none⟩ y).setCell ⟨B,2,none⟩ z):=by obtain⟨s0,s1,s2⟩:=aiP x y z c0 c1 c2;refine aM (v:= .tuple #[.agg #[x,y,z],v]) ?_ hd (hQ _ (((hE.setCell hB _).setCell hB _).setCell hB _));exact pC
def oh{α:Type}{p:α->Bool}:∀ {l:List α} {i:Nat} (h:i<l),(∀(j:Nat)(hj:j<l),j<i->p l[j]=false)->p l[i]=true->l.find? p=some l[i]
 |x::r,0,_,_,hp=>by simp at hp;simp[List.find?,hp]
 |x::r,i+1,h,hn,hp=>by have h0:p x=false:=hn 0 aE aq;have:=oh (p:=p) (l:=r) (i:=i) (Nat.lt_of_succ_lt_succ h) (λj hj hji=>hn (j+1) (Nat.succ_lt_succ hj) aq) hp;simp[List.find?,h0,this]
def tu{α:Type}{p:α->Bool}{l:List α}(h:∀(j:Nat)(hj:j<l),p l[j]=false):l.find? p=none:=lA
theorem aan(e:En)(code Bc:Nat)(w:ay)(hB:w.cell? Bc=some (.int .u16 code)):Calls prog 190 #[enE e,.pointer (some Bc)] w λr w'=>r= .returned (.bool (e.c==code))/\Ext w w':=by
 have hlt:Bc<w.heap.size:=aY _ _ hB;have hq:((e.c:Int)==(code:Int))=(e.c==code):=by rw[bB];simp;omega
 obtain⟨c,nm,cl⟩:=e;unfold enE;dsimp only at *;cases he:c==code
 all_goals
  rw[he]at hq;have Hhe:=ah he;clear he;generalize str nm=sn at *;go_in;go_wp2_with fail;go_ret;exact⟨rfl,(aj _).alloc _⟩
theorem QX(code:Nat)(Bc:Nat)(w:ay)(hB:w.cell? Bc=some (.int .u16 code)):Calls prog 189 #[.func (.func 190) #[] #[.pointer (some Bc)]] w λr w'=>r= .returned (.tuple #[enE ((za.find? (λe=>e.c==code)).getD ahs),.bool (za.find? (λe=>e.c==code)).isSome])/\Ext w w':=by
 obtain⟨R,hR⟩:∃R,R=za.find? (λe=>e.c==code):=⟨_,rfl⟩;rw[<-hR];have HR:=ah hR;have HB:=ah hB;clear hR hB;go_in;go_wp2_with fail;refine ap (Kw _) ?_;intro w1 hx1;have gK:=ah hx1;clear hx1;generalize hW0:w.alloc (.cells #[.int .u16 0,.string ⟨#[]⟩,.int .u8 0] 239)=W0 at *;have HW0:=ah hW0;clear hW0;go_wp2_with fail;go_loopw [7] (λi wr=>∃k:Nat,k<=41/\i= .int .i64 k/\Ext W0 wr/\∀(j:Nat) (hj:j<za),j<k->(λe:En=>e.c==code) za[j]=false) (λi _=>41-(intOf i).toNat)
 case atStart=>exact⟨0,aq,rfl,gK.o,λj _ h=>aq⟩
 case round=>
  obtain⟨k,hk,rfl,hx,hno⟩:=hrel;have HX:=ah hx;have JC:=ah hno;clear hno hx;have hxw:Ext w wr:=by
   have h1:Ext w W0:=by rw[<-HW0.o];exact(aj _).alloc _
   exact h1.trans HX.o
  have hxa:Ext (w.alloc (.cells #[.int .u16 0,.string ⟨#[]⟩,.int .u8 0] 239)) wr:=by rw[HW0.o];exact HX.o
  have N5:=ah hxw;have HXA:=ah hxa;clear hxw hxa;by_cases hlt:k<41
  ·have hlt2:k<za:=hlt;have hix:=λW=>U1 k hlt2 W
   have hat:(λe:En=>e.c==code) za[k]=true->R=some za[k]:=λh=>by rw[HR.o];exact oh hlt2 JC.o h
   have hnx:(λe:En=>e.c==code) za[k]=false->∀(j:Nat) (hj:j<za.length),j<k+1->(λe:En=>e.c==code) za[j]=false:=λhf j hj h=>by
    by_cases e:j=k
    ·subst e;exact hf
    ·exact JC.o j hj aq
   generalize za[k]=e at *;have hK:=λW (h:Ext w W)=>aan e code Bc W (h.cell HB.o)
   dsimp only at *;have HAT:=ah hat;have HNX:=ah hnx;clear hat hnx;have hx2:∀o,Ext w (wr.alloc o):=λo=>N5.o.alloc o
   have jm:=ah hx2;clear hx2;cases hp:e.c==code
   ·rw[hp]at hK;have auj:=ah (HNX.o hp);have HK:=ah hK;clear hp hK;obtain⟨c,nm,cl⟩:=e;unfold enE at hix HK;dsimp only at hix HK;generalize str nm=sn at *;generalize qw=EV at *;go_wp2_with fail;refine ap (HK.o _ (jm.o _)) ?_;intro w3 hx3;have kg:=ah ((HX.o.alloc _).trans hx3);clear hx3;go_wp2_with fail;go_roundw
    case rel=>exact⟨k+1,aq,bm,kg.o,auj.o⟩
    case measure=>exact gO
   ·rw[hp]at hK;have hRe:=HAT.o hp;subst hRe;have HK:=ah hK;clear hp hK;obtain⟨c,nm,cl⟩:=e;unfold enE at hix HK;dsimp only at hix HK;generalize qw=EV at *;go_wp2_with fail;refine ap (HK.o _ (jm.o _)) ?_;intro w3 hx3;obtain⟨e0,e1,e2,-,-,-,-⟩:=DC hx3;obtain⟨c0,c1,c2,f0,f1,f2,-⟩:=DC ((HXA.o.alloc _).trans hx3);have kg:=ah ((N5.o.alloc _).trans hx3);clear hx3;go_wp2_with fail;exact Je results189 ax ⟨_,underlying239⟩ rfl rfl rfl c0 c1 c2 kg.o (aD _) (λW' h=>⟨rfl,h⟩)
  ·obtain rfl:k=41:=aq;have hR0:R=none:=by rw[HR.o];exact tu (λj hj=>JC.o j hj hj)
   subst hR0;obtain⟨c0,c1,c2,f0,f1,f2,-⟩:=DC HXA.o;go_wp2_with fail;exact Je results189 ax ⟨_,underlying239⟩ rfl rfl rfl c0 c1 c2 N5.o (aD _) (λW' h=>⟨rfl,h⟩)
end xw
variable{zP:Prop}
def ky(h:zP:=by generalize entry code=e at *;generalize known code=b at *;obtain⟨c,nm,cl⟩:=e;unfold enE at *;dsimp only at *;generalize str nm=sn at *;have Cj:=ah hF;clear hF;go_in;go_wp2_with fail;refine ap (Cj.o _) ?_;intro w1 hx1;go_wp2_with fail;go_ret;exact⟨rfl,hx1.alloc _⟩):zP:=h
namespace xw
def adT(w:ay)(t t2:dz)(v:aA)(cs:Array aA):((w.alloc (.cells #[v] t)).alloc (.cells cs t2)).cell? w=some v:=((Boxed.new w t v).alloc _).cell
theorem Ji(code:Nat)(w:ay):Calls prog 147 #[.int .u16 code] w λr w'=>r= .returned (.tuple #[enE (entry code),.bool (known code)])/\Ext w w':=by
 have hF:=λBc W h=>QX code Bc W h
 change∀Bc W,W.cell? ⟨Bc,0,none⟩=some (.int .u16 code)->Calls prog 189 #[.func (.func 190) #[] #[.pointer (some ⟨Bc,0,none⟩)]] W λr w'=>r= .returned (.tuple #[enE (entry code),.bool (known code)])/\Ext W w' at hF
 generalize entry code=e at *;generalize known code=b at *;obtain⟨c,nm,cl⟩:=e;unfold enE at *;dsimp only at *;generalize str nm=sn at *;have Cj:=ah hF;clear hF;go_in;go_wp2_with fail;refine ap (Cj.o _ _ (adT _ _ _ _ _)) ?_;intro w1 hx1;obtain⟨c0,c1,c2,f0,f1,f2,-⟩:=DC hx1;rw[aR]at c0 c1 c2 f0 f1 f2;have gK:=ah (((aj w).alloc _ |>.alloc _).trans hx1);clear hx1;go_wp2_with fail;exact Je results147 ax ⟨_,underlying239⟩ rfl rfl rfl c0 c1 c2 gK.o (Nat.le_succ _) (λW' h=>⟨rfl,h⟩)
theorem kD(code:Nat)(w:ay):Calls prog 92 #[.int .u16 code] w λr w'=>r= .returned (.int .u8 (iQ code:Int))/\Ext w w':=by
 have hF:=λW=>Ji code W
 unfold iQ;exact ky
theorem Ab(code:Nat)(hc:code<65536)(w:ay):Calls prog 257 #[.int .u16 code] w λr w'=>r= .returned (.bool (wx code))/\Ext w w':=by
 have hF:=λW=>Ji code W
 have hb:=u16_and_nat code 8 hc az;have hm:(((code&&&8:Nat):Int) !=0)=(code&&&8 !=0):=by rw[bB];simp
 have hE:wx code=(known code&&((iQ code==3||iQ code==4)&&(code&&&8 !=0))):=rfl;rw[hE];unfold iQ;clear hE;generalize entry code=e at *;generalize known code=b at *;generalize code&&&8=m at *;generalize(m !=0)=mb at *;obtain⟨c,nm,cl⟩:=e;unfold enE at *;dsimp only at *;generalize str nm=sn at *;have h3:((cl:Int)==3)=(cl==3):=by rw[bB];simp;omega
 have h4:((cl:Int)==4)=(cl==4):=by rw[bB];simp;omega
 generalize(cl==3)=b3 at *;generalize(cl==4)=b4 at *;have hb2:bits .and .u16 code 8=(m:Int):=hb;clear hb;have Cj:=ah hF;clear hF;cases b<;>cases b3<;>cases b4<;>cases mb
 all_goals
  go_in;go_wp2_with fail;refine ap (Cj.o _) ?_;intro w1 hx1;go_wp2_with fail;go_ret;exact⟨rfl,hx1.alloc _⟩
end xw
open Go.Shelf
def pp(h:zP:=by obtain⟨g2,c2,e2,-,-,hf⟩:=mo h aq;simp only[aU,dw,gD,and_true,true_and]at e2;obtain⟨rfl,-⟩:=e2;exact⟨r0,r1,r2,r3,hf⟩):zP:=h
def ef(h:zP:=by rw[HL.o.1];exact hlt):zP:=h
def eI(h:zP:=by exact hgB):zP:=h
def fX(h:zP:=by rw[HL.o.2.1 (by rw[HL.o.1];exact hlt)];rfl):zP:=h
namespace LT
open jO (Sy RO gB eH iM iw jk gF gJ)
variable{base c i k len n:Nat}{s:Sy}{w w':ay}{α:Type}{g:α->α}{xs:List α}
theorem ahy:(Tryz.prog.info? 407).map (λi=>(i.zero,i.size,i.bytes))=some (some (.agg #[.int .u16 0,.int .u32 0,.int .i64 0,.int .i64 0]),4,24):=ax
theorem D2(v:aA)(xs:List Sy)(hl:xs.length<=1000000)(w:ay)(hv:Rd w 4 gB v xs):Calls prog 362 #[v] w λe w'=>∃a' c',e= .returned (.slice a' xs c')/\Ext w w'/\w'.ownsRow w 407 4 (.slice a' xs c') xs (xs.flatMap gB):=by
 obtain⟨a,c,rfl,-,-⟩:=gJ hv;cases a with
 |none=>
  obtain⟨a1,c1,e1,h1,h2,h3⟩:=hv;simp only[aU,true_and]at e1;obtain⟨rfl,rfl⟩:=e1;obtain rfl:=h2 rfl;have hb:xs=[]:=bG aq;subst hb;simp only[bD,List.flatMap_nil]at *;have hn:∀W,(binOp .eql 215 (.slice none 0 0) (.slice none 0 0)).run prog W= .ok (.bool true) W:=λW=>rfl
  go_in;exact ul
 |some p=>
  have hn:∀W,(binOp .eql 215 (.slice (some p) xs c) (.slice none 0 0)).run prog W= .ok (.bool false) W:=λW=>rfl
  have HV:=ah hv;have HB0:=ah (jJ eH w ([]:List Sy) 407 w w rfl (aD _) cz);clear hv;go_in
  go_wp2_with(at_builtin
              refine jH rfl (.tmp 5) (.tmp 6) _ rfl underlying215 ahy rfl az eH iM w _ _ [] xs rfl rfl HB0.o (HV.o.ext ((aj w).alloc _)) bp az ((aj w).alloc _) ?_;intro EN EJ w5 lM hx5;have EY:=ah lM;have kM:=ah hx5;clear lM hx5)
  exact uv
def zh(s:Sy):aA:= .agg #[.int .u16 s.c,.int .u32 s.k,.int .i64 s.th,.int .i64 s.el]
def jB(c:Nat):Bool:=xw.iQ c==4
def C7(h:jk len i s=true):jB s.c=uH s.c/\(jB s.c&&(s.c !=5))=gF s.c:=by have h32:jB 32=uH 32/\(jB 32&&((32:Nat) !=5))=gF 32:=ci;have h84:jB 84=uH 84/\(jB 84&&((84:Nat) !=5))=gF 84:=ci;have h6:jB 6=uH 6/\(jB 6&&((6:Nat) !=5))=gF 6:=ci;have h5:jB 5=uH 5/\(jB 5&&((5:Nat) !=5))=gF 5:=ci;have h21:jB 21=uH 21/\(jB 21&&((21:Nat) !=5))=gF 21:=ci;have h37:jB 37=uH 37/\(jB 37&&((37:Nat) !=5))=gF 37:=ci;have h53:jB 53=uH 53/\(jB 53&&((53:Nat) !=5))=gF 53:=ci;have h69:jB 69=uH 69/\(jB 69&&((69:Nat) !=5))=gF 69:=ci;rcases jO.Zi h with e|e|e|e|e|e|e|e<;>rw[e]<;>assumption
theorem uD(s:Sy)(w:ay):Rt 364 #[zh s] w (.bool (jB s.c&&(s.c !=5))):=by
 have hO:=λW=>xw.kD s.c W
 have q1:((s.c:Int) !=5)=(s.c !=5):=by rw[bB];simp;omega
 have q2:((xw.iQ s.c:Int)==4)=jB s.c:=by unfold jB;rw[bB];simp;omega
 generalize jB s.c=b at *;generalize xw.iQ s.c=cl at *;unfold zh;obtain⟨c,k,th,el⟩:=s;dsimp only at *;generalize(c !=5)=b5 at *;have bx:=aC w (.cells #[.int .u16 c,.int .u32 k,.int .i64 th,.int .i64 el] 407);have yO:=ah bx;have GK:=ah hO;clear bx hO;cases b
 all_goals
  unfold Rt;go_in;go_wp2_with fail;refine ap (GK.o _) ?_;intro w1 hx1;obtain⟨⟨c0,-⟩,-⟩:=pO (aI yO.o hx1);have HX:=ah (((aj w).alloc _).trans hx1);clear hx1;go_wp2_with fail;go_ret;exact⟨aE,HX.o⟩
def Rf(h:jk len i s=true):(jB s.c=false/\(jB s.c&&(s.c !=5))=false/\∀f,yG f s=s)\/(jB s.c=true/\(jB s.c&&(s.c !=5))=false/\(∀f,yG f s=⟨s.c,s.k,(f s.th.toNat:Int),s.el⟩)/\(i:Int)<s.th/\s.th<(len:Int))\/(jB s.c=true/\(jB s.c&&(s.c !=5))=true/\(∀f,yG f s=⟨s.c,s.k,(f s.th.toNat:Int),(f s.el.toNat:Int)⟩)/\((i:Int)<s.th/\s.th<(len:Int))/\(i:Int)<s.el/\s.el<(len:Int)):=by
 obtain⟨k1,k2⟩:=C7 h;rcases jg h with⟨h1,h2,h3,h4⟩|⟨h1,h2,h3⟩|⟨h1,h2,h3,h4,h5⟩|⟨h1,n1,n2,n3,n4,⟨h4,h5⟩,h6,h7⟩
 ·have e:jB s.c=false:=by rw[k1];exact uX (.inl h1)
  exact .inl ⟨e,by rw[e];rfl,λf=>zI (.inl h1)⟩
 ·have e:jB s.c=false:=by rw[k1];exact uX (.inr h1)
  exact .inl ⟨e,by rw[e];rfl,λf=>zI (.inr h1)⟩
 ·have e:jB s.c=true:=by rw[k1,h1];rfl
  exact .inr (.inl ⟨e,by rw[e,h1];rfl,λf=>P4 h1,h4,h5⟩)
 ·have e:jB s.c=true:=by rw[k1];simp[uH,h1]
  exact .inr (.inr ⟨e,by rw[k2];exact h1,λf=>P5 h1,⟨h4,h5⟩,h6,h7⟩)
def af0(h:k<xs):(((xs.map g).take k++xs.drop k)[k]' bp)=xs[k]:=by rw[List.getElem_append_right bp];simp[dI (Nat.le_of_lt h)]
def afZ(h:k<=xs):((xs.map g).take k++xs.drop k).length=xs.length:=by simp;omega
def mid_step(h:k<xs):((xs.map g).take k++xs.drop k).set k (g xs[k])=(xs.map g).take (k+1)++xs.drop (k+1):=by rw[List.set_append_right _ _ bp,bC,aS,dI aq,Nat.sub_self,bJ h,List.set_cons_zero,bE cT,gQ];simp
def lT{g:Nat}{L:List Sy}(h:w.ownsRow base 407 4 (.slice (some g) L c) L (L.flatMap gB))(hk:k<L):w.cell? ⟨g,k*4,none⟩=some (.int .u16 (L[k].c:Int))/\w.cell? ⟨g,k*4+1,none⟩=some (.int .u32 (L[k].k:Int))/\w.cell? ⟨g,k*4+2,none⟩=some (.int .i64 L[k].th)/\w.cell? ⟨g,k*4+3,none⟩=some (.int .i64 L[k].el)/\∀j,w.frozen? ⟨g,j,none⟩=false:=by obtain⟨a',c',e',-,hcell⟩:=gJ (bY eH h);simp only[aU]at e';obtain⟨rfl,-,rfl⟩:=e';obtain⟨b',o',e',r0,r1,r2,r3⟩:=hcell k hk;simp only[dw,gD,and_true]at e';obtain⟨rfl,rfl⟩:=e';rw[cO]at r0 r1 r2 r3;exact pp
def lH{e:Nat}{v:aA}{zs:List aA}(h:w.ownsRow base e n v k zs)(hx:Ext w w'):w'.ownsRow base e n v k zs:=fO h (Keep.of_below hx (λ_ hk=>hk)) (λb e=>(h.lt b e).2)
theorem zJ(gf:Nat)(cap:Array aA)(eg:∀args w,(callFunc gf args).run prog w= .ok (.enter gf args) w)(f:Nat->Nat)(n:Nat)(v:aA)(xs:List Sy)(hl:xs.length<=1000000)(w:ay)(hv:Rd w 4 gB v xs)(hm:∀s∈xs,∃i,jk n i s=true)(his:∀t:Nat,t<n->∀W,Ext w W->Calls prog gf (#[.int .i64 t]++cap) W λr w'=>r= .returned (.int .i64 (f t:Int))/\Ext W w'):Calls prog 360 #[v,.func (.func gf) #[] cap] w λe w'=>∃a c,e= .returned (.slice a xs c)/\Ext w w'/\w'.ownsRow w 407 4 (.slice a xs c) xs ((wC f xs).flatMap gB):=by
 have hC:=D2 v xs hl w hv;obtain⟨a0,c0,rfl,-,-⟩:=gJ hv;have HIS:=ah his;have HM:=ah hm;have HC:=ah hC;clear hv his hm hC;go_in;go_wp2_with fail;refine HC.o.mono ?_;rintro e w1 ⟨a,c,rfl,hx1,ho1⟩;have gK:=ah hx1;have HO1:=ah ho1;clear hx1 ho1;go_wp2_with fail;go_loopw [12] (λi wr=>∃k:Nat,k<=xs/\i= .int .i64 k/\Ext w wr/\wr.ownsRow w 407 4 (.slice a xs c) xs (((xs.map (yG f)).take k++xs.drop k).flatMap gB)) (λi _=>xs.length-(intOf i).toNat)
 case atStart=>exact⟨0,aq,rfl,gK.o,by simpa using HO1.o⟩
 case round=>
  obtain⟨k,hk,rfl,hx,ho⟩:=hrel;by_cases hlt:k<xs
  ·obtain⟨i0,hmay⟩:=HM.o _ (aW hlt);obtain⟨L,rJ,hLk,hLs,ho⟩:∃L:List Sy,L.length=xs/\(∀h:k<L,L[k]=xs[k])/\L.set k (yG f xs[k])=(xs.map (yG f)).take (k+1)++xs.drop (k+1)/\wr.ownsRow w 407 4 (.slice a xs c) xs (L.flatMap gB):=
    ⟨_,afZ hk,λ_=>af0 hlt,mid_step hlt,ho⟩
   have hkind:=Rf hmay;generalize xs[k]=s at *;rw[<-rJ]at ho;obtain⟨g,c1,e1,hgB,hgl,hgf⟩:=mo ho aq;simp only[aU,true_and]at e1;obtain⟨e1,rfl⟩:=e1;rw[e1]at ho;obtain⟨r0,r1,r2,r3,-⟩:=lT ho (by rw[rJ];exact hlt);rw[hLk]at r0 r1 r2 r3;have hA:=λW=>uD s W
   have hO:=λW=>xw.kD s.c W
   have q2:((xw.iQ s.c:Int)==4)=jB s.c:=by unfold jB;rw[bB];simp;omega
   generalize xw.iQ s.c=cl at *;unfold zh at hA;have aoC:∀z,yG f s=z->L.set k z=List.take (k+1) (List.map (yG f) xs)++List.drop (k+1) xs:=λz hz=>by rw[<-hz];exact hLs
   have hc32:s.th.toNat=s.th.toNat:=rfl;have HL:=ah (ak rJ (ak hLk aoC));have Sq:=ah (ak ho (ak hgB (ak hgl hgf)));have jm:=ah hx;have HE1:=ah e1;subst e1;obtain⟨sc,sk,J4,sel⟩:=s;dsimp only at *;have pQ:=ah hA;have GK:=ah hO;clear hA hO;have bx:=aC wr (.cells #[.int .u16 sc,.int .u32 sk,.int .i64 J4,.int .i64 sel] 407);have yO:=ah bx;clear hx ho hmay bx hLk hLs aoC hgf;rcases hkind with⟨j1,j2,hmv⟩|⟨j1,j2,hmv,t1,t2⟩|⟨j1,j2,hmv,⟨t1,t2⟩,e1,e2⟩
   ·rw[j1]at q2;rw[j2]at pQ;have HMV:=ah hmv;clear hmv j1 j2;go_wp2_with fail;refine ap (GK.o _) ?_;intro w2 hx2;obtain⟨⟨b0,b1,b2,b3⟩,-⟩:=pO (aI yO.o hx2);have kg:=ah (((aj wr).alloc _).trans hx2);clear hx2;go_wp2_with fail;refine ap (pQ.o _) ?_;intro w3 hx3;have Ck:=ah (kg.o.trans hx3);clear hx3 b0 b1 b2 b3;go_wp2_with fail;go_roundw
    case rel=>
     refine⟨k+1,aq,bm,jm.o.trans Ck.o,?_⟩;have h1:=lH Sq.o.1 Ck.o;rw[<-HL.o.2.2 _ (HMV.o f)];have h2:L.set k ⟨sc,sk,J4,sel⟩=L:=by have:=HL.o.2.1 ef;rw[<-this];exact List.set_getElem_self _
     rw[h2];have h3:=HL.o.1;rw[h3]at h1;exact h1
    case measure=>exact gO
   ·obtain⟨tn,rfl⟩:∃tn:Nat,J4=(tn:Int):=⟨J4.toNat,aq⟩;rw[j1]at q2;rw[j2]at pQ;rw[dR]at hmv;have HMV:=ah hmv;clear hmv j1 j2;go_wp2_with fail;refine ap (GK.o _) ?_;intro w2 hx2;have hx3:=((aj wr).alloc _).trans hx2;have HI:=ah (HIS.o tn aq w2 (jm.o.trans hx3));obtain⟨⟨b0,b1,b2,b3⟩,-⟩:=pO (aI yO.o hx2);have kg:=ah hx3;have EZ:=ah (aI yO.o hx2);clear hx2 hx3;go_wp2_with fail;refine ap HI.o ?_;intro w3 hx3;have Ck:=ah (kg.o.trans hx3);have alF:=ah (aI EZ.o hx3);have h1:=lH Sq.o.1 Ck.o;obtain⟨s0,s1,s2,s3,sf⟩:=lT h1 (show k<L.length by rw[HL.o.1];exact hlt);have sf2:=sf (k*4+2);have hst:=kE eH h1 k 2 (.int .i64 (f tn:Int)) ⟨sc,sk,(f tn:Int),sel⟩ ef az fX;rw[HL.o.2.2 _ (HMV.o f)]at hst;have HST:=ah hst;clear hx3 h1 b0 b1 b2 b3 hst s0 s1 s3 sf;go_upto_region 7 with fail;obtain⟨W4,rH⟩:∃W4,W4=w3.setCell ⟨g,k*4+2,none⟩ (.int .i64 (f tn:Int)):=⟨_,rfl⟩;have hx4:Ext w W4:=by rw[rH];exact(jm.o.trans Ck.o).setCell eI _
    have XC:W4.heap[wr.heap.size]?=some (.cells #[.int .u16 sc,.int .u32 sk,.int .i64 tn,.int .i64 sel] 407 (0,0)):=by rw[rH];exact(aX _ _ _ _ (by show wr.heap.size≠g;omega)).trans alF.o
    have alo:Hid (W4.ownsRow w 407 4 (.slice (some g) L c) L ((List.take (k+1) (List.map (yG f) xs)++List.drop (k+1) xs).flatMap gB)):=by rw[rH];exact ah HST.o.1
    obtain⟨⟨b0,b1,b2,b3⟩,-⟩:=pO XC;have kM:=ah hx4;have ap7:=ah XC;rw[<-rH];clear rH hx4 XC s2 sf2;go_wp2_with fail;refine ap (pQ.o _) ?_;intro w5 hx5;have sD:=ah (kM.o.trans hx5);have aln:=ah (lH alo.o hx5);clear hx5 b0 b1 b2 b3;go_wp2_with fail;go_roundw
    case rel=>refine⟨k+1,aq,bm,sD.o,?_⟩;have h1:=aln.o;rw[HL.o.1]at h1;exact h1
    case measure=>exact gO
   ·obtain⟨tn,rfl⟩:∃tn:Nat,J4=(tn:Int):=⟨J4.toNat,aq⟩;obtain⟨en,rfl⟩:∃en:Nat,sel=(en:Int):=⟨sel.toNat,aq⟩;rw[j1]at q2;rw[j2]at pQ;rw[dR,dR]at hmv;have HMV:=ah hmv;clear hmv j1 j2;go_wp2_with fail;refine ap (GK.o _) ?_;intro w2 hx2;have hx3:=((aj wr).alloc _).trans hx2;have HI:=ah (HIS.o tn aq w2 (jm.o.trans hx3));obtain⟨⟨b0,b1,b2,b3⟩,-⟩:=pO (aI yO.o hx2);have kg:=ah hx3;have EZ:=ah (aI yO.o hx2);clear hx2 hx3;go_wp2_with fail;refine ap HI.o ?_;intro w3 hx3;have Ck:=ah (kg.o.trans hx3);have alF:=ah (aI EZ.o hx3);have h1:=lH Sq.o.1 Ck.o;obtain⟨s0,s1,s2,s3,sf⟩:=lT h1 (show k<L.length by rw[HL.o.1];exact hlt);have sf2:=sf (k*4+2);have hst:=kE eH h1 k 2 (.int .i64 (f tn:Int)) ⟨sc,sk,(f tn:Int),(en:Int)⟩ ef az fX;have HST:=ah hst;clear hx3 h1 b0 b1 b2 b3 hst s0 s1 s3 sf;go_upto_region 7 with fail;obtain⟨W4,rH⟩:∃W4,W4=w3.setCell ⟨g,k*4+2,none⟩ (.int .i64 (f tn:Int)):=⟨_,rfl⟩;have hx4:Ext w W4:=by rw[rH];exact(jm.o.trans Ck.o).setCell eI _
    have XC:W4.heap[wr.heap.size]?=some (.cells #[.int .u16 sc,.int .u32 sk,.int .i64 tn,.int .i64 en] 407 (0,0)):=by rw[rH];exact(aX _ _ _ _ (by show wr.heap.size≠g;omega)).trans alF.o
    have alo:Hid (W4.ownsRow w 407 4 (.slice (some g) L c) L ((L.set k ⟨sc,sk,(f tn:Int),(en:Int)⟩).flatMap gB)):=by rw[rH];exact ah HST.o.1
    obtain⟨⟨b0,b1,b2,b3⟩,-⟩:=pO XC;have kM:=ah hx4;have ap7:=ah XC;rw[<-rH];clear rH hx4 XC s2 sf2;go_wp2_with fail;refine ap (pQ.o _) ?_;intro w5 hx5;have sD:=ah (kM.o.trans hx5);have aln:=ah (lH alo.o hx5);obtain⟨⟨b0,b1,b2,b3⟩,-⟩:=pO (aI ap7.o hx5);have HI2:=ah (HIS.o en aq w5 (kM.o.trans hx5));clear hx5;go_wp2_with fail;refine ap HI2.o ?_;intro w6 hx6;have hlx:(L.set k ⟨sc,sk,(f tn:Int),(en:Int)⟩).length=L.length:=dO;have h1:=lH aln.o hx6;rw[<-hlx]at h1;obtain⟨s0,s1,s2,s3,sf⟩:=lT h1 (show k<(L.set k ⟨sc,sk,(f tn:Int),(en:Int)⟩).length by rw[hlx,HL.o.1];exact hlt);have sf3:=sf (k*4+3);have s3':w6.cell? ⟨g,k*4+3,none⟩=some (.int .i64 en):=by rw[s3,List.getElem_set_self]
    have hst:=kE eH h1 k 3 (.int .i64 (f en:Int)) ⟨sc,sk,(f tn:Int),(f en:Int)⟩ (by rw[hlx,HL.o.1];exact hlt) az (by rw[List.getElem_set_self];rfl);rw[List.set_set,HL.o.2.2 _ (HMV.o f),hlx,HL.o.1]at hst;have aub:=ah hst;have DY:=ah (sD.o.trans hx6);clear hx6 h1 b0 b1 b2 b3 hst s0 s1 s2 s3 sf hlx;go_wp2_with fail;go_roundw
    case rel=>exact⟨k+1,aq,bm,DY.o.setCell eI _,aub.o.1⟩
    case measure=>exact gO
  ·obtain rfl:k=xs.length:=aq;have hfin:((xs.map (yG f)).take xs.length++xs.drop xs)=wC f xs:=by rw[dQ,fH,dY aE];rfl
   rw[hfin]at ho;have HO:=ah ho;have HX:=ah hx;clear ho hx;go_wp2_with fail;go_ret;exact⟨a,c,rfl,HX.o,HO.o⟩
end LT
def lz(h:zP:=by
 go_in;go_wp2_with fail;refine fE ax ax ?_
 repeat(any_goals(first|go_big_quiet_step (fail)|quiet_step (fail)))
 all_goals(refine i4 ?_;intro _ B2;obtain⟨x,hw8⟩:=B2;subst hw8)
 go_wp2_with fail;go_ret;exact⟨rfl,x.h⟩):zP:=h
namespace LT
open jO (Sy RO gB eH iM iw jk gF gJ)
variable{D:DataW Unit}{W W':ay}{b j n:Nat}{xs:List Sy}
def aiM(hj:j<xs):Tz xs j=if xs[j].c=6 then mD xs xs[j].k xs else j:=by unfold Tz;rw[aJ hj]
theorem PN{k:dz}{R:aA->Option (DataW Unit×List MemPlace)}(h:W.ownsMap prog k R b n D)(hx:Ext W W'):W'.ownsMap prog k R b n D:=by obtain⟨es,clock,hb,r⟩:=h;exact⟨es,clock,aI hb hx,r⟩
noncomputable abbrev RI:aA->Option (DataW Unit×List MemPlace):=plainElem prog 3
def L8(xs:List Sy)(n:Nat)(D:DataW Unit):Prop:= ∀j (h:j<xs.length),j<n->xs[j].c=6->D.atKey (.int .u32 (xs[j].k:Int)) (.lit (.int .i64 0))= .lit (.int .i64 (mD xs xs[j].k n:Int))
theorem af9(h:W.ownsMap prog 32 RI b n D)(k:Nat)(hk:k<4294967296)(v:Int)(hD:D.atKey (.int .u32 k) (.lit (.int .i64 0))= .lit (.int .i64 v)):(Instr.lookup 471 (.map (some b)) (.int .u32 k) false).run prog W= .ok (.int .i64 v) W:=by
 have hkey:keyOf prog 32 (.int .u32 k)=some (.int .u32 k):=Maps.keyOf_int_mk underlying32 (Go.WalkArith.wf_u32 ⟨aq,aq⟩);obtain⟨c,hrun,hat,-⟩:=h.lookup_int (Maps.int_keyed underlying32) underlying471 underlying3 rfl hkey;rw[hD]at hat
 injection hat with e1
 injection e1 with e2 e3
 rw[e3];exact hrun
theorem J6(Bl Bm b n:Nat)(a:Option Addr)(c:Nat)(xs:List Sy)(D:DataW Unit)(hk:∀s∈xs,s.k<4294967296)(W:ay)(cl:W.cell? Bl=some (.slice a xs c))(hr:Rd W 4 gB (.slice a xs c) xs)(cm:W.cell? Bm=some (.map (some b)))(hm:W.ownsMap prog 32 RI b n D)(hD:L8 xs xs D)(j:Nat)(hj:j<xs):Calls prog 361 #[.int .i64 j,.pointer (some Bl),.pointer (some Bm)] W λr w'=>r= .returned (.int .i64 (Tz xs j:Int))/\Ext W w':=by
 obtain⟨a',c',e,-,hca⟩:=gJ hr;simp only[aU]at e;obtain⟨rfl,-,rfl⟩:=e;obtain⟨g,o,rfl,r0,r1,-,-⟩:=hca j hj;have hsh:=aiM hj;have hkj:=hk _ (aW hj);have hz:(j:Int)<xs:=aq;have hDj:=hD j hj hj;clear hca hk hr hD;generalize Tz xs j=F at *;generalize mD xs xs[j].k xs.length=q at *;generalize xs[j]=s at *;obtain⟨sc,sk,J4,sel⟩:=s;dsimp only at *;have q6:((sc:Int)==6)=decide (sc=6):=by rw[bB];simp;omega
 by_cases h6:sc=6
 ·rw[aV h6]at hsh;have hL:=λ(x:XW W)=>af9 (PN hm x.h) sk hkj q (hDj h6)
  rw[aQ h6]at q6;subst hsh;have clx:=nV cl;have cmx:=nV cm;have r1x:=nV r1;clear hm hDj h6 hkj;exact lz
 ·rw[aN h6]at hsh;rw[aT h6]at q6;subst hsh;clear hm hDj h6 hkj cm r1;go_in;exact oc
def Fy{k:Nat}(hn:n<xs):mD xs k (n+1)=if xs[n].c=6/\xs[n].k=k then n else mD xs k n:=by show(match xs[n]? with|some s=>if s.c=6/\s.k=k then n else mD xs k n|none=>mD xs k n)=_;rw[aJ hn]
def Uu(h:L8 xs n D)(hn:n<xs)(h6:xs[n].c≠6):L8 xs (n+1) D:=by
 intro j hj hjn h6j;rw[Fy hn,aN (λhh=>h6 hh.1)];have hne:j≠n:=λe=>by subst e;exact h6 h6j
 exact h j hj aq h6j
def Zr(h:L8 xs n D)(hn:n<xs)(h6:xs[n].c=6)(hD:Go.Maps.IsMap D):L8 xs (n+1) (D.put (.int .u32 (xs[n].k:Int)) (.lit (.int .i64 n))):=by
 intro j hj hjn h6j;rw[Fy hn];by_cases hkk:xs[n].k=xs[j].k
 ·rw[aV ⟨h6,hkk⟩,<-hkk];exact Go.Maps.atKey_put_same hD (k:= .int .u32 _) trivial _ _
 ·rw[aN (λhh=>hkk hh.2)];have hne:j≠n:=λe=>by subst e;exact hkk rfl
  rw[Go.Maps.atKey_put_other (λe=>by injection e with e1 e2;omega)];exact h j hj aq h6j
theorem Mw(v:aA)(xs:List Sy)(hl:xs.length<=1000000)(hm:iw xs=true)(hk:∀s∈xs,s.k<4294967296)(w:ay)(hv:Rd w 4 gB v xs):Calls prog 286 #[v] w λe w'=>∃a c,e= .returned (.slice a xs c)/\Ext w w'/\w'.ownsRow w 407 4 (.slice a xs c) xs ((mM xs).flatMap gB):=by
 have hv0:=hv;obtain⟨a,c,rfl,hac,hca⟩:=gJ hv;have n1:=aC w (.cells #[.slice a xs c] 215);obtain⟨W1,hW1⟩:∃W1,W1=w.alloc (.cells #[.slice a xs c] 215):=⟨_,rfl⟩;rw[<-hW1]at n1;have hx1:Ext w W1:=by rw[hW1];exact(aj _).alloc _
 have hs1:W1.heap.size=w+1:=by rw[hW1];simp
 have hown:=World.ownsMap_made W1 prog 32 RI;obtain⟨W2,hW2⟩:∃W2,W2=(W1.alloc (.map #[] 0)).alloc (.cells #[.map (some W1.heap.size)] 471):=⟨_,rfl⟩;have hx2:Ext W1 W2:=by rw[hW2];exact((aj _).alloc _).alloc _
 have hown2:W2.ownsMap prog 32 RI W1 0 (.map []):=by rw[hW2];exact hown.alloc _
 have n2:W2.heap[w.heap.size+1+1]?=some (.cells #[.map (some W1.heap.size)] 471 (0,0)):=by have:=aC (W1.alloc (.map #[] 0)) (.cells #[.map (some W1.heap.size)] 471);rw[aR,hs1]at this;rw[hW2,hs1];exact this
 rw[hs1]at hown2;rw[hs1]at n2;have HW:=ah (ak hW1 hW2);have jm:=ah (hx1.trans hx2);have HN:=ah (ak (aI n1 hx2) n2);have HO:=ah hown2;have tO:=ah hca;have A9:=ah hs1;have HV:=ah hv0;have HK:=ah hk;have HM:=ah hm;clear hW1 hW2 hx1 hx2 n1 n2 hown hown2 hca hs1 hv hv0 hk hm;have hmk:∀W,(Instr.makeMap 471 none).run prog W= .ok (.map (some W.heap.size)) (W.alloc (.map #[] 0)):=λ_=>rfl
 go_in;go_upto_region 2 with fail;have hWW:((w.alloc (.cells #[.slice a xs c] 215)).alloc (.map #[] 0)).alloc (.cells #[.map (some (w.heap.size+1))] 471)=W2:=by rw[HW.o.2,A9.o,HW.o.1]
 rw[hWW];clear hWW;have k1:=aG HN.o.1 0
 change W2.cell? w=some (.slice a xs c)at k1
 go_wp2_with fail;go_loopw [9] (λi wr=>∃(k n:Nat) (D:DataW Unit),k<=xs/\i= .int .i64 k/\n<=k/\Ext w wr/\wr.heap[w.heap.size]?=some (.cells #[.slice a xs c] 215 (0,0))/\wr.heap[w.heap.size+1+1]?=some (.cells #[.map (some (w.heap.size+1))] 471 (0,0))/\
  wr.ownsMap prog 32 RI (w+1) n D/\L8 xs k D) (λi _=>xs.length-(intOf i).toNat)
 case atStart=>exact⟨0,0,_,aq,rfl,aD _,jm.o,HN.o.1,HN.o.2,HO.o,λj _ h=>aq⟩
 case round=>
  obtain⟨k,n,D,hk,rfl,hn,hx,hb1,hb3,hown,hD⟩:=hrel;clear k1;have c1:wr.cell? w=some (.slice a xs c):=aG hb1 0;have c3:wr.cell? ⟨w+1+1,0,none⟩=some (.map (some (w.heap.size+1))):=aG hb3 0;by_cases hlt:k<xs
  ·obtain⟨g,o,rfl,r0,r1,r2,r3⟩:=tO.o k hlt;replace r0:=hx.cell r0;replace r1:=hx.cell r1;replace r2:=hx.cell r2;replace r3:=hx.cell r3;have hkk:=HK.o _ (aW hlt);have Db:=Uu hD hlt;have hput:=λh=>Zr hD hlt h hown.isMap
   generalize xs[k]=s at *;obtain⟨sc,sk,J4,sel⟩:=s;dsimp only at *;have q6:((sc:Int)==6)=decide (sc=6):=by rw[bB];simp;omega
   have HOW:=ah hown;have HX:=ah hx;have HB:=ah (ak hb1 hb3);have Oq:=ah (ak Db hput);have HKK:=ah hkk;clear hx hown hb1 hb3 Db hput hD hkk;by_cases h6:sc=6
   ·rw[aQ h6]at q6;have H6:=ah h6;clear h6;have hkey:keyOf prog 32 (.int .u32 sk)=some (.int .u32 sk):=Maps.keyOf_int_mk underlying32 (Go.WalkArith.wf_u32 ⟨aq,by have:=HKK.o;omega⟩);have hvv:RI (.int .i64 k)=some (.lit (.int .i64 k),[]):=plainElem_int underlying3 (Go.WalkArith.wf_i64 ⟨aq,aq⟩);have HKE:=ah (ak hkey hvv);clear hkey hvv;have c3o:=λo=>((aj wr).alloc o).cell c3
    go_wp2_with(refine wpList_mapUpdate_own _ rfl _ _ _ 471 rfl 32 3 (Maps.int_keyed underlying32) underlying471 RI (w+1) n D rfl (HOW.o.alloc _) cH _ _ (.int .u32 sk) rfl rfl HKE.o.1 (.lit (.int .i64 k)) [] HKE.o.2 ?_;intro w5 lM hg5;have H5:=ah (ak lM hg5);clear lM hg5);go_roundw
    case rel=>
     obtain⟨lM,hg5⟩:=H5.o;refine⟨k+1,n+1,_,aq,bm,aq,?_,?_,?_,lM,Oq.o.2 H6.o⟩
     ·exact(HX.o.alloc _).grown hg5 (λb e=>by cases e;omega)
     ·exact(hg5.block _ (by have:=(aB.1 HB.o.1).1;simp;omega) aE).trans (aI HB.o.1 ((aj _).alloc _))
     ·exact(hg5.block _ (by have:=(aB.1 HB.o.2).1;simp;omega) aE).trans (aI HB.o.2 ((aj _).alloc _))
    case measure=>exact gO
   ·rw[aT h6]at q6;have H6:=ah h6;clear h6;go_wp2_with fail;go_roundw
    case rel=>exact⟨k+1,n,D,aq,bm,aq,HX.o.alloc _,aI HB.o.1 ((aj _).alloc _),aI HB.o.2 ((aj _).alloc _),HOW.o.alloc _,Oq.o.1 H6.o⟩
    case measure=>exact gO
  ·obtain rfl:k=xs.length:=aq;have hMv:=zJ 361 #[.pointer (some w),.pointer (some ⟨w+1+1,0,none⟩)] (enters_of func361 ax rfl) (Tz xs) xs (.slice a xs c) xs hl wr (HV.o.ext hx)
    (λs hs=>by obtain⟨i,hi,rfl⟩:=fZ hs;exact⟨i,jO.jZ HM.o hi⟩)
    (λt ht W wI=>J6 w (w+1+1) (w.heap.size+1) n a c xs D HK.o W (wI.cell c1) ((HV.o.ext hx).ext wI) (wI.cell c3) (PN hown wI) hD t ht)
   have HMV:=ah hMv;have HX:=ah hx;clear hMv hx hown hb1 hb3 hD c3;go_wp2_with fail;refine HMV.o.mono ?_;rintro e w6 ⟨a6,c6,rfl,hx6,uF⟩;have H6:=ah (ak hx6 uF);clear hx6 uF;go_wp2_with fail;go_ret;exact⟨a6,c6,rfl,HX.o.trans H6.o.1,H6.o.2.mono HX.o.size⟩
end LT
def oX(h:zP:=by
 go_wp2_with fail;go_roundw
 case rel=>exact⟨k+1,aq,bm,HX.o.alloc _,by rw[<-HBE.o];exact aI HE.o ((aj _).alloc _)⟩
 case measure=>exact gO):zP:=h
def fL(h:zP:=by rw[<-HJK.o.1];exact j1):zP:=h
namespace LT
open jO (Sy RO gB eH iM iw jk gF gJ)
variable{W:ay}{bs out:List Bool}{fr:Nat×Nat}{g k n:Nat}{l:List Sy}{t:dz}
def JM(bs:List Bool):Array aA:=(bs.map Value.bool).toArray
def isA(l:List Nat):Array aA:=(l.map (λ(i:Nat)=>Value.int .i64 i)).toArray
def wE(z:aA)(hz:z.cells= #[z])(n:Nat):madeCells z.cells (n*1)=(List.replicate n z).toArray:=by
 rw[hz,eO];apply Array.ext
 ·simp[madeCells]
 ·intro i h1 h2;simp[madeCells,Nat.mod_one]
def Dz(bs:List Bool)(k:Nat):(JM bs).setIfInBounds k (.bool true)=JM (bs.set k true):=by simp[JM,List.map_set]
def Xa(l:List Nat)(k n:Nat):(isA l).setIfInBounds k (.int .i64 n)=isA (l.set k n):=by simp[isA,List.map_set]
def lF(h:W.heap[g]?=some (.cells (JM bs) t fr))(hk:k<bs):W.cell? ⟨g,k,none⟩=some (.bool (bs.getD k false)):=by rw[aG h];simp[JM,hk]
def AX{l:List Nat}(h:W.heap[g]?=some (.cells (isA l) t fr))(hk:k<l):W.cell? ⟨g,k,none⟩=some (.int .i64 ((l.getD k 0:Nat):Int)):=by rw[aG h];simp[isA,hk]
theorem Wo(n:Nat)(hn:n<=1000000)(W:ay):(Instr.makeSlice 425 (.int .i64 n) (.int .i64 n)).run prog W= .ok (.slice (some W) n n) (W.alloc (.cells (JM (List.replicate n false)) 4)):=by have hinfo:(Tryz.prog.info? 4).map (λi=>(i.zero,i.size,i.bytes))=some (some (.bool false),1,1):=ax;obtain⟨i,h1,h2,h3,h4⟩:=jo hinfo;have hr:=run_make (P:=prog) W 425 4 i _ underlying425 h1 h2 .i64 .i64 n n aq aq eS aq;rw[h3,dR,wE _ rfl]at hr;rw[hr];simp[JM]
theorem Wn(n:Nat)(hn:n<=1000000)(W:ay):(Instr.makeSlice 28 (.int .i64 n) (.int .i64 n)).run prog W= .ok (.slice (some W) n n) (W.alloc (.cells (isA (List.replicate n 0)) 3)):=by have hinfo:(Tryz.prog.info? 3).map (λi=>(i.zero,i.size,i.bytes))=some (some (.int .i64 0),1,8):=ax;obtain⟨i,h1,h2,h3,h4⟩:=jo hinfo;have hr:=run_make (P:=prog) W 28 3 i _ underlying28 h1 h2 .i64 .i64 n n aq aq eS aq;rw[h3,dR,wE _ rfl]at hr;rw[hr];simp[isA]
def akL(hn:n<l)(h:(!out.getD n false||l[n].c==6)=true):Oj l n out=out:=by unfold Oj;rw[aJ hn];dsimp only;rw[aV h]
def akK(hn:n<l)(h:(!out.getD n false||l[n].c==6)=false)(hj:uH l[n].c=false):Oj l n out=out.set (n+1) true:=by unfold Oj;rw[aJ hn];dsimp only;rw[aN (by rw[h];simp),aV hj]
def akM(hn:n<l)(h:(!out.getD n false||l[n].c==6)=false)(hj:uH l[n].c=true)(ha:gF l[n].c=false):Oj l n out=out.set l[n].th.toNat true:=by unfold Oj;rw[aJ hn];dsimp only;rw[aN (by rw[h];simp),aN (by rw[hj];simp),aN (by rw[ha];simp)]
def akN(hn:n<l)(h:(!out.getD n false||l[n].c==6)=false)(hj:uH l[n].c=true)(ha:gF l[n].c=true):Oj l n out=(out.set l[n].th.toNat true).set l[n].el.toNat true:=by unfold Oj;rw[aJ hn];dsimp only;rw[aN (by rw[h];simp),aN (by rw[hj];simp),aV ha]
theorem Rx(v:aA)(xs:List Sy)(hl:xs.length<=1000000)(hm:iw xs=true)(w:ay)(hv:Rd w 4 gB v xs):Calls prog 365 #[v] w λe w'=>e= .returned (.slice (some w) xs xs)/\Ext w w'/\w'.heap[w.heap.size]?=some (.cells (JM (gG xs)) 4 (0,0)):=by
 obtain⟨a,c,rfl,hac,hca⟩:=gJ hv;have hpos:=jO.qd hm;have hmk:=Wo xs hl w;have n1:=aC w (.cells (JM (List.replicate xs false)) 4);obtain⟨W1,hW1⟩:∃W1,W1=w.alloc (.cells (JM (List.replicate xs false)) 4):=⟨_,rfl⟩;rw[<-hW1]at n1 hmk;have hx1:Ext w W1:=by rw[hW1];exact(aj _).alloc _
 have f1:=aP n1 0;have c1:=lF n1 (show 0<(List.replicate xs false).length by simpa using hpos);have n2:=eX n1 0 (.bool true);rw[Dz]at n2;have hx2:Ext w (W1.setCell w (.bool true)):=hx1.setCell (aD _) _;have hz:(0:Int)<xs:=aq;have HN:=ah (ak n2 hx2);have tO:=ah hca;have HM:=ah hm;clear hv hca hW1 n1 n2 hx1 hx2 hm;go_in;go_wp2_with fail;go_loopw [13] (λi wr=>∃k:Nat,k<=xs/\i= .int .i64 k/\Ext w wr/\wr.heap[w.heap.size]?=some (.cells (JM (GH xs k)) 4 (0,0))) (λi _=>xs.length-(intOf i).toNat)
 case atStart=>exact⟨0,aq,rfl,HN.o.2,HN.o.1⟩
 case round=>
  obtain⟨k,hk,rfl,hx,hb⟩:=hrel;clear c1 f1;by_cases hlt:k<xs
  ·obtain⟨g,o,rfl,r0,r1,r2,r3⟩:=tO.o k hlt;replace r0:=hx.cell r0;replace r1:=hx.cell r1;replace r2:=hx.cell r2;replace r3:=hx.cell r3;have hmay:=jO.jZ HM.o hlt;have hnx:∀a,xs[k].c≠6->jO.nx xs[k] k a<xs.length:=λa h6=>(jO.ab8 HM.o hlt h6 a).2
   have hlen:=DL xs k;have hst:GH xs (k+1)=Oj xs k (GH xs k):=rfl;have s1:=akL (out:=GH xs k) hlt;have s2:=akK (out:=GH xs k) hlt;have s3:=akM (out:=GH xs k) hlt;have s4:=akN (out:=GH xs k) hlt;have hkind:=Rf hmay;have hjk:=C7 hmay;rw[<-hst]at s1 s2 s3 s4;clear hst;generalize GH xs k=B at *;obtain⟨B',hB'⟩:∃B',B'=GH xs (k+1):=⟨_,rfl⟩;rw[<-hB']at s1 s2 s3 s4;have HBE:=ah hB';clear hB';generalize xs[k]=s at *;have hA:=λW=>uD s W
   have hO:=λW=>xw.kD s.c W
   have q2:((xw.iQ s.c:Int) !=4)= !jB s.c:=by unfold jB;rw[bB];simp;omega
   generalize xw.iQ s.c=cl at *;unfold zh at hA;obtain⟨sc,sk,J4,sel⟩:=s;dsimp only at *;have q6:((sc:Int)==6)=(sc==6):=by rw[bB];simp;omega
   have bb:=lF hb (show k<B.length from aq);have bf:=aP hb;have anU:jB sc=false->sc≠6->k+1<xs:=λh6 h7=>by
    have:=hnx 0 h7;rcases aci hmay h7 with h|h|h
    ·rw[Lh (.inl h)]at this;exact this
    ·rw[Lh (.inr h)]at this;exact this
    ·rw[<-hjk.1,h6]at h;cases h
   have HB:=ah hb;have HX:=ah hx;have HS:=ah (ak s1 (ak s2 (ak s3 s4)));have HJK:=ah hjk;have HLEN:=ah hlen;have HBF:=ah bf;have auk:=ah anU;have pQ:=ah hA;have GK:=ah hO;clear hA hO hb hx s1 s2 s3 s4 hjk hnx hmay hlen bf anU;obtain⟨bk,hbk⟩:∃bk,bk=B.getD k false:=⟨_,rfl⟩;rw[<-hbk]at bb HS;have HBK:=ah hbk;clear hbk;have bx:=aC wr (.cells #[.int .u16 sc,.int .u32 sk,.int .i64 J4,.int .i64 sel] 407);have yO:=ah bx;clear bx;replace bb:=λo=>((aj wr).alloc o).cell bb
   by_cases Db:(!bk||sc==6)=true
   ·have HB':=ah (HS.o.1 Db);have HE:Hid (wr.heap[w.heap.size]?=some (.cells (JM B') 4 (0,0))):=by rw[HB'.o];exact HB
    clear hkind q2;cases bk
    ·clear Db q6;exact oX
    ·have h6:(sc==6)=true:=by simpa using Db
     rw[h6]at q6;clear Db h6;exact oX
   ·have hsk:(!bk||sc==6)=false:=by simpa using Db
    have hbk1:bk=true:=by cases bk<;>simp_all
    subst hbk1;have h6:(sc==6)=false:=by simpa using hsk
    rw[h6]at q6;have h6n:sc≠6:=by simpa using h6
    have Oq:=ah hsk;have H6:=ah h6n;clear Db hsk h6 h6n;rcases hkind with⟨j1,j2,-⟩|⟨j1,j2,-,t1,t2⟩|⟨j1,j2,-,⟨t1,t2⟩,e1,e2⟩
    ·have hn1:=auk.o j1 H6.o;have HB':=ah (HS.o.2.1 Oq.o fL);rw[j1]at q2;have hz1:(k:Int)+1<xs:=aq;clear j1 j2;go_wp2_with fail;refine ap (GK.o _) ?_;intro w2 hx2;have hx3:=((aj wr).alloc _).trans hx2;have hb2:=aI HB.o hx3;have kg:=ah hx3;have bb1:=lF hb2 (show k+1<B.length by rw[HLEN.o];exact hn1);have bf1:=aP hb2 (k+1);have HB2:=ah hb2;clear hx2 hx3 hb2 bb;go_wp2_with fail;go_roundw
     case rel=>refine⟨k+1,aq,bm,(HX.o.trans kg.o).setCell (aD _) _,?_⟩;rw[<-HBE.o,HB'.o,<-Dz];exact eX HB2.o _ _
     case measure=>exact gO
    ·obtain⟨tn,rfl⟩:∃tn:Nat,J4=(tn:Int):=⟨J4.toNat,aq⟩;have HB':=ah (HS.o.2.2.1 Oq.o fL (by rw[<-HJK.o.2];exact j2));rw[j1]at q2;rw[j2]at pQ;have htn:tn<xs.length:=aq;clear j1 j2;go_wp2_with fail;refine ap (GK.o _) ?_;intro w2 hx2;have hx3:=((aj wr).alloc _).trans hx2;have hb2:=aI HB.o hx3;have kg:=ah hx3;have bb1:=lF hb2 (show tn<B.length by rw[HLEN.o];exact htn);have bf1:=aP hb2 tn;obtain⟨⟨b0,b1,b2,b3⟩,-⟩:=pO (aI yO.o hx2);have HB2:=ah hb2;have EZ:=ah (aI yO.o hx2);have hgs:w.heap.size<wr:=(aB.1 HB.o).1;clear hx2 hx3 hb2 bb;go_upto_region 7 with fail;obtain⟨W4,rH⟩:∃W4,W4=w2.setCell ⟨w,tn,none⟩ (.bool true):=⟨_,rfl⟩;have hb4:W4.heap[w.heap.size]?=some (.cells (JM B') 4 (0,0)):=by rw[rH,HB'.o,dR,<-Dz];exact eX HB2.o _ _
     have XC:W4.heap[wr.heap.size]?=some (.cells #[.int .u16 sc,.int .u32 sk,.int .i64 tn,.int .i64 sel] 407 (0,0)):=by rw[rH];exact(aX _ _ _ _ (by show wr.heap.size≠w;omega)).trans EZ.o
     have hx4:Ext w W4:=by rw[rH];exact(HX.o.trans kg.o).setCell (aD _) _
     clear b0 b1 b2 b3 bb1 bf1;obtain⟨⟨b0,b1,b2,b3⟩,-⟩:=pO XC;have H4:=ah (ak hb4 hx4);rw[<-rH];clear rH hb4 XC hx4;go_wp2_with fail;refine ap (pQ.o _) ?_;intro w5 hx5;have H5:=ah (ak (aI H4.o.1 hx5) (H4.o.2.trans hx5));clear hx5 b0 b1 b2 b3;go_wp2_with fail;go_roundw
     case rel=>exact⟨k+1,aq,bm,H5.o.2,by rw[<-HBE.o];exact H5.o.1⟩
     case measure=>exact gO
    ·obtain⟨tn,rfl⟩:∃tn:Nat,J4=(tn:Int):=⟨J4.toNat,aq⟩;obtain⟨en,rfl⟩:∃en:Nat,sel=(en:Int):=⟨sel.toNat,aq⟩;have HB':=ah (HS.o.2.2.2 Oq.o fL (by rw[<-HJK.o.2];exact j2));rw[j1]at q2;rw[j2]at pQ;have htn:tn<xs.length:=aq;have hen:en<xs.length:=aq;clear j1 j2;go_wp2_with fail;refine ap (GK.o _) ?_;intro w2 hx2;have hx3:=((aj wr).alloc _).trans hx2;have hb2:=aI HB.o hx3;have kg:=ah hx3;have bb1:=lF hb2 (show tn<B.length by rw[HLEN.o];exact htn);have bf1:=aP hb2 tn;obtain⟨⟨b0,b1,b2,b3⟩,-⟩:=pO (aI yO.o hx2);have HB2:=ah hb2;have EZ:=ah (aI yO.o hx2);have hgs:w.heap.size<wr:=(aB.1 HB.o).1;clear hx2 hx3 hb2 bb;go_upto_region 7 with fail;obtain⟨W4,rH⟩:∃W4,W4=w2.setCell ⟨w,tn,none⟩ (.bool true):=⟨_,rfl⟩;have hb4:W4.heap[w.heap.size]?=some (.cells (JM (B.set tn true)) 4 (0,0)):=by rw[rH,<-Dz];exact eX HB2.o _ _
     have XC:W4.heap[wr.heap.size]?=some (.cells #[.int .u16 sc,.int .u32 sk,.int .i64 tn,.int .i64 en] 407 (0,0)):=by rw[rH];exact(aX _ _ _ _ (by show wr.heap.size≠w;omega)).trans EZ.o
     have hx4:Ext w W4:=by rw[rH];exact(HX.o.trans kg.o).setCell (aD _) _
     clear b0 b1 b2 b3 bb1 bf1;obtain⟨⟨b0,b1,b2,b3⟩,-⟩:=pO XC;have H4:=ah (ak hb4 (ak hx4 XC));rw[<-rH];clear rH hb4 XC hx4;go_wp2_with fail;refine ap (pQ.o _) ?_;intro w5 hx5;have hb5:=aI H4.o.1 hx5;have bb1:=lF hb5 (show en<(B.set tn true).length by rw[dO,HLEN.o];exact hen);have bf1:=aP hb5 en;clear b0 b1 b2 b3;obtain⟨⟨b0,b1,b2,b3⟩,-⟩:=pO (aI H4.o.2.2 hx5);have H5:=ah (ak hb5 (H4.o.2.1.trans hx5));clear hx5 hb5;go_wp2_with fail;go_roundw
     case rel=>refine⟨k+1,aq,bm,H5.o.2.setCell (aD _) _,?_⟩;rw[<-HBE.o,HB'.o,dR,dR,<-Dz];exact eX H5.o.1 _ _
     case measure=>exact gO
  ·obtain rfl:k=xs.length:=aq;have H:=ah (ak hx hb);clear hx hb;go_wp2_with fail;go_ret;exact⟨rfl,H.o.1,H.o.2⟩
end LT
def il(h:zP:=by
 simp only[Fin.getElem_fin]at hy;have HH:=ah (ak hq hqi);generalize xs[q]=y at *;clear hup hq hqi hc ac4 hqe hat hkc;gi_wp2;refine hR.mono ?_;rintro e W3 (⟨rfl,hJ3,hk3⟩|⟨rfl,hJx3⟩)
 ·gi_wp2;go_roundw
  case rel=>exact⟨k+1,aq,by have:=HH.o.2;first|(simp;done)|(simp;omega),by rw[HU.o];exact hJ3,hnx.trans hk3⟩
  case measure=>have:=HH.o.2;simp[intOf]<;>omega
 ·gi_wp2;refine aM (bH rfl _ _ _) rfl ?_;exact⟨⟨_,rfl⟩,.inr ⟨_,⟨k+1,aq,HU.o.symm⟩,hJx3⟩⟩):zP:=h
def cY(h:zP:=by simp[jS]):zP:=h
namespace LT
open jO (Sy RO gB eH iM iw jk gF gJ)
def kY(n k:Nat)(h:k<=n):List (Fin n):=List.ofFn (λj:Fin k=>(⟨n-1-j,by have:=j.2;omega⟩:Fin n))
def sS(n k:Nat)(h:k<=n):(kY n k h).length=k:=by simp[kY]
def xA(n k:Nat)(h:k<n):kY n (k+1) h=kY n k (Nat.le_of_lt h)++[⟨n-1-k,aq⟩]:=by
 unfold kY;rw[List.ofFn_succ_last]
 rfl
def m8(i:Ix):aA:= .agg #[.int .u16 i.c,.int .u8 i.jt,.int .u8 i.jf,.int .u32 i.k]
theorem aap(l Bs b o c:Nat)(xs:List Sy)(hn:xs.length<=9223372036854775807)(S:Nat->Prop)(hb:S b)(S1:S Bs)(J Jx:List (Fin xs)->ay->Prop)(hY:∀(pre:List (Fin xs)) (x:Fin xs) W,J pre W->pre.length<xs->YieldAt Fence.wide (3-1) prog l #[.int .i64 ((x:Nat):Int),zh xs[x]] W λe W'=>(e= .returned (.bool true)/\J (pre++[x]) W'/\V.Keep S W W')\/(e= .returned (.bool false)/\Jx (pre++[x]) W'))(W:ay)(ac4:W.cell? Bs=some (.slice (some ⟨b,o,none⟩) xs c))(hc:∀j (hj:j<xs.length),V.At W b (o+j*4) (gB xs[j]))(h0:J [] W):CallsIn Fence.wide 3 prog 357 #[.func (.yield l) #[] #[],.pointer (some Bs)] W λe W'=>(∃v,e= .returned v)/\((∃ys,ys=kY xs xs (aD _)/\J ys W')\/(∃pre,(∃k,∃hk:k<=xs.length,pre=kY xs k hk)/\Jx pre W')):=by
 refine kX func357 rfl trivial ?_ rfl;simp only[ntmps357,bW,aO,bD,Nat.reduceAdd,Nat.reduceSub,dU,dS,fq,dZ,dA,dh];gi_wp2;gi_loopw [3] (λi wr=>∃k:Nat,∃hk:k<=xs,i= .int .i64 ((xs:Int)-1-k)/\J (kY xs k hk) wr/\V.Keep S W wr) (λi _=>(intOf i+1).toNat)
 case atStart=>exact⟨0,bP _,aE,h0,V.Keep.refl _ _⟩
 case round=>
  obtain⟨k,hk,rfl,hJs,hnx⟩:=hrel;by_cases hlt:k<xs
  ·obtain⟨q,hq⟩:∃q:Nat,q=xs.length-1-k:=⟨_,rfl⟩;have hqi:(xs:Int)-1-k=(q:Int):=aq;have hq1:q<xs.length:=aq;have hat:=hc q hq1;have hbs:=(hnx.cell (p:=⟨Bs,0,none⟩) S1).trans ac4;have hup:=xA xs k hlt;have hqe:(⟨xs.length-1-k,aq⟩:Fin xs)=⟨q,hq1⟩:=Fin.ext hq.symm;rw[hqe]at hup;have HU:=ah hup;obtain⟨fn,tmps,assign,body,hy,hR⟩:=hY _ ⟨q,hq1⟩ wr hJs (by rw[sS];exact hlt);have hkc:=λi=>hnx.cell (p:=⟨b,i,none⟩) hb
   rw[hqi];have c0:=(hkc _).trans (hat 0 ew);have c1:=(hkc _).trans (hat 1 ew);have c2:=(hkc _).trans (hat 2 ew);have c3:=(hkc _).trans (hat 3 ew);simp only[gB,iB,jc,iW]at c0 c1 c2 c3;unfold zh at hy;exact il
  ·obtain rfl:k=xs.length:=aq;exact pT
theorem Vi(l Bs:Nat)(xs:List Sy)(_hx:xs.length=0)(J:List (Fin xs)->ay->Prop)(W:ay)(a:Option Addr)(c:Nat)(S1:W.cell? Bs=some (.slice a 0 c))(h0:J [] W):CallsIn Fence.wide 3 prog 357 #[.func (.yield l) #[] #[],.pointer (some Bs)] W λe W'=>(∃v,e= .returned v)/\J [] W':=by
 refine kX func357 rfl trivial ?_ rfl;simp only[ntmps357,bW,aO,bD,Nat.reduceAdd,Nat.reduceSub,dU,dS,fq,dZ,dA,dh];gi_wp2;gi_loopw [3] (λi wr=>i= .int .i64 (-1)/\J [] wr) (λ_ _=>0)
 case atStart=>exact⟨rfl,h0⟩
 case round=>exact pw
theorem Rq(a:Option Addr)(n c:Nat)(w:ay):Calls prog 284 #[.slice a n c] w λe w'=>e= .returned (.func (.func 357) #[] #[.pointer (some w)])/\w.alloc (.cells #[.slice a n c] 215)=w':=by exact vx
theorem FP(Bs:Nat)(v:aA)(xs:List Sy)(hn:xs.length<=9223372036854775807)(w:ay)(S:Nat->Prop)(S1:Bs<w.heap.size)(hS:S Bs)(hc:w.cell? Bs=some v)(hI:Rd w 4 gB v xs)(hlow:∀b o c,v= .slice (some ⟨b,o,none⟩) xs c->0<xs.length->S b):SeqStopsK Fence.wide 3 prog 357 #[.pointer (some Bs)] (λx:Fin xs.length=> #[Value.int .i64 ((x:Nat):Int),zh xs[x]]) (V.Keep S) (λys=>ys=kY xs xs (aD _)) (λpre=>∃k,∃hk:k<=xs.length,pre=kY xs k hk) xs w:=λl J Jx W hW _ _ hY h0=>by
 have hc':=(hW.cell (p:=⟨Bs,0,none⟩) S1).trans hc;obtain⟨a,c,rfl,hle,hnil,hel⟩:=hI.ext hW;by_cases h00:xs.length=0
 ·refine(Vi l Bs xs h00 J W a c (by rw[h00]at hc';exact hc') h0).mono λe W' ⟨he,hj⟩=>⟨he,.inl ⟨_,rfl,?_⟩⟩
  have e0:kY xs xs (aD _)=[]:=bG (by rw[sS];exact h00);rw[e0];exact hj
 ·obtain⟨b,o,rfl,_⟩:=hel 0 aq;refine aap l Bs b o c xs hn S (hlow b o c rfl aq) hS J Jx hY W hc' ?_ h0;intro j hj;obtain⟨b',o',e,hat⟩:=hel j hj;obtain⟨rfl,rfl⟩:b=b'/\o=o':=by simpa using e
  exact hat
theorem aaq(l Bs b o c:Nat)(xs:List Ix)(hn:xs.length<=9223372036854775807)(S:Nat->Prop)(hb:S b)(S1:S Bs)(J Jx:List (Fin xs)->ay->Prop)(hY:∀(pre:List (Fin xs)) (x:Fin xs) W,J pre W->pre.length<xs->YieldAt Fence.wide (3-1) prog l #[.int .i64 ((x:Nat):Int),m8 xs[x]] W λe W'=>(e= .returned (.bool true)/\J (pre++[x]) W'/\V.Keep S W W')\/(e= .returned (.bool false)/\Jx (pre++[x]) W'))(W:ay)(ac4:W.cell? Bs=some (.slice (some ⟨b,o,none⟩) xs c))(hc:∀j (hj:j<xs.length),V.At W b (o+j*4) (jS xs[j]))(h0:J [] W):CallsIn Fence.wide 3 prog 415 #[.func (.yield l) #[] #[],.pointer (some Bs)] W λe W'=>(∃v,e= .returned v)/\((∃ys,ys=kY xs xs (aD _)/\J ys W')\/(∃pre,(∃k,∃hk:k<=xs.length,pre=kY xs k hk)/\Jx pre W')):=by
 refine kX func415 rfl trivial ?_ rfl;simp only[ntmps415,bW,aO,bD,Nat.reduceAdd,Nat.reduceSub,dU,dS,fq,dZ,dA,dh];gi_wp2;gi_loopw [3] (λi wr=>∃k:Nat,∃hk:k<=xs,i= .int .i64 ((xs:Int)-1-k)/\J (kY xs k hk) wr/\V.Keep S W wr) (λi _=>(intOf i+1).toNat)
 case atStart=>exact⟨0,bP _,aE,h0,V.Keep.refl _ _⟩
 case round=>
  obtain⟨k,hk,rfl,hJs,hnx⟩:=hrel;by_cases hlt:k<xs
  ·obtain⟨q,hq⟩:∃q:Nat,q=xs.length-1-k:=⟨_,rfl⟩;have hqi:(xs:Int)-1-k=(q:Int):=aq;have hq1:q<xs.length:=aq;have hat:=hc q hq1;have hbs:=(hnx.cell (p:=⟨Bs,0,none⟩) S1).trans ac4;have hup:=xA xs k hlt;have hqe:(⟨xs.length-1-k,aq⟩:Fin xs)=⟨q,hq1⟩:=Fin.ext hq.symm;rw[hqe]at hup;have HU:=ah hup;obtain⟨fn,tmps,assign,body,hy,hR⟩:=hY _ ⟨q,hq1⟩ wr hJs (by rw[sS];exact hlt);have hkc:=λi=>hnx.cell (p:=⟨b,i,none⟩) hb
   rw[hqi];have c0:=(hkc _).trans (hat 0 cY);have c1:=(hkc _).trans (hat 1 cY);have c2:=(hkc _).trans (hat 2 cY);have c3:=(hkc _).trans (hat 3 cY);simp only[jS,iB,jc,iW]at c0 c1 c2 c3;unfold m8 at hy;exact il
  ·obtain rfl:k=xs.length:=aq;exact pT
theorem Vj(l Bs:Nat)(xs:List Ix)(_hx:xs.length=0)(J:List (Fin xs)->ay->Prop)(W:ay)(a:Option Addr)(c:Nat)(S1:W.cell? Bs=some (.slice a 0 c))(h0:J [] W):CallsIn Fence.wide 3 prog 415 #[.func (.yield l) #[] #[],.pointer (some Bs)] W λe W'=>(∃v,e= .returned v)/\J [] W':=by
 refine kX func415 rfl trivial ?_ rfl;simp only[ntmps415,bW,aO,bD,Nat.reduceAdd,Nat.reduceSub,dU,dS,fq,dZ,dA,dh];gi_wp2;gi_loopw [3] (λi wr=>i= .int .i64 (-1)/\J [] wr) (λ_ _=>0)
 case atStart=>exact⟨rfl,h0⟩
 case round=>exact pw
theorem adU(a:Option Addr)(n c:Nat)(w:ay):Calls prog 398 #[.slice a n c] w λe w'=>e= .returned (.func (.func 415) #[] #[.pointer (some w)])/\w.alloc (.cells #[.slice a n c] 51)=w':=by exact vx
theorem Rs(Bs:Nat)(v:aA)(xs:List Ix)(hn:xs.length<=9223372036854775807)(w:ay)(S:Nat->Prop)(S1:Bs<w.heap.size)(hS:S Bs)(hc:w.cell? Bs=some v)(hI:Rd w 4 jS v xs)(hlow:∀b o c,v= .slice (some ⟨b,o,none⟩) xs c->0<xs.length->S b):SeqStopsK Fence.wide 3 prog 415 #[.pointer (some Bs)] (λx:Fin xs.length=> #[Value.int .i64 ((x:Nat):Int),m8 xs[x]]) (V.Keep S) (λys=>ys=kY xs xs (aD _)) (λpre=>∃k,∃hk:k<=xs.length,pre=kY xs k hk) xs w:=λl J Jx W hW _ _ hY h0=>by
 have hc':=(hW.cell (p:=⟨Bs,0,none⟩) S1).trans hc;obtain⟨a,c,rfl,hle,hnil,hel⟩:=hI.ext hW;by_cases h00:xs.length=0
 ·refine(Vj l Bs xs h00 J W a c (by rw[h00]at hc';exact hc') h0).mono λe W' ⟨he,hj⟩=>⟨he,.inl ⟨_,rfl,?_⟩⟩
  have e0:kY xs xs (aD _)=[]:=bG (by rw[sS];exact h00);rw[e0];exact hj
 ·obtain⟨b,o,rfl,_⟩:=hel 0 aq;refine aaq l Bs b o c xs hn S (hlow b o c rfl aq) hS J Jx hY W hc' ?_ h0;intro j hj;obtain⟨b',o',e,hat⟩:=hel j hj;obtain⟨rfl,rfl⟩:b=b'/\o=o':=by simpa using e
  exact hat
end LT
def gg(h:zP:=by rw[HML.o];exact hlt):zP:=h
namespace LT
open jO (Sy RO gB eH iM iw jk gF gJ)
variable{b:List Bool}{j k n:Nat}
theorem Km(Bp g n:Nat)(l:List Nat)(W:ay)(cp:W.cell? Bp=some (.slice (some g) l n))(hg:W.heap[g]?=some (.cells (isA l) 3 (0,0)))(j:Nat)(hj:j<l):Calls prog 366 #[.int .i64 j,.pointer (some Bp)] W λr w'=>r= .returned (.int .i64 ((l.getD j 0:Nat):Int))/\Ext W w':=by have hc:=AX hg hj;have hz:(j:Int)<l:=aq;generalize l.getD j 0=q at *;clear hg;go_in;exact oc
def TN(b:List Bool)(n k:Nat):List Nat:=(List.range n).map (λi=>if i<k then vL b i else 0)
def Gr(b:List Bool)(n k:Nat):(TN b n k).length=n:=by simp[TN]
def abX(b:List Bool)(n:Nat):TN b n 0=List.replicate n 0:=by
 apply List.ext_getElem
 ·simp[TN]
 ·intro i h1 h2;simp[TN]
def afC:(TN b n k).set k (vL b k)=TN b n (k+1):=by
 apply List.ext_getElem
 ·simp[TN]
 ·intro i h1 h2;rw[List.getElem_set];split
  ·rename_i e;subst e;simp[TN]
  ·rename_i e;simp only[TN,gQ,List.getElem_range];by_cases h:i<k
   ·rw[aV h,aV aq]
   ·rw[aN h,aN aq]
def afD(hj:j<n):(TN b n n).getD j 0=vL b j:=by rw[bQ,aJ (by rw[Gr];exact hj)];simp[TN,hj]
def Lb:∀(xs:List Sy)(b:List Bool)(k:Nat)(hk:k<xs),xs.length=b->pick (xs.take (k+1)) (b.take (k+1))=pick (xs.take k) (b.take k)++if b.getD k false=true then [xs[k]]else []
 | [],_,k,hk,_=>by simp at hk
 |x::xs,[],k,hk,h=>by simp at h
 |x::xs,y::b,0,hk,_=>by cases y<;>simp[pick]
 |x::xs,y::b,k+1,hk,h=>by have ih:=Lb xs b k (by simpa using hk) cT;simp only[List.take_succ_cons,iW,List.getD_cons_succ];unfold pick;rw[ih];cases y<;>simp
def CV:∀(xs:List Sy)(b:List Bool),(pick xs b).length<=xs.length
 | [],_=>by simp[pick]
 |x::xs,[]=>by simp[pick]
 |x::xs,y::b=>by
  have:=CV xs b;unfold pick;split
  ·simp;exact this
  ·simp;omega
theorem M9(v:aA)(xs:List Sy)(hl:xs.length<=1000000)(hm:iw xs=true)(w:ay)(hv:Rd w 4 gB v xs):Calls prog 288 #[v] w λe w'=>∃a c,e= .returned (.slice a (lK xs).length c)/\Ext w w'/\w'.ownsRow w 407 4 (.slice a (lK xs).length c) (lK xs).length ((lK xs).flatMap gB):=by
 have rM:=Rx v xs hl hm w hv;have hv0:=hv;obtain⟨a,c,rfl,hac,-⟩:=gJ hv;have hbl:=tL xs;have HAL:=ah rM;have HV:=ah hv0;have HM:=ah hm;clear rM hv hv0 hm;go_in;go_wp2_with fail;refine ap HAL.o ?_;rintro w1 ⟨hx1,hb1⟩;have hs1:w.heap.size<w1:=(aB.1 hb1).1;have hmk:=Wn xs hl w1;have n2:=aC w1 (.cells (isA (List.replicate xs 0)) 3);obtain⟨W2,hW2⟩:∃W2,W2=w1.alloc (.cells (isA (List.replicate xs 0)) 3):=⟨_,rfl⟩;rw[<-hW2]at n2 hmk;have hx2:Ext w1 W2:=by rw[hW2];exact(aj _).alloc _
 have hs2:W2.heap.size=w1+1:=by rw[hW2];simp
 have n3:=aC W2 (.cells #[.slice (some w1) xs xs.length] 28);obtain⟨W3,hW3⟩:∃W3,W3=W2.alloc (.cells #[.slice (some w1) xs xs.length] 28):=⟨_,rfl⟩;rw[<-hW3,hs2]at n3;have hx3:Ext W2 W3:=by rw[hW3];exact(aj _).alloc _
 rw[<-abX (gG xs)]at n2;have H3:=ah (ak (aI n2 hx3) (ak n3 (ak (aI hb1 (hx2.trans hx3)) (hx1.trans (hx2.trans hx3)))));have HW3:=ah hW3;have HS2:=ah hs2;have gK:=ah hx1;clear hW2 hx2 hs2 n2 n3 hW3 hx3 hb1 hx1;go_upto_region 3 with fail;have hWW:W2.alloc (.cells #[.slice (some w1) xs xs.length] 28)=W3:=HW3.o.symm;rw[hWW,HS2.o];clear hWW;go_wp2_with fail;go_loopw [5,17] (λn i wr=>∃k:Nat,k<=xs/\i= .int .i64 k/\n= .int .i64 ((vL (gG xs) k:Nat):Int)/\vL (gG xs) k<=k/\Ext w wr/\wr.heap[w1.heap.size]?=some (.cells (isA (TN (gG xs) xs k)) 3 (0,0))/\
  wr.heap[w1.heap.size+1]?=some (.cells #[.slice (some w1) xs xs.length] 28 (0,0))/\wr.heap[w.heap.size]?=some (.cells (JM (gG xs)) 4 (0,0))) (λ_ i _=>xs.length-(intOf i).toNat)
 case atStart=>exact⟨0,aq,rfl,rfl,aD _,H3.o.2.2.2,H3.o.1,H3.o.2.1,H3.o.2.2.1⟩
 case round=>
  obtain⟨k,hk,rfl,rfl,hpk,hx,hbi,hbs,hbb⟩:=hrel;by_cases hlt:k<xs
  ·have c1:=aG hbs 0
   change wr.cell? ⟨w1+1,0,none⟩=some (.slice (some w1) xs xs)at c1
   have c2:=AX hbi (show k<(TN (gG xs) xs k).length by rw[Gr];exact hlt);have f2:=aP hbi k;have c3:=lF hbb (show k<(gG xs).length from aq);have hset:=eX hbi k (.int .i64 ((vL (gG xs) k:Nat):Int));rw[Xa,afC]at hset;have hsu:=CU (b:=gG xs) (i:=k) aq;have hle:=TM (gG xs) (k+1);have hz:(k:Int)<xs:=aq;have aol:(wr.setCell ⟨w1,k,none⟩ (.int .i64 ((vL (gG xs) k:Nat):Int))).heap[w1.heap.size+1]?=_:=(aX _ _ _ _ (by show w1.heap.size+1≠w1.heap.size;omega)).trans hbs;have ajZ:(wr.setCell ⟨w1,k,none⟩ (.int .i64 ((vL (gG xs) k:Nat):Int))).heap[w.heap.size]?=_:=(aX _ _ _ _ (by show w.heap.size≠w1;omega)).trans hbb;have hx':Ext w (wr.setCell ⟨w1,k,none⟩ (.int .i64 ((vL (gG xs) k:Nat):Int))):=hx.setCell (by show w.heap.size<=w1;omega) _;have c3':(wr.setCell ⟨w1,k,none⟩ (.int .i64 ((vL (gG xs) k:Nat):Int))).cell? ⟨w,k,none⟩=some (.bool ((gG xs).getD k false)):=lF ajZ aq;have H:=ah (ak hset (ak aol (ak ajZ hx')));have HSU:=ah (ak hsu hle);obtain⟨q,hq⟩:∃q,q=vL (gG xs) k:=⟨_,rfl⟩;obtain⟨lv,hlv⟩:∃lv,lv=(gG xs).getD k false:=⟨_,rfl⟩;rw[<-hq]at c3' H HSU hpk⊢;rw[<-hlv]at c3 c3' HSU;clear hset aol ajZ hx' hsu hle hx hbi hbs hbb hq hlv;cases lv
   ·go_wp2_with fail;go_roundw
    case rel=>exact⟨k+1,aq,bm,by rw[HSU.o.1];rfl,HSU.o.2,H.o.2.2.2,H.o.1,H.o.2.1,H.o.2.2.1⟩
    case measure=>exact gO
   ·go_wp2_with fail;go_roundw
    case rel=>exact⟨k+1,aq,bm,by rw[HSU.o.1,aV rfl];go_num,HSU.o.2,H.o.2.2.2,H.o.1,H.o.2.1,H.o.2.2.1⟩
    case measure=>exact gO
  ·obtain rfl:k=xs.length:=aq;have c1:=aG hbs 0
   change wr.cell? ⟨w1+1,0,none⟩=some (.slice (some w1) xs xs)at c1
   have hMv:=zJ 366 #[.pointer (some ⟨w1+1,0,none⟩)] (enters_of func366 ax rfl) (vL (gG xs)) xs (.slice a xs c) xs hl wr (HV.o.ext hx)
    (λs hs=>by obtain⟨i,hi,rfl⟩:=fZ hs;exact⟨i,jO.jZ HM.o hi⟩)
    (λt ht W wI=>by have h5:=Km (w1+1) w1 xs (TN (gG xs) xs xs) W (by rw[Gr];exact wI.cell c1) (aI hbi wI) t (by rw[Gr];exact ht);rw[afD ht]at h5;exact h5)
   have HMV:=ah hMv;have HX:=ah (ak hx hbb);clear hMv hx hbi hbs hbb c1 hpk;go_wp2_with fail;refine HMV.o.mono ?_;rintro e w6 ⟨a6,c6,rfl,hx6,uF⟩;have hml:=lI (vL (gG xs)) xs;have anH:=bY (xs:=wC (vL (gG xs)) xs) eH (by rw[hml];exact uF);obtain⟨a7,c7,e7,-,hca⟩:=gJ anH;rw[hml]at e7;simp only[aU,true_and]at e7;obtain⟨rfl,rfl⟩:=e7;have hll:lK xs=pick ((wC (vL (gG xs)) xs).take xs) ((gG xs).take xs):=by rw[dY (by rw[hml];exact aD _),dY (by rw[hbl];exact aD _)];rfl
   have HLL:=ah hll;clear hll;generalize wC (vL (gG xs)) xs=M at *;have tO:=ah hca;have H6:=ah (ak (HX.o.1.trans hx6) (aI HX.o.2 hx6));have sD:=ah hx6;have HML:=ah hml;have HBL:=ah hbl;clear uF anH hca hx6 hml hbl;go_wp2_with fail;go_loopw [7,35] (λo i wr2=>∃(k:Nat) (ao:Option Addr) (co:Nat),k<=xs/\i= .int .i64 k/\o= .slice ao (pick (M.take k) ((gG xs).take k)).length co/\Ext w6 wr2/\wr2.ownsRow w6 407 4 (.slice ao (pick (M.take k) ((gG xs).take k)).length co) (pick (M.take k) ((gG xs).take k)).length ((pick (M.take k) ((gG xs).take k)).flatMap gB)) (λ_ i _=>xs.length-(intOf i).toNat)
   case atStart=>exact⟨0,none,0,aq,rfl,rfl,aj _,dB _ _ _ _⟩
   case round=>
    obtain⟨k,ao,co,hk,rfl,rfl,hx,ho⟩:=hrel;by_cases hlt:k<xs
    ·obtain⟨b7,o7,rfl,r0,r1,r2,r3⟩:=tO.o k gg;replace r0:=hx.cell r0;replace r1:=hx.cell r1;replace r2:=hx.cell r2;replace r3:=hx.cell r3;have hst:=Lb M (gG xs) k gg (by rw[HML.o,HBL.o]);have ajL:=CV (M.take k) ((gG xs).take k);rw[bC]at ajL;obtain⟨s,hs⟩:∃s,s=M[k]' gg:=⟨_,rfl⟩;rw[<-hs]at r0 r1 r2 r3 hst;clear hs;have c3:=lF (aI H6.o.2 hx) (show k<(gG xs).length by rw[HBL.o];exact hlt);obtain⟨lv,hlv⟩:∃lv,lv=(gG xs).getD k false:=⟨_,rfl⟩;rw[<-hlv]at c3 hst;have HST:=ah hst;have HPL:=ah ajL;clear hlv hst ajL;obtain⟨sc,sk,J4,sel⟩:=s;dsimp only at *;have c3o:=λo=>((aj _).alloc o).cell c3
     obtain⟨R,hR⟩:∃R,R=pick (M.take k) ((gG xs).take k):=⟨_,rfl⟩;rw[<-hR]at HST HPL ho⊢;clear hR;have HO:=ah ho;have jm:=ah hx;clear ho hx;cases lv
     ·have HS0:Hid (pick (M.take (k+1)) ((gG xs).take (k+1))=R):=ah (by rw[HST.o];simp);go_wp2_with fail;go_roundw
      case rel=>exact⟨k+1,ao,co,aq,bm,by rw[HS0.o],jm.o.alloc _,by rw[HS0.o];exact HO.o.alloc _⟩
      case measure=>exact gO
     ·have HS0:Hid (pick (M.take (k+1)) ((gG xs).take (k+1))=R++[⟨sc,sk,J4,sel⟩]):=ah (by rw[HST.o];simp);have hel:R.length+[(⟨sc,sk,J4,sel⟩:Sy)].length=(R++[(⟨sc,sk,J4,sel⟩:Sy)]).length:=aE;have HEL:=ah hel;have hRb:R.length<=1000000:=by have:=HPL.o;omega
      clear hel
      go_wp2_with(refine jH rfl _ _ _ rfl underlying215 ahy rfl az eH iM w6 _ _ R [⟨sc,sk,J4,sel⟩] rfl rfl ((HO.o.alloc _).alloc _) (gI eH _ [⟨sc,sk,J4,sel⟩] _ _ (by rw[aR])) bp az ((jm.o.alloc _).alloc _) ?_
                  intro EN EJ w5 lM hx5;rw[HEL.o]at lM⊢;have H5:=ah (ak lM hx5);clear lM hx5)
      go_roundw
      case rel=>exact⟨k+1,EN,EJ,aq,bm,by rw[HS0.o,aH];rfl,H5.o.2,by rw[HS0.o];exact H5.o.1⟩
      case measure=>exact gO
    ·obtain rfl:k=xs.length:=aq;have H9:=ah (ak hx ho);clear hx ho;rw[<-HLL.o]at H9⊢;go_wp2_with fail;go_ret;exact⟨ao,co,rfl,H6.o.1.trans H9.o.1,H9.o.2.mono H6.o.1.size⟩
end LT
end Go.Proofs.YtopfefhenfineaaGreat
