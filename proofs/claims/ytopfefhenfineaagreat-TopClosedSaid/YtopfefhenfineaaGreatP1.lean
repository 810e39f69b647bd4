import Derived.WalkKit
import Derived.WalkSpells
import Derived.WalkLawsBesides
import Derived.Lib.Hide
import Derived.BigQuiet
import Derived.Deep.QuietTactic
import Derived.Deep.RegionHeld3
import Derived.ProofKit
import Derived.SizedLaws
import Derived.Test.YtopfefhenfineaaGreatRows
import Derived.Laws.CopyOwn
import Derived.Laws.AppendOwnNone
import Derived.Lib.Strings
import Derived.Laws.ResultCell
import Derived.Great.BuildSlice
import Derived.Deep.WholeRow
import Derived.Lib.ItoaNum
import Derived.RangeFuncBox
import Derived.RangeFuncNested
import Derived.RangeFuncBound
import Derived.RangeFuncCalls
import Derived.RangeFuncLeaves
import Derived.OwnWalkIn
import Derived.Deep.DeepCutAuto
set_option linter.all false
set_option maxRecDepth 100000
set_option maxHeartbeats 1000000
namespace Go.Proofs.YtopfefhenfineaaGreat
open Go.Proofs.Tryz Go.RowKit
namespace V
variable{A C a w w':World}{B k n o sz:Nat}{S S':Nat->Prop}{p:Addr}{v:Value}{x:Int}{α:Type}
def Ext(w w':World):Prop:=Below w.heap.size w w'
def Ext.refl(w:World):Ext w w:=Below.refl _ _
def Ext.trans{a b c:World}(h:Ext a b)(k:Ext b c):Ext a c:=Below.trans h (Below.mono k h.size)
def Ext.alloc{a w:World}(h:Ext a w)(o:Obj):Ext a (w.alloc o):=Below.alloc h h.size o
def Ext.drew(h:Ext a w):Ext a w.drew:=Below.drew h
def Ext.drewN(h:Ext a w)(n:Nat):Ext a (w.drewN n):=below_drewN h n
def Ext.size(h:Ext a w):a.heap.size<=w.heap.size:=Below.size h
def Ext.setCell(h:Ext a w)(hp:a.heap.size<=p.block)(u:Value):Ext a (w.setCell p u):=Below.setCell h hp u
def Ext.cell(h:Ext a w)(hv:a.cell? p=some v):w.cell? p=some v:=
 (Below.cell h (World.block_lt_of_cell? _ _ hv)).trans hv
def Ext.grown{row:Option Nat}(h:Ext a w)(hg:w.grownBy w' row)(hr:∀k,row=some k->a.heap.size<=k):Ext a w':=
 Below.grown h hg h.size hr
def Ext.frozen(h:Ext a w)(hv:a.cell? p=some v){b:Bool}(hf:a.frozen? p=b):w.frozen? p=b:=
 (Below.frozen h (World.block_lt_of_cell? _ _ hv)).trans hf
def Ext.block(h:Ext a w)(hk:k<a.heap.size):w.heap[k]?=a.heap[k]?:=Below.block h k hk
def heap_drewN(w:World)(n:Nat):(w.drewN n).heap=w.heap:=by induction n with
 |zero=>rfl
 |succ n ih=>exact ih
structure Keep(S:Nat->Prop)(w w':World):Prop where
 os:w'.os=w.os
 tape:w'.tape=w.tape
 output:w'.output=w.output
 size:w.heap.size<=w'.heap.size
 block:∀k,S k->w'.heap[k]?=w.heap[k]?
def Keep.refl(S:Nat->Prop)(w:World):Keep S w w:=⟨rfl,rfl,rfl,Nat.le_refl _,λ_ _=>rfl⟩
def Keep.trans{S:Nat->Prop}{a b c:World}(h:Keep S a b)(k:Keep S b c):Keep S a c:=
 ⟨k.os.trans h.os,k.tape.trans h.tape,k.output.trans h.output,Nat.le_trans h.size k.size,λi hi=>(k.block i hi).trans (h.block i hi)⟩
def Keep.mono(h:Keep S w w')(hs:∀k,S' k->S k):Keep S' w w':=⟨h.os,h.tape,h.output,h.size,λk hk=>h.block k (hs k hk)⟩
def Keep.of_below(h:Below B w w')(hs:∀k,S k->k<B):Keep S w w':=⟨h.os,h.tape,h.output,h.size,λk hk=>h.block k (hs k hk)⟩
def Keep.below(h:Keep S w w')(hs:∀k,k<B->S k):Below B w w':=⟨h.os,h.tape,h.output,h.size,λk hk=>h.block k (hs k hk)⟩
def Keep.cell(h:Keep S w w')(hp:S p.block):w'.cell? p=w.cell? p:=World.cell?_of_block (w:=w) (h.block p.block hp)
def Keep.setCell(w:World)(hp:¬S p.block)(u:Value):Keep S w (w.setCell p u):=
 ⟨rfl,rfl,rfl,by simp[World.setCell],λk hk=>Below.heap_setCell _ _ _ _ (λe=>hp (e▸hk))⟩
def Keep.alloc{S:Nat->Prop}(w:World)(hs:∀k,S k->k<w.heap.size)(o:Obj):Keep S w (w.alloc o):=
 ⟨rfl,rfl,rfl,by simp,λk hk=>Below.heap_alloc _ _ _ (hs k hk)⟩
def Gv{B:World}(h:Keep S A B)(k:Keep S B C):Keep S A C:=h.trans k
def At(w:World)(b o:Nat)(cs:List Value):Prop:= ∀i,(h:i<cs.length)->w.cell? ⟨b,o+i,none⟩=some cs[i]
def At.ext(h:Ext a w){b:Nat}{cs:List Value}(hc:At a b o cs):At w b o cs:=λi hi=>h.cell (hc i hi)
def Rd(w:World)(n:Nat)(enc:α->List Value)(v:Value)(xs:List α):Prop:=
 ∃(a:Option Addr) (c:Nat),v= .slice a xs.length c/\xs.length<=c/\(a=none->c=0)/\∀i,(h:i<xs.length)->∃b o,a=some ⟨b,o,none⟩/\At w b (o+i*n) (enc xs[i])
def Rd.ext(h:Ext a w){enc:α->List Value}{xs:List α}(hv:Rd a n enc v xs):Rd w n enc v xs:=by obtain⟨ad,c,h1,h2,h3,h4⟩:=hv;exact⟨ad,c,h1,h2,h3,λi hi=>let⟨b,o,e,k⟩:=h4 i hi;⟨b,o,e,k.ext h⟩⟩
def wf_u32(h:(Lit.int .u32 x).wf=true):∃n:Nat,x=(n:Int)/\n<4294967296:=by simp[Lit.wf,IntKind.min,IntKind.max,IntKind.signed,IntKind.bits]at h;exact⟨x.toNat,by omega,by omega⟩
def wf_i64(h:(Lit.int .i64 x).wf=true): -9223372036854775808<=x/\x<=9223372036854775807:=by simp[Lit.wf,IntKind.min,IntKind.max,IntKind.signed,IntKind.bits]at h;exact⟨by omega,by omega⟩
theorem rD{P:Program}{t e:TypeId}{fs:Array Field}(ht:P.underlying t=some (.array n e))(he:P.underlying e=some (.struct fs))(hi:(P.info? e).map (·.size)=some sz)(cs:Array Value)(i:Nat)(h:i<n)(w:World):(Instr.index t (.agg cs) (.int .i64 (i:Int))).run P w= .ok (.agg (cs.extract (i*sz) (i*sz+sz))) w:=by
 obtain⟨inf,arX,hs⟩:∃inf,P.info? e=some inf/\inf.size=sz:=by
  cases hh:P.info? e with
  |none=>rw[hh]at hi;cases hi
  |some inf=>rw[hh]at hi;exact⟨inf,rfl,by simpa using hi⟩
 have h1:(0:Int)<=(i:Int)/\(i:Int)<(n:Int):=by omega
 simp[Instr.index,asIntOf,run_underlying ht,run_underlying he,part,isAgg,sizeOf,typeInfo,arX,hs,h]
end V
abbrev Rt(f:Nat)(a:Array Value)(w:World)(v:Value):Prop:=Calls prog f a w λe w'=>e= .returned v/\V.Ext w w'
end Go.Proofs.YtopfefhenfineaaGreat
namespace Go.RowKit
def Hid.o{p:Prop}(h:Hid p):p:=h
end Go.RowKit
namespace Go.Proofs.YtopfefhenfineaaGreat
open Go.RowKit
abbrev ah:=@Lib.hid
abbrev aj:=@V.Ext.refl
abbrev ak:=@And.intro
abbrev ay:=@World
abbrev aA:=@Value
abbrev aB:=@Array.getElem?_eq_some_iff
abbrev aC:=@heap_alloc_new
abbrev aD:=@Nat.le_refl
abbrev aH:=@List.length_append
abbrev aJ:=@List.getElem?_eq_getElem
abbrev aK:=@ByteArray
abbrev aL:=@Nat.le_trans
abbrev aM:=@bodyPost_ret
abbrev aN:=@if_neg
abbrev aO:=@List.length_cons
abbrev aQ:=@decide_eq_true
abbrev aR:=@World.size_alloc
abbrev aS:=@List.length_map
abbrev aT:=@decide_eq_false
abbrev aU:=@Value.slice.injEq
abbrev aV:=@if_pos
abbrev aW:=@List.getElem_mem
abbrev aX:=@Below.heap_setCell
abbrev aY:=@World.block_lt_of_cell?
abbrev aZ:=@UInt8
abbrev bA:=@Bool.and_eq_true
abbrev bB:=@Bool.eq_iff_iff
abbrev bC:=@List.length_take
abbrev bD:=@List.length_nil
abbrev bE:=@List.take_succ_eq_append_getElem
abbrev bG:=@List.eq_nil_of_length_eq_zero
abbrev bH:=@results_none
abbrev bI:=@List.append_assoc
abbrev bJ:=@List.drop_eq_getElem_cons
abbrev bK:=@beq_eq_false_iff_ne
abbrev bL:=@List.map_append
abbrev bM:=@callsIn_wide
abbrev bP:=@Nat.zero_le
abbrev bQ:=@List.getD_eq_getElem?_getD
abbrev bS:=@List.map_cons
abbrev bV:=@Option.some.inj
abbrev bW:=@List.size_toArray
abbrev bZ:=@List.take_length
abbrev cO:=@Nat.zero_add
abbrev cZ:=@List.length_drop
abbrev dh:=@List.cons_append
abbrev dw:=@Option.some.injEq
abbrev dz:=@TypeId
abbrev dA:=@List.nil_append
abbrev dB:=@World.ownsRow_nil
abbrev dD:=@World.frozen?_of_block
abbrev dF:=@List.mem_cons
abbrev dG:=@World.cell?_setCell_other
abbrev dH:=@setRow_heap
abbrev dI:=@Nat.min_eq_left
abbrev dJ:=@List.mem_append
abbrev dK:=@decide_eq_true_eq
abbrev dL:=@Array.getElem?_eq_getElem
abbrev dM:=@World.ownsRow.alloc
abbrev dN:=@Option.map_some
abbrev dO:=@List.length_set
abbrev dQ:=@List.drop_length
abbrev dR:=@Int.toNat_natCast
abbrev dS:=@Array.replicate_zero
abbrev dU:=@Array.replicate_succ
abbrev dV:=@results_cell_row
abbrev dW:=@List.mem_map
abbrev dY:=@List.take_of_length_le
abbrev dZ:=@List.append_toArray
abbrev eu:=@Option.isSome_some
abbrev aag:=@V.Ext.trans
abbrev eG:=@World.cell?_of_block
abbrev eO:=@Nat.mul_one
abbrev eP:=@List.flatMap_cons
abbrev eU:=@List.map_nil
abbrev eY:=@Nat.mul_le_mul_right
abbrev e8:=@List.mem_singleton
abbrev fq:=@List.push_toArray
abbrev fF:=@World.frozen?_setCell
abbrev fH:=@List.append_nil
abbrev fI:=@Nat.le_add_right
abbrev fJ:=@setRow_other
abbrev fQ:=@setCell_eq_setRow
abbrev fU:=@beq_iff_eq
abbrev fZ:=@List.getElem_of_mem
abbrev gq:=@Bool.or_eq_true
abbrev gD:=@Addr.mk.injEq
abbrev gH:=@List.getElem?_take
abbrev gL:=@List.takeWhile_cons_of_pos
abbrev gM:=@List.mem_cons_of_mem
abbrev gQ:=@List.getElem_map
abbrev gU:=@List.foldl_append
abbrev gV:=@List.length_replicate
abbrev gX:=@wpList_load_row
abbrev gY:=@Nat.lt_of_lt_of_le
abbrev iB:=@Nat.add_zero
abbrev iH:=@decide_eq_true_iff
abbrev iI:=@Bool.false_eq_true
abbrev iN:=@List.length_singleton
abbrev iO:=@List.flatMap_append
abbrev iP:=@Bool.true_and
abbrev iT:=@Obj.cells.injEq
abbrev iU:=@List.mem_of_mem_take
abbrev iW:=@List.getElem_cons_succ
abbrev i4:=@wpQuiet_nil
abbrev i5:=@results_tmp2
abbrev i6:=@List.take_take
abbrev i7:=@List.dropWhile_cons_of_pos
abbrev i9:=@List.pairwise_iff_getElem
abbrev jc:=@List.getElem_cons_zero
abbrev ji:=@List.length_filter_le
abbrev jo:=@info_parts
abbrev jq:=@World.size_setCell
abbrev jr:=@Nat.add_sub_cancel
abbrev jv:=@List.takeWhile_cons_of_neg
abbrev jw:=@List.mem_cons_self
abbrev jy:=@List.filter_append
abbrev jA:=@List.contains_cons
abbrev jC:=@Bool.or_eq_false_iff
abbrev jD:=@List.foldl_cons
abbrev jG:=@Array.getElem?_eq_none
abbrev jT:=@World.cell?_setCell_same
abbrev kX:=@callsIn_of_wp
abbrev VQ:=@Option.isSome_none
abbrev aqb:=@List.getElem_append_left
variable{zP:Prop}
structure ae(P:Prop):Prop where o:P
theorem ap{P:Program}{f:Nat}{a:Array Value}{w:World}{K:Ending→World→Prop}{x:Ending}{R:World→Prop}(h:Calls P f a w fun e w'=>e=x∧R w')(k:∀w',R w'→K x w'):Calls P f a w K:=h.mono (by rintro e w' ⟨rfl,hr⟩;exact k w' hr)
theorem tI{F:Fence}{n:Nat}{P:Program}{f:Nat}{a:Array Value}{w:World}{K:Ending→World→Prop}{x:Ending}{R:World→Prop}(h:CallsIn F n P f a w fun e w'=>e=x∧R w')(k:∀w',R w'→K x w'):CallsIn F n P f a w K:=h.mono (by rintro e w' ⟨rfl,hr⟩;exact k w' hr)
instance:CoeOut World Nat:=⟨fun w=>w.heap.size⟩
instance:Coe Nat Addr:=⟨fun g=>⟨g,0,none⟩⟩
instance{α:Type}:CoeOut (List α) Nat:=⟨List.length⟩
instance:CoeOut ByteArray Nat:=⟨ByteArray.size⟩
def tl(h:zP:=by exact⟨rfl,(hx1.alloc _).trans hx2⟩):zP:=h
def sd(h:zP:=by simpa using this):zP:=h
def gO(h:zP:=by simp[intOf];omega):zP:=h
def ft(h:zP:=by simp[hx]):zP:=h
def aE(h:zP:=by simp):zP:=h
def az(h:zP:=by decide):zP:=h
def bm(h:zP:=by go_num):zP:=h
def cT(h:zP:=by simpa using h):zP:=h
def bp(h:zP:=by simp;omega):zP:=h
def eJ(h:zP:=by simpa using hi):zP:=h
def ax(h:zP:=by kernel_rfl):zP:=h
def aq(h:zP:=by omega):zP:=h
def cq(h:zP:=by simp[go_sem]):zP:=h
end Go.Proofs.YtopfefhenfineaaGreat
namespace Go.Proofs.YtopfefhenfineaaGreat
open Go.Proofs.Tryz Go.RowKit
variable{zP:Prop}
abbrev Bk:=@List.getElem?_append_right
def tD(h:zP:=by rcases hu with rfl|rfl|rfl|rfl<;>rfl):zP:=h
def lP(h:zP:=by exact⟨rfl,((aj _).alloc _).trans hx1⟩):zP:=h
def kz(h:zP:=by exact⟨rfl,(aj _).alloc _⟩):zP:=h
def kf(h:zP:=by exact⟨0,aq,rfl,aj _,rfl⟩):zP:=h
def ke(h:zP:=by have j9:=ah heq;clear heq hx;go_wp2;go_ret;exact⟨by rw[j9.o];rfl,HX.o⟩):zP:=h
namespace V
variable{base c e g n:Nat}{α:Type}{xs:List α}
def mK{enc:α->List aA}(henc:∀x,(enc x).length=n)(xs:List α):(xs.flatMap enc).length=xs.length*n:=by
 induction xs with
 |nil=>simp
 |cons x xs ih=>simp only[eP,aH,henc,ih,aO,Nat.add_mul,Nat.one_mul];omega
def flat_get{α:Type}{n:Nat}{enc:α->List aA}(henc:∀x,(enc x).length=n):∀(xs:List α)(i j:Nat)(hi:i<xs)(_:j<n),(xs.flatMap enc)[i*n+j]?=(enc xs[i])[j]?
 |x::xs,0,j,_,hj=>by simp only[eP,Nat.zero_mul,cO,jc];rw[List.getElem?_append_left (by rw[henc];exact hj)]
 |x::xs,i+1,j,hi,hj=>by simp only[eP,iW];rw[Bk (by rw[henc,Nat.add_mul];omega),henc,show(i+1)*n+j-n=i*n+j by rw[Nat.add_mul];omega];exact flat_get henc xs i j eJ hj
def bY{w:ay}{enc:α->List aA}{v:aA}(henc:∀x,(enc x).length=n)(h:w.ownsRow base e n v xs (xs.flatMap enc)):Rd w n enc v xs:=by
 obtain⟨h1,h2⟩:=h;rcases h2 with⟨rfl,h0⟩|⟨g,cap,cur,rfl,hg,hh,hc,hm,hs,ht⟩
 ·exact⟨none,0,by rw[h0],aq,λ_=>rfl,λi hi=>absurd hi aq⟩
 ·refine⟨_,cap,rfl,hc,(λh=>by cases h),λi hi=>⟨g,0,rfl,λj hj=> ?_⟩⟩;rw[henc]at hj;have e1:(xs.flatMap enc)[i*n+j]?=(enc xs[i])[j]?:=flat_get henc xs i j hi hj;have hlt:i*n+j<xs.length*n:=by have:(i+1)*n<=xs.length*n:=eY n hi;rw[Nat.add_mul]at this;omega
  rw[<-ht,List.getElem?_take_of_lt hlt]at e1;have e2:w.cell? ⟨g,0+i*n+j,none⟩=cur.toList[i*n+j]?:=by simp[World.cell?,hh]
  rw[e2,e1,aJ (by rw[henc];exact hj)]
def oC(w:ay)(l:List aA)(t:dz):∀j u,l[j]?=some u->(w.alloc (.cells l.toArray t)).cell? ((w:Addr).add j)=some u:=by
 intro j u hu;have e:((w:Addr).add j)=⟨w,j,none⟩:=by unfold Addr.add;split<;>simp_all
 rw[e];have h2:(w.alloc (.cells l.toArray t)).heap[w.heap.size]?=some (.cells l.toArray t (0,0)):=aC w _;unfold World.cell?;dsimp only;rw[h2];simpa using hu
def yc(w:ay)(l:List aA)(t:dz)(g:Nat)(hg:g=w.heap.size):∀j u,l[j]?=some u->(w.alloc (.cells l.toArray t)).cell? ((g:Addr).add j)=some u:=by subst hg;exact oC w l t
def QO{α:Type}{n:Nat}{enc:α->List aA}(henc:∀x,(enc x).length=n):∀(xs:List α)(i j:Nat)(u:aA)(y:α)(hi:i<xs)(_:j<n),enc y=(enc xs[i]).set j u->(xs.flatMap enc).set (i*n+j) u=(xs.set i y).flatMap enc
 |x::xs,0,j,u,y,_,hj,e=>by simp only[eP,Nat.zero_mul,cO,List.set_cons_zero,jc]at e⊢;rw[List.set_append_left _ _ (by rw[henc];exact hj),e]
 |x::xs,i+1,j,u,y,hi,hj,e=>by simp only[eP,List.set_cons_succ,iW]at e⊢;rw[List.set_append_right _ _ (by rw[henc,Nat.add_mul];omega),henc,show(i+1)*n+j-n=i*n+j by rw[Nat.add_mul];omega];rw[QO henc xs i j u y eJ hj e]
def mo{w:ay}{enc:α->List aA}{v:aA}(h:w.ownsRow base e n v xs (xs.flatMap enc))(hp:0<xs.length):∃g c,v= .slice (some ⟨g,0,none⟩) xs c/\base<=g/\g<w.heap.size/\∀j,w.frozen? ⟨g,j,none⟩=false:=by
 obtain⟨h1,h2⟩:=h;rcases h2 with⟨_,h0⟩|⟨g,cap,cur,rfl,hg,hh,hc,hm,hs,ht⟩
 ·omega
 ·exact⟨g,cap,rfl,hg,(aB.1 hh).1,λj=>by simp[World.frozen?,hh]⟩
def kE{w:ay}{enc:α->List aA}(henc:∀x,(enc x).length=n)(h:w.ownsRow base e n (.slice (some g) xs c) xs (xs.flatMap enc))(i j:Nat)(u:aA)(y:α)(hi:i<xs)(hj:j<n)(he:enc y=(enc xs[i]).set j u):(w.setCell ⟨g,i*n+j,none⟩ u).ownsRow base e n (.slice (some g) xs c) xs ((xs.set i y).flatMap enc)/\w.grownBy (w.setCell ⟨g,i*n+j,none⟩ u) (some g):=by rw[<-QO henc xs i j u y hi hj he];exact World.ownsRow.stored h (i*n+j) u
end V
def wg(h:zP:=by go_ret;exact⟨rfl,(aj w).alloc _⟩):zP:=h
def vx(h:zP:=by go_in;go_wp2;go_ret;exact uk):zP:=h
def vq(h:zP:=by exact .inl rfl):zP:=h
def tf(h:zP:=by cases s;cases t;simp only[bytes]at h;congr;exact Array.toList_inj.1 h):zP:=h
def vl(h:zP:=by go_ret;exact⟨rfl,hx1⟩):zP:=h
def se(h:zP:=by rcases hu with rfl|rfl|rfl<;>rfl):zP:=h
def ri(h:zP:=by (repeat' split)<;>simp):zP:=h
def uv(h:zP:=by go_ret;refine⟨EN,EJ,aE,kM.o,?_⟩;simpa using EY.o):zP:=h
def pZ(h:zP:=by go_wp2_with fail;exact kA):zP:=h
def pT(h:zP:=by gi_wp2;go_end0;exact⟨⟨_,rfl⟩,.inl ⟨_,rfl,hJs⟩⟩):zP:=h
def pD(h:zP:=by exact⟨_,results_tmp rfl _ _ _,rfl,hB.trans (belowK_b (w:=w) (aD _) W D _ _ (by simp at hD;omega) hK rfl rfl)⟩):zP:=h
def pw(h:zP:=by obtain⟨rfl,hJs⟩:=hrel;gi_wp2;go_end0;exact⟨⟨_,rfl⟩,hJs⟩):zP:=h
def ul(h:zP:=by go_wp2_with fail;go_ret;exact⟨none,0,rfl,aj _,⟨rfl,.inl aE⟩⟩):zP:=h
def pd(h:zP:=by go_wp2_with fail;go_ret;rw[HS.o];exact⟨rfl,HX.o⟩):zP:=h
def nz(h:zP:=by obtain⟨a,c,h1,h2,h3,h4⟩:=h;refine⟨a,c,h1,h2,λi hi=> ?_⟩;obtain⟨b,o,e,k⟩:=h4 i hi;have:=k 0 (by simp[encI]);rw[eO]at this;exact⟨b,o,e,this⟩):zP:=h
def nj(h:zP:=by
 obtain⟨Bx,k1,k2,k3⟩:=hs;refine⟨Bx,k1,(hg.block Bx (aB.1 k2).1 (λe=> ?_)).trans k2,k3⟩;obtain⟨o,ho,hc⟩:=(hr Bx e.symm).2;rw[k2]at ho;cases ho
 cases hc):zP:=h
def mN(h:zP:=by
 intro j o hj ho;rcases h.2 with⟨rfl,_⟩|⟨g,cap,cur,rfl,_,hh,_⟩
 ·simp[Value.ownBlock]at hj
 ·simp only[Value.ownBlock,dw]at hj;subst hj;rw[hh]at ho;cases ho
  rfl):zP:=h
def mx(h:zP:=by rintro D c pre W _ _ h _;exact h.elim):zP:=h
def lA(h:zP:=by rw[List.find?_eq_none];intro x hx;obtain⟨j,hj,rfl⟩:=fZ hx;rw[h j hj];simp):zP:=h
def kA(h:zP:=by go_ret;exact⟨rfl,HX.o⟩):zP:=h
def uk(h:zP:=by exact⟨rfl,rfl⟩):zP:=h
def kt(h:zP:=by
 refine⟨_,cap,by rw[eD],by rw[eD];exact hc,(λe=>by cases e),λi hi=>⟨w.heap.size,0,rfl,λj hj=> ?_⟩⟩;have hj0:j=0:=by simp[m9]at hj;exact hj
 subst hj0;have hi':i<s.data.size:=by rw[eD]at hi;exact hi
 rw[show 0+i*1+0=i from aq,World.cell?_alloc_mark,bytesRow_at s cap i hi'];simp[m9,bytes]):zP:=h
def kq(h:zP:=by exact⟨rfl,aj _⟩):zP:=h
def kh(h:zP:=by unfold Rt;go_in;go_wp2;go_ret;exact⟨rfl,aj _⟩):zP:=h
def jb(h:zP:=by
 obtain⟨h1,h2⟩:=h;refine⟨h1,?_⟩;rcases h2 with h2|⟨g,cap,cur,hv,hg,r⟩
 ·exact .inl h2
 ·exact .inr ⟨g,cap,cur,hv,aq,r⟩):zP:=h
def cP(h:zP:=by dsimp only;omega):zP:=h
def cz(h:zP:=by unfold maxLen;simp):zP:=h
def cj(h:zP:=by repeat(first|exact HX.o|apply Ext.drewN|apply Ext.alloc|apply Ext.drew)):zP:=h
def dt(h:zP:=by rw[cZ];omega):zP:=h
def ek(h:zP:=by simpa using hl):zP:=h
def cQ(h:zP:=by rw[bC];omega):zP:=h
def eQ(h:zP:=by simp[qF]):zP:=h
def ev(h:zP:=by rw[aR];omega):zP:=h
def gm(h:zP:=by rw[henc];exact hm'):zP:=h
def bj(h:zP:=by as_aux_lemma=>kernel_rfl):zP:=h
def gh(h:zP:=by simp[j8]):zP:=h
def cG(h:zP:=by simp only;omega):zP:=h
def cH(h:zP:=by unfold maxLen;omega):zP:=h
def cy(h:zP:=by first|(simp;done)|(simp;omega)):zP:=h
namespace V
variable{P:Program}{a:Act}{base c c' e k m n:Nat}{o:Oper}{ops:Array Oper}{rest:List Oper}{α:Type}{xs ys:List α}
def Rd.cells{w:ay}{enc:α->List aA}(henc:∀x,(enc x).length=n){ad:Addr}(h:Rd w n enc (.slice (some ad) m c) ys):m=ys.length/\∀j u,(ys.flatMap enc)[j]?=some u->w.cell? (ad.add j)=some u:=by
 obtain⟨a,c',e,h1,h2,h3⟩:=h;simp only[aU]at e;obtain⟨rfl,rfl,rfl⟩:=e;refine⟨rfl,λj u hu=> ?_⟩;have hfl:=mK henc ys;have hj:=(List.getElem?_eq_some_iff.1 hu).1;rw[hfl]at hj;have hn0:0<n:=by
  rcases Nat.eq_zero_or_pos n with h0|h0
  ·rw[h0]at hj;omega
  ·exact h0
 have hi:j/n<ys.length:=Nat.div_lt_of_lt_mul (by rw[Nat.mul_comm];exact hj);have hm':j%n<n:=Nat.mod_lt _ hn0;have hjd:j=j/n*n+j%n:=by rw[Nat.mul_comm];exact(Nat.div_add_mod j n).symm
 obtain⟨b,o,e',hat⟩:=h3 (j/n) hi;obtain rfl:=bV e';have hcell:=hat (j%n) gm;have e1:=flat_get henc ys (j/n) (j%n) hi hm';rw[<-hjd,hu]at e1;have e2:(enc ys[j/n])[j%n]' gm=u:=by rw[aJ gm]at e1;exact(bV e1).symm
 rw[e2,show o+j/n*n+j%n=o+j from aq]at hcell;unfold Addr.add;split
 ·rename_i hj0;subst hj0;simpa using hcell
 ·exact hcell
def gI{enc:α->List aA}(henc:∀x,(enc x).length=n)(W:ay)(xs:List α)(t:dz)(g:Nat)(hg:g=W.heap.size):Rd (W.alloc (.cells (xs.flatMap enc).toArray t)) n enc (.slice (some g) xs xs) xs:=by
 refine⟨_,_,rfl,aD _,(λh=>by cases h),λi hi=>⟨_,_,rfl,λj hj=> ?_⟩⟩;have hj':j<n:=by rw[henc]at hj;exact hj
 have:=flat_get henc xs i j hi hj';have h2:=yc W (xs.flatMap enc) t g hg (i*n+j) _ (this.trans (aJ hj));have e:(g:Addr).add (i*n+j)=⟨g,0+i*n+j,none⟩:=by simp only[Addr.add];(split<;>simp_all)
 rw[e]at h2;exact h2
def afq(w:ay)(n:Nat)(enc:α->List aA):Rd w n enc (.slice none 0 0) ([]:List α):=⟨none,0,rfl,aD _,λ_=>rfl,λi hi=>by cases hi⟩
def nO{enc:α->List aA}(hone:∀x,∀u∈enc x,u.oneCell'=true)(xs:List α):∀u∈xs.flatMap enc,u.oneCell'=true:=λu hu=>by obtain⟨x,_,hx⟩:=List.mem_flatMap.1 hu;exact hone x u hx
def bU{w:ay}{v:aA}{zs:List aA}(h:w.ownsRow base e n v k zs):∃a c,v= .slice a k c:=by
 rcases h.2 with⟨rfl,rfl⟩|⟨g,cap,cur,rfl,_⟩
 ·exact⟨none,0,rfl⟩
 ·exact⟨_,_,rfl⟩
theorem tZ{W:ay}{t ty e:dz}{bytes:Nat}{z:aA}(hu:P.underlying t=some (.slice e))(hinfo:(P.info? e).map (λi=>(i.zero,i.size,i.bytes))=some (some z,n,bytes))(hzs:z.cells.size=n)(hn:0<n){enc:α->List aA}(henc:∀x,(enc x).length=n)(hone:∀x,∀u∈enc x,u.oneCell'=true){u v:aA}(hown:W.ownsRow base e n u xs (xs.flatMap enc))(hrd:Rd W n enc v ys)(h63:xs.length+ys<=100000000)(hbytes:bytes<=1000000)(hbase:base<=W.heap.size):∃au cu w',(Builtin.append_ #[t,t] ty #[u,v]).run P W= .ok (.slice au (xs.length+ys) cu) w'/\w'.ownsRow base e n (.slice au (xs.length+ys) cu) (xs.length+ys) ((xs++ys).flatMap enc)/\W.grownBy w' u.ownBlock:=by
 obtain⟨i0,hi,hz0,hz1,hz2⟩:=jo hinfo;obtain⟨a,c,rfl,hle,hnil,hel⟩:=id hrd;cases a with
 |none=>obtain rfl:=hnil rfl;have hys:ys=[]:=bG aq;subst hys;obtain⟨au,cu,rfl⟩:=bU hown;refine⟨au,cu,W,run_append_owned_none (w:=W) base t ty e i0 n hu hi _ _ _ hown,?_,World.grownBy.refl W _⟩;simpa using hown
 |some ad=>obtain⟨-,hcells⟩:=hrd.cells henc;have hb2:(xs.length+ys)*bytes<=100000000*1000000:=Nat.mul_le_mul h63 hbytes;obtain⟨v',w',hr,h2,h3,-⟩:=run_append_own (P:=P) W base t ty e i0 z n bytes hu hi hz0 hz1 hz2 hzs hn u xs _ hown ad ys c (ys.flatMap enc) (mK henc ys) hcells (nO hone ys) cH aq hbase;obtain⟨au,cu,rfl⟩:=bU h2;exact⟨au,cu,w',hr,by rw[iO];exact h2,h3⟩
theorem Ov{W:ay}{K:Act->ay->Prop}{Q:Exit->Act->ay->Prop}(s x:Operand)(t:dz)(ho:o.op= .call {callee:= .builtin .append,args:= #[s,x],argTypes:= #[t,t]}){e:dz}{bytes:Nat}{z:aA}(hu:P.underlying t=some (.slice e))(hinfo:(P.info? e).map (λi=>(i.zero,i.size,i.bytes))=some (some z,n,bytes))(hzs:z.cells.size=n)(hn:0<n){enc:α->List aA}(henc:∀x,(enc x).length=n)(hone:∀x,∀u∈enc x,u.oneCell'=true)(base:Nat)(u v:aA)(xs ys:List α)(hs:a.eval s=u)(hx:a.eval x=v)(hown:W.ownsRow base e n u xs (xs.flatMap enc))(hrd:Rd W n enc v ys)(h63:xs.length+ys<=100000000)(hbytes:bytes<=1000000)(hbase:base<=W.heap.size)(h:∀au cu w',w'.ownsRow base e n (.slice au (xs.length+ys) cu) (xs.length+ys) ((xs++ys).flatMap enc)->W.grownBy w' u.ownBlock->K (a.put o.dst (.slice au (xs.length+ys) cu)) w'):o.wp P a W K Q:=by obtain⟨au,cu,w',hr,h2,h3⟩:=tZ (P:=P) (ty:=o.type) hu hinfo hzs hn henc hone hown hrd h63 hbytes hbase;unfold Oper.wp execOp;simp only[ho,resolve,invoke,builtin,Sem.run_bind,Sem.run_pure,Result.andThen_ok,List.map_toArray,bS,eU,hs,hx,hr];exact h au cu w' h2 h3
theorem iX{W:ay}{Q:Exit->Act->ay->Prop}(hgd:o.guard=none)(s x:Operand)(t:dz)(ho:o.op= .call {callee:= .builtin .append,args:= #[s,x],argTypes:= #[t,t]}){e:dz}{bytes:Nat}{z:aA}(hu:P.underlying t=some (.slice e))(hinfo:(P.info? e).map (λi=>(i.zero,i.size,i.bytes))=some (some z,n,bytes))(hzs:z.cells.size=n)(hn:0<n){enc:α->List aA}(henc:∀x,(enc x).length=n)(hone:∀x,∀u∈enc x,u.oneCell'=true)(base:Nat)(u v:aA)(xs ys:List α)(hs:a.eval s=u)(hx:a.eval x=v)(hown:W.ownsRow base e n u xs (xs.flatMap enc))(hrd:Rd W n enc v ys)(h63:xs.length+ys<=100000000)(hbytes:bytes<=1000000)(hbase:base<=W.heap.size)(h:∀au cu w',w'.ownsRow base e n (.slice au (xs.length+ys) cu) (xs.length+ys) ((xs++ys).flatMap enc)->W.grownBy w' u.ownBlock->wpList P ops Q rest (a.put o.dst (.slice au (xs.length+ys) cu)) w'):wpList P ops Q (o::rest) a W:=
 wpList_plain hgd λ_ hK=>Ov s x t ho hu hinfo hzs hn henc hone base u v xs ys hs hx hown hrd h63 hbytes hbase λau cu w' h2 h3=>hK _ _ (h au cu w' h2 h3)
theorem pI{W:ay}{K:Act->ay->Prop}{Q:Exit->Act->ay->Prop}{E:Prop}(hgd:o.guard=none)(s x:Operand)(t:dz)(ho:o.op= .call {callee:= .builtin .append,args:= #[s,x],argTypes:= #[t,t]}){e:dz}{bytes:Nat}{z:aA}(hu:P.underlying t=some (.slice e))(hinfo:(P.info? e).map (λi=>(i.zero,i.size,i.bytes))=some (some z,n,bytes))(hzs:z.cells.size=n)(hn:0<n){enc:α->List aA}(henc:∀x,(enc x).length=n)(hone:∀x,∀u∈enc x,u.oneCell'=true)(base:Nat)(u v:aA)(xs ys:List α)(hs:a.eval s=u)(hx:a.eval x=v)(hown:W.ownsRow base e n u xs (xs.flatMap enc))(hrd:Rd W n enc v ys)(h63:xs.length+ys<=100000000)(hbytes:bytes<=1000000)(hbase:base<=W.heap.size)(h:∀au cu w',w'.ownsRow base e n (.slice au (xs.length+ys) cu) (xs.length+ys) ((xs++ys).flatMap enc)->W.grownBy w' u.ownBlock->K (a.put o.dst (.slice au (xs.length+ys) cu)) w'):if Region.wanted o (yielded ops a.tmps)=true then Oper.wp P o a W K Q else E:=by
 have hw:Region.wanted o (yielded ops a.tmps)=true:=by simp[Region.wanted,hgd]
 rw[aV hw];exact Ov s x t ho hu hinfo hzs hn henc hone base u v xs ys hs hx hown hrd h63 hbytes hbase h
def jJ{enc:α->List aA}(henc:∀x,(enc x).length=n)(W:ay)(xs:List α)(e g base:Nat)(hg:g=W.heap.size)(hb:base<=W.heap.size)(hm:xs.length<=maxLen):(W.alloc (.cells (xs.flatMap enc).toArray e)).ownsRow base e n (.slice (some g) xs xs) xs (xs.flatMap enc):=by subst hg;refine⟨mK henc xs,.inr ⟨_,_,_,rfl,hb,aC W _,aD _,hm,by simp[mK henc xs],?_⟩⟩;rw[<-mK henc xs];exact bZ
def rG{w:ay}{v:aA}{zs:List aA}(h:w.ownsRow base e n v k zs)(m:Nat):(w.drewN m).ownsRow base e n v k zs:=⟨h.1,by rw[heap_drewN];exact h.2⟩
def fO{w w':ay}{S:Nat->Prop}{v:aA}{zs:List aA}(h:w.ownsRow base e n v k zs)(hk:Keep S w w')(hs:∀b,v.ownBlock=some b->S b):w'.ownsRow base e n v k zs:=by
 refine⟨h.1,?_⟩;rcases h.2 with h2|⟨g,cap,cur,rfl,hg,hh,r⟩
 ·exact .inl h2
 ·exact .inr ⟨g,cap,cur,rfl,hg,(hk.block g (hs g rfl)).trans hh,r⟩
theorem Yc{W:ay}{K:Act->ay->Prop}{Q:Exit->Act->ay->Prop}(s x:Operand)(t:dz)(ho:o.op= .call {callee:= .builtin .append,args:= #[s,x],argTypes:= #[t,t]}){e:dz}{bytes:Nat}{z:aA}(hu:P.underlying t=some (.slice e))(hinfo:(P.info? e).map (λi=>(i.zero,i.size,i.bytes))=some (some z,n,bytes))(hzs:z.cells.size=n)(hn:0<n){enc:α->List aA}(henc:∀x,(enc x).length=n)(hone:∀x,∀u∈enc x,u.oneCell'=true)(w0:ay)(u v:aA)(xs ys:List α)(hs:a.eval s=u)(hx:a.eval x=v)(hown:W.ownsRow w0 e n u xs (xs.flatMap enc))(hrd:Rd W n enc v ys)(h63:xs.length+ys<=100000000)(hbytes:bytes<=1000000)(hE:Ext w0 W)(h:∀au cu w',w'.ownsRow w0 e n (.slice au (xs.length+ys) cu) (xs.length+ys) ((xs++ys).flatMap enc)->Ext w0 w'->K (a.put o.dst (.slice au (xs.length+ys) cu)) w'):o.wp P a W K Q:=by have hlo:=hown.lt;obtain⟨au,cu,w',hr,h2,h3⟩:=tZ (P:=P) (ty:=o.type) hu hinfo hzs hn henc hone hown hrd h63 hbytes hE.size;unfold Oper.wp execOp;simp only[ho,resolve,invoke,builtin,Sem.run_bind,Sem.run_pure,Result.andThen_ok,List.map_toArray,bS,eU,hs,hx,hr];exact h au cu w' h2 (hE.grown h3 (λk e=>(hlo k e).1))
theorem jH{W:ay}{Q:Exit->Act->ay->Prop}(hgd:o.guard=none)(s x:Operand)(t:dz)(ho:o.op= .call {callee:= .builtin .append,args:= #[s,x],argTypes:= #[t,t]}){e:dz}{bytes:Nat}{z:aA}(hu:P.underlying t=some (.slice e))(hinfo:(P.info? e).map (λi=>(i.zero,i.size,i.bytes))=some (some z,n,bytes))(hzs:z.cells.size=n)(hn:0<n){enc:α->List aA}(henc:∀x,(enc x).length=n)(hone:∀x,∀u∈enc x,u.oneCell'=true)(w0:ay)(u v:aA)(xs ys:List α)(hs:a.eval s=u)(hx:a.eval x=v)(hown:W.ownsRow w0 e n u xs (xs.flatMap enc))(hrd:Rd W n enc v ys)(h63:xs.length+ys<=100000000)(hbytes:bytes<=1000000)(hE:Ext w0 W)(h:∀au cu w',w'.ownsRow w0 e n (.slice au (xs.length+ys) cu) (xs.length+ys) ((xs++ys).flatMap enc)->Ext w0 w'->wpList P ops Q rest (a.put o.dst (.slice au (xs.length+ys) cu)) w'):wpList P ops Q (o::rest) a W:=
 wpList_plain hgd λ_ hK=>Yc s x t ho hu hinfo hzs hn henc hone w0 u v xs ys hs hx hown hrd h63 hbytes hE λau cu w' h2 h3=>hK _ _ (h au cu w' h2 h3)
def Rd.take{w:ay}{enc:α->List aA}{a:Option Addr}(h:Rd w n enc (.slice a m c) xs)(hk:k<=xs)(hc:k<=c')(hn:a=none->c'=0):Rd w n enc (.slice a k c') (xs.take k):=by
 obtain⟨a',c0,e,h1,h2,h3⟩:=h;simp only[aU]at e;obtain⟨rfl,rfl,rfl⟩:=e;have hl:(xs.take k).length=k:=by rw[bC];omega
 refine⟨a,c',by rw[hl],aq,hn,λi hi=> ?_⟩;obtain⟨b,o,e,hat⟩:=h3 i aq;exact⟨b,o,e,by rw[List.getElem_take];exact hat⟩
def Rd.drop{w:ay}{enc:α->List aA}{a:Option Addr}(h:Rd w n enc (.slice a m c) xs)(hk:k<=xs){a':Option Addr}(ha:k<xs->a'=a.map (·.add (k*n)))(hn:a'=none->c'=0)(hc:xs.length-k<=c'):Rd w n enc (.slice a' (xs-k) c') (xs.drop k):=by
 obtain⟨a0,c0,e,h1,h2,h3⟩:=h;simp only[aU]at e;obtain⟨rfl,rfl,rfl⟩:=e;have hl:(xs.drop k).length=xs.length-k:=by rw[cZ]
 refine⟨a',c',by rw[hl],aq,hn,λi hi=> ?_⟩;obtain⟨b,o,rfl,hat⟩:=h3 (k+i) aq;refine⟨b,o+k*n,?_,?_⟩
 ·rw[ha aq];simp only[dN,Addr.add];split
  ·rename_i h0;rw[h0];rfl
  ·rfl
 ·rw[List.getElem_drop];rw[Nat.add_mul,<-Nat.add_assoc]at hat;exact hat
end V
open V
namespace LT
variable{B g n:Nat}{α:Type}
def bytes(s:aK):List aZ:=s.data.toList
def str(l:List aZ):aK:=⟨l.toArray⟩
def eD(s:aK):(bytes s).length=s.size:=rfl
def kI(l:List aZ):(str l).size=l.length:=rfl
def bytes_inj{s t:aK}(h:bytes s=bytes t):s=t:=tf
def iE(l:List aZ):bytes (str l)=l:=by simp[bytes,str]
def nY(s:aK):str (bytes s)=s:=bytes_inj (iE _)
def sU(t s:aK):(t.toList==s.toList)=(bytes t==bytes s):=by rw[Lib.toList_data,Lib.toList_data];rfl
def OP(l:List aZ):(str l).toList=l:=by rw[Lib.toList_data];simp[str]
def oh{α:Type}{p:α->Bool}:∀ {l:List α} {i:Nat} (h:i<l),(∀(j:Nat)(hj:j<l),j<i->p l[j]=false)->p l[i]=true->l.find? p=some l[i]
 |x::r,0,_,_,hp=>by simp at hp;simp[List.find?,hp]
 |x::r,i+1,h,hn,hp=>by have h0:p x=false:=hn 0 aE aq;have:=oh (p:=p) (l:=r) (i:=i) (Nat.lt_of_succ_lt_succ h) (λj hj hji=>hn (j+1) (Nat.succ_lt_succ hj) aq) hp;simp[List.find?,h0,this]
def tu{p:α->Bool}{l:List α}(h:∀(j:Nat)(hj:j<l),p l[j]=false):l.find? p=none:=lA
def iG{α:Type}(p:α->Bool):List α->Nat->Int
 | [],_=> -1
 |x::r,k=>if p x=true then(k:Int)else iG p r (k+1)
def qX{α:Type}(p:α->Bool):∀(l:List α)(k:Nat),(iG p l k= -1/\l.find? p=none/\l.any p=false)\/∃i,∃h:i<l.length,iG p l k=((k+i:Nat):Int)/\l.find? p=some l[i]/\p l[i]=true/\l.any p=true
 | [],_=> .inl ⟨rfl,rfl,rfl⟩
 |x::r,k=>by
  unfold iG;rw[List.find?_cons,List.any_cons];cases hp:p x
  ·rw[aN aE];rcases qX p r (k+1)with⟨h1,h2,h3⟩|⟨i,hi,h1,h2,h3,h4⟩
   ·exact .inl ⟨h1,h2,by rw[h3];rfl⟩
   ·exact .inr ⟨i+1,by simp;omega,by rw[h1];congr 1;omega,h2,h3,by rw[h4];rfl⟩
  ·rw[aV rfl];exact .inr ⟨0,aE,rfl,rfl,hp,rfl⟩
def zA{enc:α->List aA}(henc:∀x,(enc x).length=n){W:ay}{t:dz}{fz:Nat×Nat}(xs:List α)(h:W.heap[B]?=some (.cells (xs.flatMap enc).toArray t fz)):Rd W n enc (.slice (some B) xs xs) xs:=by
 refine⟨_,_,rfl,aD _,(λh=>by cases h),λi hi=>⟨_,_,rfl,λj hj=> ?_⟩⟩;have hj':j<n:=by rw[henc]at hj;exact hj
 have h2:=flat_get henc xs i j hi hj';rw[aJ hj]at h2;simp only[World.cell?,h,cO];simpa using h2
theorem fG{P:Program}{fn:Func}{p u:Tmp}{ty:dz}(h:fn.results= #[.cell p ty,.tmp u])(tmps:Array aA)(w:ay)(g:Nat)(t:dz)(cs:Array aA)(fr:Nat×Nat)(d:TypeDesc)
 (hp:tmps.getD p undef= .pointer (some g)) (hg:w.heap[g]?=some (.cells cs t fr))
 (hu:P.underlying ty=some d) (hd:(match d with| .struct _| .array _ _=>true|_=>false)=true) (hi:(P.info? ty).map (·.size)=some cs.size):
 (results fn tmps).run P w= .ok (.tuple #[.agg cs,tmps.getD u undef]) w:=by
 rw[results_cell_tmp h,hp];simp[asAddr,run_loadVar_row w g t ty cs fr d hg hu hd hi,Result.andThen]
def eB{a w:ay}(h:Ext a w)(hg:a.heap.size<=g)(cs:Array aA):Ext a (w.setRow g cs):=
 ⟨h.os,h.tape,h.output,by rw[setRow_size];exact h.size,λk hk=>(fJ w g k cs aq).trans (h.block hk)⟩
def aI{w w1:ay}{o:Obj}(hb:w.heap[B]?=some o)(hx:Ext w w1):w1.heap[B]?=some o:=(hx.block (aB.1 hb).1).trans hb
end LT
def vj(h:zP:=by rw[hr]at hr';simp only[Result.ok.injEq,aU]at hr';exact⟨g,hr'.1.1,.inl rfl⟩):zP:=h
namespace V
theorem O2{α:Type}{P:Program}{W:ay}{t ty e:dz}{n bytes:Nat}{z:aA}(hu:P.underlying t=some (.slice e))(hinfo:(P.info? e).map (λi=>(i.zero,i.size,i.bytes))=some (some z,n,bytes))(hzs:z.cells.size=n)(hn:0<n){enc:α->List aA}(henc:∀x,(enc x).length=n)(hone:∀x,∀u∈enc x,u.oneCell'=true){base g cap:Nat}{v:aA}{xs ys:List α}(hown:W.ownsRow base e n (.slice (some g) xs cap) xs (xs.flatMap enc))(hrd:Rd W n enc v ys)(h63:xs.length+ys<=100000000)(hbytes:bytes<=1000000)(hbase:base<=W.heap.size):∃gu cu w',(Builtin.append_ #[t,t] ty #[.slice (some g) xs cap,v]).run P W= .ok (.slice (some ⟨gu,0,none⟩) (xs.length+ys) cu) w'/\w'.ownsRow base e n (.slice (some ⟨gu,0,none⟩) (xs.length+ys) cu) (xs.length+ys) ((xs++ys).flatMap enc)/\W.grownBy w' (some g)/\(gu=g\/gu=W.heap.size):=by
 obtain⟨au,cu,w',hr,h2,h3⟩:=tZ (P:=P) (ty:=ty) hu hinfo hzs hn henc hone hown hrd h63 hbytes hbase;have key:∃gu,au=some ⟨gu,0,none⟩/\(gu=g\/gu=W.heap.size):=by
  obtain⟨i0,hi,hz0,hz1,hz2⟩:=jo hinfo;obtain⟨a,c,rfl,hle,hnil,hel⟩:=id hrd;cases a with
  |none=>obtain rfl:=hnil rfl;have hys:ys=[]:=bG aq;subst hys;have hr':=run_append_owned_none (P:=P) (w:=W) base t ty e i0 n hu hi _ _ _ hown;simp only[bD]at hr;exact vj
  |some ad=>
   obtain⟨-,hcells⟩:=hrd.cells henc;have hfl:=mK henc ys;have hb2:(xs.length+ys)*bytes<=100000000*1000000:=Nat.mul_le_mul h63 hbytes;subst hz1;subst hz2;rcases hown.2 with⟨h,-⟩|⟨g',cap',cur,hv,hbg,hg,hnc,hcm,hcs,htake⟩
   ·cases h
   simp only[aU,dw,gD,and_true,true_and]at hv;obtain⟨rfl,rfl⟩:=hv;by_cases hroom:xs.length+ys<=cap
   ·have hfit:xs.length*i0.size+(ys.flatMap enc).length<=cur.size:=by rw[hfl,hcs,<-Nat.add_mul];exact eY _ hroom
    have hr':=run_append_room (P:=P) (w:=W) t ty e i0 hu hi g xs cap cur hg ad ys c (ys.flatMap enc) hfl hcells (nO hone ys) hroom hfit;exact vj
   ·have holds:∀j u,(xs.flatMap enc)[j]?=some u->W.cell? ((g:Addr).add j)=some u:=hown.cells (g:=g) rfl;have hr':=run_append_grow (P:=P) (w:=W) t ty e i0 z hu hi hz0 ⟨g,0,none⟩ xs cap (xs.flatMap enc) hown.1 holds ad ys c (ys.flatMap enc) hfl hcells aq aq (growslice_fits aq aq);rw[hr]at hr';simp only[Result.ok.injEq,aU]at hr';exact⟨W.heap.size,hr'.1.1,.inr rfl⟩
 obtain⟨gu,rfl,hgu⟩:=key;exact⟨gu,cu,w',hr,h2,h3,hgu⟩
end V
def ci(h:zP:=by decide+kernel):zP:=h
namespace LT
structure Ca where
 nm:List aZ
 n0:Int
 n1:Int
 n2:Int
 n3:Int
 n4:Int
 n5:Int
deriving DecidableEq
def kZ:List Ca:= [⟨[98,105,110,100],49,361,49,282,200,200⟩,⟨[98,112,102],321,357,321,386,280,280⟩,⟨[98,114,107],12,45,12,45,214,214⟩,⟨[99,108,111,99,107,95,115,101,116,116,105,109,101],227,264,227,262,112,112⟩,⟨[99,108,111,110,101],56,120,56,120,220,220⟩,⟨[99,108,111,110,101,51],435,435,(-1),435,435,435⟩,⟨[99,108,111,115,101],3,6,3,6,57,57⟩,⟨[99,111,110,110,101,99,116],42,362,42,283,203,203⟩,⟨[100,101,108,101,116,101,95,109,111,100,117,108,101],176,129,176,129,106,106⟩,⟨[101,120,101,99,118,101],59,11,520,11,221,221⟩,⟨[101,120,105,116],60,1,60,1,93,93⟩,⟨[102,105,110,105,116,95,109,111,100,117,108,101],313,350,313,379,273,273⟩,⟨[102,111,114,107],57,2,57,2,(-1),(-1)⟩,⟨[103,101,116,117,105,100],102,24,102,24,174,174⟩,⟨[105,110,105,116,95,109,111,100,117,108,101],175,128,(-1),128,105,105⟩,⟨[105,111,99,116,108],16,54,514,54,29,29⟩,⟨[107,105,108,108],62,37,62,37,129,129⟩,⟨[108,105,115,116,101,110],50,363,50,284,201,201⟩,⟨[109,109,97,112],9,90,9,(-1),222,222⟩,⟨[109,111,117,110,116],165,21,165,21,40,40⟩,⟨[109,112,114,111,116,101,99,116],10,125,10,125,226,226⟩,⟨[109,117,110,109,97,112],11,91,11,91,215,215⟩,⟨[111,112,101,110],2,5,2,5,(-1),(-1)⟩,⟨[111,112,101,110,97,116],257,295,257,322,56,56⟩,⟨[112,101,114,115,111,110,97,108,105,116,121],135,136,135,136,92,92⟩,⟨[112,107,101,121,95,109,112,114,111,116,101,99,116],329,380,329,394,288,(-1)⟩,⟨[112,116,114,97,99,101],101,26,521,26,117,117⟩,⟨[114,101,97,100],0,3,0,3,63,63⟩,⟨[114,101,98,111,111,116],169,88,169,88,142,142⟩,⟨[115,99,104,101,100,95,115,101,116,97,116,116,114],314,351,314,380,274,274⟩,⟨[115,99,104,101,100,95,115,101,116,115,99,104,101,100,117,108,101,114],144,156,144,156,119,119⟩,⟨[115,101,99,99,111,109,112],317,354,317,383,277,277⟩,⟨[115,101,116,110,115],308,346,308,375,268,268⟩,⟨[115,101,116,116,105,109,101,111,102,100,97,121],164,79,164,79,170,170⟩,⟨[115,101,116,117,105,100],105,23,105,23,146,146⟩,⟨[115,104,109,97,116],30,397,(-1),305,196,196⟩,⟨[115,111,99,107,101,116],41,359,41,281,198,198⟩,⟨[117,109,111,117,110,116,50],166,52,166,52,39,39⟩,⟨[117,110,115,104,97,114,101],272,310,272,337,97,97⟩,⟨[119,114,105,116,101],1,4,1,4,64,64⟩]
def Ca.nr(e:Ca)(a:Int):Int:=if a=0 then e.n0 else if a=1 then e.n1 else if a=2 then e.n2 else if a=3 then e.n3 else if a=4 then e.n4 else e.n5
def lu(s:List aZ):Bool:=(kZ.find? (λe=>e.nm==s)).isSome
def yF:Ca:=⟨[],0,0,0,0,0,0⟩
def Wx(e:Ca)(a:Int):Nat×Bool:=if (a<0\/6<=a)\/e.nr a<0 then(0,false)else(if a=2 then(e.nr a).toNat|||1073741824 else(e.nr a).toNat,true)
def Es(a:Int)(s:List aZ):Nat×Int:=match kZ.find? (λe=>e.nm==s)with
 |none=>(0,90)
 |some e=>if (Wx e a).2=true then((Wx e a).1,0)else(0,90)
def Rm:∀e∈kZ,e.nm.length<=32/\e.n0<1000/\e.n1<1000/\e.n2<1000/\e.n3<1000/\e.n4<1000/\e.n5<1000:=ci
end LT
def tw(h:zP:=by exact key _ bj bj):zP:=h
def td(h:zP:=by exact⟨by rw[Ea.o];rfl,by repeat(first|exact HX.o|apply Ext.alloc)⟩):zP:=h
def pC(h:zP:=by
 rw[results_cell_tmp hr,h2,h3];show(((loadVar T ⟨B,0,none⟩).run prog _).andThen _)=_;rw[acr hz hu s0 s1 s2]
 rfl):zP:=h
def ph(h:zP:=by
 go_wp2_with fail;go_roundw
 case rel=>exact⟨i+1,aq,bm,hnext rfl,by repeat(first|exact HX.o|apply Ext.alloc)⟩
 case measure=>exact gO):zP:=h
def oT(h:zP:=by intro w2 hx2;go_wp2_with fail;go_ret2;exact tl):zP:=h
def lE(h:zP:=by obtain⟨a,c,h1,h2,h3,h4⟩:=h;refine⟨a,c,h1,h2,λi hi=> ?_⟩;obtain⟨b,o,e,k⟩:=h4 i hi;have k0:=k 0 (by simp[vO]);have k1:=k 1 (by simp[vO]);exact⟨b,o,e,by simpa[vO]using k0,by simpa[vO]using k1⟩):zP:=h
def kO(h:zP:=by have hb:w1.heap[w.heap.size]?=some (.cells #[a,b,c] t (0,0)):=(hx.block aE).trans (aC w _);refine⟨by simp[World.cell?,hb],by simp[World.cell?,hb],by simp[World.cell?,hb],by simp[World.frozen?,hb],by simp[World.frozen?,hb],by simp[World.frozen?,hb],(aB.1 hb).1⟩):zP:=h
def iu(h:zP:=by
 refine⟨?_,?_,?_⟩
 ·rw[dG _ ⟨B,2,none⟩ ⟨B,0,none⟩ _ (λe=>by cases e),dG _ ⟨B,1,none⟩ ⟨B,0,none⟩ _ (λe=>by cases e),jT _ _ _ c0]
 ·rw[dG _ ⟨B,2,none⟩ ⟨B,1,none⟩ _ (λe=>by cases e)];exact jT _ _ _ ((dG _ ⟨B,0,none⟩ ⟨B,1,none⟩ _ (λe=>by cases e)).trans c1)
 ·exact jT _ _ _ ((dG _ ⟨B,1,none⟩ ⟨B,2,none⟩ _ (λe=>by cases e)).trans ((dG _ ⟨B,0,none⟩ ⟨B,2,none⟩ _ (λe=>by cases e)).trans c2))):zP:=h
def gC(h:zP:=by
 obtain⟨R,hR⟩:∃R,R=j7 l (bytes s) no:=⟨_,rfl⟩;rw[<-hR];clear hv;have A8:=ah hR;have EW:=ah hc;clear hR hc;unfold Rt;go_in;go_wp2_with fail;go_loopw [13] (λu wr=>∃i:Nat,i<=l/\u= .int .i64 i/\(∀(j:Nat) (hj:j<l),j<i->(l[j].1==bytes s)=false)/\Ext w wr) (λu _=>l.length-(intOf u).toNat)
 case atStart=>exact⟨0,bP _,rfl,λj _ h=>aq,aj _⟩
 case round=>exact gr):zP:=h
def gr(h:zP:=by
 obtain⟨i,hi,rfl,hall,hx⟩:=hrel;have qC:=ah hall;clear hall;have HX:=ah hx;by_cases hlt:i<l
 ·obtain⟨b,o,rfl,d0,d1⟩:=EW.o i hlt;replace d0:=hx.cell d0;replace d1:=hx.cell d1;have hz:(i:Int)<l:=aq;have hwi:IntKind.i64.wrap ((i:Int)+1)=(i:Int)+1:=IntWalk.i64_in _ aq;have hat:(l[i].1==bytes s)=true->R=(l[i].2,0):=λh=>by rw[A8.o];unfold j7;rw[oh (p:=λx=>x.1==bytes s) hlt qC.o h]
  have hnext:(l[i].1==bytes s)=false->∀(j:Nat) (hj:j<l.length),j<i+1->(l[j].1==bytes s)=false:=λhbf j hj h=>by
   by_cases hji:j=i
   ·subst hji;exact hbf
   ·exact qC.o j hj aq
  have hsb:=sU (str l[i].1) s;rw[iE]at hsb;clear hx;generalize hxi:l[i]=x at *;obtain⟨t,n⟩:=x;dsimp only at d0 d1 hsb hnext hat;cases hb:t==bytes s
  ·rw[hb]at hsb hnext;clear hb hxi hat;generalize str t=st at *;exact ph
  ·rw[hb]at hsb hat;have hf:=hat rfl;have Ea:=ah hf;clear hf hb hxi hnext hat;generalize str t=st at *;go_wp2_with fail;go_ret2;exact td
 ·obtain rfl:i=l.length:=aq;have hz:¬((l:Int)<l):=aq;have hf:R=(0,no):=by rw[A8.o];unfold j7;rw[tu (p:=λx=>x.1==bytes s) (λj hj=>qC.o j hj hj)]
  have Ea:=ah hf;clear hf hx;go_wp2_with fail;go_ret2;exact⟨by rw[Ea.o];rfl,HX.o⟩):zP:=h
namespace V
theorem bT{P:Program}{ops:Array Oper}{rest:List Oper}{o:Oper}{a:Act}{w:ay}{Q:Exit->Act->ay->Prop}{parts:Array (Nat×Operand)}(t:dz)(d:Tmp)(cells:Array aA)(h:wpList P ops Q rest (a.put (some d) (.agg cells)) w)(hg:o.guard=none:=by rfl)(ho:o.op= .build t parts:=by rfl)(hd:o.dst=some d:=by rfl)(hf:P.built t (parts.map λ(i,x)=>(i,a.eval x)).toList=some cells:=by as_aux_lemma=>kernel_rfl):wpList P ops Q (o::rest) a w:=wpList_buildTo hg t parts ho (some d) hd cells hf h
end V
namespace LT
def xS:List (List aZ×List (List aZ)):= [([64,98,97,115,105,99,45,105,111],[[114,101,97,100],[119,114,105,116,101],[99,108,111,115,101]]),([64,99,108,111,99,107],[[99,108,111,99,107,95,115,101,116,116,105,109,101],[115,101,116,116,105,109,101,111,102,100,97,121]]),([64,100,101,98,117,103],[[112,116,114,97,99,101],[112,101,114,115,111,110,97,108,105,116,121]]),([64,102,105,108,101],[[64,98,97,115,105,99,45,105,111],[111,112,101,110],[111,112,101,110,97,116],[105,111,99,116,108]]),([64,109,101,109,111,114,121],[[98,114,107],[109,109,97,112],[109,112,114,111,116,101,99,116],[109,117,110,109,97,112],[112,107,101,121,95,109,112,114,111,116,101,99,116],[115,104,109,97,116]]),([64,109,111,100,117,108,101],[[100,101,108,101,116,101,95,109,111,100,117,108,101],[102,105,110,105,116,95,109,111,100,117,108,101],[105,110,105,116,95,109,111,100,117,108,101]]),([64,109,111,117,110,116],[[109,111,117,110,116],[117,109,111,117,110,116,50]]),([64,110,101,115,116],[[64,110,101,115,116,45,50],[107,105,108,108]]),([64,110,101,115,116,45,50],[[64,110,101,115,116,45,51],[103,101,116,117,105,100]]),([64,110,101,115,116,45,51],[[64,110,101,115,116,45,52],[115,101,116,117,105,100]]),([64,110,101,115,116,45,52],[[64,110,101,115,116,45,53],[101,120,105,116]]),([64,110,101,115,116,45,53],[[114,101,97,100]]),([64,110,101,116,119,111,114,107],[[98,105,110,100],[99,111,110,110,101,99,116],[108,105,115,116,101,110],[115,111,99,107,101,116]]),([64,112,114,105,118,105,108,101,103,101,100],[[64,99,108,111,99,107],[64,109,111,100,117,108,101],[64,109,111,117,110,116],[64,114,101,98,111,111,116],[98,112,102],[115,101,116,117,105,100]]),([64,112,114,111,99,101,115,115],[[99,108,111,110,101],[99,108,111,110,101,51],[101,120,101,99,118,101],[101,120,105,116],[102,111,114,107],[107,105,108,108],[115,101,116,110,115],[117,110,115,104,97,114,101]]),([64,114,101,98,111,111,116],[[114,101,98,111,111,116]]),([64,114,101,115,111,117,114,99,101,115],[[115,99,104,101,100,95,115,101,116,97,116,116,114],[115,99,104,101,100,95,115,101,116,115,99,104,101,100,117,108,101,114]]),([64,115,121,115,116,101,109],[[64,102,105,108,101],[64,109,101,109,111,114,121],[64,110,101,116,119,111,114,107],[64,112,114,111,99,101,115,115],[103,101,116,117,105,100]])]
def xI(s:List aZ):Option (List (List aZ)):=(xS.find? (λg=>g.1==s)).map (·.2)
def Xx:Nat->List aZ->Nat
 |0,_=>0
 |k+1,s=>match xI s with
  |none=>0
  |some l=>l.foldl (λn m=>max n (Xx k m)) 0+1
def nL(s:List aZ):Nat:=Xx 9 s
def MO:∀g∈xS,∀m∈g.2,nL m<nL g.1:=ci
def MP:∀g∈xS,nL g.1=g.2.foldl (λn m=>max n (nL m)) 0+1:=ci
def uT:∀g∈xS,nL g.1<=6/\g.2.length<=8/\g.2≠[]:=ci
def Zg:∀g∈xS,∀m∈g.2,m.head?≠some 64->lu m=true:=ci
def wD{s:List aZ}{l:List (List aZ)}(h:xI s=some l):(s,l)∈xS:=by
 unfold xI at h;cases hf:xS.find? (λg=>g.1==s)with
 |none=>rw[hf]at h;cases h
 |some g=>
  rw[hf]at h;have h1:=List.mem_of_find?_eq_some hf;have h2:=List.find?_some hf;simp only[dN,dw]at h;have h3:g.1=s:=by simpa using h2
  obtain⟨a,b⟩:=g;simp only at h h3;rw[<-h3,<-h];exact h1
def Ep{s:List aZ}(h:xI s=none):nL s=0:=by show Xx 9 s=0;unfold Xx;rw[h]
end LT
def sB(h:zP:=by unfold hd1;exact(List.prefix_iff_eq_take.1 (List.takeWhile_prefix _)).symm):zP:=h
def od(h:zP:=by
 unfold Lib.trimPrefix;split
 ·rw[cZ];omega
 ·exact aD _):zP:=h
def oc(h:zP:=by go_wp2_with fail;exact kj):zP:=h
def nh(h:zP:=by gi_wp2;refine aM (bH rfl _ _ _) rfl ?_;exact⟨⟨_,rfl⟩,.inr ⟨_,trivial,hJx3⟩⟩):zP:=h
def lr(h:zP:=by go_in;go_wp2_with fail;go_ret;exact⟨aE,rfl⟩):zP:=h
def lj(h:zP:=by rw[hc,aN aE]at hI;obtain⟨e1,e2⟩:=h4 hc;rw[e1,e2,nY];clear h1 h2 h3 h4;have AZ:=ah hI;have EW:=ah hc;clear hI hc;have He1:=ah e1;have S4:=ah e2;clear e1 e2;unfold Rt;go_in;go_wp2_with fail;refine ap (AZ.o _) ?_;rintro w1 rfl;go_wp2_with fail;go_ret3;exact kq):zP:=h
def kv(h:zP:=by
 have hI:=λW=>zn s c hs W
 unfold mH at *;generalize(bytes s).contains c=bb at *;generalize str (hd1 c (bytes s))=s1 at *;generalize str (tl1 c (bytes s))=s2 at *;have AZ:=ah hI;clear hI;unfold Rt;go_in;go_wp2_with fail;refine ap (AZ.o _) ?_;intro w1 hx;go_wp2_with fail;go_ret3;exact⟨rfl,hx⟩):zP:=h
def kj(h:zP:=by go_ret;exact⟨rfl,aj _⟩):zP:=h
def ki(h:zP:=by
 have e1:((c:Int)==32)=(c==32):=by rw[bB];simp;omega
 have e2:((c:Int)==9)=(c==9):=by rw[bB];simp;omega
 have e3:((c:Int)==13)=(c==13):=by rw[bB];simp;omega
 generalize(c==32)=b1 at *;generalize(c==9)=b2 at *;generalize(c==13)=b3 at *;cases b1<;>cases b2<;>cases b3
 all_goals
  go_in;go_wp2;go_ret;exact⟨rfl,rfl⟩):zP:=h
def ir(h:zP:=by rw[<-e1,<-e2];clear h2 h3;generalize(hd1 c (bytes s)).length=k at *;have hw:IntKind.i64.wrap ((k:Int)+1)=(k:Int)+1:=IntWalk.i64_in _ aq;have hk0:(0:Int)<=k+1:=aq;have hk1:((k:Int)+1).toNat=k+1:=aq;have AZ:=ah hI;have EW:=ah hc;clear hI hc;have He1:=ah e1;have S4:=ah e2;clear e1 e2;unfold Rt;go_in;go_wp2_with fail;refine ap (AZ.o _) ?_;rintro w1 rfl;go_wp2_with(go_quiet (fail));go_ret3;exact⟨rfl,by repeat(first|exact aj _|apply Ext.drewN)⟩):zP:=h
def im(h:zP:=by go_wp2_with fail;go_ret;exact⟨rfl,rfl⟩):zP:=h
def dc(h:zP:=by rw[eD];omega):zP:=h
def db(h:zP:=by rw[Array.size_modify];exact hlt):zP:=h
def cx(h:zP:=by show _<=w.heap.size+1;omega):zP:=h
def eS(h:zP:=by rw[h4];omega):zP:=h
def da(h:zP:=by show w.heap.size+1<_;omega):zP:=h
namespace V
variable{P:Program}
structure XW(W:ay)where
 w:ay
 h:Ext W w
instance(W:ay):Nonempty (XW W):=⟨⟨W,aj W⟩⟩
def nV{W:ay}{p:Addr}{v:aA}(h:W.cell? p=some v):∀x:XW W,x.w.cell? p=some v:=λx=>x.h.cell h
theorem fE{id:Nat}{Q:Exit->Act->ay->Prop}{a:Act}{w:ay}{l:List Oper}(hm:P.follows .mixedOrders=true)(hB:Region.lexB .any l.toArray=true)(h:wpQuiet P l.toArray (λw'=>∃x:XW w,w'=x.w) (λa'=>∀w',(∃x:XW w,w'=x.w)->Q .normal a' w') l a):(Code.region id l.toArray true).wp P Q a w:=
 wp_region_quiet (C:=λw'=>∃x:XW w,w'=x.w) hm hB ⟨⟨w.drew,(aj w).drew⟩,rfl⟩ cT
theorem dx{f:FuncId}{args:Array aA}{W:ay}{x:XW W}{v:aA}(h:Calls P f args x.w λe w'=>e= .returned v/\Ext x.w w'):Calls P f args x.w λe w''=>e= .returned v/\∃y:XW W,w''=y.w:=h.mono λ_ w' ⟨he,hx⟩=>⟨he,⟨w',x.h.trans hx⟩,rfl⟩
end V
namespace gZ
def vP(c:Nat):Bool:=c==32||c==9||c==13
def UA(c:aZ):Bool:=vP c.toNat
def yC(l:List aZ):List aZ:=((l.dropWhile UA).reverse.dropWhile UA).reverse
abbrev bytes(s:aK):List aZ:=s.data.toList
abbrev str(l:List aZ):aK:=⟨l.toArray⟩
def eD(s:aK):(bytes s).length=s.size:=rfl
def kI(l:List aZ):(str l).size=l.length:=rfl
def bytes_inj{s t:aK}(h:bytes s=bytes t):s=t:=by cases s;cases t;simp[bytes]at h;rw[h]
def nY(s:aK):str (bytes s)=s:=bytes_inj (by simp[bytes])
def mI(t:aK)(a b:Nat):bytes (t.extract a b)=((bytes t).drop a).take (b-a):=by simp[bytes,ByteArray.data_extract,Array.toList_extract]
def EM(t:aK)(i:Nat)(h:i<t.size):t[i]'h=(bytes t)[i]'(by rw[eD];exact h):=by rfl
def Jh(t:aK)(h:0<t.size):bytes t=t[0]'h::bytes (t.extract 1 t.size):=by rw[mI,EM,dY (by rw[cZ,eD];omega)];have:=bJ (l:=bytes t) (i:=0) (by rw[eD];exact h);rw[List.drop_zero]at this;exact this
def Jg(t:aK)(h:0<t.size):bytes t=bytes (t.extract 0 (t.size-1))++[t[t.size-1]' aq]:=by rw[mI,EM,List.drop_zero,Nat.sub_zero];have:=bE (l:=bytes t) (i:=t.size-1) dc;rw[<-this,dY dc]
def ext_size(t:aK)(a b:Nat)(hb:b<=t.size):(t.extract a b).size=b-a:=by rw[<-eD,mI,bC,cZ,eD];omega
theorem Rp(c:Nat)(w:ay):Calls prog 206 #[.int .u8 c] w λe w'=>e= .returned (.bool (vP c))/\w=w':=by unfold vP;exact ki
def Mr:aA->Nat
 | .string t=>t.size
 |_=>0
theorem Ch(s:aK)(hs:s.size<=maxLen)(w:ay):Calls prog 165 #[.string s] w λe w'=>e= .returned (.string (str (yC (bytes s))))/\w=w':=by
 have hB:=λc W=>Rp c W
 unfold maxLen at hs;obtain⟨L,hL⟩:∃L,L=(bytes s).dropWhile UA:=⟨_,rfl⟩;obtain⟨R,hR⟩:∃R,R=L.reverse.dropWhile UA:=⟨_,rfl⟩;have hT:yC (bytes s)=R.reverse:=by rw[hR,hL];rfl
 rw[hT];have HhB:=ah hB;have vV:=ah hT;clear hB hT;have A8:=ah hR;have HhL:=ah hL;clear hR hL;go_in;go_wp2;go_loopw [0] (λu wr=>∃t:aK,u= .string t/\t.size<=s.size/\(bytes t).dropWhile UA=L/\w=wr) (λu _=>Mr u)
 case atStart=>exact⟨s,rfl,aD _,HhL.o.symm,rfl⟩
 case round=>
  obtain⟨t,rfl,hts,htl,rfl⟩:=hrel;by_cases hgo:∃hp:0<t.size,vP (t[0]'hp).toNat=true
  ·obtain⟨hp,hb⟩:=hgo;have hc:=HhB.o (t[0]'hp).toNat;have acP:(bytes (t.extract 1 t.size)).dropWhile UA=L:=by rw[<-htl,Jh t hp,i7 (by exact hb)]
   have hsz:=ext_size t 1 t.size (aD _);rw[hb]at hc;have Hhb:=ah hb;have EW:=ah hc;clear hb hc;have aee:=ah htl;have XJ:=ah acP;have KG:=ah hsz;clear htl acP hsz;go_wp2_with fail;refine ap (EW.o _) ?_;rintro w1 rfl;go_wp2_with fail;go_roundw
   case rel=>exact⟨_,rfl,by rw[KG.o];omega,XJ.o,trivial⟩
   case measure=>show(t.extract 1 t.size).size<t.size;rw[KG.o];omega
  ·have acP:bytes t=L:=by
    rw[<-htl];by_cases hp:0<t.size
    ·have hn:¬vP (t[0]'hp).toNat=true:=λh=>hgo ⟨hp,h⟩
     rw[Jh t hp,List.dropWhile_cons_of_neg (by exact hn)]
    ·have:bytes t=[]:=bG dc;rw[this];rfl
   have aee:=ah htl;have XJ:=ah acP;clear htl acP;have hA:(t.size=0)\/∃hp:0<t.size,vP (t[0]'hp).toNat=false:=by
    by_cases hp:0<t.size
    ·exact .inr ⟨hp,by rw[Bool.eq_false_iff];exactλh=>hgo ⟨hp,h⟩⟩
    ·exact .inl aq
   clear hgo;rcases hA with hp|⟨hp,hb⟩
   ·have hz:bytes t=[]:=bG dc;have ht:t=str R.reverse:=by rw[A8.o,<-XJ.o,hz];exact bytes_inj hz
    have HT:=ah ht;clear hz ht;go_wp2_with fail;go_loopw [0] (λu wr=>u= .string t/\w=wr) (λu _=>0)
    case atStart=>exact uk
    case round=>obtain⟨rfl,rfl⟩:=hrel;go_wp2_with fail;go_ret;exact⟨by rw[<-HT.o];rfl,rfl⟩
   ·have hc:=HhB.o (t[0]'hp).toNat;rw[hb]at hc;have Hhb:=ah hb;have EW:=ah hc;clear hb hc;go_wp2_with fail;refine ap (EW.o _) ?_;rintro w1 rfl;go_wp2_with fail;go_loopw [0] (λu wr=>∃t:aK,u= .string t/\t.size<=s.size/\(bytes t).reverse.dropWhile UA=R/\w=wr) (λu _=>Mr u)
    case atStart=>exact⟨t,rfl,hts,by rw[A8.o,<-XJ.o],rfl⟩
    case round=>
     obtain⟨t2,rfl,ayF,htr,rfl⟩:=hrel;by_cases hp2:0<t2.size
     ·have hlt:t2.size-1<t2.size:=aq;have hc2:=HhB.o (t2[t2.size-1]'hlt).toNat;have hsz:=ext_size t2 0 (t2.size-1) aq;have hsn:=Jg t2 hp2;have zR:(bytes t2).reverse=t2[t2.size-1]'hlt::(bytes (t2.extract 0 (t2.size-1))).reverse:=by rw[hsn,List.reverse_append];rfl
      rw[zR]at htr;cases hb2:vP (t2[t2.size-1]'hlt).toNat
      all_goals
       rw[hb2]at hc2
      ·rw[List.dropWhile_cons_of_neg (by show¬vP _=true;rw[hb2];simp),<-zR]at htr;have atB:=ah hb2;have ak9:=ah hc2;clear hb2 hc2;have aaI:=ah htr;have KG:=ah hsz;clear htr hsz;have aef:=ah hsn;have akV:=ah zR;clear hsn zR;go_wp2_with fail;refine ap (ak9.o _) ?_;rintro w1 rfl;go_wp2_with fail;go_ret;exact⟨by rw[<-aaI.o,List.reverse_reverse,nY];rfl,rfl⟩
      ·rw[i7 (by show vP _=true;exact hb2)]at htr;have atB:=ah hb2;have ak9:=ah hc2;clear hb2 hc2;have aaI:=ah htr;have KG:=ah hsz;clear htr hsz;have aef:=ah hsn;have akV:=ah zR;clear hsn zR;go_wp2_with fail;refine ap (ak9.o _) ?_;rintro w1 rfl;go_wp2_with fail;go_roundw
       case rel=>exact⟨_,rfl,by rw[KG.o];omega,aaI.o,trivial⟩
       case measure=>show(t2.extract 0 (t2.size-1)).size<t2.size;rw[KG.o];omega
     ·have hz:bytes t2=[]:=bG dc;have ht:t2=str R.reverse:=by rw[hz]at htr;rw[<-htr];exact bytes_inj hz
      have HT:=ah ht;clear hz ht htr;go_wp2_with fail;go_ret;exact⟨by rw[<-HT.o];rfl,rfl⟩
end gZ
def tj(h:zP:=by unfold Rt;go_in;go_wp2;go_ret2;exact kq):zP:=h
namespace jO
variable{B c e k m n:Nat}
structure Dat where
 nr:Nat
 ar:Nat
 ip:Nat
 a0:Nat
 a1:Nat
 a2:Nat
 a3:Nat
 a4:Nat
 a5:Nat
structure EU(d:Dat):Prop where
 nr:d.nr<4294967296
 ar:d.ar<4294967296
 ip:d.ip<18446744073709551616
 a0:d.a0<18446744073709551616
 a1:d.a1<18446744073709551616
 a2:d.a2<18446744073709551616
 a3:d.a3<18446744073709551616
 a4:d.a4<18446744073709551616
 a5:d.a5<18446744073709551616
def yL(d:Dat):aA:= .agg #[.int .u32 d.nr,.int .u32 d.ar,.int .u64 (d.ip:Int),.int .u64 (d.a0:Int),.int .u64 (d.a1:Int),.int .u64 (d.a2:Int),.int .u64 (d.a3:Int),.int .u64 (d.a4:Int),.int .u64 (d.a5:Int)]
def j8(n:Nat):List aA:= [.int .u64 (n:Int)]
def jE(n:Nat):(j8 n).length=1:=rfl
def I7(s:Nat):∀u∈j8 s,u.oneCell'=true:=by intro u hu;simp[j8]at hu;subst hu;rfl
theorem acK:(Tryz.prog.info? 34).map (λi=>(i.zero,i.size,i.bytes))=some (some (.int .u64 0),1,8):=ax
def lo(x:Nat):Nat:=x%4294967296
def hi(x:Nat):Nat:=x/4294967296
def wide(d:Dat):List Nat:= [d.ip,d.a0,d.a1,d.a2,d.a3,d.a4,d.a5]
def wds(d:Dat):List Nat:= [d.nr,d.ar,lo d.ip,hi d.ip,lo d.a0,hi d.a0,lo d.a1,hi d.a1,lo d.a2,hi d.a2,lo d.a3,hi d.a3,lo d.a4,hi d.a4,lo d.a5,hi d.a5]
def abc(d:Dat):(wide d).length=7:=rfl
theorem oF(x:Nat)(hx:x<18446744073709551616)(w:ay):Rt 309 #[.int .u64 (x:Int)] w (.tuple #[.int .u32 (lo x:Nat),.int .u32 (hi x:Nat)]):=by
 have hw1:IntKind.u32.wrap (x:Int)=((lo x:Nat):Int):=by unfold lo;simp[go_sem,IntKind.wrap,IntKind.signed,IntKind.bits]
 have hw2:IntKind.u32.wrap ((x:Int)/4294967296)=((hi x:Nat):Int):=by unfold hi;simp[go_sem,IntKind.wrap,IntKind.signed,IntKind.bits];omega
 exact tj
def afG{w:ay}{base:Nat}{a:Option Addr}{zs:List aA}(h:w.ownsRow base e n (.slice a k c) m zs)(b o:Nat)(he:a=some ⟨b,o,none⟩):base<=b:=by
 subst he;rcases h.2 with⟨h1,-⟩|⟨g,cap,cur,hv,hg,-⟩
 ·cases h1
 ·simp only[aU,dw,gD]at hv;omega
theorem S7(x:Nat)(v:aA)(xs:List Nat)(hl:xs.length<=1000)(w:ay)(hv:Rd w 1 j8 v xs):Calls prog 308 #[.int .u64 (x:Int),v] w λe w'=>∃a c,e= .returned (.slice a (xs+1) c)/\Rd w' 1 j8 (.slice a (xs+1) c) (x::xs)/\(∀b o,a=some ⟨b,o,none⟩->w.heap.size<=b)/\Ext w w':=by
 have HV:=ah hv;have hlx: [x].length+xs.length=(x::xs).length:=by simp;omega
 have hl1:(x::xs).length=xs.length+1:=rfl;have HL:=ah hlx;go_in;go_wp2_with(at_builtin;refine jH rfl (.tmp 6) (.tmp 7) _ rfl underlying223 acK rfl az jE I7 w _ _ [x] xs rfl rfl (jJ jE w [x] _ _ w rfl (aD _) cz) (HV.o.ext ((aj _).alloc _)) bp az ((aj _).alloc _) ?_;intro au1 cu1 w1 ho1 hx1;rw[HL.o]at ho1⊢;have HO1:=ah (bY (n:=1) (enc:=j8) (xs:=x::xs) jE ho1);have N6:=ah (afG ho1);have gK:=ah hx1;clear ho1 hx1);go_ret;exact⟨_,_,rfl,HO1.o,N6.o,gK.o⟩
def wd(d:Dat)(k:Nat):Nat:=(wds d).getD (k/4) 0
def okW(k:Nat):Bool:=(k%4==0)&&decide (k<64)
def yB(d:Dat)(k:Nat):Nat×Int:=if okW k=true then(wd d k,0)else(0,41)
def aip{d:Dat}(hd:EU d):∀x∈wds d,x<4294967296:=by intro x hx;have h1:=hd.nr;have h2:=hd.ar;have h3:=hd.ip;have h4:=hd.a0;have h5:=hd.a1;have h6:=hd.a2;have h7:=hd.a3;have h8:=hd.a4;have h9:=hd.a5;simp only[wds,dF,List.not_mem_nil,or_false]at hx;unfold lo hi at hx;rcases hx with rfl|rfl|rfl|rfl|rfl|rfl|rfl|rfl|rfl|rfl|rfl|rfl|rfl|rfl|rfl|rfl<;>omega
def abd{d:Dat}(hd:EU d)(k:Nat):wd d k<4294967296:=by
 unfold wd;rw[bQ];by_cases h:k/4<(wds d).length
 ·rw[aJ h];exact aip hd _ (aW h)
 ·rw[List.getElem?_eq_none aq];decide
def Fz(w:ay)(B:Nat):Prop:= ∀j,w.frozen? ⟨B,j,none⟩=false
def Fz.ext{a w:ay}(h:Ext a w)(hB:B<a.heap.size)(hf:Fz a B):Fz w B:=λj=>(dD (h.block hB)).trans (hf j)
def Fz.keep{S:Nat->Prop}{a w:ay}(h:Keep S a w)(hB:S B)(hf:Fz a B):Fz w B:=λj=>(dD (h.block B hB)).trans (hf j)
def Fz.set{w:ay}(hf:Fz w B)(p:Addr)(v:aA):Fz (w.setCell p v) B:=λj=>(fF _ _ _ _).trans (hf j)
theorem P3{P:Program}{C:Code}{Q:Exit->Act->ay->Prop}{a:Act}{W:ay}(p:ay->Prop)(hp:p W)(h:∀W1,p W1->C.wp P Q a W1):C.wp P Q a W:=h W hp
end jO
namespace xw
structure En where
 c:Nat
 nm:List aZ
 cl:Nat
 deriving DecidableEq
def za:List En:= [⟨32,[108,100,97,98,115],1⟩,⟨128,[108,100,108,101,110],1⟩,⟨0,[108,100,105],1⟩,⟨96,[108,100,109],1⟩,⟨129,[108,100,120,108,101,110],1⟩,⟨1,[108,100,120,105],1⟩,⟨97,[108,100,120,109],1⟩,⟨2,[115,116],2⟩,⟨3,[115,116,120],2⟩,⟨4,[97,100,100],3⟩,⟨20,[115,117,98],3⟩,⟨36,[109,117,108],3⟩,⟨52,[100,105,118],3⟩,⟨68,[111,114],3⟩,⟨84,[97,110,100],3⟩,⟨100,[108,115,104],3⟩,⟨116,[114,115,104],3⟩,⟨164,[120,111,114],3⟩,⟨12,[97,100,100,120],3⟩,⟨28,[115,117,98,120],3⟩,⟨44,[109,117,108,120],3⟩,⟨60,[100,105,118,120],3⟩,⟨76,[111,114,120],3⟩,⟨92,[97,110,100,120],3⟩,⟨108,[108,115,104,120],3⟩,⟨124,[114,115,104,120],3⟩,⟨172,[120,111,114,120],3⟩,⟨132,[110,101,103],3⟩,⟨5,[106,97],4⟩,⟨21,[106,101,113],4⟩,⟨37,[106,103,116],4⟩,⟨53,[106,103,101],4⟩,⟨69,[106,115,101,116],4⟩,⟨29,[106,101,113,120],4⟩,⟨45,[106,103,116,120],4⟩,⟨61,[106,103,101,120],4⟩,⟨77,[106,115,101,116,120],4⟩,⟨6,[114,101,116],5⟩,⟨22,[114,101,116,97],5⟩,⟨7,[116,97,120],6⟩,⟨135,[116,120,97],6⟩]
def ahs:En:=⟨0,[],0⟩
def entry(c:Nat):En:=(za.find? (λe=>e.c==c)).getD ahs
def known(c:Nat):Bool:=(za.find? (λe=>e.c==c)).isSome
def iQ(c:Nat):Nat:=(entry c).cl
def wx(c:Nat):Bool:=known c&&((iQ c==3||iQ c==4)&&(c&&&8 !=0))
def str(l:List aZ):aK:=⟨l.toArray⟩
end xw
namespace Gd
structure Span where
 lo:Nat
 hi:Nat
 way:Int
structure OkS(s:Span):Prop where
 l:s.lo<4294967296
 h:s.hi<4294967296
 a: -9223372036854775808<=s.way
 b:s.way<=9223372036854775807
def encS(s:Span):List aA:= [.int .u32 s.lo,.int .u32 s.hi,.int .i64 s.way]
def I8(s:Span):(encS s).length=3:=rfl
def Q4(s:Span):∀u∈encS s,u.oneCell'=true:=by intro u hu;simp[encS]at hu;exact se
def CO{w:ay}{v:aA}{xs:List Span}(h:Rd w 3 encS v xs):∃a c,v= .slice a xs c/\xs.length<=c/\∀i,(hi:i<xs.length)->∃b o,a=some ⟨b,o,none⟩/\w.cell? ⟨b,o+i*3,none⟩=some (.int .u32 (xs[i].lo:Int))/\w.cell? ⟨b,o+i*3+1,none⟩=some (.int .u32 (xs[i].hi:Int))/\w.cell? ⟨b,o+i*3+2,none⟩=some (.int .i64 xs[i].way):=by obtain⟨a,c,h1,h2,h3,h4⟩:=h;refine⟨a,c,h1,h2,λi hi=> ?_⟩;obtain⟨b,o,e,k⟩:=h4 i hi;exact⟨b,o,e,k 0 (by simp[encS]),k 1 (by simp[encS]),k 2 (by simp[encS])⟩
def chain:List Span->Nat->Option Nat
 | [],n=>some n
 |s::r,n=>if s.lo=n/\s.lo<=s.hi then chain r (s.hi+1)else none
def whole(xs:List Span):Bool:=decide (chain xs 0=some 4294967296)
def Vb{xs:List Span}{k:Nat}(h:k<xs)(n:Nat):chain (xs.drop k) n=if xs[k].lo=n/\xs[k].lo<=xs[k].hi then chain (xs.drop (k+1)) (xs[k].hi+1)else none:=by rw[bJ h];rfl
def chain_nil(n:Nat):chain [] n=some n:=rfl
def Yd:whole []=false:=az
def way:List Span->Nat->Int×Bool
 | [],_=>(0,false)
 |s::r,n=>if s.lo<=n/\n<=s.hi then(s.way,true)else way r n
def put(out:List Span)(s:Span):List Span:=
 match out.getLast? with
 |some l=>if l.way=s.way then out.set (out-1) ⟨l.lo,s.hi,l.way⟩else out++[s]
 |none=>out++[s]
def afy(s:Span):put [] s=[s]:=rfl
def abQ{out:List Span}{s:Span}(h:0<out.length)(e:out[out.length-1].way=s.way):put out s=out.set (out-1) ⟨out[out.length-1].lo,s.hi,out[out.length-1].way⟩:=by unfold put;rw[List.getLast?_eq_getElem?,aJ aq];simp only[e,if_true]
def YI{out:List Span}{s:Span}(h:0<out.length)(e:out[out.length-1].way≠s.way):put out s=out++[s]:=by unfold put;rw[List.getLast?_eq_getElem?,aJ aq];simp only[e,if_false]
def afz(out:List Span)(s:Span):(put out s).length<=out.length+1:=by
 unfold put;split
 ·split<;>simp
 ·simp
def wy(xs:List Span)(i:Nat):Int:=match xs[i]? with|some s=>s.way|none=>0
def aim{xs:List Span}{i:Nat}(h:i<xs):wy xs i=xs[i].way:=by unfold wy;rw[aJ h]
def merge(xs:List Span):List Span:=xs.foldl put []
def Lp(xs:List Span):(merge xs).length<=xs.length:=by
 unfold merge;have:∀(ys out:List Span),(ys.foldl put out).length<=out.length+ys:=by
  intro ys
  induction ys with
  |nil=>intro out;simp
  |cons y ys ih=>intro out;have:=ih (put out y);have h2:=afz out y;simp only[jD,aO];omega
 simpa using this xs []
end Gd
open Go
namespace V
variable {F:Fence} {n:Nat} {P:Program}
def ahu(D:Nat):Deferred:= {target:= .collected D,args:= #[]}
structure Marks(B:Nat)(Ds:List Nat)(W:ay):Prop where
 nodup:Ds.Nodup
 lies:∀D∈Ds,W.heap[D]?=some (.deferred (some []))/\B<=D
def Marks.nil(B:Nat)(W:ay):Marks B [] W:=⟨List.nodup_nil,λ_ h=>by cases h⟩
def Marks.lt{B:Nat}{Ds:List Nat}{W:ay}(h:Marks B Ds W):∀D∈Ds,D<W.heap.size:=λD hD=>(aB.1 (h.lies D hD).1).1
def Marks.cons{B:Nat}{Ds:List Nat}{W:ay}(h:Marks B Ds W){D:Nat}(hn:D∉Ds)(hl:W.heap[D]?=some (.deferred (some [])))(hB:B<=D):Marks B (D::Ds) W:=
 ⟨List.nodup_cons.2 ⟨hn,h.nodup⟩,λE hE=>by
  rcases dF.1 hE with rfl|h2
  ·exact⟨hl,hB⟩
  ·exact h.lies E h2⟩
def Marks.kept{B:Nat}{Ds:List Nat}{W W':ay}(h:Marks B Ds W)(hk:∀D∈Ds,W'.heap[D]?=W.heap[D]?):Marks B Ds W':=
 ⟨h.nodup,λD hD=>⟨(hk D hD).trans (h.lies D hD).1,(h.lies D hD).2⟩⟩
def Marks.alloc{B:Nat}{Ds:List Nat}{W:ay}(h:Marks B Ds W)(o:Obj):Marks B Ds (W.alloc o):=h.kept λD hD=>Below.heap_alloc _ _ _ (h.lt D hD)
def Marks.grown{B:Nat}{Ds:List Nat}{W W':ay}{row:Option Nat}(h:Marks B Ds W)(hg:W.grownBy W' row)(hr:∀r,row=some r->r∉Ds):Marks B Ds W':=
 h.kept λD hD=>hg.block D (h.lt D hD) (λe=>hr D e.symm hD)
def Marks.ext{B:Nat}{Ds:List Nat}{W W':ay}(h:Marks B Ds W)(hx:Ext W W'):Marks B Ds W':=h.kept λD hD=>hx.block (h.lt D hD)
def Marks.setCell{B:Nat}{Ds:List Nat}{W:ay}(h:Marks B Ds W){p:Addr}(hp:p.block<B)(u:aA):Marks B Ds (W.setCell p u):=
 h.kept λD hD=>aX W p u D (λe=>by have:=(h.lies D hD).2;omega)
def C5{fn:Func}{tmps:Array aA}{R:Ending->ay->Prop}{B:Nat}:∀(Ds:List Nat)(W:ay),Marks B Ds W->(∀W',W'.os=W.os->W'.tape=W.tape->W'.output=W.output->W'.heap.size=W.heap.size->(∀k,k<B->W'.heap[k]?=W.heap[k]?)->(∀k,k∉Ds->W'.heap[k]?=W.heap[k]?)->LeavesInM F n P fn tmps R [] .returning W')->LeavesInM F n P fn tmps R (Ds.map ahu) .returning W
 | [],W,_,h=>h W rfl rfl rfl rfl (λ_ _=>rfl) (λ_ _=>rfl)
 |D::Ds,W,hm,h=>by refine⟨aE,.inl ⟨D,_,rfl,run_takeDeferred (hm.lies D aE).1,?_⟩⟩;have hnd:=List.nodup_cons.1 hm.nodup;refine C5 Ds _ ⟨hnd.2,λE hE=>⟨(World.putObj_heap_other (show E≠D fromλe=>hnd.1 (e▸hE))).trans (hm.lies E (by simp[hE])).1,(hm.lies E (by simp[hE])).2⟩⟩ ?_;intro W' h1 h2 h3 h4 h5 h6;refine h W' h1 h2 h3 (by rw[h4];simp) (λk hk=>(h5 k hk).trans (World.putObj_heap_other (λe=> ?_))) (λk hk=>(h6 k (λe=>hk (by simp[e]))).trans (World.putObj_heap_other (λe=>hk (by simp[e]))));have:=(hm.lies D aE).2;omega
def Keep.putObj{S:Nat->Prop}(W:ay){l:Nat}(hl:¬S l)(o:Obj):Keep S W (W.putObj l o):=
 ⟨rfl,rfl,rfl,aE,λk hk=>World.putObj_heap_other (λe=>hl (e▸hk))⟩
theorem xB{α:Type}{W:ay}{ops:Array Oper}{o:Oper}{a:Act}{K:Act->ay->Prop}{Q:Exit->Act->ay->Prop}{E:Prop}(hgd:o.guard=none)(s x:Operand)(t:dz)(ho:o.op= .call {callee:= .builtin .append,args:= #[s,x],argTypes:= #[t,t]}){e:dz}{m bytes:Nat}{z:aA}(hu:P.underlying t=some (.slice e))(hinfo:(P.info? e).map (λi=>(i.zero,i.size,i.bytes))=some (some z,m,bytes))(hzs:z.cells.size=m)(hn:0<m){enc:α->List aA}(henc:∀x,(enc x).length=m)(hone:∀x,∀u∈enc x,u.oneCell'=true)(base:Nat)(u v:aA)(xs ys:List α)(hs:a.eval s=u)(hx:a.eval x=v)(hown:W.ownsRow base e m u xs (xs.flatMap enc))(hrd:Rd W m enc v ys)(h63:xs.length+ys<=100000000)(hbytes:bytes<=1000000)(hbase:base<=W.heap.size)(h:∀au cu w',w'.ownsRow base e m (.slice au (xs.length+ys) cu) (xs.length+ys) ((xs++ys).flatMap enc)->W.grownBy w' u.ownBlock->K (a.put o.dst (.slice au (xs.length+ys) cu)) w'):if Region.wanted o (yielded ops a.tmps)=true then Oper.wpIn F n P o a W K Q else E:=by
 have hw:Region.wanted o (yielded ops a.tmps)=true:=by simp[Region.wanted,hgd]
 rw[aV hw];obtain⟨au,cu,w',hr,h2,h3⟩:=tZ (P:=P) (ty:=o.type) hu hinfo hzs hn henc hone hown hrd h63 hbytes hbase;unfold Oper.wpIn;refine⟨?_,?_⟩
 ·simp[Oper.about,ho,resolve,Target.leads,Sem.run_pure]
 ·rw[Oper.semAt_plain F _ _ (by rw[ho];intro c hc';cases hc')];simp[execOp,ho,resolve,invoke,builtin,hs,hx,hr,Result.andThen];exact h au cu w' h2 h3
end V
namespace qJ
abbrev Nm:=List aZ×Nat
def bytes(s:aK):List aZ:=s.data.toList
def str(l:List aZ):aK:=⟨l.toArray⟩
def iE(l:List aZ):bytes (str l)=l:=by simp[bytes,str]
def vO(x:Nm):List aA:= [.string (str x.1),.int .u32 x.2]
def NA(x:Nm):List aA:= [.string (str x.1),.int .u64 (x.2:Int)]
def zX(x:Nm):(vO x).length=2:=rfl
def adv(x:Nm):(NA x).length=2:=rfl
def uI:List Nm:= [([65,70,95,85,78,73,88],1),([65,70,95,73,78,69,84],2),([65,70,95,73,78,69,84,54],10),([65,70,95,78,69,84,76,73,78,75],16),([65,70,95,80,65,67,75,69,84],17),([65,70,95,66,76,85,69,84,79,79,84,72],31),([65,70,95,65,76,71],38),([65,70,95,86,83,79,67,75],40)]
def sV:List Nm:= [([116,105,109,101],128),([109,110,116],131072),([99,103,114,111,117,112],33554432),([117,116,115],67108864),([105,112,99],134217728),([117,115,101,114],268435456),([112,105,100],536870912),([110,101,116],1073741824)]
def om:Array aA:= #[.string ⟨#[65,70,95,85,78,73,88]⟩,.int .u32 1,.string ⟨#[65,70,95,73,78,69,84]⟩,.int .u32 2,.string ⟨#[65,70,95,73,78,69,84,54]⟩,.int .u32 10,.string ⟨#[65,70,95,78,69,84,76,73,78,75]⟩,.int .u32 16,.string ⟨#[65,70,95,80,65,67,75,69,84]⟩,.int .u32 17,.string ⟨#[65,70,95,66,76,85,69,84,79,79,84,72]⟩,.int .u32 31,.string ⟨#[65,70,95,65,76,71]⟩,.int .u32 38,.string ⟨#[65,70,95,86,83,79,67,75]⟩,.int .u32 40]
def Dl:om.toList=uI.flatMap vO:=by rfl
theorem qm(w:ay):Rt 97 #[] w (.agg om):=by
 unfold Rt;go_in;go_upto_region 1 with fail;apply wp_region_lit;refine bT 180 1 #[.string ⟨#[65,70,95,85,78,73,88]⟩,.int .u32 1] ?_;refine bT 180 2 #[.string ⟨#[65,70,95,73,78,69,84]⟩,.int .u32 2] ?_;refine bT 180 3 #[.string ⟨#[65,70,95,73,78,69,84,54]⟩,.int .u32 10] ?_;refine bT 180 4 #[.string ⟨#[65,70,95,78,69,84,76,73,78,75]⟩,.int .u32 16] ?_;refine bT 180 5 #[.string ⟨#[65,70,95,80,65,67,75,69,84]⟩,.int .u32 17] ?_;refine bT 180 6 #[.string ⟨#[65,70,95,66,76,85,69,84,79,79,84,72]⟩,.int .u32 31] ?_;refine bT 180 7 #[.string ⟨#[65,70,95,65,76,71]⟩,.int .u32 38] ?_;refine bT 180 8 #[.string ⟨#[65,70,95,86,83,79,67,75]⟩,.int .u32 40] ?_;refine bT 181 9 (om) ?_;refine wpList_store_rowTo rfl 181 _ _ rfl rfl w.heap.size om bj bj 181 _ (heap_alloc_last w _) ax ax ax ?_;rw[World.setRow_alloc_new];apply wpList_nil;rename_i hK;refine hK _ _ ?_;have key:∀A:Act,A.tmps.getD 0 undef= .pointer (some w)->A.defers=[]->Code.wp prog Code.ret (bodyPost prog Tryz.f97 λe w'=>e= .returned (.agg om)/\Ext w w') A (w.alloc (.cells om 181)):=by intro A h0 hd;go_wp2_with fail;exact aM (v:= .agg om) (dV results97 _ _ _ _ _ _ _ h0 (heap_alloc_last w _) underlying181 rfl ax) hd ⟨rfl,(aj _).alloc _⟩
 exact tw
def rC:Array aA:= #[.string ⟨#[116,105,109,101]⟩,.int .u64 128,.string ⟨#[109,110,116]⟩,.int .u64 131072,.string ⟨#[99,103,114,111,117,112]⟩,.int .u64 33554432,.string ⟨#[117,116,115]⟩,.int .u64 67108864,.string ⟨#[105,112,99]⟩,.int .u64 134217728,.string ⟨#[117,115,101,114]⟩,.int .u64 268435456,.string ⟨#[112,105,100]⟩,.int .u64 536870912,.string ⟨#[110,101,116]⟩,.int .u64 1073741824]
def Tw:rC.toList=sV.flatMap NA:=by rfl
theorem p4(w:ay):Rt 101 #[] w (.agg rC):=by
 unfold Rt;go_in;go_upto_region 1 with fail;apply wp_region_lit;refine bT 187 1 #[.string ⟨#[116,105,109,101]⟩,.int .u64 128] ?_;refine bT 187 2 #[.string ⟨#[109,110,116]⟩,.int .u64 131072] ?_;refine bT 187 3 #[.string ⟨#[99,103,114,111,117,112]⟩,.int .u64 33554432] ?_;refine bT 187 4 #[.string ⟨#[117,116,115]⟩,.int .u64 67108864] ?_;refine bT 187 5 #[.string ⟨#[105,112,99]⟩,.int .u64 134217728] ?_;refine bT 187 6 #[.string ⟨#[117,115,101,114]⟩,.int .u64 268435456] ?_;refine bT 187 7 #[.string ⟨#[112,105,100]⟩,.int .u64 536870912] ?_;refine bT 187 8 #[.string ⟨#[110,101,116]⟩,.int .u64 1073741824] ?_;refine bT 188 9 (rC) ?_;refine wpList_store_rowTo rfl 188 _ _ rfl rfl w.heap.size rC bj bj 188 _ (heap_alloc_last w _) ax ax ax ?_;rw[World.setRow_alloc_new];apply wpList_nil;rename_i hK;refine hK _ _ ?_;have key:∀A:Act,A.tmps.getD 0 undef= .pointer (some w)->A.defers=[]->Code.wp prog Code.ret (bodyPost prog Tryz.f101 λe w'=>e= .returned (.agg rC)/\Ext w w') A (w.alloc (.cells rC 188)):=by intro A h0 hd;go_wp2_with fail;exact aM (v:= .agg rC) (dV results101 _ _ _ _ _ _ _ h0 (heap_alloc_last w _) underlying188 rfl ax) hd ⟨rfl,(aj _).alloc _⟩
 exact tw
end qJ
end Go.Proofs.YtopfefhenfineaaGreat
