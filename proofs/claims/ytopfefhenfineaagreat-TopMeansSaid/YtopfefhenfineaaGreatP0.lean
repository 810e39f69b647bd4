import Derived.WalkKit
import Derived.WalkSpells
import Derived.WalkLawsBesides
import Derived.Lib.Hide
import Derived.BigQuiet
import Derived.Deep.QuietTactic
import Derived.Deep.RegionHeld3
import Derived.ProofKit
import Derived.SizedLaws
import Derived.Test.YtopfefhenfineaaGreatRows
import Derived.Laws.CopyOwn
import Derived.Laws.AppendOwnNone
import Derived.Lib.Strings
import Derived.Laws.ResultCell
import Derived.Great.BuildSlice
import Derived.Deep.WholeRow
import Derived.Lib.ItoaNum
import Derived.Deep.Onto
import Derived.Lib.AppendZerosOnto
import Derived.Lib.Overlaps
import Derived.Laws.Externs
import Derived.RangeFuncBox
import Derived.RangeFuncOwn
import Derived.StillTail
import Derived.StillTactics
import Derived.OrdersIn
import Derived.TacticsIn
import Derived.RangeFuncCalls
import Derived.RangeFuncNested
import Derived.RangeFuncBound
import Derived.RangeFuncLeaves
import Derived.OwnWalkIn
import Derived.Deep.DeepCutAuto
import Derived.Laws.Bits64b
set_option linter.all false
set_option maxRecDepth 100000
set_option maxHeartbeats 2000000
namespace Go.Proofs.YtopfefhenfineaaGreat
open Go.Proofs.Tryz Go.RowKit
namespace bh
variable{aq C a w F:World}{B k n C6:Nat}{a7 abX:Nat->Prop}{p:Addr}{v:Value}{x:Int}{α:Type}
def Ext(w F:World):Prop:=Below w.heap.size w F
def Ext.refl(w:World):Ext w w:=Below.refl _ _
def Ext.trans{a b c:World}(h:Ext a b)(k:Ext b c):Ext a c:=Below.trans h (Below.mono k h.size)
def Ext.alloc{a w:World}(h:Ext a w)(o:Obj):Ext a (w.alloc o):=Below.alloc h h.size o
def Ext.drew(h:Ext a w):Ext a w.drew:=Below.drew h
def Ext.drewN(h:Ext a w)(n:Nat):Ext a (w.drewN n):=below_drewN h n
def Ext.size(h:Ext a w):a.heap.size<=w.heap.size:=Below.size h
def Ext.setCell(h:Ext a w)(ac:a.heap.size<=p.block)(u:Value):Ext a (w.setCell p u):=Below.setCell h ac u
def Ext.cell(h:Ext a w)(hv:a.cell? p=some v):w.cell? p=some v:=
 (Below.cell h (World.block_lt_of_cell? _ _ hv)).trans hv
def Ext.grown{row:Option Nat}(h:Ext a w)(hg:w.grownBy F row)(hr:∀k,row=some k->a.heap.size<=k):Ext a F:=
 Below.grown h hg h.size hr
def Ext.frozen(h:Ext a w)(hv:a.cell? p=some v){b:Bool}(ai:a.frozen? p=b):w.frozen? p=b:=
 (Below.frozen h (World.block_lt_of_cell? _ _ hv)).trans ai
def Ext.block(h:Ext a w)(hk:k<a.heap.size):w.heap[k]?=a.heap[k]?:=Below.block h k hk
def heap_drewN(w:World)(n:Nat):(w.drewN n).heap=w.heap:=by induction n with
 |zero=>rfl
 |succ n b9=>exact b9
structure Keep(a7:Nat->Prop)(w F:World):Prop where
 os:F.os=w.os
 tape:F.tape=w.tape
 output:F.output=w.output
 size:w.heap.size<=F.heap.size
 block:∀k,a7 k->F.heap[k]?=w.heap[k]?
def Keep.refl(a7:Nat->Prop)(w:World):Keep a7 w w:=⟨rfl,rfl,rfl,Nat.le_refl _,λ_ _=>rfl⟩
def Keep.trans{a7:Nat->Prop}{a b c:World}(h:Keep a7 a b)(k:Keep a7 b c):Keep a7 a c:=
 ⟨k.os.trans h.os,k.tape.trans h.tape,k.output.trans h.output,Nat.le_trans h.size k.size,λi hi=>(k.block i hi).trans (h.block i hi)⟩
def Keep.mono(h:Keep a7 w F)(ab:∀k,abX k->a7 k):Keep abX w F:=⟨h.os,h.tape,h.output,h.size,λk hk=>h.block k (ab k hk)⟩
def Keep.of_below(h:Below B w F)(ab:∀k,a7 k->k<B):Keep a7 w F:=⟨h.os,h.tape,h.output,h.size,λk hk=>h.block k (ab k hk)⟩
def Keep.below(h:Keep a7 w F)(ab:∀k,k<B->a7 k):Below B w F:=⟨h.os,h.tape,h.output,h.size,λk hk=>h.block k (ab k hk)⟩
def Keep.cell(h:Keep a7 w F)(ac:a7 p.block):F.cell? p=w.cell? p:=World.cell?_of_block (w:=w) (h.block p.block ac)
def Keep.setCell(w:World)(ac:¬a7 p.block)(u:Value):Keep a7 w (w.setCell p u):=
 ⟨rfl,rfl,rfl,by simp[World.setCell],λk hk=>Below.heap_setCell _ _ _ _ (λe=>ac (e▸hk))⟩
def Keep.alloc{a7:Nat->Prop}(w:World)(ab:∀k,a7 k->k<w.heap.size)(o:Obj):Keep a7 w (w.alloc o):=
 ⟨rfl,rfl,rfl,by simp,λk hk=>Below.heap_alloc _ _ _ (ab k hk)⟩
def Po{B:World}(h:Keep a7 aq B)(k:Keep a7 B C):Keep a7 aq C:=h.trans k
def At(w:World)(b o:Nat)(U:List Value):Prop:= ∀i,(h:i<U.length)->w.cell? ⟨b,o+i,none⟩=some U[i]
def At.ext(h:Ext a w){b o:Nat}{U:List Value}(ao:At a b o U):At w b o U:=λi hi=>h.cell (ao i hi)
def aS(w:World)(n:Nat)(enc:α->List Value)(v:Value)(A:List α):Prop:=
 ∃(a:Option Addr) (c:Nat),v= .slice a A.length c/\A.length<=c/\(a=none->c=0)/\∀i,(h:i<A.length)->∃b o,a=some ⟨b,o,none⟩/\At w b (o+i*n) (enc A[i])
def aS.ext(h:Ext a w){enc:α->List Value}{A:List α}(hv:aS a n enc v A):aS w n enc v A:=by obtain⟨jQ,c,h1,h2,T,af⟩:=hv;exact⟨jQ,c,h1,h2,T,λi hi=>let⟨b,o,e,k⟩:=af i hi;⟨b,o,e,k.ext h⟩⟩
def wf_u32(h:(Lit.int .u32 x).wf=true):∃n:Nat,x=(n:Int)/\n<4294967296:=by simp[Lit.wf,IntKind.min,IntKind.max,IntKind.signed,IntKind.bits]at h;exact⟨x.toNat,by omega,by omega⟩
def wf_u64(h:(Lit.int .u64 x).wf=true):∃n:Nat,x=(n:Int)/\n<18446744073709551616:=by simp[Lit.wf,IntKind.min,IntKind.max,IntKind.signed,IntKind.bits]at h;exact⟨x.toNat,by omega,by omega⟩
def wf_i64(h:(Lit.int .i64 x).wf=true): -9223372036854775808<=x/\x<=9223372036854775807:=by simp[Lit.wf,IntKind.min,IntKind.max,IntKind.signed,IntKind.bits]at h;exact⟨by omega,by omega⟩
theorem Uv{P:Program}{t e:TypeId}{fs:Array Field}(an:P.underlying t=some (.array n e))(bx:P.underlying e=some (.struct fs))(hi:(P.info? e).map (·.size)=some C6)(U:Array Value)(i:Nat)(h:i<n)(w:World):(Instr.index t (.agg U) (.int .i64 (i:Int))).run P w= .ok (.agg (U.extract (i*C6) (i*C6+C6))) w:=by
 obtain⟨inf,atU,ab⟩:∃inf,P.info? e=some inf/\inf.size=C6:=by
  cases be:P.info? e with
  |none=>rw[be]at hi;cases hi
  |some inf=>rw[be]at hi;exact⟨inf,rfl,by simpa using hi⟩
 have h1:(0:Int)<=(i:Int)/\(i:Int)<(n:Int):=by omega
 simp[Instr.index,asIntOf,run_underlying an,run_underlying bx,part,isAgg,sizeOf,typeInfo,atU,ab,h]
end bh
abbrev aM(f:Nat)(a:Array Value)(w:World)(v:Value):Prop:=Calls prog f a w λe F=>e= .returned v/\bh.Ext w F
end Go.Proofs.YtopfefhenfineaaGreat
namespace Go.RowKit
def Hid.o{p:Prop}(h:Hid p):p:=h
end Go.RowKit
namespace Go.Proofs.YtopfefhenfineaaGreat
open Go.RowKit
abbrev z:=@Lib.hid
abbrev O:=@bh.Ext.refl
abbrev ah:=@And.intro
abbrev G:=@World
abbrev K:=@Value
abbrev dG:=@Array.getElem?_eq_some_iff
abbrev aZ:=@Nat.le_refl
abbrev bA:=@heap_alloc_new
abbrev dK:=@List.getElem?_eq_getElem
abbrev dA:=@List.length_append
abbrev au:=@if_neg
abbrev bn:=@ByteArray
abbrev cO:=@bodyPost_ret
abbrev cB:=@Nat.le_trans
abbrev aF:=@if_pos
abbrev dJ:=@List.length_cons
abbrev dH:=@decide_eq_true
abbrev dR:=@World.size_alloc
abbrev dM:=@decide_eq_false
abbrev dL:=@List.length_map
abbrev eB:=@List.getElem_mem
abbrev gD:=@World.block_lt_of_cell?
abbrev eZ:=@Value.slice.injEq
abbrev dV:=@Bool.and_eq_true
abbrev fI:=@Below.heap_setCell
abbrev dW:=@Bool.eq_iff_iff
abbrev aL:=@UInt8
abbrev gV:=@List.length_take
abbrev fu:=@List.length_nil
abbrev mh:=@List.take_succ_eq_append_getElem
abbrev kQ:=@List.drop_eq_getElem_cons
abbrev eP:=@callsIn_wide
abbrev gJ:=@List.append_assoc
abbrev nN:=@List.eq_nil_of_length_eq_zero
abbrev gq:=@results_none
abbrev fQ:=@List.map_append
abbrev iH:=@beq_eq_false_iff_ne
abbrev kR:=@List.getD_eq_getElem?_getD
abbrev eG:=@Nat.zero_le
abbrev gZ:=@List.cons_append
abbrev gL:=@Option.some.inj
abbrev fK:=@List.map_cons
abbrev kS:=@World.frozen?_of_block
abbrev iq:=@List.nil_append
abbrev iM:=@decide_eq_true_eq
abbrev iR:=@List.take_length
abbrev mP:=@List.length_drop
abbrev dD:=@TypeId
abbrev jB:=@Option.some.injEq
abbrev gF:=@Nat.zero_add
abbrev kr:=@Int.toNat_natCast
abbrev jR:=@World.ownsRow_nil
abbrev ku:=@List.size_toArray
abbrev iA:=@List.mem_cons
abbrev vo:=@World.cell?_setCell_other
abbrev gu:=@setRow_heap
abbrev iZ:=@List.mem_append
abbrev sG:=@Array.getElem?_eq_getElem
abbrev qy:=@List.drop_length
abbrev kC:=@Option.map_some
abbrev iJ:=@List.mem_map
abbrev pF:=@Nat.mul_le_mul_right
abbrev oC:=@Array.replicate_zero
abbrev oD:=@Array.replicate_succ
abbrev kD:=@List.length_set
abbrev jc:=@Bool.true_and
abbrev lQ:=@results_cell_row
abbrev oG:=@List.append_toArray
abbrev pG:=@World.ownsRow.alloc
abbrev rJ:=@List.take_of_length_le
abbrev arW:=@Option.isSome_some
abbrev gP:=@bh.Ext.trans
abbrev pI:=@List.mem_singleton
abbrev oH:=@List.push_toArray
abbrev mQ:=@Nat.min_eq_left
abbrev kE:=@List.map_nil
abbrev uD:=@List.getElem_of_mem
abbrev rM:=@Bool.false_eq_true
abbrev qz:=@List.append_nil
abbrev uE:=@World.frozen?_setCell
abbrev rO:=@Nat.le_add_right
abbrev mo:=@setRow_other
abbrev jC:=@beq_iff_eq
abbrev sH:=@setCell_eq_setRow
abbrev sI:=@List.flatMap_cons
abbrev rQ:=@List.getElem_map
abbrev vv:=@List.mem_cons_of_mem
abbrev qM:=@Bool.or_eq_true
abbrev pJ:=@Addr.mk.injEq
abbrev rR:=@wpList_load_row
abbrev nO:=@Nat.add_zero
abbrev xD:=@World.cell?_of_block
abbrev zP:=@List.takeWhile_cons_of_pos
abbrev uF:=@List.foldl_append
abbrev xG:=@List.length_singleton
abbrev zQ:=@List.length_replicate
abbrev vw:=@Nat.lt_of_lt_of_le
abbrev qA:=@Nat.mul_one
abbrev zS:=@List.pairwise_iff_getElem
abbrev yV:=@List.getElem_cons_succ
abbrev wJ:=@decide_eq_true_iff
abbrev qN:=@wpQuiet_nil
abbrev vB:=@Obj.cells.injEq
abbrev zT:=@List.mem_of_mem_take
abbrev BF:=@results_tmp2
abbrev Dk:=@List.dropWhile_cons_of_pos
abbrev yX:=@Nat.add_sub_cancel
abbrev yY:=@List.mem_cons_self
abbrev BG:=@List.getElem_cons_zero
abbrev yZ:=@List.filter_append
abbrev y5:=@List.contains_cons
abbrev BH:=@List.length_filter_le
abbrev zU:=@World.size_setCell
abbrev FB:=@List.takeWhile_cons_of_neg
abbrev BI:=@Bool.or_eq_false_iff
abbrev xH:=@List.foldl_cons
abbrev Il:=@Array.getElem?_eq_none
abbrev Pq:=@World.cell?_setCell_same
abbrev sJ:=@info_parts
abbrev FC:=@List.getElem?_take
abbrev y7:=@List.take_take
abbrev y8:=@callsIn_of_wp
abbrev FD:=@List.flatMap_append
abbrev Uw:=@List.getElem_append_left
abbrev abY:=@Option.isSome_none
abbrev abZ:=@List.getElem?_append_left
variable{S:Prop}
structure Ux(P:Prop):Prop where o:P
theorem ak{P:Program}{f:Nat}{a:Array Value}{w:World}{aX:Ending→World→Prop}{x:Ending}{aH:World→Prop}(h:Calls P f a w fun e F=>e=x∧aH F)(k:∀F,aH F→aX x F):Calls P f a w aX:=h.mono (by rintro e F ⟨rfl,hr⟩;exact k F hr)
theorem iN{aY:Fence}{n:Nat}{P:Program}{f:Nat}{a:Array Value}{w:World}{aX:Ending→World→Prop}{x:Ending}{aH:World→Prop}(h:CallsIn aY n P f a w fun e F=>e=x∧aH F)(k:∀F,aH F→aX x F):CallsIn aY n P f a w aX:=h.mono (by rintro e F ⟨rfl,hr⟩;exact k F hr)
instance:CoeOut World Nat:=⟨fun w=>w.heap.size⟩
instance:Coe Nat Addr:=⟨fun g=>⟨g,0,none⟩⟩
instance{α:Type}:CoeOut (List α) Nat:=⟨List.length⟩
instance:CoeOut ByteArray Nat:=⟨ByteArray.size⟩
structure jD(n:Nat)
def H:jD 0:=⟨⟩
instance:CoeFun (jD 0) λ_=>Int→Value:=⟨λ_=>.int .i64⟩
def M:jD 1:=⟨⟩
instance:CoeFun (jD 1) λ_=>Int→Value:=⟨λ_=>.int .u32⟩
def aA:jD 2:=⟨⟩
instance:CoeFun (jD 2) λ_=>Int→Value:=⟨λ_=>.int .u64⟩
def aC:jD 3:=⟨⟩
instance:CoeFun (jD 3) λ_=>Int→Value:=⟨λ_=>.int .u8⟩
def bf:jD 4:=⟨⟩
instance:CoeFun (jD 4) λ_=>Int→Value:=⟨λ_=>.int .u16⟩
def N:jD 5:=⟨⟩
instance:CoeFun (jD 5) λ_=>ByteArray→Value:=⟨λ_=>.string⟩
def av:jD 6:=⟨⟩
instance:CoeFun (jD 6) λ_=>Bool→Value:=⟨λ_=>.bool⟩
def E:jD 7:=⟨⟩
instance:CoeFun (jD 7) λ_=>Option Addr→Nat→Nat→Value:=⟨λ_=>.slice⟩
def aB:jD 8:=⟨⟩
instance:CoeFun (jD 8) λ_=>Option Addr→Value:=⟨λ_=>.pointer⟩
def bH:jD 9:=⟨⟩
instance:CoeFun (jD 9) λ_=>Array Value→Value:=⟨λ_=>.tuple⟩
def bg:jD 10:=⟨⟩
instance:CoeFun (jD 10) λ_=>Array Value→Value:=⟨λ_=>.agg⟩
def aI:jD 11:=⟨⟩
instance:CoeFun (jD 11) λ_=>Value→Ending:=⟨λ_=>.returned⟩
def J:jD 12:=⟨⟩
instance:CoeFun (jD 12) λ_=>Array Value→TypeId→(fr:Nat×Nat:=(0,0))→Obj:=⟨λ_=>@Obj.cells⟩
def aLH:jD 13:=⟨⟩
instance:CoeFun (jD 13) λ_=>World→Nat→Nat→Value→Prop:=⟨λ_ w b o v=>w.cell? ⟨b,o,none⟩=some v⟩
def aLI:jD 14:=⟨⟩
instance:CoeFun (jD 14) λ_=>World→Addr→Value→Prop:=⟨λ_ w p v=>w.cell? p=some v⟩
def aLJ:jD 15:=⟨⟩
instance:CoeFun (jD 15) λ_=>World→Nat→Array Value→TypeId→Prop:=⟨λ_ w b c t=>w.heap[b]?=some (.cells c t (0,0))⟩
def wK(h:S:=by simpa using this):S:=h
def eO(h:S:=by simp[intOf];omega):S:=h
def tH(h:S:=by simpa using h):S:=h
def aj(h:S:=by kernel_rfl):S:=h
def Im(h:S:=by simpa using hi):S:=h
def fC(h:S:=by simp[go_sem]):S:=h
def Ip(h:S:=by simp[D]):S:=h
def aE(h:S:=by omega):S:=h
def cZ(h:S:=by go_num):S:=h
def Y(h:S:=by decide):S:=h
def ay(h:S:=by simp):S:=h
def K6(h:S:=by simpa using hk):S:=h
def dU(h:S:=by simp;omega):S:=h
def fD(h:S:=by simp[go_sem];rfl):S:=h
end Go.Proofs.YtopfefhenfineaaGreat
namespace Go.Proofs.YtopfefhenfineaaGreat
open Go.Proofs.Tryz Go.RowKit
variable{S:Prop}
abbrev Dl:=@List.getElem?_append_right
def Uy(h:S:=by rcases a6 with rfl|rfl|rfl|rfl<;>rfl):S:=h
def Dn(h:S:=by exact⟨rfl,(O _).alloc _⟩):S:=h
def Iq(h:S:=by have h8:=z b4;go_wp2;go_ret;exact⟨by rw[h8.o];rfl,aT.o⟩):S:=h
def qO(h:S:=by exact⟨0,aE,rfl,O _,rfl⟩):S:=h
namespace bh
variable{base c e g n:Nat}{α:Type}{A:List α}
def Dp{enc:α->List K}(cp:∀x,(enc x).length=n)(A:List α):(A.flatMap enc).length=A.length*n:=by
 induction A with
 |nil=>simp
 |cons x A b9=>simp only[sI,dA,cp,b9,dJ,Nat.add_mul,Nat.one_mul];omega
def flat_get{α:Type}{n:Nat}{enc:α->List K}(cp:∀x,(enc x).length=n):∀(A:List α)(i j:Nat)(hi:i<A)(_:j<n),(A.flatMap enc)[i*n+j]?=(enc A[i])[j]?
 |x::A,0,j,_,Z=>by simp only[sI,Nat.zero_mul,gF,BG];rw[abZ (by rw[cp];exact Z)]
 |x::A,i+1,j,hi,Z=>by simp only[sI,yV];rw[Dl (by rw[cp,Nat.add_mul];omega),cp,show(i+1)*n+j-n=i*n+j by rw[Nat.add_mul];omega];exact flat_get cp A i j Im Z
def eD{w:G}{enc:α->List K}{v:K}(cp:∀x,(enc x).length=n)(h:w.ownsRow base e n v A (A.flatMap enc)):aS w n enc v A:=by
 obtain⟨h1,h2⟩:=h;rcases h2 with⟨rfl,ae⟩|⟨g,cap,bm,rfl,hg,be,ao,R,ab,an⟩
 ·exact⟨none,0,by rw[ae],aE,λ_=>rfl,λi hi=>absurd hi aE⟩
 ·refine⟨_,cap,rfl,ao,(λh=>by cases h),λi hi=>⟨g,0,rfl,λj Z=> ?_⟩⟩;rw[cp]at Z;have aK:(A.flatMap enc)[i*n+j]?=(enc A[i])[j]?:=flat_get cp A i j hi Z;have ad:i*n+j<A.length*n:=by have:(i+1)*n<=A.length*n:=pF n hi;rw[Nat.add_mul]at this;omega
  rw[<-an,List.getElem?_take_of_lt ad]at aK;have aV:w.cell? ⟨g,0+i*n+j,none⟩=bm.toList[i*n+j]?:=by simp[World.cell?,be]
  rw[aV,aK,dK (by rw[cp];exact Z)]
def BJ(w:G)(l:List K)(t:dD):∀j u,l[j]?=some u->(w.alloc (J l.toArray t)).cell? ((w:Addr).add j)=some u:=by
 intro j u a6;have e:((w:Addr).add j)=⟨w,j,none⟩:=by unfold Addr.add;split<;>simp_all
 rw[e];have h2:(w.alloc (J l.toArray t)).heap[w.heap.size]?=some (J l.toArray t (0,0)):=bA w _;unfold World.cell?;dsimp only;rw[h2];simpa using a6
def Uz(w:G)(l:List K)(t:dD)(g:Nat)(hg:g=w.heap.size):∀j u,l[j]?=some u->(w.alloc (J l.toArray t)).cell? ((g:Addr).add j)=some u:=by subst hg;exact BJ w l t
def ab0{α:Type}{n:Nat}{enc:α->List K}(cp:∀x,(enc x).length=n):∀(A:List α)(i j:Nat)(u:K)(y:α)(hi:i<A)(_:j<n),enc y=(enc A[i]).set j u->(A.flatMap enc).set (i*n+j) u=(A.set i y).flatMap enc
 |x::A,0,j,u,y,_,Z,e=>by simp only[sI,Nat.zero_mul,gF,List.set_cons_zero,BG]at e⊢;rw[List.set_append_left _ _ (by rw[cp];exact Z),e]
 |x::A,i+1,j,u,y,hi,Z,e=>by simp only[sI,List.set_cons_succ,yV]at e⊢;rw[List.set_append_right _ _ (by rw[cp,Nat.add_mul];omega),cp,show(i+1)*n+j-n=i*n+j by rw[Nat.add_mul];omega];rw[ab0 cp A i j u y Im Z e]
def zV{w:G}{enc:α->List K}{v:K}(h:w.ownsRow base e n v A (A.flatMap enc))(ac:0<A.length):∃g c,v=E (some ⟨g,0,none⟩) A c/\base<=g/\g<w.heap.size/\∀j,w.frozen? ⟨g,j,none⟩=false:=by
 obtain⟨h1,h2⟩:=h;rcases h2 with⟨_,ae⟩|⟨g,cap,bm,rfl,hg,be,ao,R,ab,an⟩
 ·omega
 ·exact⟨g,cap,rfl,hg,(dG.1 be).1,λj=>by simp[World.frozen?,be]⟩
def vD{w:G}{enc:α->List K}(cp:∀x,(enc x).length=n)(h:w.ownsRow base e n (E (some g) A c) A (A.flatMap enc))(i j:Nat)(u:K)(y:α)(hi:i<A)(Z:j<n)(bx:enc y=(enc A[i]).set j u):(w.setCell ⟨g,i*n+j,none⟩ u).ownsRow base e n (E (some g) A c) A ((A.set i y).flatMap enc)/\w.grownBy (w.setCell ⟨g,i*n+j,none⟩ u) (some g):=by rw[<-ab0 cp A i j u y hi Z bx];exact World.ownsRow.stored h (i*n+j) u
end bh
def xI(h:S:=by exact .inl rfl):S:=h
def ab1(h:S:=by cases s;cases t;simp only[bytes]at h;congr;exact Array.toList_inj.1 h):S:=h
def K7(h:S:=by go_ret;exact⟨rfl,Q⟩):S:=h
def Pt(h:S:=by rcases a6 with rfl|rfl|rfl<;>rfl):S:=h
def FE(h:S:=by (repeat' split)<;>simp):S:=h
def UA(h:S:=by go_ret;exact⟨none,0,rfl,O _,⟨rfl,.inl ay⟩⟩):S:=h
def UC(h:S:=by go_ret;refine⟨ri,rj,ay,c9.o,?_⟩;simpa using rk.o):S:=h
def UD(h:S:=by gi_wp2;go_end0;exact⟨⟨_,rfl⟩,.inl ⟨_,rfl,ll⟩⟩):S:=h
def ab2(h:S:=by exact⟨_,results_tmp rfl _ _ _,rfl,hB.trans (belowK_b (w:=w) (aZ _) W ax _ _ (by simp at cE;omega) am rfl rfl)⟩):S:=h
def UE(h:S:=by obtain⟨rfl,ll⟩:=hrel;gi_wp2;go_end0;exact⟨⟨_,rfl⟩,ll⟩):S:=h
def Pv(h:S:=by exact⟨rfl,(Q.alloc _).trans ag⟩):S:=h
def ab3(h:S:=by
 obtain⟨Bx,bk,bW,d7⟩:=ab;refine⟨Bx,bk,(hg.block Bx (dG.1 bW).1 (λe=> ?_)).trans bW,d7⟩;obtain⟨o,ho,ao⟩:=(hr Bx e.symm).2;rw[bW]at ho;cases ho
 cases ao):S:=h
def FH(h:S:=by go_wp2_with fail;go_ret;exact wL):S:=h
def ab4(h:S:=by
 intro j o Z ho;rcases h.2 with⟨rfl,_⟩|⟨g,cap,bm,rfl,_,be,_⟩
 ·simp[Value.ownBlock]at Z
 ·simp only[Value.ownBlock,jB]at Z;subst Z;rw[be]at ho;cases ho
  rfl):S:=h
def FI(h:S:=by go_ret;exact⟨rfl,(O w).alloc _⟩):S:=h
def FJ(h:S:=by rintro ax c pre W _ _ h _;exact h.elim):S:=h
def UF(h:S:=by exact⟨rfl,((O _).alloc _).trans Q⟩):S:=h
def Pw(h:S:=by rw[List.find?_eq_none];intro x D;obtain⟨j,Z,rfl⟩:=uD D;rw[h j Z];simp):S:=h
def wL(h:S:=by exact⟨rfl,aT.o⟩):S:=h
def ab5(h:S:=by
 refine⟨_,cap,by rw[jS],by rw[jS];exact ao,(λe=>by cases e),λi hi=>⟨w.heap.size,0,rfl,λj Z=> ?_⟩⟩;have C7:j=0:=by simp[pU]at Z;exact Z
 subst C7;have l':i<s.data.size:=by rw[jS]at hi;exact hi
 rw[show 0+i*1+0=i from aE,World.cell?_alloc_mark,bytesRow_at s cap i l'];simp[pU,bytes]):S:=h
def K8(h:S:=by exact⟨rfl,O _⟩):S:=h
def BK(h:S:=by unfold aM;go_in;go_wp2;go_ret;exact⟨rfl,O _⟩):S:=h
def Px(h:S:=by
 obtain⟨h1,h2⟩:=h;refine⟨h1,?_⟩;rcases h2 with h2|⟨g,cap,bm,hv,hg,r⟩
 ·exact .inl h2
 ·exact .inr ⟨g,cap,bm,hv,aE,r⟩):S:=h
def vE(h:S:=by go_ret;exact⟨rfl,rfl⟩):S:=h
def rT(h:S:=by simp only;omega):S:=h
def jU(h:S:=by as_aux_lemma=>kernel_rfl):S:=h
def sK(h:S:=by rw[gV];omega):S:=h
def vF(h:S:=by unfold maxLen;simp):S:=h
def FK(h:S:=by simp[oI]):S:=h
def uG(h:S:=by dsimp only;omega):S:=h
def Ir(h:S:=by rw[dR];omega):S:=h
def y9(h:S:=by unfold maxLen;omega):S:=h
def UG(h:S:=by rw[cp];exact zW):S:=h
def xJ(h:S:=by rw[mP];omega):S:=h
def UK(h:S:=by simp[fV]):S:=h
def xL(h:S:=by first|(simp;done)|(simp;omega)):S:=h
def K9(h:S:=by repeat(first|exact aT.o|apply Ext.drewN|apply Ext.alloc|apply Ext.drew)):S:=h
def Dq(h:S:=by simpa using X):S:=h
namespace bh
variable{P:Program}{a:Act}{base c c' e k m n:Nat}{aU:Array Oper}{rest:List Oper}{α:Type}{A ys:List α}
def aS.cells{w:G}{enc:α->List K}(cp:∀x,(enc x).length=n){jQ:Addr}(h:aS w n enc (E (some jQ) m c) ys):m=ys.length/\∀j u,(ys.flatMap enc)[j]?=some u->w.cell? (jQ.add j)=some u:=by
 obtain⟨a,c',e,h1,h2,T⟩:=h;simp only[eZ]at e;obtain⟨rfl,rfl,rfl⟩:=e;refine⟨rfl,λj u a6=> ?_⟩;have ma:=Dp cp ys;have Z:=(List.getElem?_eq_some_iff.1 a6).1;rw[ma]at Z;have gs:0<n:=by
  rcases Nat.eq_zero_or_pos n with ae|ae
  ·rw[ae]at Z;omega
  ·exact ae
 have hi:j/n<ys.length:=Nat.div_lt_of_lt_mul (by rw[Nat.mul_comm];exact Z);have zW:j%n<n:=Nat.mod_lt _ gs;have arX:j=j/n*n+j%n:=by rw[Nat.mul_comm];exact(Nat.div_add_mod j n).symm
 obtain⟨b,o,cU,b8⟩:=T (j/n) hi;obtain rfl:=gL cU;have hG:=b8 (j%n) UG;have aK:=flat_get cp ys (j/n) (j%n) hi zW;rw[<-arX,a6]at aK;have aV:(enc ys[j/n])[j%n]' UG=u:=by rw[dK UG]at aK;exact(gL aK).symm
 rw[aV,show o+j/n*n+j%n=o+j from aE]at hG;unfold Addr.add;split
 ·rename_i C7;subst C7;simpa using hG
 ·exact hG
def jh{enc:α->List K}(cp:∀x,(enc x).length=n)(W:G)(A:List α)(t:dD)(g:Nat)(hg:g=W.heap.size):aS (W.alloc (J (A.flatMap enc).toArray t)) n enc (E (some g) A A) A:=by
 refine⟨_,_,rfl,aZ _,(λh=>by cases h),λi hi=>⟨_,_,rfl,λj Z=> ?_⟩⟩;have C':j<n:=by rw[cp]at Z;exact Z
 have:=flat_get cp A i j hi C';have h2:=Uz W (A.flatMap enc) t g hg (i*n+j) _ (this.trans (dK Z));have e:(g:Addr).add (i*n+j)=⟨g,0+i*n+j,none⟩:=by simp only[Addr.add];(split<;>simp_all)
 rw[e]at h2;exact h2
def arY(w:G)(n:Nat)(enc:α->List K):aS w n enc (E none 0 0) ([]:List α):=⟨none,0,rfl,aZ _,λ_=>rfl,λi hi=>by cases hi⟩
def Py{enc:α->List K}(fL:∀x,∀u∈enc x,u.oneCell'=true)(A:List α):∀u∈A.flatMap enc,u.oneCell'=true:=λu a6=>by obtain⟨x,_,D⟩:=List.mem_flatMap.1 a6;exact fL x u D
def dP{w:G}{v:K}{b3:List K}(h:w.ownsRow base e n v k b3):∃a c,v=E a k c:=by
 rcases h.2 with⟨rfl,rfl⟩|⟨g,cap,bm,rfl,_⟩
 ·exact⟨none,0,rfl⟩
 ·exact⟨_,_,rfl⟩
theorem La{W:G}{t eJ e:dD}{bytes:Nat}{aR:K}(a6:P.underlying t=some (.slice e))(i5:(P.info? e).map (λi=>(i.zero,i.size,i.bytes))=some (some aR,n,bytes))(hQ:aR.cells.size=n)(hn:0<n){enc:α->List K}(cp:∀x,(enc x).length=n)(fL:∀x,∀u∈enc x,u.oneCell'=true){u v:K}(cc:W.ownsRow base e n u A (A.flatMap enc))(cX:aS W n enc v ys)(mn:A.length+ys<=100000000)(mr:bytes<=1000000)(pv:base<=W.heap.size):∃bv bp F,(Builtin.append_ #[t,t] eJ #[u,v]).run P W= .ok (E bv (A.length+ys) bp) F/\F.ownsRow base e n (E bv (A.length+ys) bp) (A.length+ys) ((A++ys).flatMap enc)/\W.grownBy F u.ownBlock:=by
 obtain⟨hh,hi,nv,pw,hj⟩:=sJ i5;obtain⟨a,c,rfl,ge,sc,mt⟩:=id cX;cases a with
 |none=>obtain rfl:=sc rfl;have px:ys=[]:=nN aE;subst px;obtain⟨bv,bp,rfl⟩:=dP cc;refine⟨bv,bp,W,run_append_owned_none (w:=W) base t eJ e hh n a6 hi _ _ _ cc,?_,World.grownBy.refl W _⟩;simpa using cc
 |some jQ=>obtain⟨-,Dd⟩:=cX.cells cp;have ck:(A.length+ys)*bytes<=100000000*1000000:=Nat.mul_le_mul mn mr;obtain⟨e7,F,hr,h2,T,-⟩:=run_append_own (P:=P) W base t eJ e hh aR n bytes a6 hi nv pw hj hQ hn u A _ cc jQ ys c (ys.flatMap enc) (Dp cp ys) Dd (Py fL ys) y9 aE pv;obtain⟨bv,bp,rfl⟩:=dP h2;exact⟨bv,bp,F,hr,by rw[FD];exact h2,T⟩
theorem ab6{W:G}{o:Oper}{aX:Act->G->Prop}{bI:Exit->Act->G->Prop}(s x:Operand)(t:dD)(ho:o.op= .call {callee:= .builtin .append,args:= #[s,x],argTypes:= #[t,t]}){e:dD}{bytes:Nat}{aR:K}(a6:P.underlying t=some (.slice e))(i5:(P.info? e).map (λi=>(i.zero,i.size,i.bytes))=some (some aR,n,bytes))(hQ:aR.cells.size=n)(hn:0<n){enc:α->List K}(cp:∀x,(enc x).length=n)(fL:∀x,∀u∈enc x,u.oneCell'=true)(base:Nat)(u v:K)(A ys:List α)(ab:a.eval s=u)(D:a.eval x=v)(cc:W.ownsRow base e n u A (A.flatMap enc))(cX:aS W n enc v ys)(mn:A.length+ys<=100000000)(mr:bytes<=1000000)(pv:base<=W.heap.size)(h:∀bv bp F,F.ownsRow base e n (E bv (A.length+ys) bp) (A.length+ys) ((A++ys).flatMap enc)->W.grownBy F u.ownBlock->aX (a.put o.dst (E bv (A.length+ys) bp)) F):o.wp P a W aX bI:=by obtain⟨bv,bp,F,hr,h2,T⟩:=La (P:=P) (eJ:=o.type) a6 i5 hQ hn cp fL cc cX mn mr pv;unfold Oper.wp execOp;simp only[ho,resolve,invoke,builtin,Sem.run_bind,Sem.run_pure,Result.andThen_ok,List.map_toArray,fK,kE,ab,D,hr];exact h bv bp F h2 T
theorem vG{W:G}{o:Oper}{bI:Exit->Act->G->Prop}(jV:o.guard=none)(s x:Operand)(t:dD)(ho:o.op= .call {callee:= .builtin .append,args:= #[s,x],argTypes:= #[t,t]}){e:dD}{bytes:Nat}{aR:K}(a6:P.underlying t=some (.slice e))(i5:(P.info? e).map (λi=>(i.zero,i.size,i.bytes))=some (some aR,n,bytes))(hQ:aR.cells.size=n)(hn:0<n){enc:α->List K}(cp:∀x,(enc x).length=n)(fL:∀x,∀u∈enc x,u.oneCell'=true)(base:Nat)(u v:K)(A ys:List α)(ab:a.eval s=u)(D:a.eval x=v)(cc:W.ownsRow base e n u A (A.flatMap enc))(cX:aS W n enc v ys)(mn:A.length+ys<=100000000)(mr:bytes<=1000000)(pv:base<=W.heap.size)(h:∀bv bp F,F.ownsRow base e n (E bv (A.length+ys) bp) (A.length+ys) ((A++ys).flatMap enc)->W.grownBy F u.ownBlock->wpList P aU bI rest (a.put o.dst (E bv (A.length+ys) bp)) F):wpList P aU bI (o::rest) a W:=
 wpList_plain jV λ_ am=>ab6 s x t ho a6 i5 hQ hn cp fL base u v A ys ab D cc cX mn mr pv λbv bp F h2 T=>am _ _ (h bv bp F h2 T)
theorem FL{W:G}{o:Oper}{aX:Act->G->Prop}{bI:Exit->Act->G->Prop}{py:Prop}(jV:o.guard=none)(s x:Operand)(t:dD)(ho:o.op= .call {callee:= .builtin .append,args:= #[s,x],argTypes:= #[t,t]}){e:dD}{bytes:Nat}{aR:K}(a6:P.underlying t=some (.slice e))(i5:(P.info? e).map (λi=>(i.zero,i.size,i.bytes))=some (some aR,n,bytes))(hQ:aR.cells.size=n)(hn:0<n){enc:α->List K}(cp:∀x,(enc x).length=n)(fL:∀x,∀u∈enc x,u.oneCell'=true)(base:Nat)(u v:K)(A ys:List α)(ab:a.eval s=u)(D:a.eval x=v)(cc:W.ownsRow base e n u A (A.flatMap enc))(cX:aS W n enc v ys)(mn:A.length+ys<=100000000)(mr:bytes<=1000000)(pv:base<=W.heap.size)(h:∀bv bp F,F.ownsRow base e n (E bv (A.length+ys) bp) (A.length+ys) ((A++ys).flatMap enc)->W.grownBy F u.ownBlock->aX (a.put o.dst (E bv (A.length+ys) bp)) F):if Region.wanted o (yielded aU a.tmps)=true then Oper.wp P o a W aX bI else py:=by
 have bJ:Region.wanted o (yielded aU a.tmps)=true:=by simp[Region.wanted,jV]
 rw[aF bJ];exact ab6 s x t ho a6 i5 hQ hn cp fL base u v A ys ab D cc cX mn mr pv h
def qQ{enc:α->List K}(cp:∀x,(enc x).length=n)(W:G)(A:List α)(e g base:Nat)(hg:g=W.heap.size)(V:base<=W.heap.size)(R:A.length<=maxLen):(W.alloc (J (A.flatMap enc).toArray e)).ownsRow base e n (E (some g) A A) A (A.flatMap enc):=by subst hg;refine⟨Dp cp A,.inr ⟨_,_,_,rfl,V,bA W _,aZ _,R,by simp[Dp cp A],?_⟩⟩;rw[<-Dp cp A];exact iR
def Pz{w:G}{v:K}{b3:List K}(h:w.ownsRow base e n v k b3)(m:Nat):(w.drewN m).ownsRow base e n v k b3:=⟨h.1,by rw[heap_drewN];exact h.2⟩
def qB{w F:G}{a7:Nat->Prop}{v:K}{b3:List K}(h:w.ownsRow base e n v k b3)(hk:Keep a7 w F)(ab:∀b,v.ownBlock=some b->a7 b):F.ownsRow base e n v k b3:=by
 refine⟨h.1,?_⟩;rcases h.2 with h2|⟨g,cap,bm,rfl,hg,be,r⟩
 ·exact .inl h2
 ·exact .inr ⟨g,cap,bm,rfl,hg,(hk.block g (ab g rfl)).trans be,r⟩
theorem arZ{W:G}{o:Oper}{aX:Act->G->Prop}{bI:Exit->Act->G->Prop}(s x:Operand)(t:dD)(ho:o.op= .call {callee:= .builtin .append,args:= #[s,x],argTypes:= #[t,t]}){e:dD}{bytes:Nat}{aR:K}(a6:P.underlying t=some (.slice e))(i5:(P.info? e).map (λi=>(i.zero,i.size,i.bytes))=some (some aR,n,bytes))(hQ:aR.cells.size=n)(hn:0<n){enc:α->List K}(cp:∀x,(enc x).length=n)(fL:∀x,∀u∈enc x,u.oneCell'=true)(w0:G)(u v:K)(A ys:List α)(ab:a.eval s=u)(D:a.eval x=v)(cc:W.ownsRow w0 e n u A (A.flatMap enc))(cX:aS W n enc v ys)(mn:A.length+ys<=100000000)(mr:bytes<=1000000)(cA:Ext w0 W)(h:∀bv bp F,F.ownsRow w0 e n (E bv (A.length+ys) bp) (A.length+ys) ((A++ys).flatMap enc)->Ext w0 F->aX (a.put o.dst (E bv (A.length+ys) bp)) F):o.wp P a W aX bI:=by have hZ:=cc.lt;obtain⟨bv,bp,F,hr,h2,T⟩:=La (P:=P) (eJ:=o.type) a6 i5 hQ hn cp fL cc cX mn mr cA.size;unfold Oper.wp execOp;simp only[ho,resolve,invoke,builtin,Sem.run_bind,Sem.run_pure,Result.andThen_ok,List.map_toArray,fK,kE,ab,D,hr];exact h bv bp F h2 (cA.grown T (λk e=>(hZ k e).1))
theorem Dr{W:G}{o:Oper}{bI:Exit->Act->G->Prop}(jV:o.guard=none)(s x:Operand)(t:dD)(ho:o.op= .call {callee:= .builtin .append,args:= #[s,x],argTypes:= #[t,t]}){e:dD}{bytes:Nat}{aR:K}(a6:P.underlying t=some (.slice e))(i5:(P.info? e).map (λi=>(i.zero,i.size,i.bytes))=some (some aR,n,bytes))(hQ:aR.cells.size=n)(hn:0<n){enc:α->List K}(cp:∀x,(enc x).length=n)(fL:∀x,∀u∈enc x,u.oneCell'=true)(w0:G)(u v:K)(A ys:List α)(ab:a.eval s=u)(D:a.eval x=v)(cc:W.ownsRow w0 e n u A (A.flatMap enc))(cX:aS W n enc v ys)(mn:A.length+ys<=100000000)(mr:bytes<=1000000)(cA:Ext w0 W)(h:∀bv bp F,F.ownsRow w0 e n (E bv (A.length+ys) bp) (A.length+ys) ((A++ys).flatMap enc)->Ext w0 F->wpList P aU bI rest (a.put o.dst (E bv (A.length+ys) bp)) F):wpList P aU bI (o::rest) a W:=
 wpList_plain jV λ_ am=>arZ s x t ho a6 i5 hQ hn cp fL w0 u v A ys ab D cc cX mn mr cA λbv bp F h2 T=>am _ _ (h bv bp F h2 T)
def aS.take{w:G}{enc:α->List K}{a:Option Addr}(h:aS w n enc (E a m c) A)(hk:k<=A)(ao:k<=c')(hn:a=none->c'=0):aS w n enc (E a k c') (A.take k):=by
 obtain⟨bu,c0,e,h1,h2,T⟩:=h;simp only[eZ]at e;obtain⟨rfl,rfl,rfl⟩:=e;have X:(A.take k).length=k:=by rw[gV];omega
 refine⟨a,c',by rw[X],aE,hn,λi hi=> ?_⟩;obtain⟨b,o,e,b8⟩:=T i aE;exact⟨b,o,e,by rw[List.getElem_take];exact b8⟩
def aS.drop{w:G}{enc:α->List K}{a:Option Addr}(h:aS w n enc (E a m c) A)(hk:k<=A){bu:Option Addr}(bT:k<A->bu=a.map (·.add (k*n)))(hn:bu=none->c'=0)(ao:A.length-k<=c'):aS w n enc (E bu (A-k) c') (A.drop k):=by
 obtain⟨a0,c0,e,h1,h2,T⟩:=h;simp only[eZ]at e;obtain⟨rfl,rfl,rfl⟩:=e;have X:(A.drop k).length=A.length-k:=by rw[mP]
 refine⟨bu,c',by rw[X],aE,hn,λi hi=> ?_⟩;obtain⟨b,o,rfl,b8⟩:=T (k+i) aE;refine⟨b,o+k*n,?_,?_⟩
 ·rw[bT aE];simp only[kC,Addr.add];split
  ·rename_i ae;rw[ae];rfl
  ·rfl
 ·rw[List.getElem_drop];rw[Nat.add_mul,<-Nat.add_assoc]at b8;exact b8
end bh
def ab7(h:S:=by unfold hd1;exact(List.prefix_iff_eq_take.1 (List.takeWhile_prefix _)).symm):S:=h
def ab8(h:S:=by gi_wp2;refine cO (gq rfl _ _ _) rfl ?_;exact⟨⟨_,rfl⟩,.inr ⟨_,trivial,hJx3⟩⟩):S:=h
def Iu(h:S:=by go_wp2_with fail;exact vE):S:=h
def FM(h:S:=by go_ret;exact⟨ay,rfl⟩):S:=h
def FN(h:S:=by go_wp2_with fail;exact PD):S:=h
def PE(h:S:=by
 unfold Lib.trimPrefix;split
 ·rw[mP];omega
 ·exact aZ _):S:=h
def ab9(h:S:=by rw[ao,au ay]at bS;obtain⟨aK,aV⟩:=af ao;rw[aK,aV,Dt];have it:=z bS;have mu:=z ao;have xx:=z aK;have tz:=z aV;unfold aM;go_in;go_wp2_with fail;refine ak (it.o _) ?_;rintro I rfl;go_wp2_with fail;go_ret3;exact K8):S:=h
def acd(h:S:=by
 have bS:=λW=>ace s c ab W
 unfold iw at *;generalize(bytes s).contains c=sY at *;generalize str (hd1 c (bytes s))=dl at *;generalize str (tl1 c (bytes s))=gS at *;have it:=z bS;unfold aM;go_in;go_wp2_with fail;refine ak (it.o _) ?_;intro I D;go_wp2_with fail;go_ret3;exact⟨rfl,D⟩):S:=h
def PD(h:S:=by go_ret;exact⟨rfl,O _⟩):S:=h
def acf(h:S:=by
 have aK:((c:Int)==32)=(c==32):=by rw[dW];simp;omega
 have aV:((c:Int)==9)=(c==9):=by rw[dW];simp;omega
 have cC:((c:Int)==13)=(c==13):=by rw[dW];simp;omega
 generalize(c==32)=b1 at *;generalize(c==9)=b2 at *;generalize(c==13)=cV at *;cases b1<;>cases b2<;>cases cV
 all_goals
  go_in;go_wp2;go_ret;exact⟨rfl,rfl⟩):S:=h
def acg(h:S:=by rw[<-aK,<-aV];clear h2 T;generalize(hd1 c (bytes s)).length=k at *;have bJ:IntKind.i64.wrap ((k:Int)+1)=(k:Int)+1:=IntWalk.i64_in _ aE;have rl:(0:Int)<=k+1:=aE;have Fs:((k:Int)+1).toNat=k+1:=aE;have it:=z bS;have mu:=z ao;clear bS ao;have xx:=z aK;have tz:=z aV;clear aK aV;unfold aM;go_in;go_wp2_with fail;refine ak (it.o _) ?_;rintro I rfl;go_wp2_with(go_quiet (fail));go_ret3;exact⟨rfl,by repeat(first|exact O _|apply Ext.drewN)⟩):S:=h
def Lb(h:S:=by rw[af];omega):S:=h
def zX(h:S:=by rw[jS];omega):S:=h
def uH(h:S:=by show _<=w.heap.size+1;omega):S:=h
def UL(h:S:=by rw[dA];omega):S:=h
def Iw(h:S:=by show w.heap.size+1<_;omega):S:=h
def UM(h:S:=by rw[Array.size_modify];exact ad):S:=h
namespace bh
variable{P:Program}
structure fG(W:G)where
 w:G
 h:Ext W w
instance(W:G):Nonempty (fG W):=⟨⟨W,O W⟩⟩
def dh{W:G}{p:Addr}{v:K}(h:W.cell? p=some v):∀x:fG W,x.w.cell? p=some v:=λx=>x.h.cell h
theorem qR{id:Nat}{bI:Exit->Act->G->Prop}{a:Act}{w:G}{l:List Oper}(R:P.follows .mixedOrders=true)(hB:Region.lexB .any l.toArray=true)(h:wpQuiet P l.toArray (λF=>∃x:fG w,F=x.w) (λbu=>∀F,(∃x:fG w,F=x.w)->bI .normal bu F) l a):(Code.region id l.toArray true).wp P bI a w:=
 wp_region_quiet (C:=λF=>∃x:fG w,F=x.w) R hB ⟨⟨w.drew,(O w).drew⟩,rfl⟩ tH
theorem fA{f:FuncId}{args:Array K}{W:G}{x:fG W}{v:K}(h:Calls P f args x.w λe F=>e=aI v/\Ext x.w F):Calls P f args x.w λe oT=>e=aI v/\∃y:fG W,oT=y.w:=h.mono λ_ F ⟨bx,D⟩=>⟨bx,⟨F,x.h.trans D⟩,rfl⟩
end bh
open bh
namespace bM
def zY(c:Nat):Bool:=c==32||c==9||c==13
def uJ(c:aL):Bool:=zY c.toNat
def xM(l:List aL):List aL:=((l.dropWhile uJ).reverse.dropWhile uJ).reverse
abbrev bytes(s:bn):List aL:=s.data.toList
abbrev str(l:List aL):bn:=⟨l.toArray⟩
def jS(s:bn):(bytes s).length=s.size:=rfl
def vH(l:List aL):(str l).size=l.length:=rfl
def bytes_inj{s t:bn}(h:bytes s=bytes t):s=t:=by cases s;cases t;simp[bytes]at h;rw[h]
def Dt(s:bn):str (bytes s)=s:=bytes_inj (by simp[bytes])
def za(t:bn)(a b:Nat):bytes (t.extract a b)=((bytes t).drop a).take (b-a):=by simp[bytes,ByteArray.data_extract,Array.toList_extract]
def UN(t:bn)(i:Nat)(h:i<t.size):t[i]'h=(bytes t)[i]'(by rw[jS];exact h):=by rfl
def ach(t:bn)(h:0<t.size):bytes t=t[0]'h::bytes (t.extract 1 t.size):=by rw[za,UN,rJ (by rw[mP,jS];omega)];have:=kQ (l:=bytes t) (i:=0) (by rw[jS];exact h);rw[List.drop_zero]at this;exact this
def aci(t:bn)(h:0<t.size):bytes t=bytes (t.extract 0 (t.size-1))++[t[t.size-1]' aE]:=by rw[za,UN,List.drop_zero,Nat.sub_zero];have:=mh (l:=bytes t) (i:=t.size-1) zX;rw[<-this,rJ zX]
def ext_size(t:bn)(a b:Nat)(V:b<=t.size):(t.extract a b).size=b-a:=by rw[<-jS,za,gV,mP,jS];omega
theorem ar0(c:Nat)(w:G):Calls prog 206 #[aC c] w λe F=>e=aI (av (zY c))/\w=F:=by unfold zY;exact acf
def PG:K->Nat
 | .string t=>t.size
 |_=>0
theorem UO(s:bn)(ab:s.size<=maxLen)(w:G):Calls prog 165 #[N s] w λe F=>e=aI (N (str (xM (bytes s))))/\w=F:=by
 have hB:=λc W=>ar0 c W
 unfold maxLen at ab;obtain⟨L,da⟩:∃L,L=(bytes s).dropWhile uJ:=⟨_,rfl⟩;obtain⟨aH,bd⟩:∃aH,aH=L.reverse.dropWhile uJ:=⟨_,rfl⟩;have bE:xM (bytes s)=aH.reverse:=by rw[bd,da];rfl
 rw[bE];have uv:=z hB;have hl:=z bE;clear hB bE;have k0:=z bd;have acb:=z da;clear bd da;go_in;go_wp2;go_loopw [0] (λu wr=>∃t:bn,u=N t/\t.size<=s.size/\(bytes t).dropWhile uJ=L/\w=wr) (λu _=>PG u)
 case atStart=>exact⟨s,rfl,aZ _,acb.o.symm,rfl⟩
 case round=>
  obtain⟨t,rfl,wg,e',rfl⟩:=hrel;by_cases zZ:∃ac:0<t.size,zY (t[0]'ac).toNat=true
  ·obtain⟨ac,V⟩:=zZ;have ao:=uv.o (t[0]'ac).toNat;have K1:(bytes (t.extract 1 t.size)).dropWhile uJ=L:=by rw[<-e',ach t ac,Dk (by exact V)]
   have ci:=ext_size t 1 t.size (aZ _);rw[V]at ao;have Pr:=z V;have mu:=z ao;clear V ao;have K2:=z e';have Ps:=z K1;have z0:=z ci;clear e' K1 ci;go_wp2_with fail;refine ak (mu.o _) ?_;rintro I rfl;go_wp2_with fail;go_roundw
   case rel=>exact⟨_,rfl,by rw[z0.o];omega,Ps.o,trivial⟩
   case measure=>show(t.extract 1 t.size).size<t.size;rw[z0.o];omega
  ·have K1:bytes t=L:=by
    rw[<-e'];by_cases ac:0<t.size
    ·have hn:¬zY (t[0]'ac).toNat=true:=λh=>zZ ⟨ac,h⟩
     rw[ach t ac,List.dropWhile_cons_of_neg (by exact hn)]
    ·have:bytes t=[]:=nN zX;rw[this];rfl
   have K2:=z e';have Ps:=z K1;clear e' K1;have bl:(t.size=0)\/∃ac:0<t.size,zY (t[0]'ac).toNat=false:=by
    by_cases ac:0<t.size
    ·exact .inr ⟨ac,by rw[Bool.eq_false_iff];exactλh=>zZ ⟨ac,h⟩⟩
    ·exact .inl aE
   clear zZ;rcases bl with ac|⟨ac,V⟩
   ·have bL:bytes t=[]:=nN zX;have an:t=str aH.reverse:=by rw[k0.o,<-Ps.o,bL];exact bytes_inj bL
    have gz:=z an;clear bL an;go_wp2_with fail;go_loopw [0] (λu wr=>u=N t/\w=wr) (λu _=>0)
    case atStart=>exact⟨rfl,rfl⟩
    case round=>obtain⟨rfl,rfl⟩:=hrel;go_wp2_with fail;go_ret;exact⟨by rw[<-gz.o];rfl,rfl⟩
   ·have ao:=uv.o (t[0]'ac).toNat;rw[V]at ao;have Pr:=z V;have mu:=z ao;clear V ao;go_wp2_with fail;refine ak (mu.o _) ?_;rintro I rfl;go_wp2_with fail;go_loopw [0] (λu wr=>∃t:bn,u=N t/\t.size<=s.size/\(bytes t).reverse.dropWhile uJ=aH/\w=wr) (λu _=>PG u)
    case atStart=>exact⟨t,rfl,wg,by rw[k0.o,<-Ps.o],rfl⟩
    case round=>
     obtain⟨e0,rfl,aLK,f7,rfl⟩:=hrel;by_cases A7:0<e0.size
     ·have ad:e0.size-1<e0.size:=aE;have s0:=uv.o (e0[e0.size-1]'ad).toNat;have ci:=ext_size e0 0 (e0.size-1) aE;have g0:=aci e0 A7;have i7:(bytes e0).reverse=e0[e0.size-1]'ad::(bytes (e0.extract 0 (e0.size-1))).reverse:=by rw[g0,List.reverse_append];rfl
      rw[i7]at f7;cases ck:zY (e0[e0.size-1]'ad).toNat
      all_goals
       rw[ck]at s0
      ·rw[List.dropWhile_cons_of_neg (by show¬zY _=true;rw[ck];simp),<-i7]at f7;have ar1:=z ck;have T7:=z s0;clear ck s0;have HS:=z f7;have z0:=z ci;clear f7 ci;have K':=z g0;have T8:=z i7;clear g0 i7;go_wp2_with fail;refine ak (T7.o _) ?_;rintro I rfl;go_wp2_with fail;go_ret;exact⟨by rw[<-HS.o,List.reverse_reverse,Dt];rfl,rfl⟩
      ·rw[Dk (by show zY _=true;exact ck)]at f7;have ar1:=z ck;have T7:=z s0;clear ck s0;have HS:=z f7;have z0:=z ci;clear f7 ci;have K':=z g0;have T8:=z i7;clear g0 i7;go_wp2_with fail;refine ak (T7.o _) ?_;rintro I rfl;go_wp2_with fail;go_roundw
       case rel=>exact⟨_,rfl,by rw[z0.o];omega,HS.o,trivial⟩
       case measure=>show(e0.extract 0 (e0.size-1)).size<e0.size;rw[z0.o];omega
     ·have bL:bytes e0=[]:=nN zX;have an:e0=str aH.reverse:=by rw[bL]at f7;rw[<-f7];exact bytes_inj bL
      have gz:=z an;clear bL an f7;go_wp2_with fail;go_ret;exact⟨by rw[<-gz.o];rfl,rfl⟩
end bM
namespace LT
variable{B g n:Nat}{α:Type}
def bytes(s:bn):List aL:=s.data.toList
def str(l:List aL):bn:=⟨l.toArray⟩
def jS(s:bn):(bytes s).length=s.size:=rfl
def vH(l:List aL):(str l).size=l.length:=rfl
def bytes_inj{s t:bn}(h:bytes s=bytes t):s=t:=ab1
def nP(l:List aL):bytes (str l)=l:=by simp[bytes,str]
def Dt(s:bn):str (bytes s)=s:=bytes_inj (nP _)
def FP(t s:bn):(t.toList==s.toList)=(bytes t==bytes s):=by rw[Lib.toList_data,Lib.toList_data];rfl
def acj(l:List aL):(str l).toList=l:=by rw[Lib.toList_data];simp[str]
def xO{α:Type}{p:α->Bool}:∀ {l:List α} {i:Nat} (h:i<l),(∀(j:Nat)(Z:j<l),j<i->p l[j]=false)->p l[i]=true->l.find? p=some l[i]
 |x::r,0,_,_,ac=>by simp at ac;simp[List.find?,ac]
 |x::r,i+1,h,hn,ac=>by have ae:p x=false:=hn 0 ay aE;have:=xO (p:=p) (l:=r) (i:=i) (Nat.lt_of_succ_lt_succ h) (λj Z lr=>hn (j+1) (Nat.succ_lt_succ Z) aE) ac;simp[List.find?,ae,this]
def FR{p:α->Bool}{l:List α}(h:∀(j:Nat)(Z:j<l),p l[j]=false):l.find? p=none:=Pw
def gM{α:Type}(p:α->Bool):List α->Nat->Int
 | [],_=> -1
 |x::r,k=>if p x=true then(k:Int)else gM p r (k+1)
def PI{α:Type}(p:α->Bool):∀(l:List α)(k:Nat),(gM p l k= -1/\l.find? p=none/\l.any p=false)\/∃i,∃h:i<l.length,gM p l k=((k+i:Nat):Int)/\l.find? p=some l[i]/\p l[i]=true/\l.any p=true
 | [],_=> .inl ⟨rfl,rfl,rfl⟩
 |x::r,k=>by
  unfold gM;rw[List.find?_cons,List.any_cons];cases ac:p x
  ·rw[au ay];rcases PI p r (k+1)with⟨h1,h2,T⟩|⟨i,hi,h1,h2,T,af⟩
   ·exact .inl ⟨h1,h2,by rw[T];rfl⟩
   ·exact .inr ⟨i+1,by simp;omega,by rw[h1];congr 1;omega,h2,T,by rw[af];rfl⟩
  ·rw[aF rfl];exact .inr ⟨0,ay,rfl,rfl,ac,rfl⟩
def UQ{enc:α->List K}(cp:∀x,(enc x).length=n){W:G}{t:dD}{ar2:Nat×Nat}(A:List α)(h:W.heap[B]?=some (J (A.flatMap enc).toArray t ar2)):aS W n enc (E (some B) A A) A:=by
 refine⟨_,_,rfl,aZ _,(λh=>by cases h),λi hi=>⟨_,_,rfl,λj Z=> ?_⟩⟩;have C':j<n:=by rw[cp]at Z;exact Z
 have h2:=flat_get cp A i j hi C';rw[dK Z]at h2;simp only[World.cell?,h,gF];simpa using h2
theorem tJ{P:Program}{fn:Func}{p u:Tmp}{eJ:dD}(h:fn.results= #[.cell p eJ,.tmp u])(tmps:Array K)(w:G)(g:Nat)(t:dD)(U:Array K)(fr:Nat×Nat)(d:TypeDesc)
 (ac:tmps.getD p undef=aB (some g)) (hg:w.heap[g]?=some (J U t fr))
 (a6:P.underlying eJ=some d) (hd:(match d with| .struct _| .array _ _=>true|_=>false)=true) (hi:(P.info? eJ).map (·.size)=some U.size):
 (results fn tmps).run P w= .ok (bH #[bg U,tmps.getD u undef]) w:=by
 rw[results_cell_tmp h,ac];simp[asAddr,run_loadVar_row w g t eJ U fr d hg a6 hd hi,Result.andThen]
def iT{a w:G}(h:Ext a w)(hg:a.heap.size<=g)(U:Array K):Ext a (w.setRow g U):=
 ⟨h.os,h.tape,h.output,by rw[setRow_size];exact h.size,λk hk=>(mo w g k U aE).trans (h.block hk)⟩
def aJ{w I:G}{o:Obj}(V:w.heap[B]?=some o)(D:Ext w I):I.heap[B]?=some o:=(D.block (dG.1 V).1).trans V
end LT
def jE(h:S:=by decide+kernel):S:=h
namespace LT
structure tK where
 nm:List aL
 n0:Int
 n1:Int
 n2:Int
 n3:Int
 n4:Int
 n5:Int
deriving DecidableEq
def kF:List tK:= [⟨[98,105,110,100],49,361,49,282,200,200⟩,⟨[98,112,102],321,357,321,386,280,280⟩,⟨[98,114,107],12,45,12,45,214,214⟩,⟨[99,108,111,99,107,95,115,101,116,116,105,109,101],227,264,227,262,112,112⟩,⟨[99,108,111,110,101],56,120,56,120,220,220⟩,⟨[99,108,111,110,101,51],435,435,(-1),435,435,435⟩,⟨[99,108,111,115,101],3,6,3,6,57,57⟩,⟨[99,111,110,110,101,99,116],42,362,42,283,203,203⟩,⟨[100,101,108,101,116,101,95,109,111,100,117,108,101],176,129,176,129,106,106⟩,⟨[101,120,101,99,118,101],59,11,520,11,221,221⟩,⟨[101,120,105,116],60,1,60,1,93,93⟩,⟨[102,105,110,105,116,95,109,111,100,117,108,101],313,350,313,379,273,273⟩,⟨[102,111,114,107],57,2,57,2,(-1),(-1)⟩,⟨[103,101,116,117,105,100],102,24,102,24,174,174⟩,⟨[105,110,105,116,95,109,111,100,117,108,101],175,128,(-1),128,105,105⟩,⟨[105,111,99,116,108],16,54,514,54,29,29⟩,⟨[107,105,108,108],62,37,62,37,129,129⟩,⟨[108,105,115,116,101,110],50,363,50,284,201,201⟩,⟨[109,109,97,112],9,90,9,(-1),222,222⟩,⟨[109,111,117,110,116],165,21,165,21,40,40⟩,⟨[109,112,114,111,116,101,99,116],10,125,10,125,226,226⟩,⟨[109,117,110,109,97,112],11,91,11,91,215,215⟩,⟨[111,112,101,110],2,5,2,5,(-1),(-1)⟩,⟨[111,112,101,110,97,116],257,295,257,322,56,56⟩,⟨[112,101,114,115,111,110,97,108,105,116,121],135,136,135,136,92,92⟩,⟨[112,107,101,121,95,109,112,114,111,116,101,99,116],329,380,329,394,288,(-1)⟩,⟨[112,116,114,97,99,101],101,26,521,26,117,117⟩,⟨[114,101,97,100],0,3,0,3,63,63⟩,⟨[114,101,98,111,111,116],169,88,169,88,142,142⟩,⟨[115,99,104,101,100,95,115,101,116,97,116,116,114],314,351,314,380,274,274⟩,⟨[115,99,104,101,100,95,115,101,116,115,99,104,101,100,117,108,101,114],144,156,144,156,119,119⟩,⟨[115,101,99,99,111,109,112],317,354,317,383,277,277⟩,⟨[115,101,116,110,115],308,346,308,375,268,268⟩,⟨[115,101,116,116,105,109,101,111,102,100,97,121],164,79,164,79,170,170⟩,⟨[115,101,116,117,105,100],105,23,105,23,146,146⟩,⟨[115,104,109,97,116],30,397,(-1),305,196,196⟩,⟨[115,111,99,107,101,116],41,359,41,281,198,198⟩,⟨[117,109,111,117,110,116,50],166,52,166,52,39,39⟩,⟨[117,110,115,104,97,114,101],272,310,272,337,97,97⟩,⟨[119,114,105,116,101],1,4,1,4,64,64⟩]
def tK.nr(e:tK)(a:Int):Int:=if a=0 then e.n0 else if a=1 then e.n1 else if a=2 then e.n2 else if a=3 then e.n3 else if a=4 then e.n4 else e.n5
def oJ(s:List aL):Bool:=(kF.find? (λe=>e.nm==s)).isSome
def xP:tK:=⟨[],0,0,0,0,0,0⟩
def vI(e:tK)(a:Int):Nat×Bool:=if (a<0\/6<=a)\/e.nr a<0 then(0,false)else(if a=2 then(e.nr a).toNat|||1073741824 else(e.nr a).toNat,true)
def wM(a:Int)(s:List aL):Nat×Int:=match kF.find? (λe=>e.nm==s)with
 |none=>(0,90)
 |some e=>if (vI e a).2=true then((vI e a).1,0)else(0,90)
def acn:∀e∈kF,e.nm.length<=32/\e.n0<1000/\e.n1<1000/\e.n2<1000/\e.n3<1000/\e.n4<1000/\e.n5<1000:=jE
end LT
def Du(h:S:=by exact key _ jU jU):S:=h
def UR(h:S:=by exact⟨0,eG _,rfl,λj _ h=>aE,O _⟩):S:=h
def In(h:S:=by rw[k0.o];unfold kK;rw[FR (p:=λx=>x.1==bytes s) (λj Z=>wi.o j Z Z)]):S:=h
def PK(h:S:=by exact⟨by rw[s1.o];rfl,aT.o⟩):S:=h
def UU(h:S:=by intro aO ag;go_wp2_with fail;go_ret2;exact Pv):S:=h
def UW(h:S:=by
 by_cases lr:j=i
 ·subst lr;exact jW
 ·exact wi.o j Z aE):S:=h
def aco(h:S:=by
 rw[results_cell_tmp hr,h2,T];show(((loadVar bz ⟨B,0,none⟩).run prog _).andThen _)=_;rw[acp bL a6 tA dl gS]
 rfl):S:=h
def UY(h:S:=by exact⟨by rw[s1.o];rfl,by repeat(first|exact aT.o|apply Ext.alloc)⟩):S:=h
def UZ(h:S:=by exact⟨i+1,aE,cZ,wj rfl,by repeat(first|exact aT.o|apply Ext.alloc)⟩):S:=h
def acr(h:S:=by obtain⟨a,c,h1,h2,T,af⟩:=h;refine⟨a,c,h1,h2,λi hi=> ?_⟩;obtain⟨b,o,e,k⟩:=af i hi;have eK:=k 0 (by simp[sM]);have bk:=k 1 (by simp[sM]);exact⟨b,o,e,by simpa[sM]using eK,by simpa[sM]using bk⟩):S:=h
def acs(h:S:=by have V:I.heap[w.heap.size]?=some (J #[a,b,c] t (0,0)):=(D.block ay).trans (bA w _);refine⟨by simp[World.cell?,V],by simp[World.cell?,V],by simp[World.cell?,V],by simp[World.frozen?,V],by simp[World.frozen?,V],by simp[World.frozen?,V],(dG.1 V).1⟩):S:=h
def acu(h:S:=by
 refine⟨?_,?_,?_⟩
 ·rw[vo _ ⟨B,2,none⟩ ⟨B,0,none⟩ _ (λe=>by cases e),vo _ ⟨B,1,none⟩ ⟨B,0,none⟩ _ (λe=>by cases e),Pq _ _ _ c0]
 ·rw[vo _ ⟨B,2,none⟩ ⟨B,1,none⟩ _ (λe=>by cases e)];exact Pq _ _ _ ((vo _ ⟨B,0,none⟩ ⟨B,1,none⟩ _ (λe=>by cases e)).trans c1)
 ·exact Pq _ _ _ ((vo _ ⟨B,1,none⟩ ⟨B,2,none⟩ _ (λe=>by cases e)).trans ((vo _ ⟨B,0,none⟩ ⟨B,2,none⟩ _ (λe=>by cases e)).trans c2))):S:=h
namespace bh
theorem bG{P:Program}{aU:Array Oper}{rest:List Oper}{o:Oper}{a:Act}{w:G}{bI:Exit->Act->G->Prop}{parts:Array (Nat×Operand)}(t:dD)(d:Tmp)(cells:Array K)(h:wpList P aU bI rest (a.put (some d) (bg cells)) w)(hg:o.guard=none:=by rfl)(ho:o.op= .build t parts:=by rfl)(hd:o.dst=some d:=by rfl)(ai:P.built t (parts.map λ(i,x)=>(i,a.eval x)).toList=some cells:=by as_aux_lemma=>kernel_rfl):wpList P aU bI (o::rest) a w:=wpList_buildTo hg t parts ho (some d) hd cells ai h
end bh
def U0(h:S:=by unfold aM;go_in;go_wp2;go_ret2;exact K8):S:=h
namespace jG
variable{B c e k m n:Nat}
structure Dat where
 nr:Nat
 ar:Nat
 ip:Nat
 a0:Nat
 a1:Nat
 a2:Nat
 a3:Nat
 a4:Nat
 a5:Nat
structure fT(d:Dat):Prop where
 nr:d.nr<4294967296
 ar:d.ar<4294967296
 ip:d.ip<18446744073709551616
 a0:d.a0<18446744073709551616
 a1:d.a1<18446744073709551616
 a2:d.a2<18446744073709551616
 a3:d.a3<18446744073709551616
 a4:d.a4<18446744073709551616
 a5:d.a5<18446744073709551616
def gW(d:Dat):K:=bg #[M d.nr,M d.ar,aA (d.ip:Int),aA (d.a0:Int),aA (d.a1:Int),aA (d.a2:Int),aA (d.a3:Int),aA (d.a4:Int),aA (d.a5:Int)]
def fV(n:Nat):List K:= [aA (n:Int)]
def qD(n:Nat):(fV n).length=1:=rfl
def U1(s:Nat):∀u∈fV s,u.oneCell'=true:=by intro u a6;simp[fV]at a6;subst a6;rfl
theorem U3:(Tryz.prog.info? 34).map (λi=>(i.zero,i.size,i.bytes))=some (some (aA 0),1,8):=aj
def lo(x:Nat):Nat:=x%4294967296
def hi(x:Nat):Nat:=x/4294967296
def wide(d:Dat):List Nat:= [d.ip,d.a0,d.a1,d.a2,d.a3,d.a4,d.a5]
def BL(d:Dat):List Nat:= [d.nr,d.ar,lo d.ip,hi d.ip,lo d.a0,hi d.a0,lo d.a1,hi d.a1,lo d.a2,hi d.a2,lo d.a3,hi d.a3,lo d.a4,hi d.a4,lo d.a5,hi d.a5]
def ar3(d:Dat):(wide d).length=7:=rfl
theorem PL(x:Nat)(D:x<18446744073709551616)(w:G):aM 309 #[aA (x:Int)] w (bH #[M (lo x:Nat),M (hi x:Nat)]):=by
 have p1:IntKind.u32.wrap (x:Int)=((lo x:Nat):Int):=by unfold lo;simp[go_sem,IntKind.wrap,IntKind.signed,IntKind.bits]
 have p2:IntKind.u32.wrap ((x:Int)/4294967296)=((hi x:Nat):Int):=by unfold hi;simp[go_sem,IntKind.wrap,IntKind.signed,IntKind.bits];omega
 exact U0
def ar4{w:G}{base:Nat}{a:Option Addr}{b3:List K}(h:w.ownsRow base e n (E a k c) m b3)(b o:Nat)(bx:a=some ⟨b,o,none⟩):base<=b:=by
 subst bx;rcases h.2 with⟨h1,-⟩|⟨g,cap,bm,hv,hg,-⟩
 ·cases h1
 ·simp only[eZ,jB,pJ]at hv;omega
theorem ar5(x:Nat)(v:K)(A:List Nat)(X:A.length<=1000)(w:G)(hv:aS w 1 fV v A):Calls prog 308 #[aA (x:Int),v] w λe F=>∃a c,e=aI (E a (A+1) c)/\aS F 1 fV (E a (A+1) c) (x::A)/\(∀b o,a=some ⟨b,o,none⟩->w.heap.size<=b)/\Ext w F:=by
 have k1:=z hv;have mS: [x].length+A.length=(x::A).length:=by simp;omega
 have tB:(x::A).length=A.length+1:=rfl;have ec:=z mS;go_in;go_wp2_with(at_builtin;refine Dr rfl (.tmp 6) (.tmp 7) _ rfl underlying223 U3 rfl Y qD U1 w _ _ [x] A rfl rfl (qQ qD w [x] _ _ w rfl (aZ _) vF) (k1.o.ext ((O _).alloc _)) dU Y ((O _).alloc _) ?_;intro ar6 ar7 I d4 Q;rw[ec.o]at d4⊢;have Lc:=z (eD (n:=1) (enc:=fV) (A:=x::A) qD d4);have rm:=z (ar4 d4);have bF:=z Q);go_ret;exact⟨_,_,rfl,Lc.o,rm.o,bF.o⟩
def wd(d:Dat)(k:Nat):Nat:=(BL d).getD (k/4) 0
def okW(k:Nat):Bool:=(k%4==0)&&decide (k<64)
def zR(d:Dat)(k:Nat):Nat×Int:=if okW k=true then(wd d k,0)else(0,41)
def ar8{d:Dat}(hd:fT d):∀x∈BL d,x<4294967296:=by intro x D;have h1:=hd.nr;have h2:=hd.ar;have T:=hd.ip;have af:=hd.a0;have aQ:=hd.a1;have a9:=hd.a2;have cF:=hd.a3;have eA:=hd.a4;have kv:=hd.a5;simp only[BL,iA,List.not_mem_nil,or_false]at D;unfold lo hi at D;rcases D with rfl|rfl|rfl|rfl|rfl|rfl|rfl|rfl|rfl|rfl|rfl|rfl|rfl|rfl|rfl|rfl<;>omega
def Qz{d:Dat}(hd:fT d)(k:Nat):wd d k<4294967296:=by
 unfold wd;rw[kR];by_cases h:k/4<(BL d).length
 ·rw[dK h];exact ar8 hd _ (eB h)
 ·rw[List.getElem?_eq_none aE];decide
def qU(w:G)(B:Nat):Prop:= ∀j,w.frozen? ⟨B,j,none⟩=false
def qU.ext{a w:G}(h:Ext a w)(hB:B<a.heap.size)(ai:qU a B):qU w B:=λj=>(kS (h.block hB)).trans (ai j)
def qU.keep{a7:Nat->Prop}{a w:G}(h:Keep a7 a w)(hB:a7 B)(ai:qU a B):qU w B:=λj=>(kS (h.block B hB)).trans (ai j)
def qU.set{w:G}(ai:qU w B)(p:Addr)(v:K):qU (w.setCell p v) B:=λj=>(uE _ _ _ _).trans (ai j)
theorem ar9{P:Program}{C:Code}{bI:Exit->Act->G->Prop}{a:Act}{W:G}(p:G->Prop)(ac:p W)(h:∀az,p az->C.wp P bI a az):C.wp P bI a W:=h W ac
end jG
namespace yK
structure xQ where
 c:Nat
 nm:List aL
 cl:Nat
 deriving DecidableEq
def sN:List xQ:= [⟨32,[108,100,97,98,115],1⟩,⟨128,[108,100,108,101,110],1⟩,⟨0,[108,100,105],1⟩,⟨96,[108,100,109],1⟩,⟨129,[108,100,120,108,101,110],1⟩,⟨1,[108,100,120,105],1⟩,⟨97,[108,100,120,109],1⟩,⟨2,[115,116],2⟩,⟨3,[115,116,120],2⟩,⟨4,[97,100,100],3⟩,⟨20,[115,117,98],3⟩,⟨36,[109,117,108],3⟩,⟨52,[100,105,118],3⟩,⟨68,[111,114],3⟩,⟨84,[97,110,100],3⟩,⟨100,[108,115,104],3⟩,⟨116,[114,115,104],3⟩,⟨164,[120,111,114],3⟩,⟨12,[97,100,100,120],3⟩,⟨28,[115,117,98,120],3⟩,⟨44,[109,117,108,120],3⟩,⟨60,[100,105,118,120],3⟩,⟨76,[111,114,120],3⟩,⟨92,[97,110,100,120],3⟩,⟨108,[108,115,104,120],3⟩,⟨124,[114,115,104,120],3⟩,⟨172,[120,111,114,120],3⟩,⟨132,[110,101,103],3⟩,⟨5,[106,97],4⟩,⟨21,[106,101,113],4⟩,⟨37,[106,103,116],4⟩,⟨53,[106,103,101],4⟩,⟨69,[106,115,101,116],4⟩,⟨29,[106,101,113,120],4⟩,⟨45,[106,103,116,120],4⟩,⟨61,[106,103,101,120],4⟩,⟨77,[106,115,101,116,120],4⟩,⟨6,[114,101,116],5⟩,⟨22,[114,101,116,97],5⟩,⟨7,[116,97,120],6⟩,⟨135,[116,120,97],6⟩]
def acv:xQ:=⟨0,[],0⟩
def entry(c:Nat):xQ:=(sN.find? (λe=>e.c==c)).getD acv
def known(c:Nat):Bool:=(sN.find? (λe=>e.c==c)).isSome
def i3(c:Nat):Nat:=(entry c).cl
def wx(c:Nat):Bool:=known c&&((i3 c==3||i3 c==4)&&(c&&&8 !=0))
def str(l:List aL):bn:=⟨l.toArray⟩
end yK
def acw(h:S:=by rw[hr]at xy;simp only[Result.ok.injEq,eZ]at xy;exact⟨g,xy.1.1,.inl rfl⟩):S:=h
namespace bh
theorem asa{α:Type}{P:Program}{W:G}{t eJ e:dD}{n bytes:Nat}{aR:K}(a6:P.underlying t=some (.slice e))(i5:(P.info? e).map (λi=>(i.zero,i.size,i.bytes))=some (some aR,n,bytes))(hQ:aR.cells.size=n)(hn:0<n){enc:α->List K}(cp:∀x,(enc x).length=n)(fL:∀x,∀u∈enc x,u.oneCell'=true){base g cap:Nat}{v:K}{A ys:List α}(cc:W.ownsRow base e n (E (some g) A cap) A (A.flatMap enc))(cX:aS W n enc v ys)(mn:A.length+ys<=100000000)(mr:bytes<=1000000)(pv:base<=W.heap.size):∃xz bp F,(Builtin.append_ #[t,t] eJ #[E (some g) A cap,v]).run P W= .ok (E (some ⟨xz,0,none⟩) (A.length+ys) bp) F/\F.ownsRow base e n (E (some ⟨xz,0,none⟩) (A.length+ys) bp) (A.length+ys) ((A++ys).flatMap enc)/\W.grownBy F (some g)/\(xz=g\/xz=W.heap.size):=by
 obtain⟨bv,bp,F,hr,h2,T⟩:=La (P:=P) (eJ:=eJ) a6 i5 hQ hn cp fL cc cX mn mr pv;have key:∃xz,bv=some ⟨xz,0,none⟩/\(xz=g\/xz=W.heap.size):=by
  obtain⟨hh,hi,nv,pw,hj⟩:=sJ i5;obtain⟨a,c,rfl,ge,sc,mt⟩:=id cX;cases a with
  |none=>obtain rfl:=sc rfl;have px:ys=[]:=nN aE;subst px;have xy:=run_append_owned_none (P:=P) (w:=W) base t eJ e hh n a6 hi _ _ _ cc;simp only[fu]at hr;exact acw
  |some jQ=>
   obtain⟨-,Dd⟩:=cX.cells cp;have ma:=Dp cp ys;have ck:(A.length+ys)*bytes<=100000000*1000000:=Nat.mul_le_mul mn mr;subst pw;subst hj;rcases cc.2 with⟨h,-⟩|⟨jX,Ld,bm,hv,T',hg,aLL,mv,kf,aLM⟩
   ·cases h
   simp only[eZ,jB,pJ,and_true,true_and]at hv;obtain⟨rfl,rfl⟩:=hv;by_cases acy:A.length+ys<=cap
   ·have iu:A.length*hh.size+(ys.flatMap enc).length<=bm.size:=by rw[ma,kf,<-Nat.add_mul];exact pF _ acy
    have xy:=run_append_room (P:=P) (w:=W) t eJ e hh a6 hi g A cap bm hg jQ ys c (ys.flatMap enc) ma Dd (Py fL ys) acy iu;exact acw
   ·have holds:∀j u,(A.flatMap enc)[j]?=some u->W.cell? ((g:Addr).add j)=some u:=cc.cells (g:=g) rfl;have xy:=run_append_grow (P:=P) (w:=W) t eJ e hh aR a6 hi nv ⟨g,0,none⟩ A cap (A.flatMap enc) cc.1 holds jQ ys c (ys.flatMap enc) ma Dd aE aE (growslice_fits aE aE);rw[hr]at xy;simp only[Result.ok.injEq,eZ]at xy;exact⟨W.heap.size,xy.1.1,.inr rfl⟩
 obtain⟨xz,rfl,asb⟩:=key;exact⟨xz,bp,F,hr,h2,T,asb⟩
end bh
namespace LT
variable{B base e g k n n0 n1 t:Nat}{P:Program}{bz acz:Nat->Bool}{a:Act}{fr:Nat×Nat}{aU:Array Oper}{rest:List Oper}{α:Type}
theorem acB{W:G}{t eJ e:dD}{bytes:Nat}{aR:K}(a6:P.underlying t=some (.slice e))(i5:(P.info? e).map (λi=>(i.zero,i.size,i.bytes))=some (some aR,n,bytes))(hQ:aR.cells.size=n)(hn:0<n){enc:α->List K}(cp:∀x,(enc x).length=n)(fL:∀x,∀u∈enc x,u.oneCell'=true){u v:K}{A ys:List α}(cc:W.ownsRow base e n u A (A.flatMap enc))(cX:aS W n enc v ys)(mn:A.length+ys<=100000000)(mr:bytes<=1000000)(pv:base<=W.heap.size):∃bv bp F,(Builtin.append_ #[t,t] eJ #[u,v]).run P W= .ok (E bv (A.length+ys) bp) F/\F.ownsRow base e n (E bv (A.length+ys) bp) (A.length+ys) ((A++ys).flatMap enc)/\W.grownBy F u.ownBlock/\∀b,(Value.slice bv (A.length+ys) bp).ownBlock=some b->u.ownBlock=some b\/W.heap.size<=b:=by
 have ae:=cc;rcases cc.2 with⟨rfl,h2⟩|⟨g,cap,bm,rfl,hg,be,r⟩
 ·have sc:W.ownsRow W e n (E none 0 0) A (A.flatMap enc):=⟨ae.1,.inl ⟨rfl,h2⟩⟩;obtain⟨bv,bp,F,hr,ho,mT⟩:=La (P:=P) (eJ:=eJ) a6 i5 hQ hn cp fL sc cX mn mr (aZ _);exact⟨bv,bp,F,hr,ho.mono pv,mT,λb V=> .inr (ho.lt b V).1⟩
 ·obtain⟨xz,bp,F,hr,ho,mT,ab⟩:=asa (P:=P) (eJ:=eJ) a6 i5 hQ hn cp fL cc cX mn mr pv;refine⟨_,bp,F,hr,ho,mT,λb V=> ?_⟩;cases V
  rcases ab with rfl|rfl
  ·exact xI
  ·exact .inr (aZ _)
theorem acD{W:G}{o:Oper}{bI:Exit->Act->G->Prop}(jV:o.guard=none)(s x:Operand)(t:dD)(ho:o.op= .call {callee:= .builtin .append,args:= #[s,x],argTypes:= #[t,t]}){e:dD}{bytes:Nat}{aR:K}(a6:P.underlying t=some (.slice e))(i5:(P.info? e).map (λi=>(i.zero,i.size,i.bytes))=some (some aR,n,bytes))(hQ:aR.cells.size=n)(hn:0<n){enc:α->List K}(cp:∀x,(enc x).length=n)(fL:∀x,∀u∈enc x,u.oneCell'=true)(base:Nat)(u v:K)(A ys:List α)(ab:a.eval s=u)(D:a.eval x=v)(cc:W.ownsRow base e n u A (A.flatMap enc))(cX:aS W n enc v ys)(mn:A.length+ys<=100000000)(mr:bytes<=1000000)(pv:base<=W.heap.size)(h:∀bv bp F,F.ownsRow base e n (E bv (A.length+ys) bp) (A.length+ys) ((A++ys).flatMap enc)->W.grownBy F u.ownBlock->(∀b,(Value.slice bv (A.length+ys) bp).ownBlock=some b->u.ownBlock=some b\/W.heap.size<=b)->wpList P aU bI rest (a.put o.dst (E bv (A.length+ys) bp)) F):wpList P aU bI (o::rest) a W:=by
 refine wpList_plain jV λ_ am=> ?_
 obtain⟨bv,bp,F,hr,h2,T,af⟩:=acB (P:=P) (eJ:=o.type) a6 i5 hQ hn cp fL cc cX mn mr pv;unfold Oper.wp execOp;simp only[ho,resolve,invoke,builtin,Sem.run_bind,Sem.run_pure,Result.andThen_ok,List.map_toArray,fK,kE,ab,D,hr];exact am _ _ (h bv bp F h2 T af)
theorem asc(w:G)(qS ux eJ elem:dD)(k g o m0 uA:Nat)(a:Addr)(m1 uB:Nat)(bm:Array K)(t:dD)(U:List K)(a6:P.underlying qS=some (.slice elem))(ab:(P.info? elem).map (·.size)=some k)(hg:w.heap[g]?=some (J bm t (0,0)))(hn:U.length=Nat.min m1 m0*k)(Up:∀j v,U[j]?=some v->w.cell? (a.add j)=some v)(iu:o+U.length<=bm.size)(h1:∀v∈U,v.oneCell'=true):(Builtin.copy_ #[qS,ux] eJ #[E (some ⟨g,o,none⟩) m0 uA,E (some a) m1 uB]).run P w=.ok (goInt (Nat.min m1 m0)) (w.setRow g (bm.toList.take o++U++bm.toList.drop (o+U.length)).toArray):=by
 have X:=run_loadCells_list (P:=P) w a U Up;have bU:=run_storeCells_at P g o t U 0 bm w hg (by simpa using iu) h1;rw[hn]at X;cases aW:P.info? elem with
 |none=>simp[aW]at ab
 |some i=>
  have hi:i.size=k:=by simpa[aW]using ab
  simp[Builtin.copy_,run_underlying a6,Builtin.lenOf,Builtin.firstCells,sizeOf,typeInfo,aW,hi,X,bU]
theorem ase(w:G)(qS ux eJ elem:dD)(k:Nat)(d a:Option Addr)(m0 uA m1 uB:Nat)(a6:P.underlying qS=some (.slice elem))(ab:(P.info? elem).map (·.size)=some k)(hn:Nat.min m1 m0=0):(Builtin.copy_ #[qS,ux] eJ #[E d m0 uA,E a m1 uB]).run P w= .ok (goInt 0) w:=by
 cases aW:P.info? elem with
 |none=>simp[aW]at ab
 |some i=>
  have X:∀(x:Addr),(loadCells x 0).run P w= .ok #[] w:=λx=>by simpa using run_loadCells_list (P:=P) w x [] ay
  cases d<;>cases a<;>simp[Builtin.copy_,run_underlying a6,Builtin.lenOf,Builtin.firstCells,sizeOf,typeInfo,aW,hn,storeCells,X]
theorem acE{w:G}{o:Oper}{aX:Act->G->Prop}{bI:Exit->Act->G->Prop}(d s:Operand)(qS ux:dD)(ho:o.op= .call {callee:= .builtin .copy,args:= #[d,s],argTypes:= #[qS,ux]})(elem:dD)(k:Nat)(hk:0<k)(a6:P.underlying qS=some (.slice elem))(ci:(P.info? elem).map (·.size)=some k)(xF sp:Option Addr)(m0 uA m1 uB:Nat)(hd:a.eval d=E xF m0 uA)(ab:a.eval s=E sp m1 uB)(g off:Nat)(bm:List K)(t:dD)(hg:w.heap[g]?=some (J bm.toArray t (0,0)))(U:List K)(hn:U.length=Nat.min m1 m0*k)(oX:0<U.length->xF=some ⟨g,off,none⟩/\∃jQ,sp=some jQ/\∀j v,U[j]?=some v->w.cell? (jQ.add j)=some v)(iu:off+U.length<=bm)(h1:∀v∈U,v.oneCell'=true)(B:Nat)(w0:G)(V:Below B w0 w)(hH:B<=g)(h:∀F,Hid (F.heap[g]?=some (J (splice bm off U).toArray t (0,0))/\∀m,m≠g->F.heap[m]?=w.heap[m]?)->Below B w0 F->aX (a.put o.dst (goInt (Nat.min m1 m0))) F):o.wp P a w aX bI:=by
 by_cases ae:U.length=0
 ·obtain rfl:U=[]:=nN ae;have bL:Nat.min m1 m0=0:=by
   rcases Nat.eq_zero_or_pos (Nat.min m1 m0)with h|h
   ·exact h
   ·have:=Nat.mul_pos h hk;simp only[fu]at hn;omega
  have uC:=ase (P:=P) w qS ux o.type elem k xF sp m0 uA m1 uB a6 ci bL;rw[bL]at h;unfold Oper.wp;simp only[execOp,ho,resolve,invoke,builtin,Sem.run_bind,Sem.run_pure,Result.andThen_ok,List.map_toArray,fK,kE,hd,ab,uC];exact h w ⟨by simpa[splice]using hg,λ_ _=>rfl⟩ V
 ·obtain⟨rfl,jQ,rfl,Up⟩:=oX aE;have uC:=asc (P:=P) w qS ux o.type elem k g off m0 uA jQ m1 uB bm.toArray t U a6 ci hg hn Up (by simpa using iu) h1;unfold Oper.wp;simp only[execOp,ho,resolve,invoke,builtin,Sem.run_bind,Sem.run_pure,Result.andThen_ok,List.map_toArray,fK,kE,hd,ab,uC];exact h _ ⟨by simpa[splice]using gu w g _ _ t _ hg,λm R=>mo w g m _ R⟩ (below_setRow V hH _)
theorem PN{w:G}{o:Oper}{bI:Exit->Act->G->Prop}(jV:o.guard=none)(d s:Operand)(qS ux:dD)(ho:o.op= .call {callee:= .builtin .copy,args:= #[d,s],argTypes:= #[qS,ux]})(elem:dD)(k:Nat)(hk:0<k)(a6:P.underlying qS=some (.slice elem))(ci:(P.info? elem).map (·.size)=some k)(xF sp:Option Addr)(m0 uA m1 uB:Nat)(hd:a.eval d=E xF m0 uA)(ab:a.eval s=E sp m1 uB)(g off:Nat)(bm:List K)(t:dD)(hg:w.heap[g]?=some (J bm.toArray t (0,0)))(U:List K)(hn:U.length=Nat.min m1 m0*k)(oX:0<U.length->xF=some ⟨g,off,none⟩/\∃jQ,sp=some jQ/\∀j v,U[j]?=some v->w.cell? (jQ.add j)=some v)(iu:off+U.length<=bm)(h1:∀v∈U,v.oneCell'=true)(B:Nat)(w0:G)(V:Below B w0 w)(hH:B<=g)(h:∀F,Hid (F.heap[g]?=some (J (splice bm off U).toArray t (0,0))/\∀m,m≠g->F.heap[m]?=w.heap[m]?)->Below B w0 F->wpList P aU bI rest (a.put o.dst (goInt (Nat.min m1 m0))) F):wpList P aU bI (o::rest) a w:=
 wpList_plain jV λ_ am=>acE d s qS ux ho elem k hk a6 ci xF sp m0 uA m1 uB hd ab g off bm t hg U hn oX iu h1 B w0 V hH (λF h2 T=>am _ _ (h F h2 T))
theorem PO{o:Oper}{w:G}{aX:Act->G->Prop}{bI:Exit->Act->G->Prop}{py:Prop}(jV:o.guard=none)(d s:Operand)(qS ux:dD)(ho:o.op= .call {callee:= .builtin .copy,args:= #[d,s],argTypes:= #[qS,ux]})(elem:dD)(k:Nat)(hk:0<k)(a6:P.underlying qS=some (.slice elem))(ci:(P.info? elem).map (·.size)=some k)(xF sp:Option Addr)(m0 uA m1 uB:Nat)(hd:a.eval d=E xF m0 uA)(ab:a.eval s=E sp m1 uB)(g off:Nat)(bm:List K)(t:dD)(hg:w.heap[g]?=some (J bm.toArray t (0,0)))(U:List K)(hn:U.length=Nat.min m1 m0*k)(oX:0<U.length->xF=some ⟨g,off,none⟩/\∃jQ,sp=some jQ/\∀j v,U[j]?=some v->w.cell? (jQ.add j)=some v)(iu:off+U.length<=bm)(h1:∀v∈U,v.oneCell'=true)(B:Nat)(w0:G)(V:Below B w0 w)(hH:B<=g)(h:∀F,Hid (F.heap[g]?=some (J (splice bm off U).toArray t (0,0))/\∀m,m≠g->F.heap[m]?=w.heap[m]?)->Below B w0 F->aX (a.put o.dst (goInt (Nat.min m1 m0))) F):if Region.wanted o (yielded aU a.tmps)=true then Oper.wp P o a w aX bI else py:=by
 have bJ:Region.wanted o (yielded aU a.tmps)=true:=by simp[Region.wanted,jV]
 rw[aF bJ];exact acE d s qS ux ho elem k hk a6 ci xF sp m0 uA m1 uB hd ab g off bm t hg U hn oX iu h1 B w0 V hH h
theorem acF(w:G)(g off:Nat)(t eJ:dD)(bm:List K)(v:K)(U:List K)(hg:w.heap[g]?=some (J bm.toArray t (0,0)))(hi:(P.info? eJ).map (·.size)=some U.length)(hv:v.cells=U.toArray)(ho:off+U.length<=bm)(h1:∀v∈U,v.oneCell'=true):(storeVar eJ ⟨g,off,none⟩ v).run P w= .ok () (w.setRow g (splice bm off U).toArray):=by
 have:=run_storeCells_at P g off t U 0 bm.toArray w hg (by simpa using ho) h1;cases aW:P.info? eJ with
 |none=>simp[aW]at hi
 |some i=>
  have ab:U.length=i.size:=by simp[aW]at hi;omega
  simp only[nO,gJ]at this;simp[storeVar,sizeOf,typeInfo,aW,hv,ab,this,splice]
theorem PS{o:Oper}{w:G}{bI:Exit->Act->G->Prop}(jV:o.guard=none)(eJ:dD)(x y:Operand)(ho:o.op= .store eJ x y)(hd:o.dst=none)(g off:Nat)(v:K)(U:List K)(D:a.eval x=aB (some ⟨g,off,none⟩))(bN:a.eval y=v)(t:dD)(bm:List K)(hg:w.heap[g]?=some (J bm.toArray t (0,0)))(hi:(P.info? eJ).map (·.size)=some U.length)(hv:v.cells=U.toArray)(iu:off+U.length<=bm)(h1:∀v∈U,v.oneCell'=true)(B:Nat)(w0:G)(V:Below B w0 w)(hH:B<=g)(h:∀F,Hid (F.heap[g]?=some (J (splice bm off U).toArray t (0,0))/\∀m,m≠g->F.heap[m]?=w.heap[m]?)->Below B w0 F->wpList P aU bI rest a F):wpList P aU bI (o::rest) a w:=by
 refine wpList_plain jV λaX am=> ?_
 unfold Oper.wp execOp;simp only[ho,D,bN,Instr.storeAt,Instr.sureAddr,Sem.run_bind,Sem.run_pure,Result.andThen_ok,acF w g off t eJ bm v U hg hi hv iu h1];have ac:=h _ ⟨gu w g _ (splice bm off U).toArray t _ hg,λm R=>mo w g m _ R⟩ (below_setRow V hH _);refine am _ _ ?_;rw[hd];exact ac
theorem asf(w:G)(t e eJ:dD)(hh:TypeInfo)(aR:K)(an:P.underlying t=some (.slice e))(kw:P.info? e=some hh)(bL:hh.zero=some aR)(g off n c:Nat)(hn:0<n)(el:dD)(bm:List K)(hg:w.heap[g]?=some (J bm.toArray el (0,0)))(iu:off+n*aR.cells.size<=bm.length)(h1:∀v∈aR.cells,v.oneCell'=true):(Builtin.clear_ #[t] eJ #[E (some ⟨g,off,none⟩) n c]).run P w= .ok (bH #[]) (w.setRow g (splice bm off (Builtin.zeroCells aR.cells n).toList).toArray):=by
 have X:(Builtin.zeroCells aR.cells n).toList.length=n*aR.cells.size:=by simp[Builtin.zeroCells]
 have ho:∀v∈(Builtin.zeroCells aR.cells n).toList,v.oneCell'=true:=by
  intro v hv;simp only[Builtin.zeroCells,Array.toList_map,iJ]at hv;obtain⟨j,Z,rfl⟩:=hv;have ac:0<aR.cells.size:=by
   rcases Nat.eq_zero_or_pos aR.cells.size with h|h
   ·rw[h]at Z;simp at Z
   ·exact h
  rw[getElem!_pos aR.cells (j%aR.cells.size) (Nat.mod_lt _ ac)];exact h1 _ (Array.getElem_mem _)
 have bU:=run_storeCells_at P g off el (Builtin.zeroCells aR.cells n).toList 0 bm.toArray w hg (by rw[X];simpa using iu) ho;simp only[nO,gJ]at bU;obtain⟨m,rfl⟩:∃m,n=m+1:=⟨n-1,aE⟩;simp only[Array.length_toList]at bU;simp[Builtin.clear_,run_underlying an,zeroValue,typeInfo,kw,bL,bU,splice]
theorem U4{w:G}{o:Oper}{bI:Exit->Act->G->Prop}(jV:o.guard=none)(d:Operand)(t:dD)(ho:o.op= .call {callee:= .builtin .clear,args:= #[d],argTypes:= #[t]})(e:dD)(hh:TypeInfo)(aR:K)(an:P.underlying t=some (.slice e))(kw:P.info? e=some hh)(bL:hh.zero=some aR)(g off n c:Nat)(hn:0<n)(hd:a.eval d=E (some ⟨g,off,none⟩) n c)(el:dD)(bm:List K)(hg:w.heap[g]?=some (J bm.toArray el (0,0)))(iu:off+n*aR.cells.size<=bm.length)(h1:∀v∈aR.cells,v.oneCell'=true)(B:Nat)(w0:G)(V:Below B w0 w)(hH:B<=g)(h:∀F,Hid (F.heap[g]?=some (J (splice bm off (Builtin.zeroCells aR.cells n).toList).toArray el (0,0))/\∀m,m≠g->F.heap[m]?=w.heap[m]?)->Below B w0 F->wpList P aU bI rest (a.put o.dst (bH #[])) F):wpList P aU bI (o::rest) a w:=by
 refine wpList_plain jV λ_ am=> ?_
 unfold Oper.wp execOp;simp only[ho,resolve,invoke,builtin,Sem.run_bind,Sem.run_pure,Result.andThen_ok,List.map_toArray,fK,kE,hd,asf w t e o.type hh aR an kw bL g off n c hn el bm hg iu h1];exact am _ _ (h _ ⟨gu w g _ _ el _ hg,λm R=>mo w g m _ R⟩ (below_setRow V hH _))
def asg(L aq aP ax:List K)(bl:L.take aq.length=aq):(splice (splice L aq aP) (aq.length+aP) ax).take (aq.length+aP+ax.length)=aq++(aP++ax):=by
 unfold splice;rw[bl];have aK:(aq++(aP++L.drop (aq.length+aP))).take (aq.length+aP)=aq++aP:=by rw[<-gJ];exact List.take_left' ay
 rw[aK];have:aq++aP++(ax++(aq++(aP++L.drop (aq.length+aP))).drop (aq.length+aP+ax.length))=(aq++(aP++ax))++(aq++(aP++L.drop (aq.length+aP))).drop (aq.length+aP+ax.length):=ay;rw[this];exact List.take_left' dU
def ash(L aq aP ax:List K)(bl:L.take aq.length=aq)(da:aq.length+aP+ax.length<=L):(splice (splice L (aq.length+aP) ax) aq aP).take (aq.length+aP+ax.length)=aq++(aP++ax):=by
 unfold splice;have aK:(L.take (aq.length+aP)++(ax++L.drop (aq.length+aP+ax.length))).take aq.length=aq:=by rw[List.take_append_of_le_length sK,y7,mQ aE,bl]
 have aV:(L.take (aq.length+aP)++(ax++L.drop (aq.length+aP+ax.length))).drop (aq.length+aP)=ax++L.drop (aq.length+aP+ax.length):=by exact List.drop_left' sK
 rw[aK,aV];have:aq++(aP++(ax++L.drop (aq.length+aP+ax.length)))=(aq++(aP++ax))++L.drop (aq.length+aP+ax.length):=ay;rw[this];exact List.take_left' dU
def FT{α:Type}{enc:α->List K}{k:Nat}(cp:∀x,(enc x).length=k):∀(A:List α)(i:Nat),(A.flatMap enc).take (i*k)=(A.take i).flatMap enc
 |_,0=>ay
 | [],_+1=>ay
 |x::r,i+1=>by
  rw[sI,List.take_succ_cons,sI,<-FT cp r i];have:(i+1)*k=(enc x).length+i*k:=by rw[cp,Nat.succ_mul];omega
  rw[this,List.take_length_add_append]
def U5{α:Type}{enc:α->List K}{k:Nat}(cp:∀x,(enc x).length=k):∀(A:List α)(i:Nat),(A.flatMap enc).drop (i*k)=(A.drop i).flatMap enc
 |_,0=>ay
 | [],_+1=>ay
 |x::r,i+1=>by
  rw[sI,List.drop_succ_cons,<-U5 cp r i];have:(i+1)*k=(enc x).length+i*k:=by rw[cp,Nat.succ_mul];omega
  rw[this,List.drop_length_add_append]
def Dv{α:Type}{enc:α->List K}{k:Nat}(cp:∀x,(enc x).length=k):∀(A:List α),(A.flatMap enc).length=A.length*k
 | []=>ay
 |x::r=>by rw[sI,dA,cp,Dv cp r,dJ,Nat.succ_mul];omega
structure bq(n0:Nat)(bz:Nat->Bool)(W aa:G):Prop where
 os:aa.os=W.os
 tape:aa.tape=W.tape
 output:aa.output=W.output
 size:W.heap.size<=aa
 kept:∀k o,W.heap[k]?=some o->(k<n0\/∀U t fr,o=J U t fr->bz t=false)->aa.heap[k]?=some o
def bq.refl(n0:Nat)(bz:Nat->Bool)(W:G):bq n0 bz W W:=⟨rfl,rfl,rfl,aZ _,λ_ _ h _=>h⟩
def bq.trans{n0:Nat}{bz:Nat->Bool}{aq B C:G}(h:bq n0 bz aq B)(k:bq n0 bz B C):bq n0 bz aq C:=
 ⟨k.os.trans h.os,k.tape.trans h.tape,k.output.trans h.output,cB h.size k.size,λi o ho hn=>k.kept i o (h.kept i o ho hn) hn⟩
def bq.ext{aq B:G}(h:Ext aq B):bq n0 bz aq B:=⟨h.os,h.tape,h.output,h.size,λ_ _ ho _=>aJ ho h⟩
def bq.mono{aq B:G}(h:bq n0 bz aq B)(hn:n1<=n0)(z1:∀t,acz t=false->bz t=false):bq n1 acz aq B:=
 ⟨h.os,h.tape,h.output,h.size,λk o ho hk=>h.kept k o ho (hk.imp (λh1=>vw h1 hn) (λh1 U t fr e=>z1 t (h1 U t fr e)))⟩
def bq.blk{aq B:G}(h:bq n0 bz aq B){U:Array K}{t:dD}(V:aq.heap[k]?=some (J U t fr))(hk:k<n0\/bz t=false):B.heap[k]?=some (J U t fr):=
 h.kept k _ V (hk.imp id (λh1 d' A' aLN e=>by cases e;exact h1))
def bq.boxed{aq B:G}(h:bq n0 bz aq B){v:K}(V:Boxed aq k t v)(an:bz t=false):Boxed B k t v:=h.blk V (.inr an)
def bq.own{aq B:G}(h:bq n0 bz aq B){v:K}{b3:List K}(ho:aq.ownsRow base e n v k b3)(bx:bz e=false):B.ownsRow base e n v k b3:=by
 refine⟨ho.1,?_⟩;rcases ho.2 with h2|⟨g,cap,bm,rfl,hg,be,r⟩
 ·exact .inl h2
 ·exact .inr ⟨g,cap,bm,rfl,hg,h.blk be (.inr bx),r⟩
def bq.below{aq B:G}(h:bq n0 bz aq B)(hn:n0<=aq):Below n0 aq B:=
 ⟨h.os,h.tape,h.output,h.size,λk hk=>by have oY:k<aq:=aE;rw[sG oY];exact h.kept k _ (sG oY) (.inl hk)⟩
def bq.lX{w0 aq B:G}(D:Ext w0 aq)(h:bq n0 bz aq B)(hn:w0.heap.size<=n0):Ext w0 B:=
 ⟨h.os.trans D.os,h.tape.trans D.tape,h.output.trans D.output,cB D.size h.size,λk hk=>by have oY:k<w0:=hk;have qT:k<aq:=vw oY D.size;have e:=D.block oY;rw[<-e,sG qT];exact h.kept k _ (sG qT) (.inl aE)⟩
def bq.set{W:G}{p:Addr}{U:Array K}{t:dD}(V:W.heap[p.block]?=some (J U t fr))(bE:bz t=true)(hn:n0<=p.block)(v:K):bq n0 bz W (W.setCell p v):=
 ⟨rfl,rfl,rfl,by simp[World.setCell],λk o ho hk=>by
  by_cases e:p.block=k
  ·subst e;rw[V]at ho;cases ho
   rcases hk with h1|h1
   ·omega
   ·rw[h1 U t fr rfl]at bE;cases bE
  ·exact(fI _ _ _ _ (λh=>e h.symm)).trans ho⟩
def bq.setRow{W:G}{U:Array K}{t:dD}(V:W.heap[g]?=some (J U t fr))(bE:bz t=true)(hn:n0<=g)(d':Array K):bq n0 bz W (W.setRow g d'):=
 ⟨rfl,rfl,rfl,by rw[setRow_size];exact aZ _,λk o ho hk=>by
  by_cases e:g=k
  ·subst e;rw[V]at ho;cases ho
   rcases hk with h1|h1
   ·omega
   ·rw[h1 U t fr rfl]at bE;cases bE
  ·exact(mo _ _ _ _ (λh=>e h.symm)).trans ho⟩
def Le{W:G}{v:K}{b3:List K}(h:W.ownsRow base e n v k b3)(g:Nat)(hg:v.ownBlock=some g):base<=g/\∃bm,W.heap[g]?=some (J bm e (0,0)):=by
 rcases h.2 with⟨rfl,-⟩|⟨dv,cap,bm,rfl,h1,h2,-⟩
 ·cases hg
 ·cases hg;exact⟨h1,bm,h2⟩
def bq.grown{W aa:G}{v:K}{b3:List K}(ho:W.ownsRow base e n v k b3)(hg:W.grownBy aa v.ownBlock)(bE:bz e=true)(hn:n0<=base):bq n0 bz W aa:=
 ⟨hg.os,hg.tape,hg.output,hg.size,λk o hk Lf=>by
  have ad:k<W:=(dG.1 hk).1;by_cases aV:some k=v.ownBlock
  ·obtain⟨h1,bm,h2⟩:=Le ho k aV.symm;rw[h2]at hk;cases hk
   rcases Lf with T|T
   ·omega
   ·rw[T _ _ _ rfl]at bE;cases bE
  ·exact(hg.block k ad aV).trans hk⟩
def bq.alloc{n0:Nat}{bz:Nat->Bool}(W:G)(o:Obj):bq n0 bz W (W.alloc o):= .ext ((O _).alloc _)
def bq.drew(W:G):bq n0 bz W W.drew:= .ext (O _).drew
def bq.ko{aq B:G}(h:bq n0 bz aq B):KeepsOthers aq B:=
 ⟨h.size,λk o hk ho=>h.kept k o hk (.inr (λU t fr e=>by subst e;cases ho))⟩
def aG{W:G}{U:Array K}{t:dD}(h:W.heap[B]?=some (J U t fr))(k:Nat):W.cell? ⟨B,k,none⟩=U[k]?:=by simp[World.cell?,h]
def dw{W:G}{U:Array K}{t:dD}(h:W.heap[B]?=some (J U t (0,0)))(k:Nat):W.frozen? ⟨B,k,none⟩=false:=by simp[World.frozen?,h]
def fH{W:G}{U:Array K}{t:dD}(h:W.heap[B]?=some (J U t fr))(k:Nat)(v:K):(W.setCell ⟨B,k,none⟩ v).heap[B]?=some (J (U.setIfInBounds k v) t fr):=by rw[sH _ _ _ _ _ _ _ h];exact gu _ _ _ _ _ _ h
def jY{W:G}{a b c d:K}{t:dD}(h:W.heap[B]?=some (J #[a,b,c,d] t (0,0))):(W.cell? B=some a/\W.cell? ⟨B,1,none⟩=some b/\W.cell? ⟨B,2,none⟩=some c/\W.cell? ⟨B,3,none⟩=some d)/\∀k,W.frozen? ⟨B,k,none⟩=false:=
 ⟨⟨aG h 0,aG h 1,aG h 2,aG h 3⟩,dw h⟩
def tL{W:G}{a b c:K}{t:dD}(h:W.heap[B]?=some (J #[a,b,c] t (0,0))):(W.cell? B=some a/\W.cell? ⟨B,1,none⟩=some b/\W.cell? ⟨B,2,none⟩=some c)/\∀k,W.frozen? ⟨B,k,none⟩=false:=
 ⟨⟨aG h 0,aG h 1,aG h 2⟩,dw h⟩
end LT
open Go
def acG(h:S:=by subst lr;exact bN.wpOpIn co hi (lv _ _ hi) hS ⟨λ_=>hS,bC⟩):S:=h
def acH(h:S:=by have:fe=hm:=gL (HT.symm.trans q0);subst this;exact xN e bx V De):S:=h
def acI(h:S:=by have h1:=fX e bx V;have ae:=(mem_ready.1 hr).1;rw[b4]at h1;exact acJ):S:=h
def acK(h:S:=by
 cases fuel with
 |zero=>exact⟨hr,h⟩
 |succ f=>exact⟨λ_=>h,by rw[hr];simp⟩):S:=h
def U6(h:S:=by rw[Array.setIfInBounds_comm _ _ lr];exact T.2.2):S:=h
def acL(h:S:=by
 cases e with
 |returned u=>exact⟨keep a bN u,by rw[<-Act.put_comm a v u h2];exact bx⟩
 |panicked c=>exact bx
 |outgrown=>exact bx):S:=h
def acJ(h:S:=by
 rcases Nat.lt_or_ge i listed.size with gm|gm
 ·simp[gm]at ae h1;rw[ae]at h1;cases h1
 ·simp[Il gm]at h1):S:=h
def Lg(h:S:=by rw[h]at hr;cases hr):S:=h
def Dw(h:S:=by simpa using hr):S:=h
namespace bh
section
variable {P:Program} {aU:Array Oper} {b6:Region.Mode} {w:G} {l n:Nat}
def ze(r:List Oper):Bool:=r.all λo=>match o.op with| .defer _=>false|_=>true
def PU{r:List Oper}(h:ze r=true):∀(i:Nat)(o:Oper),r.toArray[i]?=some o->∀c,o.op≠ .defer c:=by
 intro i o ho c ao;have R:o∈r:=by rw[List.getElem?_toArray]at ho;exact List.mem_of_getElem? ho
 have:=List.all_eq_true.1 h o R;simp only[ao]at this;cases this
def Calm(bI:Exit->Act->G->Prop):Exit->Act->G->Prop
 | .panic _,_,_=>False
 |e,a,w=>bI e a w
def Calm.imp{bI:Exit->Act->G->Prop}:∀(e:Exit)(a:Act)(w:G),Calm bI e a w->bI e a w:=λe a w h=>by cases e<;>first|exact h|exact(h:False).elim
def Oper.jF(w:G)(v:K):Result Next->Prop
 | .ok (.value u) F=>F=w/\u=v
 | .ok .skip F=>F=w/\v=undef
 |_=>False
def Oper.lV(P:Program)(o:Oper)(a:Act)(w:G)(v:K):Prop:=Oper.jF w v ((execOp a.eval o).run P w)
def Oper.idle(P:Program)(o:Oper)(a:Act)(a7:G->Prop)(next:Act->Prop):Prop:= ∃v,(∀w,a7 w->Oper.lV P o a w v)/\next (a.put o.dst v)
def wN(P:Program)(aU:Array Oper)(a7:G->Prop)(o:Oper)(v:K)(a:Act):Prop:=
 (Region.wanted o (yielded aU a.tmps)=true/\∀w,a7 w->Oper.lV P o a w v)\/(Region.wanted o (yielded aU a.tmps)=false/\v=undef)
def wN.of_same{a7:G->Prop}{o:Oper}{v:K}{a bu:Act}(bN:wN P aU a7 o v a)(bx:execOp bu.eval o=execOp a.eval o)(bJ:Region.wanted o (yielded aU bu.tmps)=Region.wanted o (yielded aU a.tmps)):wN P aU a7 o v bu:=by unfold wN Oper.lV at *;rw[bx,bJ];exact bN
theorem wN.wpOpIn{aY:Fence}(co:∀f,aY.fn f){a7:G->Prop}{bI:Exit->Act->G->Prop}{i:Nat}{o:Oper}{v:K}{a:Act}(hi:aU[i]?=some o)(hd:∀c,o.op≠ .defer c)(bN:wN P aU a7 o v a){aX:Act->G->Prop}(hS:a7 w)(h:aX (a.put o.dst v) w):wpOpIn aY n P aU bI i aX a w:=by
 unfold Go.wpOpIn;simp only[hi];rcases bN with⟨bJ,hv⟩|⟨bJ,rfl⟩
 ·simp only[bJ,if_true];refine⟨λ_ _=>co _,?_⟩;rw[Oper.semAt_eq _ _ _ hd];have T:=hv w hS;unfold Oper.lV at T;generalize(execOp a.eval o).run P w=r at *;cases r with
  |ok x F=>
   cases x<;>simp only[Oper.jF]at T<;>simp only[Oper.uponIn]
   case value u=>rw[T.1,T.2];exact h
   case skip=>rw[T.1,<-T.2];exact h
  |halt x F=>simp only[Oper.jF]at T
 ·simp only[bJ,rM,if_false];exact⟨λ_ _=>co _,h⟩
def vJ(aY:Fence)(n:Nat)(P:Program)(b6:Region.Mode)(aU:Array Oper)(bI:Exit->Act->G->Prop)(a7:G->Prop)(last:Nat):Nat->Array Bool->Act->G->Prop
 |0,listed,a,w=>Region.ready b6 aU listed=[]/\bI .normal a w
 |fuel+1,listed,a,w=>(Region.ready b6 aU listed=[]->bI .normal a w)/\
  ∀i∈Region.ready b6 aU listed,wpOpIn aY n P aU bI i (λbu F=>(i≠last->a7 F)/\vJ aY n P b6 aU bI a7 last fuel (listed.setIfInBounds i true) bu F) a w
theorem acM{aY:Fence}{bI:Exit->Act->G->Prop}{a7:G->Prop}{last:Nat}:∀(fuel:Nat)(listed:Array Bool)(a:Act)(w:G),vJ aY n P b6 aU bI a7 last fuel listed a w->wpAnyIn aY n P b6 aU bI fuel listed a w
 |0,_,_,_,h=>h
 |fuel+1,_,_,_,h=>⟨h.1,λi hi=>wpOpIn_mono (λbu F be=>acM fuel _ bu F be.2) (h.2 i hi)⟩
theorem U7{aY:Fence}(co:∀f,aY.fn f){a7:G->Prop}{bI:Exit->Act->G->Prop}{j:Nat}{df hm:Oper}{v:K}(Z:aU[j]?=some hm)(acN:∀c,hm.op≠ .defer c)(asd:df.apart aU hm=true)(asi:∀U b,df.op≠ .select U b)(asj:∀U b,hm.op≠ .select U b){aX:Act->G->Prop}{a:Act}(bN:wN P aU a7 df v a)(h:wpOpIn aY n P aU (Calm bI) j aX (a.put df.dst v) w):wpOpIn aY n P aU (Calm bI) j (λbu F=>wN P aU a7 df v bu/\aX (bu.put df.dst v) F) a w:=by
 obtain⟨h1,h2,T⟩:=Oper.apart_spec asd;have keep:∀(a:Act),wN P aU a7 df v a->∀u,wN P aU a7 df v (a.put hm.dst u):=λa bN u=>bN.of_same (execOp_put df asi a hm.dst u T) (wanted_put df a hm.dst u T)
 unfold wpOpIn at *;simp only[Z]at *;rw[wanted_put hm a df.dst v h1]at h;split
 ·rename_i bJ;simp only[bJ,if_true]at h;unfold Oper.wpIn at *;refine⟨λ_ _=>co _,?_⟩;have h:=h.2;rw[Oper.semAt_eq _ _ _ acN,execOp_put hm asj a df.dst v h1]at h;rw[Oper.semAt_eq _ _ _ acN];generalize(execOp a.eval hm).run P w=r at *;cases r with
  |ok x F=>
   cases x<;>simp only[Oper.uponIn]at h⊢
   case value u=>exact⟨keep a bN u,by rw[<-Act.put_comm a v u h2];exact h⟩
   case skip=>exact⟨keep a bN _,by rw[<-Act.put_comm a v undef h2];exact h⟩
   case defer d=>refine⟨keep {a with defers:=d::a.defers} (bN.of_same rfl rfl) _,?_⟩;rw[<-Act.put_comm _ v undef h2,<-Act.put_defers];exact h
   case enter f args=>refine⟨h.1,CallsIn.mono h.2 λe oT bx=> ?_⟩;exact acL
   case row row args=>exact⟨h.1,RowsIn.mono h.2 λu oT bx=>⟨keep a bN u,by rw[<-Act.put_comm a v u h2];exact bx⟩⟩
   case round l f tmps assign body=>refine⟨h.1,RoundIn.mono h.2 λe oT bx=> ?_⟩;exact acL
  |halt x F=>
   cases x<;>simp only[Oper.uponIn]at h⊢
   case panic u=>exact h
 ·rename_i bJ;simp only[bJ]at h;exact⟨λ_ _=>co _,keep a bN _,by rw[<-Act.put_comm a v undef h2];exact h.2⟩
def zf{aY:Fence}(co:∀f,aY.fn f){a7:G->Prop}{bI:Exit->Act->G->Prop}{i last:Nat}{df:Oper}{v:K}(hi:aU[i]?=some df)(lv:∀(i:Nat)(o:Oper),aU[i]?=some o->∀c,o.op≠ .defer c)(Do:∀(j:Nat)(o:Oper) U b,aU[j]?=some o->o.op≠ .select U b)(rn:i≠last)(m2:Region.waitsFor b6 aU last i=true):∀(fuel:Nat)(listed:Array Bool)(a:Act)(w:G),(∀j hm,aU[j]?=some hm->j≠i->listed.getD j true=false->(∀e∈hm.after,Region.binds b6 e=true->e.on≠i)->df.apart aU hm=true)->i∈Region.ready b6 aU listed->wN P aU a7 df v a->a7 w->vJ aY n P b6 aU (Calm bI) a7 last fuel (listed.setIfInBounds i true) (a.put df.dst v) w->vJ aY n P b6 aU (Calm bI) a7 last (fuel+1) listed a w:=by
 intro fuel
 induction fuel with
 |zero=>
  intro listed a w _ hr bN hS bC;refine⟨λh=>Lg,λj Z=> ?_⟩;by_cases lr:j=i
  ·exact acG
  ·have:=ready_mono Z lr;rw[bC.1]at this;cases this
 |succ fuel b9=>
  intro listed a w Dx hr bN hS bC;refine⟨λh=>Lg,λj Z=> ?_⟩;by_cases lr:j=i
  ·exact acG
  ·have h1:=bC.2 j (ready_mono Z lr);obtain⟨Dy,hm,q0,fX⟩:=mem_ready.1 Z;have xN:∀e∈hm.after,Region.binds b6 e=true->e.on≠i:=λe bx V b4=>acI
   have nw:j≠last:=λe=>by subst e;obtain⟨fe,HT,e,bx,V,De⟩:=Region.waitsFor_spec m2;exact acH
   have h2:=U7 co q0 (lv _ _ q0) (Dx j hm q0 lr Dy xN) (λU b=>Do i df U b hi) (λU b=>Do j hm U b q0) bN h1;have Lh:∀k ok,aU[k]?=some ok->k≠i->(listed.setIfInBounds j true).getD k true=false->
    (∀e∈ok.after,Region.binds b6 e=true->e.on≠i)->df.apart aU ok=true:=λk ok hk s2 ro hp=>by
    refine Dx k ok hk s2 ?_ hp;by_cases lw:j=k
    ·subst lw;exact Dy
    ·rw[getD_set_ne true lw]at ro;exact ro
   refine wpOpIn_mono (λbu F T=>⟨T.2.1,b9 (listed.setIfInBounds j true) bu F Lh (ready_mono hr (Ne.symm lr)) T.1 (T.2.1 nw) ?_⟩) h2;exact U6
def acO{aY:Fence}(co:∀f,aY.fn f){a7:G->Prop}{bI:Exit->Act->G->Prop}(i:Nat){last:Nat}{df:Oper}{fuel:Nat}{listed:Array Bool}{a:Act}(hi:aU[i]?=some df)(lv:ze aU.toList=true)(ab:Region.noSelect aU=true)(ai:Region.free b6 aU listed i=true)(hr:(Region.ready b6 aU listed).contains i=true)(rn:decide (i≠last)=true)(m2:Region.waitsFor b6 aU last i=true)(hS:a7 w)(h:∀aX:Act->Prop,(∀a,vJ aY n P b6 aU (Calm bI) a7 last fuel (listed.setIfInBounds i true) a w->aX a)->if Region.wanted df (yielded aU a.tmps)then Oper.idle P df a a7 aX else aX (a.put df.dst undef)):vJ aY n P b6 aU (Calm bI) a7 last (fuel+1) listed a w:=by
 have h1:=h _ (λ_ h=>h);have hd:=PU lv;rw[Array.toArray_toList]at hd;split at h1
 ·rename_i bJ;obtain⟨v,hv,hn⟩:=h1;exact zf co hi hd (Region.noSelect_spec ab) (of_decide_eq_true rn) m2 fuel listed a w (Region.free_spec hi ai) Dw (.inl ⟨bJ,hv⟩) hS hn
 ·rename_i bJ;exact zf co hi hd (Region.noSelect_spec ab) (of_decide_eq_true rn) m2 fuel listed a w (Region.free_spec hi ai) Dw (.inr ⟨by simpa using bJ,rfl⟩) hS h1
def zh{aY:Fence}{a7:G->Prop}{bI:Exit->Act->G->Prop}(i:Nat){last:Nat}{df:Oper}{fuel:Nat}{listed:Array Bool}{a:Act}(hi:aU[i]?=some df)(hS:a7 w)(h:∀aX:Act->Prop,(∀a,vJ aY n P b6 aU (Calm bI) a7 last fuel (listed.setIfInBounds i true) a w->aX a)->if Region.wanted df (yielded aU a.tmps)then Oper.idle P df a a7 aX else aX (a.put df.dst undef))(co:∀f,aY.fn f:=by exactλ_=>trivial)(lv:ze aU.toList=true:=by kernel_rfl)(ab:Region.noSelect aU=true:=by kernel_rfl)(ai:Region.free b6 aU listed i=true:=by kernel_rfl)(hr:(Region.ready b6 aU listed).contains i=true:=by kernel_rfl)(rn:decide (i≠last)=true:=by rfl)(m2:Region.waitsFor b6 aU last i=true:=by kernel_rfl):vJ aY n P b6 aU (Calm bI) a7 last (fuel+1) listed a w:=acO co i hi lv ab ai hr rn m2 hS h
def z8{aY:Fence}{a7:G->Prop}{bI:Exit->Act->G->Prop}(i:Nat){last:Nat}{df:Oper}{fuel:Nat}{listed:Array Bool}{a:Act}(hi:aU[i]?=some df)(hS:a7 w){zf:Prop}(q:zf)(h:Ux zf->∀aX:Act->Prop,(∀a,vJ aY n P b6 aU (Calm bI) a7 last fuel (listed.setIfInBounds i true) a w->aX a)->if Region.wanted df (yielded aU a.tmps)then Oper.idle P df a a7 aX else aX (a.put df.dst undef):=by intro xT aX am;go_simp;exact am _ xT.o)(co:∀f,aY.fn f:=by exactλ_=>trivial)(lv:ze aU.toList=true:=by kernel_rfl)(ab:Region.noSelect aU=true:=by kernel_rfl)(ai:Region.free b6 aU listed i=true:=by kernel_rfl)(hr:(Region.ready b6 aU listed).contains i=true:=by kernel_rfl)(rn:decide (i≠last)=true:=by rfl)(m2:Region.waitsFor b6 aU last i=true:=by kernel_rfl):vJ aY n P b6 aU (Calm bI) a7 last (fuel+1) listed a w:=acO co i hi lv ab ai hr rn m2 hS (h ⟨q⟩)
theorem xR{aY:Fence}{a7:G->Prop}{bI:Exit->Act->G->Prop}(k:Nat){last:Nat}{o:Oper}{fuel:Nat}{listed:Array Bool}{a:Act}(hr:Region.ready b6 aU listed=[k])(ho:aU[k]?=some o)(h:∀aX:Act->G->Prop,(∀a w,(k≠last->a7 w)->vJ aY n P b6 aU bI a7 last fuel (listed.setIfInBounds k true) a w->aX a w)->if Region.wanted o (yielded aU a.tmps)=true then Oper.wpIn aY n P o a w aX bI else(∀f,o.about P w a.eval=some f->aY.fn f)/\aX (a.put o.dst undef) w):vJ aY n P b6 aU bI a7 last (fuel+1) listed a w:=by
 refine⟨(λae=>by rw[hr]at ae;cases ae),λi hi=> ?_⟩;rw[hr]at hi;obtain rfl:i=k:=by simpa using hi
 unfold wpOpIn;rw[ho];exact h _ (λa w h1 h2=>⟨h1,h2⟩)
def U8{aY:Fence}{a7:G->Prop}{bI:Exit->Act->G->Prop}{last fuel:Nat}{listed:Array Bool}{a:Act}(hr:Region.ready b6 aU listed=[])(h:bI .normal a w):vJ aY n P b6 aU bI a7 last fuel listed a w:=acK
theorem U9{aY:Fence}{id:Nat}{bI:Exit->Act->G->Prop}{a:Act}{r:List Oper}(last:Nat)(a7:G->Prop)(R:P.follows .mixedOrders=true)(h:vJ aY n P .any r.toArray (Calm bI) a7 last r.toArray.size (Array.replicate r.toArray.size false) a w.drew):(Code.region id r.toArray true).wpIn aY n P bI a w:=
 wpIn_mono (wpIn_region_any R (acM _ _ _ _ h)) Calm.imp
end
end bh
namespace KL
def nm(k:Nat):List aL:=
 if k=32768 then [107,105,108,108]else if k=0 then [107,105,108,108,116,104,114,101,97,100]else if k=3 then [116,114,97,112]
 else if k=5 then [101,114,114,110,111]else if k=32704 then [110,111,116,105,102,121]else if k=32752 then [116,114,97,99,101]
 else if k=32764 then [108,111,103]else if k=32767 then [97,108,108,111,119]else []
def Va(k:Nat):Int:=
 if k=32768 then 0 else if k=0 then 1 else if k=3 then 2 else if k=5 then 3 else if k=32704 then 4 else if k=32752 then 5
 else if k=32764 then 6 else if k=32767 then 7 else-1
def kn(a:Nat):Bool:=decide (0<=Va (a/65536))
def PV(a:Nat):Int:=if 32768<=a/65536 then(a/65536:Nat)-65536 else(a/65536:Nat)
def less(a b:Nat):Bool:=decide (PV a<PV b)
def asl(k:Nat):(nm k).isEmpty= !decide (0<=Va k):=by unfold nm Va;(repeat' split)<;>rfl
def acP(a:Nat)(h:a<4294967296):bits .andNot .u32 a 65535=((a/65536*65536:Nat):Int):=by rw[u32_andNot _ _ aE aE Y Y];have e:(4294967295-Int.toNat 65535)=4294901760:=Y;have h1:=nat_hi32_16 a;rw[e,kr,h1,Nat.mod_eq_of_lt h]
def codes:List Nat:= [2147483648,0,196608,327680,2143289344,2146435072,2147221504,2147418112]
def nms:List (List aL):= [[107,105,108,108],[107,105,108,108,116,104,114,101,97,100],[116,114,97,112],[101,114,114,110,111],
 [110,111,116,105,102,121],[116,114,97,99,101],[108,111,103],[97,108,108,111,119]]
def Vb:Array K:= #[M 2147483648,N ⟨#[107,105,108,108]⟩,M 0,N ⟨#[107,105,108,108,116,104,114,101,97,100]⟩,
 M 196608,N ⟨#[116,114,97,112]⟩,M 327680,N ⟨#[101,114,114,110,111]⟩,M 2143289344,N ⟨#[110,111,116,105,102,121]⟩,
 M 2146435072,N ⟨#[116,114,97,99,101]⟩,M 2147221504,N ⟨#[108,111,103]⟩,M 2147418112,N ⟨#[97,108,108,111,119]⟩]
def acQ(i:Nat)(h:i<8):i=0\/i=1\/i=2\/i=3\/i=4\/i=5\/i=6\/i=7:=aE
def asn(i a:Nat)(h:i<8)(e:codes.getD i 0=a/65536*65536):nm (a/65536)=nms.getD i []:=by
 rcases acQ i h with rfl|rfl|rfl|rfl|rfl|rfl|rfl|rfl<;>simp[codes]at e
 ·rw[show a/65536=32768 from aE];rfl
 ·rw[show a/65536=0 from aE];rfl
 ·rw[show a/65536=3 from aE];rfl
 ·rw[show a/65536=5 from aE];rfl
 ·rw[show a/65536=32704 from aE];rfl
 ·rw[show a/65536=32752 from aE];rfl
 ·rw[show a/65536=32764 from aE];rfl
 ·rw[show a/65536=32767 from aE];rfl
def aso(a:Nat)(e:∀i,i<8->codes.getD i 0≠a/65536*65536):nm (a/65536)=[]:=by have cG:=e 0 aE;have aK:=e 1 aE;have aV:=e 2 aE;have cC:=e 3 aE;have gA:=e 4 aE;have hR:=e 5 aE;have kh:=e 6 aE;have m3:=e 7 aE;simp[codes]at cG aK aV cC gA hR kh m3;unfold nm;rw[au aE,au aE,au aE,au aE,au aE,au aE,au aE,au aE]
end KL
namespace Co
structure Span where
 lo:Nat
 hi:Nat
 way:Int
structure Dz(s:Span):Prop where
 l:s.lo<4294967296
 h:s.hi<4294967296
 a: -9223372036854775808<=s.way
 b:s.way<=9223372036854775807
def sO(s:Span):List K:= [M s.lo,M s.hi,H s.way]
def Kl(s:Span):(sO s).length=3:=rfl
def asq(s:Span):∀u∈sO s,u.oneCell'=true:=by intro u a6;simp[sO]at a6;exact Pt
def PW{w:G}{v:K}{A:List Span}(h:aS w 3 sO v A):∃a c,v=E a A c/\A.length<=c/\∀i,(hi:i<A.length)->∃b o,a=some ⟨b,o,none⟩/\w.cell? ⟨b,o+i*3,none⟩=some (M (A[i].lo:Int))/\w.cell? ⟨b,o+i*3+1,none⟩=some (M (A[i].hi:Int))/\w.cell? ⟨b,o+i*3+2,none⟩=some (H A[i].way):=by obtain⟨a,c,h1,h2,T,af⟩:=h;refine⟨a,c,h1,h2,λi hi=> ?_⟩;obtain⟨b,o,e,k⟩:=af i hi;exact⟨b,o,e,k 0 (by simp[sO]),k 1 (by simp[sO]),k 2 (by simp[sO])⟩
def chain:List Span->Nat->Option Nat
 | [],n=>some n
 |s::r,n=>if s.lo=n/\s.lo<=s.hi then chain r (s.hi+1)else none
def whole(A:List Span):Bool:=decide (chain A 0=some 4294967296)
def asr{A:List Span}{k:Nat}(h:k<A)(n:Nat):chain (A.drop k) n=if A[k].lo=n/\A[k].lo<=A[k].hi then chain (A.drop (k+1)) (A[k].hi+1)else none:=by rw[kQ h];rfl
def chain_nil(n:Nat):chain [] n=some n:=rfl
def asu:whole []=false:=Y
def way:List Span->Nat->Int×Bool
 | [],_=>(0,false)
 |s::r,n=>if s.lo<=n/\n<=s.hi then(s.way,true)else way r n
def put(out:List Span)(s:Span):List Span:=
 match out.getLast? with
 |some l=>if l.way=s.way then out.set (out-1) ⟨l.lo,s.hi,l.way⟩else out++[s]
 |none=>out++[s]
def ahH(s:Span):put [] s=[s]:=rfl
def asv{out:List Span}{s:Span}(h:0<out.length)(e:out[out.length-1].way=s.way):put out s=out.set (out-1) ⟨out[out.length-1].lo,s.hi,out[out.length-1].way⟩:=by unfold put;rw[List.getLast?_eq_getElem?,dK aE];simp only[e,if_true]
def asw{out:List Span}{s:Span}(h:0<out.length)(e:out[out.length-1].way≠s.way):put out s=out++[s]:=by unfold put;rw[List.getLast?_eq_getElem?,dK aE];simp only[e,if_false]
def asx(out:List Span)(s:Span):(put out s).length<=out.length+1:=by
 unfold put;split
 ·split<;>simp
 ·simp
def wy(A:List Span)(i:Nat):Int:=match A[i]? with|some s=>s.way|none=>0
def asy{A:List Span}{i:Nat}(h:i<A):wy A i=A[i].way:=by unfold wy;rw[dK h]
def merge(A:List Span):List Span:=A.foldl put []
def Nc(A:List Span):(merge A).length<=A.length:=by
 unfold merge;have:∀(ys out:List Span),(ys.foldl put out).length<=out.length+ys:=by
  intro ys
  induction ys with
  |nil=>intro out;simp
  |cons y ys b9=>intro out;have:=b9 (put out y);have h2:=asx out y;simp only[xH,dJ];omega
 simpa using this A []
end Co
namespace LT
def wO:List (List aL×List (List aL)):= [([64,98,97,115,105,99,45,105,111],[[114,101,97,100],[119,114,105,116,101],[99,108,111,115,101]]),([64,99,108,111,99,107],[[99,108,111,99,107,95,115,101,116,116,105,109,101],[115,101,116,116,105,109,101,111,102,100,97,121]]),([64,100,101,98,117,103],[[112,116,114,97,99,101],[112,101,114,115,111,110,97,108,105,116,121]]),([64,102,105,108,101],[[64,98,97,115,105,99,45,105,111],[111,112,101,110],[111,112,101,110,97,116],[105,111,99,116,108]]),([64,109,101,109,111,114,121],[[98,114,107],[109,109,97,112],[109,112,114,111,116,101,99,116],[109,117,110,109,97,112],[112,107,101,121,95,109,112,114,111,116,101,99,116],[115,104,109,97,116]]),([64,109,111,100,117,108,101],[[100,101,108,101,116,101,95,109,111,100,117,108,101],[102,105,110,105,116,95,109,111,100,117,108,101],[105,110,105,116,95,109,111,100,117,108,101]]),([64,109,111,117,110,116],[[109,111,117,110,116],[117,109,111,117,110,116,50]]),([64,110,101,115,116],[[64,110,101,115,116,45,50],[107,105,108,108]]),([64,110,101,115,116,45,50],[[64,110,101,115,116,45,51],[103,101,116,117,105,100]]),([64,110,101,115,116,45,51],[[64,110,101,115,116,45,52],[115,101,116,117,105,100]]),([64,110,101,115,116,45,52],[[64,110,101,115,116,45,53],[101,120,105,116]]),([64,110,101,115,116,45,53],[[114,101,97,100]]),([64,110,101,116,119,111,114,107],[[98,105,110,100],[99,111,110,110,101,99,116],[108,105,115,116,101,110],[115,111,99,107,101,116]]),([64,112,114,105,118,105,108,101,103,101,100],[[64,99,108,111,99,107],[64,109,111,100,117,108,101],[64,109,111,117,110,116],[64,114,101,98,111,111,116],[98,112,102],[115,101,116,117,105,100]]),([64,112,114,111,99,101,115,115],[[99,108,111,110,101],[99,108,111,110,101,51],[101,120,101,99,118,101],[101,120,105,116],[102,111,114,107],[107,105,108,108],[115,101,116,110,115],[117,110,115,104,97,114,101]]),([64,114,101,98,111,111,116],[[114,101,98,111,111,116]]),([64,114,101,115,111,117,114,99,101,115],[[115,99,104,101,100,95,115,101,116,97,116,116,114],[115,99,104,101,100,95,115,101,116,115,99,104,101,100,117,108,101,114]]),([64,115,121,115,116,101,109],[[64,102,105,108,101],[64,109,101,109,111,114,121],[64,110,101,116,119,111,114,107],[64,112,114,111,99,101,115,115],[103,101,116,117,105,100]])]
def rU(s:List aL):Option (List (List aL)):=(wO.find? (λg=>g.1==s)).map (·.2)
def PX:Nat->List aL->Nat
 |0,_=>0
 |k+1,s=>match rU s with
  |none=>0
  |some l=>l.foldl (λn m=>max n (PX k m)) 0+1
def nQ(s:List aL):Nat:=PX 9 s
def Vd:∀g∈wO,∀m∈g.2,nQ m<nQ g.1:=jE
def acR:∀g∈wO,nQ g.1=g.2.foldl (λn m=>max n (nQ m)) 0+1:=jE
def DC:∀g∈wO,nQ g.1<=6/\g.2.length<=8/\g.2≠[]:=jE
def asz:∀g∈wO,∀m∈g.2,m.head?≠some 64->oJ m=true:=jE
def PY{s:List aL}{l:List (List aL)}(h:rU s=some l):(s,l)∈wO:=by
 unfold rU at h;cases ai:wO.find? (λg=>g.1==s)with
 |none=>rw[ai]at h;cases h
 |some g=>
  rw[ai]at h;have h1:=List.mem_of_find?_eq_some ai;have h2:=List.find?_some ai;simp only[kC,jB]at h;have T:g.1=s:=by simpa using h2
  obtain⟨a,b⟩:=g;simp only at h T;rw[<-T,<-h];exact h1
def acS{s:List aL}(h:rU s=none):nQ s=0:=by show PX 9 s=0;unfold PX;rw[h]
end LT
namespace bh
variable {aY:Fence} {n:Nat} {P:Program}
def acU(ax:Nat):Deferred:= {target:= .collected ax,args:= #[]}
structure Marks(B:Nat)(Ds:List Nat)(W:G):Prop where
 nodup:Ds.Nodup
 lies:∀ax∈Ds,W.heap[ax]?=some (.deferred (some []))/\B<=ax
def Marks.nil(B:Nat)(W:G):Marks B [] W:=⟨List.nodup_nil,λ_ h=>by cases h⟩
def Marks.lt{B:Nat}{Ds:List Nat}{W:G}(h:Marks B Ds W):∀ax∈Ds,ax<W.heap.size:=λax cE=>(dG.1 (h.lies ax cE).1).1
def Marks.cons{B:Nat}{Ds:List Nat}{W:G}(h:Marks B Ds W){ax:Nat}(hn:ax∉Ds)(X:W.heap[ax]?=some (.deferred (some [])))(hB:B<=ax):Marks B (ax::Ds) W:=
 ⟨List.nodup_cons.2 ⟨hn,h.nodup⟩,λpy cA=>by
  rcases iA.1 cA with rfl|h2
  ·exact⟨X,hB⟩
  ·exact h.lies py h2⟩
def Marks.kept{B:Nat}{Ds:List Nat}{W aa:G}(h:Marks B Ds W)(hk:∀ax∈Ds,aa.heap[ax]?=W.heap[ax]?):Marks B Ds aa:=
 ⟨h.nodup,λax cE=>⟨(hk ax cE).trans (h.lies ax cE).1,(h.lies ax cE).2⟩⟩
def Marks.alloc{B:Nat}{Ds:List Nat}{W:G}(h:Marks B Ds W)(o:Obj):Marks B Ds (W.alloc o):=h.kept λax cE=>Below.heap_alloc _ _ _ (h.lt ax cE)
def Marks.grown{B:Nat}{Ds:List Nat}{W aa:G}{row:Option Nat}(h:Marks B Ds W)(hg:W.grownBy aa row)(hr:∀r,row=some r->r∉Ds):Marks B Ds aa:=
 h.kept λax cE=>hg.block ax (h.lt ax cE) (λe=>hr ax e.symm cE)
def Marks.ext{B:Nat}{Ds:List Nat}{W aa:G}(h:Marks B Ds W)(D:Ext W aa):Marks B Ds aa:=h.kept λax cE=>D.block (h.lt ax cE)
def Marks.setCell{B:Nat}{Ds:List Nat}{W:G}(h:Marks B Ds W){p:Addr}(ac:p.block<B)(u:K):Marks B Ds (W.setCell p u):=
 h.kept λax cE=>fI W p u ax (λe=>by have:=(h.lies ax cE).2;omega)
def acV{fn:Func}{tmps:Array K}{aH:Ending->G->Prop}{B:Nat}:∀(Ds:List Nat)(W:G),Marks B Ds W->(∀aa,aa.os=W.os->aa.tape=W.tape->aa.output=W.output->aa.heap.size=W.heap.size->(∀k,k<B->aa.heap[k]?=W.heap[k]?)->(∀k,k∉Ds->aa.heap[k]?=W.heap[k]?)->LeavesInM aY n P fn tmps aH [] .returning aa)->LeavesInM aY n P fn tmps aH (Ds.map acU) .returning W
 | [],W,_,h=>h W rfl rfl rfl rfl (λ_ _=>rfl) (λ_ _=>rfl)
 |ax::Ds,W,R,h=>by refine⟨ay,.inl ⟨ax,_,rfl,run_takeDeferred (R.lies ax ay).1,?_⟩⟩;have Li:=List.nodup_cons.1 R.nodup;refine acV Ds _ ⟨Li.2,λpy cA=>⟨(World.putObj_heap_other (show py≠ax fromλe=>Li.1 (e▸cA))).trans (R.lies py (by simp[cA])).1,(R.lies py (by simp[cA])).2⟩⟩ ?_;intro aa h1 h2 T af aQ a9;refine h aa h1 h2 T (by rw[af];simp) (λk hk=>(aQ k hk).trans (World.putObj_heap_other (λe=> ?_))) (λk hk=>(a9 k (λe=>hk (by simp[e]))).trans (World.putObj_heap_other (λe=>hk (by simp[e]))));have:=(R.lies ax ay).2;omega
def Keep.putObj{a7:Nat->Prop}(W:G){l:Nat}(X:¬a7 l)(o:Obj):Keep a7 W (W.putObj l o):=
 ⟨rfl,rfl,rfl,ay,λk hk=>World.putObj_heap_other (λe=>X (e▸hk))⟩
theorem Lj{α:Type}{W:G}{aU:Array Oper}{o:Oper}{a:Act}{aX:Act->G->Prop}{bI:Exit->Act->G->Prop}{py:Prop}(jV:o.guard=none)(s x:Operand)(t:dD)(ho:o.op= .call {callee:= .builtin .append,args:= #[s,x],argTypes:= #[t,t]}){e:dD}{m bytes:Nat}{aR:K}(a6:P.underlying t=some (.slice e))(i5:(P.info? e).map (λi=>(i.zero,i.size,i.bytes))=some (some aR,m,bytes))(hQ:aR.cells.size=m)(hn:0<m){enc:α->List K}(cp:∀x,(enc x).length=m)(fL:∀x,∀u∈enc x,u.oneCell'=true)(base:Nat)(u v:K)(A ys:List α)(ab:a.eval s=u)(D:a.eval x=v)(cc:W.ownsRow base e m u A (A.flatMap enc))(cX:aS W m enc v ys)(mn:A.length+ys<=100000000)(mr:bytes<=1000000)(pv:base<=W.heap.size)(h:∀bv bp F,F.ownsRow base e m (E bv (A.length+ys) bp) (A.length+ys) ((A++ys).flatMap enc)->W.grownBy F u.ownBlock->aX (a.put o.dst (E bv (A.length+ys) bp)) F):if Region.wanted o (yielded aU a.tmps)=true then Oper.wpIn aY n P o a W aX bI else py:=by
 have bJ:Region.wanted o (yielded aU a.tmps)=true:=by simp[Region.wanted,jV]
 rw[aF bJ];obtain⟨bv,bp,F,hr,h2,T⟩:=La (P:=P) (eJ:=o.type) a6 i5 hQ hn cp fL cc cX mn mr pv;unfold Oper.wpIn;refine⟨?_,?_⟩
 ·simp[Oper.about,ho,resolve,Target.leads,Sem.run_pure]
 ·rw[Oper.semAt_plain aY _ _ (by rw[ho];intro c q1;cases q1)];simp[execOp,ho,resolve,invoke,builtin,ab,D,hr,Result.andThen];exact h bv bp F h2 T
end bh
namespace rZ
abbrev Nm:=List aL×Nat
def bytes(s:bn):List aL:=s.data.toList
def str(l:List aL):bn:=⟨l.toArray⟩
def nP(l:List aL):bytes (str l)=l:=by simp[bytes,str]
def sM(x:Nm):List K:= [N (str x.1),M x.2]
def BM(x:Nm):List K:= [N (str x.1),aA (x.2:Int)]
def Ll(x:Nm):(sM x).length=2:=rfl
def asA(x:Nm):(BM x).length=2:=rfl
def vW:List Nm:= [([65,70,95,85,78,73,88],1),([65,70,95,73,78,69,84],2),([65,70,95,73,78,69,84,54],10),([65,70,95,78,69,84,76,73,78,75],16),([65,70,95,80,65,67,75,69,84],17),([65,70,95,66,76,85,69,84,79,79,84,72],31),([65,70,95,65,76,71],38),([65,70,95,86,83,79,67,75],40)]
def uI:List Nm:= [([116,105,109,101],128),([109,110,116],131072),([99,103,114,111,117,112],33554432),([117,116,115],67108864),([105,112,99],134217728),([117,115,101,114],268435456),([112,105,100],536870912),([110,101,116],1073741824)]
def BN:Array K:= #[N ⟨#[65,70,95,85,78,73,88]⟩,M 1,N ⟨#[65,70,95,73,78,69,84]⟩,M 2,N ⟨#[65,70,95,73,78,69,84,54]⟩,M 10,N ⟨#[65,70,95,78,69,84,76,73,78,75]⟩,M 16,N ⟨#[65,70,95,80,65,67,75,69,84]⟩,M 17,N ⟨#[65,70,95,66,76,85,69,84,79,79,84,72]⟩,M 31,N ⟨#[65,70,95,65,76,71]⟩,M 38,N ⟨#[65,70,95,86,83,79,67,75]⟩,M 40]
def acW:BN.toList=vW.flatMap sM:=by rfl
theorem PZ(w:G):aM 97 #[] w (bg BN):=by
 unfold aM;go_in;go_upto_region 1 with fail;apply wp_region_lit;refine bG 180 1 #[N ⟨#[65,70,95,85,78,73,88]⟩,M 1] ?_;refine bG 180 2 #[N ⟨#[65,70,95,73,78,69,84]⟩,M 2] ?_;refine bG 180 3 #[N ⟨#[65,70,95,73,78,69,84,54]⟩,M 10] ?_;refine bG 180 4 #[N ⟨#[65,70,95,78,69,84,76,73,78,75]⟩,M 16] ?_;refine bG 180 5 #[N ⟨#[65,70,95,80,65,67,75,69,84]⟩,M 17] ?_;refine bG 180 6 #[N ⟨#[65,70,95,66,76,85,69,84,79,79,84,72]⟩,M 31] ?_;refine bG 180 7 #[N ⟨#[65,70,95,65,76,71]⟩,M 38] ?_;refine bG 180 8 #[N ⟨#[65,70,95,86,83,79,67,75]⟩,M 40] ?_;refine bG 181 9 (BN) ?_;refine wpList_store_rowTo rfl 181 _ _ rfl rfl w.heap.size BN jU jU 181 _ (heap_alloc_last w _) aj aj aj ?_;rw[World.setRow_alloc_new];apply wpList_nil;rename_i am;refine am _ _ ?_;have key:∀aq:Act,aq.tmps.getD 0 undef=aB (some w)->aq.defers=[]->Code.wp prog Code.ret (bodyPost prog Tryz.f97 λe F=>e=aI (bg BN)/\Ext w F) aq (w.alloc (J BN 181)):=by intro aq ae hd;go_wp;exact cO (v:=bg BN) (lQ results97 _ _ _ _ _ _ _ ae (heap_alloc_last w _) underlying181 rfl aj) hd ⟨rfl,(O _).alloc _⟩
 exact Du
def Aa:Array K:= #[N ⟨#[116,105,109,101]⟩,aA 128,N ⟨#[109,110,116]⟩,aA 131072,N ⟨#[99,103,114,111,117,112]⟩,aA 33554432,N ⟨#[117,116,115]⟩,aA 67108864,N ⟨#[105,112,99]⟩,aA 134217728,N ⟨#[117,115,101,114]⟩,aA 268435456,N ⟨#[112,105,100]⟩,aA 536870912,N ⟨#[110,101,116]⟩,aA 1073741824]
def asB:Aa.toList=uI.flatMap BM:=by rfl
theorem Lm(w:G):aM 101 #[] w (bg Aa):=by
 unfold aM;go_in;go_upto_region 1 with fail;apply wp_region_lit;refine bG 187 1 #[N ⟨#[116,105,109,101]⟩,aA 128] ?_;refine bG 187 2 #[N ⟨#[109,110,116]⟩,aA 131072] ?_;refine bG 187 3 #[N ⟨#[99,103,114,111,117,112]⟩,aA 33554432] ?_;refine bG 187 4 #[N ⟨#[117,116,115]⟩,aA 67108864] ?_;refine bG 187 5 #[N ⟨#[105,112,99]⟩,aA 134217728] ?_;refine bG 187 6 #[N ⟨#[117,115,101,114]⟩,aA 268435456] ?_;refine bG 187 7 #[N ⟨#[112,105,100]⟩,aA 536870912] ?_;refine bG 187 8 #[N ⟨#[110,101,116]⟩,aA 1073741824] ?_;refine bG 188 9 (Aa) ?_;refine wpList_store_rowTo rfl 188 _ _ rfl rfl w.heap.size Aa jU jU 188 _ (heap_alloc_last w _) aj aj aj ?_;rw[World.setRow_alloc_new];apply wpList_nil;rename_i am;refine am _ _ ?_;have key:∀aq:Act,aq.tmps.getD 0 undef=aB (some w)->aq.defers=[]->Code.wp prog Code.ret (bodyPost prog Tryz.f101 λe F=>e=aI (bg Aa)/\Ext w F) aq (w.alloc (J Aa 188)):=by intro aq ae hd;go_wp;exact cO (v:=bg Aa) (lQ results101 _ _ _ _ _ _ _ ae (heap_alloc_last w _) underlying188 rfl aj) hd ⟨rfl,(O _).alloc _⟩
 exact Du
end rZ
end Go.Proofs.YtopfefhenfineaaGreat
namespace Go.Proofs.YtopfefhenfineaaGreat
open Go.Proofs.Tryz Go.RowKit bh
attribute[local go_sem] Oper.semAt_some
variable{S:Prop}
def acX(h:S:=by
 obtain⟨a,c,rfl,ep,ao⟩:=acY hv;obtain⟨aH,bd⟩:∃aH,aH=kK l (bytes s) no:=⟨_,rfl⟩;rw[<-bd];have k0:=z bd;have mu:=z ao;unfold aM;go_in;go_wp;go_loopw [13] (λu wr=>∃i:Nat,i<=l/\u=H i/\(∀(j:Nat) (Z:j<l),j<i->(l[j].1==bytes s)=false)/\Ext w wr) (λu _=>l.length-(intOf u).toNat)
 case atStart=>exact UR
 case round=>
  obtain⟨i,hi,rfl,fX,D⟩:=hrel;have wi:=z fX;have aT:=z D;by_cases ad:i<l
  ·obtain⟨b,o,rfl,dm,cs⟩:=mu.o i ad;replace dm:=D.cell dm;replace cs:=D.cell cs;have bL:(i:Int)<l:=aE;have DA:IntKind.i64.wrap ((i:Int)+1)=(i:Int)+1:=IntWalk.i64_in _ aE;have b8:(l[i].1==bytes s)=true->aH=(l[i].2,0):=λh=>by rw[k0.o];unfold kK;rw[xO (p:=λx=>x.1==bytes s) ad wi.o h]
   have wj:(l[i].1==bytes s)=false->∀(j:Nat) (Z:j<l.length),j<i+1->(l[j].1==bytes s)=false:=λjW j Z h=>UW
   have jn:=FP (str l[i].1) s;rw[nP]at jn;generalize Lk:l[i]=x at *;obtain⟨t,n⟩:=x;dsimp only at dm cs jn wj b8;cases V:t==bytes s
   ·rw[V]at jn wj;generalize str t=aw at *;go_wp;go_roundw
    case rel=>exact UZ
    case measure=>simp[intOf];omega
   ·rw[V]at jn b8;have ai:=b8 rfl;have s1:=z ai;generalize str t=aw at *;go_wp;go_ret2;exact UY
  ·obtain rfl:i=l.length:=aE;have bL:¬((l:Int)<l):=aE;have ai:aH=(0,no):=In
   have s1:=z ai;go_wp;go_ret2;exact PK):S:=h
namespace rZ
def FP(t s:bn):(t.toList==s.toList)=(bytes t==bytes s):=by rw[Lib.toList_data,Lib.toList_data];rfl
def xO{α:Type}{p:α->Bool}:∀ {l:List α} {i:Nat} (h:i<l),(∀(j:Nat)(Z:j<l),j<i->p l[j]=false)->p l[i]=true->l.find? p=some l[i]
 |x::r,0,_,_,ac=>by simp at ac;simp[List.find?,ac]
 |x::r,i+1,h,hn,ac=>by have ae:p x=false:=hn 0 ay aE;have:=xO (p:=p) (l:=r) (i:=i) (Nat.lt_of_succ_lt_succ h) (λj Z lr=>hn (j+1) (Nat.succ_lt_succ Z) aE) ac;simp[List.find?,ae,this]
def FR{α:Type}{p:α->Bool}{l:List α}(h:∀(j:Nat)(Z:j<l),p l[j]=false):l.find? p=none:=Pw
def kK(l:List Nm)(s:List aL)(no:Int):Nat×Int:=match l.find? (λx=>x.1==s)with
 |some x=>(x.2,0)
 |none=>(0,no)
def ofL(l:List Nm)(n:Nat):List aL:=match l.find? (λx=>x.2==n)with
 |some x=>x.1
 |none=>[]
def P5{w:G}{v:K}{A:List Nm}(h:aS w 2 sM v A):∃a c,v=E a A c/\A.length<=c/\∀i,(hi:i<A.length)->∃b o,a=some ⟨b,o,none⟩/\w.cell? ⟨b,o+i*2,none⟩=some (N (str (A[i]).1))/\w.cell? ⟨b,o+i*2+1,none⟩=some (M ((A[i]).2:Int)):=acr
def asC{w:G}{v:K}{A:List Nm}(h:aS w 2 BM v A):∃a c,v=E a A c/\A.length<=c/\∀i,(hi:i<A.length)->∃b o,a=some ⟨b,o,none⟩/\w.cell? ⟨b,o+i*2,none⟩=some (N (str (A[i]).1))/\w.cell? ⟨b,o+i*2+1,none⟩=some (aA ((A[i]).2:Int)):=by obtain⟨a,c,h1,h2,T,af⟩:=h;refine⟨a,c,h1,h2,λi hi=> ?_⟩;obtain⟨b,o,e,k⟩:=af i hi;have eK:=k 0 (by simp[BM]);have bk:=k 1 (by simp[BM]);exact⟨b,o,e,by simpa[BM]using eK,by simpa[BM]using bk⟩
namespace kO
abbrev acY:=@P5
end kO
open kO in
theorem Ve(l:List Nm)(v:K)(s:bn)(no:Int)(w:G)(hv:aS w 2 sM v l)(X:l.length<=1000):aM 341 #[v,N s,H no] w (bH #[M ((kK l (bytes s) no).1:Int),H (kK l (bytes s) no).2]):=by exact acX
namespace ld
abbrev acY:=@asC
end ld
open ld in
theorem asD(l:List Nm)(v:K)(s:bn)(no:Int)(w:G)(hv:aS w 2 BM v l)(X:l.length<=1000):aM 355 #[v,N s,H no] w (bH #[aA ((kK l (bytes s) no).1:Int),H (kK l (bytes s) no).2]):=by exact acX
theorem asE(l:List Nm)(v:K)(n:Nat)(w:G)(hv:aS w 2 sM v l)(X:l.length<=1000):aM 98 #[v,M n] w (N (str (ofL l n))):=by
 obtain⟨a,c,rfl,ep,ao⟩:=P5 hv;obtain⟨aH,bd⟩:∃aH,aH=ofL l n:=⟨_,rfl⟩;rw[<-bd];have k0:=z bd;have mu:=z ao;unfold aM;go_in;go_wp;go_loopw [9] (λu wr=>∃i:Nat,i<=l/\u=H i/\(∀(j:Nat) (Z:j<l),j<i->(l[j].2==n)=false)/\Ext w wr) (λu _=>l.length-(intOf u).toNat)
 case atStart=>exact UR
 case round=>
  obtain⟨i,hi,rfl,fX,D⟩:=hrel;have wi:=z fX;have aT:=z D;by_cases ad:i<l
  ·obtain⟨b,o,rfl,dm,cs⟩:=mu.o i ad;replace dm:=D.cell dm;replace cs:=D.cell cs;have bL:(i:Int)<l:=aE;have DA:IntKind.i64.wrap ((i:Int)+1)=(i:Int)+1:=IntWalk.i64_in _ aE;have b8:(l[i].2==n)=true->aH=l[i].1:=λh=>by rw[k0.o];unfold ofL;rw[xO (p:=λx=>x.2==n) ad wi.o h]
   have wj:(l[i].2==n)=false->∀(j:Nat) (Z:j<l.length),j<i+1->(l[j].2==n)=false:=λjW j Z h=>UW
   generalize Lk:l[i]=x at *;obtain⟨t,m⟩:=x;dsimp only at dm cs wj b8;have jn:((m:Int)==(n:Int))=(m==n):=by rw[dW,jC,jC];omega
   cases V:m==n
   ·rw[V]at jn wj;have x0:¬m=n:=by simpa using V
    have aLO:=z x0;go_wp;go_roundw
    case rel=>exact UZ
    case measure=>exact eO
   ·rw[V]at jn b8;have ai:=b8 rfl;have s1:=z ai;go_wp;go_ret;exact UY
  ·obtain rfl:i=l.length:=aE;have bL:¬((l:Int)<l):=aE;have ai:aH=[]:=by rw[k0.o];unfold ofL;rw[FR (p:=λx=>x.2==n) (λj Z=>wi.o j Z Z)]
   have s1:=z ai;go_wp;go_ret;exact PK
def Iy{W:G}{t:dD}{n:Nat}{enc:Nm->List K}(cp:∀x,(enc x).length=n){c:Array K}{l:List Nm}(h:c.toList=l.flatMap enc):aS (W.alloc (J c t)) n enc (E (some W) l l) l:=by have:=jh cp W l t W rfl;rw[<-h]at this;exact wK
theorem acZ(W:G):(storeCells W BN.toList 0).run prog (W.alloc (J #[N ⟨#[]⟩,M 0,N ⟨#[]⟩,M 0,N ⟨#[]⟩,M 0,N ⟨#[]⟩,M 0,N ⟨#[]⟩,M 0,N ⟨#[]⟩,M 0,N ⟨#[]⟩,M 0,N ⟨#[]⟩,M 0] 181))= .ok () (W.alloc (J BN 181)):=run_storeCells_new (P:=prog) W _ _ _ aj aj aj
theorem asF(W:G):(storeCells W Aa.toList 0).run prog (W.alloc (J #[N ⟨#[]⟩,aA 0,N ⟨#[]⟩,aA 0,N ⟨#[]⟩,aA 0,N ⟨#[]⟩,aA 0,N ⟨#[]⟩,aA 0,N ⟨#[]⟩,aA 0,N ⟨#[]⟩,aA 0,N ⟨#[]⟩,aA 0] 188))= .ok () (W.alloc (J Aa 188)):=run_storeCells_new (P:=prog) W _ _ _ aj aj aj
theorem Qc(s:bn)(w:G):aM 275 #[N s] w (bH #[M ((kK vW (bytes s) 180).1:Int),H (kK vW (bytes s) 180).2]):=by
 have bE:=λW=>PZ W
 have co:=λv W (h:aS W 2 sM v vW)=>Ve vW v s 180 W h Y
 have bU:=acZ;generalize kK vW (bytes s) 180=aH at *;have hl:=z bE;have i8:=z co;unfold aM;go_in;go_wp2_with fail;refine ak (hl.o _) ?_;intro I Q;go_wp2_with fail;refine ak (i8.o _ _ (Iy Ll acW)) ?_;exact UU
theorem Uh(s:bn)(w:G):aM 278 #[N s] w (bH #[aA ((kK uI (bytes s) 181).1:Int),H (kK uI (bytes s) 181).2]):=by
 have bE:=λW=>Lm W
 have co:=λv W (h:aS W 2 BM v uI)=>asD uI v s 181 W h Y
 have bU:=asF;generalize kK uI (bytes s) 181=aH at *;have hl:=z bE;have i8:=z co;unfold aM;go_in;go_wp2_with fail;refine ak (hl.o _) ?_;intro I Q;go_wp2_with fail;refine ak (i8.o _ _ (Iy asA asB)) ?_;exact UU
theorem Gl(n:Nat)(w:G):aM 58 #[M n] w (N (str (ofL vW n))):=by
 have bE:=λW=>PZ W
 have co:=λv W (h:aS W 2 sM v vW)=>asE vW v n W h Y
 have bU:=acZ;generalize str (ofL vW n)=aH at *;have hl:=z bE;have i8:=z co;unfold aM;go_in;go_wp2_with fail;refine ak (hl.o _) ?_;intro I Q;go_wp2_with fail;refine ak (i8.o _ _ (Iy Ll acW)) ?_;intro aO ag;go_wp2_with fail;go_ret;exact Pv
theorem ac0(i:Nat)(h:i<uI)(W:G):(Instr.index 188 (bg Aa) (H i)).run prog W= .ok (bg #[N (str uI[i].1),aA (uI[i].2:Int)]) W:=by
 match i,h with
 |0,_=>rfl
 |1,_=>rfl
 |2,_=>rfl
 |3,_=>rfl
 |4,_=>rfl
 |5,_=>rfl
 |6,_=>rfl
 |7,_=>rfl
def orL(l:List Nm):Nat:=l.foldl (λn x=>n|||x.2) 0
def IL(all:Nat):List Nm->List Nat
 | []=>[]
 |x::r=>(if all&&&x.2≠0 then [x.2]else [])++IL all r
def ac1(i:Nat)(h:i<uI):(uI[i]'h).2<18446744073709551616:=by have:∀x∈uI,x.2<18446744073709551616:=Y;exact this _ (eB h)
def asG(i:Nat)(h:i<8):orL (uI.take i)<18446744073709551616:=by have:∀j,j<8->orL (uI.take j)<18446744073709551616:=Y;exact this i h
def ac2(all:Nat):∀(a b:List Nm),IL all (a++b)=IL all a++IL all b
 | [],_=>rfl
 |x::r,b=>by rw[gZ];show _++IL all (r++b)=(_++IL all r)++IL all b;rw[ac2 all r b,gJ]
def Lp(x:Nat):List K:= [aA (x:Int)]
def ac3(x:Nat):(Lp x).length=1:=rfl
def aca(s:Nat):∀u∈Lp s,u.oneCell'=true:=by intro u a6;simp[Lp]at a6;subst a6;rfl
theorem asH:(Tryz.prog.info? 34).map (λi=>(i.zero,i.size,i.bytes))=some (some (aA 0),1,8):=aj
theorem ER(w:G):aM 60 #[] w (aA (orL uI:Nat)):=by
 have bE:=λW=>Lm W
 have hl:=z bE;unfold aM;go_in;go_wp2_with fail;refine ak (hl.o _) ?_;intro I Q;have bF:=z Q;go_wp2_with fail;go_loopw [1,5] (λu rp wr=>∃i:Nat,i<=8/\rp=H i/\u=aA (orL (uI.take i):Nat)/\Ext w wr) (λ_ rp _=>8-(intOf rp).toNat)
 case atStart=>exact⟨0,aE,rfl,rfl,bF.o⟩
 case round=>
  obtain⟨i,hi,rfl,rfl,D⟩:=hrel;have aT:=z D;by_cases ad:i<8
  ·have bL:(i:Int)<8:=aE;have DA:IntKind.i64.wrap ((i:Int)+1)=(i:Int)+1:=IntWalk.i64_in _ aE;have oe:=ac0 i ad;have dT:orL (uI.take (i+1))=orL (uI.take i)|||(uI[i]'ad).2:=by unfold orL;rw[mh (show i<uI.length from ad),uF];rfl
   have R:=ac1 i ad;have ac4:=asG i ad;generalize(uI[i]'ad).2=m at *;generalize str (uI[i]'ad).1=tx at *;obtain⟨q,aW⟩:∃q,q=orL (uI.take i):=⟨_,rfl⟩;rw[<-aW]at dT ac4⊢;have Lf:=bits_or_u64_nat q m ac4 R;have sd:=z dT;clear dT D aW;go_wp2_with fail;go_roundw
   case rel=>exact⟨i+1,aE,cZ,by rw[sd.o],aT.o.alloc _⟩
   case measure=>exact eO
  ·obtain rfl:i=8:=aE;clear D;exact FH
theorem UJ(all:Nat)(bT:all<18446744073709551616)(w:G):Calls prog 134 #[aA (all:Int)] w λe F=>∃v,e=aI v/\Ext w F/\F.ownsRow w 34 1 v (IL all uI).length ((IL all uI).flatMap Lp):=by
 have bE:=λW=>Lm W
 have hl:=z bE;clear bE;go_in;go_wp2_with fail;refine ak (hl.o _) ?_;intro I Q;have bF:=z Q;clear Q;go_wp2_with fail;go_loopw [3,7] (λu rp wr=>∃(i:Nat) (L:List Nat) (a:Option Addr) (c:Nat),i<=8/\rp=H i/\u=E a L c/\L=IL all (uI.take i)/\L.length<=i/\wr.ownsRow w 34 1 (E a L c) L (L.flatMap Lp)/\Ext w wr) (λ_ rp _=>8-(intOf rp).toNat)
 case atStart=>exact⟨0,[],none,0,aE,rfl,rfl,rfl,eG _,jR _ _ _ _,bF.o⟩
 case round=>
  obtain⟨i,L,a,c,hi,rfl,rfl,da,aLP,ho,D⟩:=hrel;have aT:=z D;have cx:=z ho;by_cases ad:i<8
  ·have bL:(i:Int)<8:=aE;have DA:IntKind.i64.wrap ((i:Int)+1)=(i:Int)+1:=IntWalk.i64_in _ aE;have oe:=ac0 i ad;have dT:IL all (uI.take (i+1))=L++(if all&&&(uI[i]'ad).2≠0 then [(uI[i]'ad).2]else []):=by
    rw[mh (show i<uI.length from ad),ac2,<-da];show L++(_++[])=_;rw[qz]
    rfl
   have Ft:=ac1 i ad;generalize(uI[i]'ad).2=m at *;generalize str (uI[i]'ad).1=tx at *;clear D ho;have acb:=z da;clear da;have ac5:=bits_and_u64_nat all m bT Ft;by_cases R:all&&&m=0
   ·rw[au (by simpa using R),qz]at dT;rw[R]at ac5;have sd:=z dT;go_wp2_with fail;go_roundw
    case rel=>exact⟨i+1,L,a,c,aE,cZ,rfl,sd.o.symm,aE,pG cx.o _,aT.o.alloc _⟩
    case measure=>exact eO
   ·rw[aF (by simpa using R)]at dT;have bO:(((all&&&m:Nat):Int) !=0)=true:=by simp;omega
    obtain⟨g,hg⟩:∃g,g=all&&&m:=⟨_,rfl⟩;rw[<-hg]at ac5 bO;have ask:(g !=0)=true:=by simpa using bO
    have z2:=z (pG (pG cx.o (J #[N tx,aA (m:Int)] 187)) (J #[aA (m:Int)] 34));have u':=z ((aT.o.alloc (J #[N tx,aA (m:Int)] 187)).alloc (J #[aA (m:Int)] 34));have sd:=z dT
    go_wp2_with(at_builtin
                refine Dr rfl (.tmp 15) (.tmp 18) _ rfl underlying223 asH rfl Y ac3 aca w _ _ L [m] rfl rfl (by exact z2.o) (jh ac3 (wr.alloc (J #[N tx,aA (m:Int)] 187)) [m] _ _ (by rw[dR])) dU Y (by exact u'.o) ?_;intro ri rj bQ d0 bR;have rk:=z d0;have c9:=z bR;clear d0 bR)
    go_roundw
    case rel=>exact⟨i+1,L++[m],ri,rj,aE,cZ,ay,sd.o.symm,by simp;omega,by simpa using rk.o,c9.o⟩
    case measure=>exact eO
  ·obtain rfl:i=8:=aE;go_wp2_with fail;go_ret;exact⟨_,rfl,aT.o,by rw[show IL all uI=L from da.symm];exact cx.o⟩
end rZ
end Go.Proofs.YtopfefhenfineaaGreat
namespace Go.Proofs.YtopfefhenfineaaGreat
open Go.Proofs.Tryz Go Go.RowKit
namespace bh
variable {aY:Fence} {n:Nat} {P:Program}
def ac6{α:Type}(ff:α->G->Prop)(aY:Fence)(n:Nat)(P:Program)(g:Nat)(lb:Array K)(encs:α->Array K)(Kp:G->G->Prop)(a7 Be:List α->Prop)(cy:Nat)(w:G):Prop:=
 ∀(l:Nat) (cm g8:List α->G->Prop) (W:G),Below w w W->AbidesFrom W cm->AbidesFrom W g8->
  (∀pre x az,cm pre az->ff x az->pre.length<cy->YieldAt aY (n-1) P l (encs x) az λe aa=>(e=aI (av true)/\cm (pre++[x]) aa/\Kp az aa)\/(e=aI (av false)/\g8 (pre++[x]) aa))->
  cm [] W->
  CallsIn aY n P g (#[.func (.yield l) #[] #[]]++lb) W λe aa=>(∃v,e=aI v)/\((∃A,a7 A/\cm A aa)\/(∃pre,Be pre/\g8 pre aa))
theorem ac7{α:Type}{g:Operand}{ap:Array Tmp}{assign body:Code}{bI:Exit->Act->G->Prop}{a:Act}{w:G}(Ln:aY.round=none)(h1:1<=n){gf:Nat}{lb:Array K}(hg:a.eval g= .func (.func gf) #[] lb)(asm:aY.fn gf)(g1:∀args w,(callFunc gf args).run P w= .ok (.enter gf args) w){ff:α->G->Prop}{encs:α->Array K}{Kp:G->G->Prop}{a7 Be:List α->Prop}{cy:Nat}{w0:G}(FA:ac6 ff aY (n-1) P gf lb encs Kp a7 Be cy w0)(UB:∀ {aq B C:G},Kp aq B->Kp B C->Kp aq C)(ac8:∀(W:G)(l:Nat)(o fe:Obj),w.heap.size<=l->W.heap[l]?=some o->o.isCells=false->o.isWalk=false->Kp W (W.putObj l fe))(fN:Below w0 w0 w)(Lo:∀x,(encs x).size=ap.size)(oi:List α->G->Prop)(Ix:Code->List α->G->Prop)(bS:OwnFrom w oi)(Lq:∀c,OwnFrom w (Ix c))(ae:oi [] w)(Pu:α->Act->G->Prop)(asp:∀x bu,OwnFrom w (λ(_:Unit) W=>Pu x bu W))(ass:∀(l:Nat)(pre:List α)(x:α)(W:G)(aX:Act->G->Prop),oi pre W->ff x W->(∀bu aa,KeepsFrom w W aa->Kp W aa->oi pre aa->Pu x bu aa->aX bu aa)->assign.wpIn (aY.inRound l) (n-1-1) P (Exit.then aX (λ_ _ _=>False)) {tmps:=(ap.zip (encs x)).foldl (λt (p,v)=>t.setIfInBounds p v) a.tmps,defers:= []} W)(ast:∀(l:Nat)(pre:List α)(x:α)(bu:Act)(W:G),w.heap.size<=l->(∃r,W.heap[l]?=some (.loop r))->oi pre W->Pu x bu W->pre.length<cy->body.wpIn (aY.inRound l) (n-1-1) P (ownPostG w Kp oi Ix (pre++[x]) W) bu W)(PA:∀(ax:Nat)(A:List α)(W:G),w.heap.size<=ax->a7 A->oi A W->W.heap[ax]?=some (.deferred (some []))->bI .normal {a with defers:= {target:= .collected ax,args:= #[]}::a.defers} W)(asI:∀(ax:Nat)(c:Code)(pre:List α)(W:G),w.heap.size<=ax->Be pre->Ix c pre W->W.heap[ax]?=some (.deferred (some []))->c.wpIn aY n P bI {a with defers:= {target:= .collected ax,args:= #[]}::a.defers} W):(Code.rangeFunc g ap assign body).wpIn aY n P bI a w:=by
 refine wpIn_rangeFunc ?_;intro fn UI;rw[Ln];obtain⟨rec,z3⟩:∃rec:LoopState->Option Code->Loop,rec=λaw pe=> {state:=aw,pending:=pe,fn,tmps:=a.tmps,params:=ap,assign,body,defers:=w.heap.size}:=⟨_,rfl⟩
 obtain⟨az,b7⟩:∃az,(w.alloc (.deferred (some []))).alloc (.loop (rec .ready none))=az:=⟨_,rfl⟩;have dp:az.heap.size=w.heap.size+2:=by rw[<-b7];simp
 have UP:az.heap[w.heap.size+1]?=some (.loop (rec .ready none)):=by rw[<-b7];have:=World.alloc_heap_new (w.alloc (.deferred (some []))) (.loop (rec .ready none));rwa [dR]at this
 have asJ:az.heap[w.heap.size]?=some (.deferred (some [])):=by rw[<-b7];exact(Below.heap_alloc _ _ _ ay).trans (World.alloc_heap_new w _)
 have se:oi [] az:=by rw[<-b7];exact bS.alloc _ (bS.alloc _ ae)
 have cH:Below w0 w0 az:=by rw[<-b7];exact fN.trans ((((Below.refl _ w).alloc (aZ _) _).alloc ay _).mono fN.size)
 refine⟨w.heap.size+1,[{target:= .collected w.heap.size,args:= #[]}],az,{target:= .fn (.func gf) lb,args:= #[.func (.yield (w+1)) #[] #[]]},az,gf,
  #[.func (.yield (w+1)) #[] #[]]++lb,az,?_,?_,?_,?_,λ_=>h1,?_⟩
 ·rw[<-b7,z3];exact run_enterLoop_outer _ _ _ _ _
 ·simp only[resolve,hg];simp[go_sem]
 ·intro PB PC;simp[Target.leads]at PC;subst PC;exact asm
 ·simp[invoke,go_sem,g1]
 have Lr:∀ {aq:G} {row:Option Nat},(∀r,row=some r->az.heap.size<=r/\∃o:Obj,aq.heap[r]?=some o/\o.isWalk=true)->(∀r,row=some r->w.heap.size<=r/\∃o:Obj,aq.heap[r]?=some o/\o.isCells=false):=
  λhr r e=>by obtain⟨hB,o,ho,bJ⟩:=hr r e;exact⟨aE,o,ho,Obj.not_cells_of_walk bJ⟩
 refine(FA (w+1)
  (λpre W=>oi pre W/\W.heap[w.heap.size+1]?=some (.loop (rec .ready none))/\W.heap[w.heap.size]?=some (.deferred (some [])))
  (λpre W=>∃c,Ix c pre W/\W.heap[w.heap.size+1]?=some (.loop (rec .done (some c)))/\W.heap[w.heap.size]?=some (.deferred (some [])))
  az cH
  (λs aq B row ab pA hr=>⟨bS s aq B row ab.1 pA (Lr hr),(grownBy_keeps pA (λr e=>(hr r e).2) ab.2.1 rfl).trans ab.2.1,(grownBy_keeps pA (λr e=>(hr r e).2) ab.2.2 rfl).trans ab.2.2⟩)
  (λs aq B row ab pA hr=>by obtain⟨c,ao,X,hk⟩:=ab;exact⟨c,Lq c s aq B row ao pA (Lr hr),(grownBy_keeps pA (λr e=>(hr r e).2) X rfl).trans X,(grownBy_keeps pA (λr e=>(hr r e).2) hk rfl).trans hk⟩)
  ?_ ⟨se,UP,asJ⟩).mono ?_
 ·rintro pre x W ⟨hi,X,hk⟩ hq ey;have ad:w.heap.size+1<W.heap.size:=(dG.1 X).1;have bN:=run_yield (P:=P) (args:=encs x) X (by rw[z3];exact Lo x);rw[z3]at bN;refine⟨fn,_,assign,body,bN,roundIn_of_wpIn UI (ass _ pre x W _ hi hq ?_)⟩;intro bu ac9 PH US asK asL;replace X:=PH.same _ _ aE X rfl;replace hk:=PH.same _ _ (aZ _) hk rfl;replace ad:w.heap.size+1<ac9.heap.size:=(dG.1 X).1;replace hi:=asK
  revert US PH
  generalize W=sf;intro PH US;obtain⟨W,rfl⟩:∃W,W=ac9:=⟨_,rfl⟩;refine⟨_,run_beginRound X (by rw[z3]),?_⟩;obtain⟨aP,g9⟩:∃aP,W.putObj (w+1) (.loop {rec .ready none with state:= .busy})=aP:=⟨_,rfl⟩;have o':aP.heap[w.heap.size+1]?=some (.loop {rec .ready none with state:= .busy}):=by rw[<-g9];exact World.putObj_heap_same ad
  have qT:aP.heap[w.heap.size]?=some (.deferred (some [])):=by rw[<-g9];exact(World.putObj_heap_other aE).trans hk
  have p2:Kp W aP:=by rw[<-g9];exact ac8 _ _ _ _ aE X rfl rfl
  have p3:oi pre aP:=by rw[<-g9];exact bS.putObj _ hi aE X rfl
  have ag:Pu x bu aP:=by rw[<-g9];exact(asp x bu).putObj (s:=()) _ asL aE X rfl
  rw[g9];refine wpIn_mono (ast _ pre x bu _ aE ⟨_,o'⟩ p3 ag ey) ?_;have fin:∀(jump:Option Code) (cd:G),KeepsFrom w aP cd->
   (Instr.endRound (w+1) jump).run P cd= .ok (av jump.isNone) (cd.putObj (w+1) (.loop (rec (if jump.isNone then .ready else .done) jump)))/\
   cd.heap[w.heap.size+1]?=some (.loop {rec .ready none with state:= .busy})/\
   (cd.putObj (w+1) (.loop (rec (if jump.isNone then .ready else .done) jump))).heap[w.heap.size+1]?=some (.loop (rec (if jump.isNone then .ready else .done) jump))/\
   (cd.putObj (w+1) (.loop (rec (if jump.isNone then .ready else .done) jump))).heap[w.heap.size]?=some (.deferred (some [])):=λjump cd hI=>by
   have pa:=hI.same _ _ aE o' rfl;have:=run_endRound (P:=P) jump pa;rw[z3]at this⊢;exact⟨this,by rw[z3]at pa;exact pa,World.putObj_heap_same (dG.1 pa).1,(World.putObj_heap_other aE).trans (hI.same _ _ (aZ _) qT rfl)⟩
  rintro e a3 cd ac;cases e with
  |normal=>obtain⟨hI,asM,wl⟩:=ac;obtain⟨hr,pa,x1,h0⟩:=fin none cd hI;exact⟨_,_,hr,.inl ⟨rfl,⟨bS.putObj _ wl aE pa rfl,x1,h0⟩,UB US (UB (UB p2 asM) (ac8 _ _ _ _ aE pa rfl rfl))⟩⟩
  |ret=>obtain⟨hI,wl⟩:=ac;obtain⟨hr,pa,x1,h0⟩:=fin (some .ret) cd hI;exact⟨_,_,hr,.inr ⟨rfl,.ret,(Lq _).putObj _ wl aE pa rfl,x1,h0⟩⟩
  |exit id=>obtain⟨hI,wl⟩:=ac;obtain⟨hr,pa,x1,h0⟩:=fin (some (.exit id)) cd hI;exact⟨_,_,hr,.inr ⟨rfl,.exit id,(Lq _).putObj _ wl aE pa rfl,x1,h0⟩⟩
  |goto t=>obtain⟨hI,wl⟩:=ac;obtain⟨hr,pa,x1,h0⟩:=fin (some (.goto t)) cd hI;exact⟨_,_,hr,.inr ⟨rfl,.goto t,(Lq _).putObj _ wl aE pa rfl,x1,h0⟩⟩
  |panic ch=>exact ac.elim
  |outgrown=>exact ac.elim
 ·rintro e a8 ⟨⟨v,rfl⟩,(⟨A,hS,hi,X,hk⟩|⟨pre,PJ,c,hi,X,hk⟩)⟩
  ·exact⟨none,_,by have:=run_endLoop (P:=P) X (by rw[z3];simp);rw[z3]at this;exact this,PA _ A _ (aZ _) hS (bS.putObj _ hi aE X rfl) ((World.putObj_heap_other aE).trans hk)⟩
  ·exact⟨some c,_,by have:=run_endLoop (P:=P) X (by rw[z3];simp);rw[z3]at this;exact this,asI _ c pre _ (aZ _) PJ ((Lq c).putObj _ hi aE X rfl) ((World.putObj_heap_other aE).trans hk)⟩
end bh
end Go.Proofs.YtopfefhenfineaaGreat
