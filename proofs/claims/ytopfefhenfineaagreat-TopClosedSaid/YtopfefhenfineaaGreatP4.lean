import Derived.Test.YtopfefhenfineaaGreatP1
import Derived.Test.YtopfefhenfineaaGreatP3
import Derived.Shelf.Abstract
import Derived.Shelf.RegionOpen
import Derived.TacticsInMore
import Derived.LoopNIn
import Derived.LoopIn
import Derived.Laws.IdiomStrings
import Derived.Laws.EntriesVeiled
import Derived.Laws.StructEq
import Derived.Laws.Slices
import Derived.Sort.Walk0
import Derived.Laws.Runes
import Derived.Laws.RangeAny
import Derived.Deep.LoopGhost
import Derived.WalkMore
import Derived.Lib.OthersKept
import Derived.Lib.DecodeN
import Derived.StillTailTactics
import Derived.Deep.RegionLaw
set_option linter.all false
set_option maxRecDepth 100000
set_option maxHeartbeats 4000000
namespace Go.Proofs.YtopfefhenfineaaGreat
open Go.Proofs.Tryz Go.RowKit Go.Shelf V
attribute[local go_sem] Oper.semAt_some
namespace gZ
variable{l:List aZ}
def hd1(c:aZ)(l:List aZ):List aZ:=l.takeWhile (· !=c)
def tl1(c:aZ)(l:List aZ):List aZ:=(l.dropWhile (· !=c)).drop 1
def Gw(c:aZ)(l:List aZ):(hd1 c l).length<=l.length:=by unfold hd1;exact(List.takeWhile_prefix _).length_le
def IG(c:aZ)(l:List aZ):l.take (hd1 c l).length=hd1 c l:=sB
def tT(c:aZ):∀(l:List aZ),l.drop ((hd1 c l).length+1)=tl1 c l
 | []=>rfl
 |x::r=>by
  unfold hd1 tl1;by_cases h:x=c
  ·have hx:¬(x !=c)=true:=by simp[h]
   rw[jv (p:=(· !=_)) hx,List.dropWhile_cons_of_neg (p:=(· !=_)) hx];rfl
  ·have hx:(x !=c)=true:=by simp[h]
   rw[gL (p:=(· !=_)) hx,i7 (p:=(· !=_)) hx];exact tT c r
def xR{c:aZ}:∀ {l:List aZ},l.contains c=false->hd1 c l=l/\tl1 c l=[]
 | [],_=>⟨rfl,rfl⟩
 |x::r,h=>by
  rw[jA,jC]at h;have hx:(x !=c)=true:=by have:=h.1;simp at this;simp;exactλe=>this e.symm
  obtain⟨h1,h2⟩:=xR h.2;unfold hd1 tl1 at *;rw[gL (p:=(· !=_)) hx,i7 (p:=(· !=_)) hx,h1];exact⟨rfl,h2⟩
def AL(c:aZ):∀(l:List aZ),Lib.indexByte l c=if l.contains c=true then((hd1 c l).length:Int)else-1
 | []=>rfl
 |x::r=>by
  unfold Lib.indexByte;rw[jA];by_cases h:x=c
  ·subst h;have hx:¬(x !=x)=true:=aE;rw[aV aE,aV aE];unfold hd1;rw[jv (p:=(· !=_)) hx];rfl
  ·have hx:(x !=c)=true:=by simp[h]
   have hc:(c==x)=false:=by rw[bK];exactλe=>h e.symm
   rw[aN cT,hc,Bool.false_or,AL c r];unfold hd1;rw[gL (p:=(· !=_)) hx];by_cases hr:r.contains c=true
   ·rw[aV hr,aV hr,aN cy,aO];simp
   ·rw[aN hr,aN hr,aV aE]
def B3{c:aZ}:∀ {l:List aZ},l.contains c=true->(hd1 c l).length<l.length
 | [],h=>by cases h
 |x::r,h=>by
  unfold hd1;by_cases hx:x=c
  ·have hx:¬(x !=c)=true:=by simp[hx]
   rw[jv (p:=(· !=_)) hx];simp
  ·rw[jA]at h;have hc:(c==x)=false:=by rw[bK];exactλe=>hx e.symm
   rw[hc,Bool.false_or]at h;have hx:(x !=c)=true:=by simp[hx]
   rw[gL (p:=(· !=_)) hx];have:=B3 h;unfold hd1 at this;simp only[aO];omega
def mH(c:aZ)(l:List aZ):aA:= .tuple #[.string (str (hd1 c l)),.string (str (tl1 c l)),.bool (l.contains c)]
theorem zn(s:aK)(c:aZ)(hs:s.size<=maxLen)(w:ay):Rt 262 #[.string s,.string ⟨#[c]⟩] w (mH c (bytes s)):=by
 have hI:=λW=>Tryz.stringslite_Index_one s c W
 rw[AL]at hI;unfold maxLen at hs;have h1:= @B3 c (bytes s);have h2:=IG c (bytes s);have h3:=tT c (bytes s);have h4:= @xR c (bytes s);unfold mH;rw[show s.data.toList=bytes s from rfl]at hI;cases hc:(bytes s).contains c
 ·exact lj
 ·rw[hc,aV rfl]at hI;have hlt:=h1 hc;rw[eD]at hlt;clear h1 h4;have e1:s.extract 0 (hd1 c (bytes s)).length=str (hd1 c (bytes s)):=bytes_inj (by rw[mI,List.drop_zero,Nat.sub_zero,h2]);have e2:s.extract ((hd1 c (bytes s)).length+1) s.size=str (tl1 c (bytes s)):=bytes_inj (by rw[mI,h3,dY (by rw[<-h3,cZ,eD];omega)])
  exact ir
theorem A1(s:aK)(c:aZ)(hs:s.size<=maxLen)(w:ay):Rt 208 #[.string s,.string ⟨#[c]⟩] w (mH c (bytes s)):=by exact kv
def rA(c:aZ)(l:List aZ):(tl1 c l).length=l.length-(hd1 c l).length-1:=by rw[<-tT,cZ];omega
def Ez:Nat->List aZ->List (List aZ)
 |0,_=>[]
 |_+1,[]=>[]
 |f+1,x::r=>hd1 10 (x::r)::Ez f (tl1 10 (x::r))
def ig(l:List aZ):List (List aZ):=Ez l l
def Fx:∀(f g:Nat)(l:List aZ),l.length<=f->l.length<=g->Ez f l=Ez g l
 |0,0,_,_,_=>rfl
 |0,g+1,[],_,_=>rfl
 |f+1,0,[],_,_=>rfl
 |f+1,g+1,[],_,_=>rfl
 |f+1,g+1,x::r,h,h'=>by unfold Ez;have:=rA 10 (x::r);rw[aO]at h h' this;rw[Fx f g _ aq aq]
def uV(h:l≠[]):ig l=hd1 10 l::ig (tl1 10 l):=by
 cases l with
 |nil=>exact absurd rfl h
 |cons x r=>have:=rA 10 (x::r);unfold ig;rw[aO]at this⊢;show hd1 10 (x::r)::Ez r (tl1 10 (x::r))=_;rw[Fx r (tl1 10 (x::r)).length _ aq (aD _)]
def B1:ig []=[]:=rfl
abbrev LN:=Nat×List aZ
def oP:Nat->List (List aZ)->List LN
 |_,[]=>[]
 |n,x::r=>(n,x)::oP (n+1) r
def p8:∀(n:Nat)(l:List (List aZ)),(oP n l).length=l.length
 |_,[]=>rfl
 |n,_::r=>by simp[oP,p8 (n+1) r]
def xO:∀(n:Nat)(l:List aZ),l.length<=n->(ig l).length<=l.length
 |0,[],_=>aD _
 |n+1,[],_=>aD _
 |n+1,x::r,h=>by rw[uV aE];have h1:=rA 10 (x::r);have h2:=xO n (tl1 10 (x::r)) (by simp only[aO]at *;omega);simp only[aO]at *;omega
abbrev LNb:= {x:LN // x.2.length<=1000000}
def ah0(x:LN):Array aA:= #[.int .i64 x.1,.string (str x.2)]
def m9(x:aZ):List aA:= [.int .u8 x.toNat]
def Dv(x:aZ):(m9 x).length=1:=rfl
def adB(s:aZ):∀u∈m9 s,u.oneCell'=true:=by intro u hu;simp[m9]at hu;subst hu;rfl
theorem agJ{w:ay}{v:aA}(h:Rd w 1 m9 v l):(convert 22 9 v).run prog w= .ok (.string (str l)) w:=by
 obtain⟨a,c,rfl,h1,h2,h3⟩:=h;cases a with
 |none=>
  have hc:=h2 rfl;have hl:l=[]:=bG aq;subst hl;rw[run_convert_bytes_string w _ _ _ _ _ _ underlying22 underlying5 underlying9]
  rfl
 |some a=>
  by_cases h0:l=[]
  ·subst h0;exact run_convert_bytes_back w _ _ _ a c [] underlying22 underlying5 underlying9 (λj hj=>by cases hj)
  ·refine run_convert_bytes_back w _ _ _ a c l underlying22 underlying5 underlying9 (λj hj=> ?_);obtain⟨b,o,e,hat⟩:=h3 j hj;simp only[dw]at e;subst e;have h5:=hat 0 (by simp[m9]);have e5:(⟨b,o,none⟩:Addr).add j=⟨b,o+j*1+0,none⟩:=by unfold Addr.add;split<;>simp_all
   rw[e5];simpa[m9]using h5
theorem Zq(l Bs n₀:Nat)(v:aA)(bs:List aZ)(hl:bs.length<=1000000)(J Jx:List LNb->ay->Prop)(W:ay)(hn₀:n₀<=W.heap.size)(hv:Rd W 1 m9 v bs)(hJa:∀p A B,J p A->Ext A B->J p B)(hY:∀(pre:List LNb)(x:LNb) W,J pre W->pre.length<(ig bs).length->YieldAt Fence.wide (3-1) prog l (ah0 x.1) W λe W'=>(e= .returned (.bool true)/\J (pre++[x]) W'/\Below n₀ W W')\/(e= .returned (.bool false)/\Jx (pre++[x]) W'))(S1:W.cell? Bs=some v)(h0:J [] W):CallsIn Fence.wide 3 prog 207 #[.func (.yield l) #[] #[],.pointer (some Bs)] W λe W'=>(∃v,e= .returned v)/\((∃ys:List LNb,ys.map Subtype.val=oP 1 (ig bs)/\J ys W')\/(∃pre:List LNb,pre.map Subtype.val <+: oP 1 (ig bs)/\Jx pre W')):=by
 have hcv:=agJ hv;clear hv;refine kX func207 rfl trivial ?_ rfl;simp only[ntmps207,bW,aO,bD,Nat.reduceAdd,Nat.reduceSub,dU,dS,fq,dZ,dA,dh];gi_wp2;gi_loopw [3,4] (λu i wr=>∃(pre:List LNb) (t:aK),u= .string t/\i= .int .i64 ((pre:Int)+1)/\t.size<=bs.length/\oP 1 (ig bs)=pre.map Subtype.val++oP (pre+1) (ig (bytes t))/\J pre wr/\Below n₀ W wr) (λu _ _=>Mr u)
 case atStart=>exact⟨[],str bs,rfl,rfl,aD _,rfl,h0,Below.refl _ _⟩
 case round=>
  obtain⟨pre,t,rfl,rfl,hts,heq,hJs,hnx⟩:=hrel;have htl:t.toList=bytes t:=ByteArray.toList_eq t;by_cases hp:bytes t=[]
  ·have he:(!t.toList.isEmpty)=false:=by rw[htl,hp];rfl
   rw[hp,B1]at heq;have HE:=ah heq;clear heq htl hp hcv;gi_wp2;go_end0;exact⟨⟨_,rfl⟩,.inl ⟨pre,by rw[HE.o];simp[oP],hJs⟩⟩
  ·have he:(!t.toList.isEmpty)=true:=by rw[htl];cases hb:bytes t with
    |nil=>exact absurd hb hp
    |cons x r=>rfl
   have ahN:=uV hp;rw[ahN]at heq;have hlt:pre.length<(ig bs).length:=by have:=congrArg List.length heq;rw[p8,aH,p8,aO,aS]at this;omega
   have hsz:=rA 10 (bytes t);have hpos:0<t.size:=by
    rcases Nat.eq_zero_or_pos t.size with h|h
    ·exact absurd (bG (by rw[eD];exact h)) hp
    ·exact h
   rw[eD]at hsz;have hxl:((pre.length+1,hd1 10 (bytes t)):LN).2.length<=1000000:=by have h1:=Gw 10 (bytes t);rw[eD]at h1;show(hd1 10 (bytes t)).length<=1000000;omega
   obtain⟨x,hx⟩:∃x:LNb,x.1=(pre.length+1,hd1 10 (bytes t)):=⟨⟨_,hxl⟩,rfl⟩;have heq2:oP 1 (ig bs)=(pre++[x]).map Subtype.val++oP ((pre++[x]).length+1) (ig (bytes (str (tl1 10 (bytes t))))):=by
    rw[heq,bL,bI,aH];simp only[bS,eU,hx]
    rfl
   have N1:=ah hx;clear hx hxl;have hC:=λW=>A1 t 10 (by unfold maxLen at *;omega) W
   unfold mH at hC;have hll:=xO bs bs (aD _);have hb1:pre.length<=1000000:=aq;have HE:=ah heq2;have HS:=ah hsz;have yN:=ah hC;clear heq htl ahN heq2 hsz hcv hC;gi_wp2_with(refine⟨trivial,?_⟩;gi_at_call 208;refine tI (bM.2 (yN.o _)) ?_;intro w1 hx1;obtain⟨fn,tmps,assign,body,hy,hR⟩:=hY pre x w1 (hJa _ _ _ hJs hx1) hlt;have gK:=ah hx1;clear hx1;unfold ah0 at hy;rw[N1.o]at hy;simp only[Int.natCast_add,Int.natCast_one]at hy);refine hR.mono ?_;rintro e W3 (⟨rfl,hJ3,hk3⟩|⟨rfl,hJx3⟩)
   ·gi_wp2;go_roundw
    case rel=>exact⟨_,_,rfl,aE,by rw[kI,HS.o];omega,HE.o,hJ3,(hnx.trans (gK.o.mono (aL hn₀ hnx.size))).trans hk3⟩
    case measure=>show(str (tl1 10 (bytes t))).size<t.size;rw[kI,HS.o];omega
   ·gi_wp2;refine aM (bH rfl _ _ _) rfl ?_;exact⟨⟨_,rfl⟩,.inr ⟨_,⟨_,HE.o.symm⟩,hJx3⟩⟩
theorem Fv(a:Option Addr)(n c:Nat)(w:ay):Calls prog 166 #[.slice a n c] w λe w'=>e= .returned (.func (.func 207) #[] #[.pointer (some w)])/\w.alloc (.cells #[.slice a n c] 22)=w':=by exact vx
theorem Fu(Bs n₀:Nat)(v:aA)(bs:List aZ)(hl:bs.length<=1000000)(w:ay)(hn₀:n₀<=w.heap.size)(hc:w.cell? Bs=some v)(hI:Rd w 1 m9 v bs):SeqStopsK Fence.wide 3 prog 207 #[.pointer (some Bs)] (λx:LNb=> #[.int .i64 x.1.1,.string (str x.1.2)]) (Below n₀) (λys=>ys.map Subtype.val=oP 1 (ig bs)) (λpre=>pre.map Subtype.val <+: oP 1 (ig bs)) (ig bs).length w:=λl J Jx W hW hJ _ hY h0=>by have hE:Ext w W:=hW;exact Zq l Bs n₀ v bs hl J Jx W (aL hn₀ hE.size) (hI.ext hE) (λp A B h hx=>hJ p A B none h ⟨hx.os,hx.tape,hx.output,hx.size,λk hk _=>hx.block hk⟩ (λr e=>by cases e)) hY (hE.cell hc) h0
theorem SA(v:aA)(bs:List aZ)(hl:bs.length<=1000000)(w:ay)(hv:Rd w 1 m9 v bs):Rt 163 #[v] w (.int .i64 ((ig bs).length:Int)):=by
 have hvR:=hv;obtain⟨a,c,rfl,-⟩:=hv;have hll:=xO bs bs (aD _);have bR:=Boxed.new w 3 (.int .i64 0);have bN:=Boxed.new (w.alloc (.cells #[.int .i64 0] 3)) 22 (.slice a bs c);rw[aR]at bN;have hE0:Ext w ((w.alloc (.cells #[.int .i64 0] 3)).alloc (.cells #[.slice a bs c] 22)):=((aj w).alloc _).alloc _;refine(bM (n:=4)).1 ?_;refine callsIn_of_wp_marks func163 rfl trivial ?_ rfl;simp only[ntmps163,bW,aO,bD,Nat.reduceAdd,Nat.reduceSub,dU,dS,fq,dZ,dA,dh];gi_wp2_with(refine⟨trivial,?_⟩;gi_at_call 166;refine tI (bM.2 (Fv _ _ _ _)) ?_;rintro w' rfl);have h1:1<=4:=aq;refine wpIn_rangeFunc_ownF rfl h1 (gf:=207) (lb:= #[.pointer (some ⟨w+1,0,none⟩)]) rfl trivial (enters_of func207 ax rfl)
  (Fu (w+1) w _ bs hl _ bp bN.cell (hvR.ext hE0)) belowK_t (belowK_b bp) (Below.refl _ _) (λ_=>rfl)
  (λpre W=>(W.cell? w=some (.int .i64 pre.length)/\W.frozen? w=false)/\Below w w W)
  (λ_ _ _=>False)
  (OwnFrom.and (Own.from (λs A B row hs hg hr=>⟨cell_kept hs.1 hg hr,(frozen_kept hs.1 hg hr).trans hs.2⟩) _) (ownFrom_below (aD _) bp))
  (λ_ _ _ _ _ hs _ _=>hs)
  ⟨⟨(bR.alloc _).cell,(bR.alloc _).frozen⟩,hE0⟩
  (λx=> {tmps:= #[.slice a bs c,undef,.int .i64 0,.pointer (some w),.slice a bs c,.func (.func 207) #[] #[.pointer (some ⟨w+1,0,none⟩)],.int .i64 x.1.1,.string (str x.1.2),undef,undef,undef],defers:= []}) ?assign ?body ?done ?stop
 case assign=>intro l x W K hK;gi_wp2;simp;exact hK
 case body=>rintro l pre x W ⟨⟨hc,hf⟩,hB⟩ hlt;have hb1:pre.length<=1000000:=aq;gi_wp2;refine⟨KeepsOthers.setCell _ _ _,(Below.refl w W).setCell (p:=w) (aD _) _,⟨?_,by rw[fF];exact hf⟩,hB.setCell (p:=w) (aD _) _⟩;rw[aH];exact World.cell?_setCell_same' _ _ _ (by rw[hc];rfl)
 case done=>
  rintro D ys W hD hys ⟨⟨hc,_⟩,hB⟩ hK;have hyl:ys.length=(ig bs).length:=by rw[<-aS (f:=Subtype.val),hys,p8]
  rw[hyl]at hc;have HY:=ah hys;clear hys hyl;gi_wp2;refine⟨aE,.inl ⟨_,_,rfl,run_takeDeferred hK,?_⟩⟩;exact pD
 case stop=>exact mx
end gZ
variable{zP:Prop}
def rx(h:zP:=by
 rw[dL db,Array.getElem_modify_self,hk];simp only[dw,iT,and_true];rw[<-he]
 try rfl):zP:=h
def eV(h:zP:=by rw[kI];unfold maxLen;omega):zP:=h
namespace gZ
def Dx(l:List aZ):Bool:=match yC l with
 | []=>false
 |x::_=>x==35||x==59
def Mq(x:aZ)(r:List aZ)(h:0<(str (x::r)).size):(str (x::r))[0]'h=x:=rfl
def tH(l:List aZ):(yC l).length<=l.length:=by unfold yC;rw[List.length_reverse];refine aL (List.dropWhile_suffix _).length_le ?_;rw[List.length_reverse];exact(List.dropWhile_suffix _).length_le
theorem KP(s:aK)(hs:s.size<=maxLen)(w:ay):Calls prog 167 #[.string s] w λe w'=>e= .returned (.bool (Dx (bytes s)))/\w=w':=by
 have hT:=λW=>Ch s hs W
 unfold Dx;have hl:=tH (bytes s);rw[eD]at hl;unfold maxLen at hs;cases ht:yC (bytes s)with
 |nil=>rw[ht]at hT;have vV:=ah hT;have Hht:=ah ht;clear hT ht;go_in;go_wp2_with fail;refine ap (vV.o _) ?_;rintro w1 rfl;exact im
 |cons x r=>
  rw[ht]at hT hl;have hsz:(str (x::r)).size=r.length+1:=rfl;have hn:(!(str (x::r)).toList.isEmpty)=true:=by rw[ByteArray.toList_eq];rfl
  have hp:0<(str (x::r)).size:=by rw[hsz];omega
  have hg:=Mq x r hp;have e1:((x.toNat:Int)==35)=(x==35):=by rw[bB];simp;rw[<-UInt8.toNat_inj];show((x.toNat:Int)=35)↔x.toNat=35;omega
  have e2:((x.toNat:Int)==59)=(x==59):=by rw[bB];simp;rw[<-UInt8.toNat_inj];show((x.toNat:Int)=59)↔x.toNat=59;omega
  dsimp only;generalize(x==35)=b1 at *;generalize(x==59)=b2 at *;generalize hst:str (x::r)=t at *;have vV:=ah hT;have Hht:=ah ht;have ag1:=ah hst;clear hT ht hst;cases b1<;>cases b2
  all_goals
   go_in;go_wp2_with fail;refine ap (vV.o _) ?_;rintro w1 rfl;go_wp2_with fail;go_ret;exact⟨rfl,rfl⟩
def qF(x:LN):List aA:= [.int .i64 x.1,.string (str x.2)]
def mU(x:LN):(qF x).length=2:=rfl
def Dr(s:LN):∀u∈qF s,u.oneCell'=true:=by intro u hu;simp[qF]at hu;rcases hu with rfl|rfl<;>rfl
theorem Xb:(Tryz.prog.info? 261).map (λi=>(i.zero,i.size,i.bytes))=some (some (.agg #[.int .i64 0,.string ⟨#[]⟩]),2,24):=ax
def Ld{W:ay}{base e n k:Nat}{u:aA}{zs:List aA}(h:W.ownsRow base e n u k zs):∀(j:Nat)(o:Obj),u.ownBlock=some j->W.heap[j]?=some o->o.isCells=true:=mN
structure ES(w0:ay)(Bn Bo B0:Nat)(num:Nat)(txt:List aZ)(xs:List LN)(u:aA)(W:ay):Prop where
 ext:Ext w0 W
 n0:w0.heap.size<=Bn
 o0:w0.heap.size<=Bo
 no:Bn≠Bo
 nb:Bn<B0
 ob:Bo<B0
 bs:B0<=W.heap.size
 now:W.heap[Bn]?=some (.cells #[.int .i64 num,.string (str txt)] 261 (0,0))
 box:Boxed W Bo 206 u
 own:W.ownsRow B0 261 2 u xs (xs.flatMap qF)
structure Om(Bn Bo B0:Nat)(W W':ay):Prop where
 kp:Keep (λk=>k<B0/\k≠Bn/\k≠Bo) W W'
 ko:KeepsOthers W W'
def Om.refl(Bn Bo B0:Nat)(W:ay):Om Bn Bo B0 W W:=⟨Keep.refl _ _,KeepsOthers.refl _⟩
def Om.trans{Bn Bo B0:Nat}{a b c:ay}(h:Om Bn Bo B0 a b)(k:Om Bn Bo B0 b c):Om Bn Bo B0 a c:=⟨h.kp.trans k.kp,h.ko.trans k.ko⟩
section
variable {w0 W:ay} {Bn Bo B0 num:Nat} {txt:List aZ} {xs:List LN} {u:aA}
def ES.c0(h:ES w0 Bn Bo B0 num txt xs u W):W.cell? Bn=some (.int .i64 num):=by simp[World.cell?,h.now]
def ES.c1(h:ES w0 Bn Bo B0 num txt xs u W):W.cell? ⟨Bn,1,none⟩=some (.string (str txt)):=by simp[World.cell?,h.now]
def ES.f(h:ES w0 Bn Bo B0 num txt xs u W)(j:Nat):W.frozen? ⟨Bn,j,none⟩=false:=by simp[World.frozen?,h.now]
def ES.lt(h:ES w0 Bn Bo B0 num txt xs u W):Bn<W.heap.size:=(aB.1 h.now).1
def ES.tY(h:ES w0 Bn Bo B0 num txt xs u W)(j:Nat)(v:aA)(num':Nat)(amL:List aZ)(he:(#[.int .i64 num,.string (str txt)]:Array aA).setIfInBounds j v= #[.int .i64 num',.string (str amL)]):ES w0 Bn Bo B0 num' amL xs u (W.setCell ⟨Bn,j,none⟩ v)/\Om Bn Bo B0 W (W.setCell ⟨Bn,j,none⟩ v):=by refine⟨⟨h.ext.setCell h.n0 _,h.n0,h.o0,h.no,h.nb,h.ob,by rw[jq];exact h.bs,?_,(aX _ _ _ Bo (λe=>h.no e.symm)).trans h.box,ownsRow_setCell_below h.own h.nb _⟩,⟨Keep.setCell W (λhh=>hh.2.1 rfl) _,KeepsOthers.setCell _ _ _⟩⟩;obtain⟨hlt,hk⟩:=aB.1 h.now;show(W.heap.modify Bn _)[Bn]?=_;exact rx
def ES.ext'{W':ay}(h:ES w0 Bn Bo B0 num txt xs u W)(hx:Ext W W'):ES w0 Bn Bo B0 num txt xs u W':=
 ⟨h.ext.trans hx,h.n0,h.o0,h.no,h.nb,h.ob,aL h.bs hx.size,(hx.block h.lt).trans h.now,(hx.block h.box.lt).trans h.box,fO (S:=λb=>b<W.heap.size) h.own (Keep.of_below hx (λ_ h=>h)) (λb hb=>(h.own.lt b hb).2)⟩
def ES.app{W':ay}{u':aA}{ys:List LN}(h:ES w0 Bn Bo B0 num txt xs u W)(hg:W.grownBy W' u.ownBlock)(ho:W'.ownsRow B0 261 2 u' (xs.length+ys) ((xs++ys).flatMap qF)):ES w0 Bn Bo B0 num txt (xs++ys) u' (W'.setCell Bo u')/\Om Bn Bo B0 W (W'.setCell Bo u'):=by
 have hlo:=h.own.lt;have hnr:∀k,k<B0->some k≠u.ownBlock:=λk hk e=>by have:=(hlo k e.symm).1;omega
 have hbx:Boxed W' Bo 206 u:=(hg.block Bo h.box.lt (hnr _ h.ob)).trans h.box;refine⟨⟨(h.ext.grown hg (λk e=>by have:=(hlo k e).1;have:=h.n0;have:=h.nb;omega)).setCell h.o0 _,h.n0,h.o0,h.no,h.nb,h.ob,by rw[jq];exact aL h.bs hg.size,(aX _ _ _ Bn h.no).trans ((hg.block Bn h.lt (hnr _ h.nb)).trans h.now),hbx.set _,by rw[aH];exact ownsRow_setCell_below ho h.ob _⟩,⟨?_,?_⟩⟩
 ·exact⟨hg.os,hg.tape,hg.output,by rw[jq];exact hg.size,λk hk=>(aX _ _ _ k hk.2.2).trans (hg.block k (by have:=h.bs;omega) (hnr k hk.1))⟩
 ·exact(KeepsOthers.of_grownBy hg (Ld h.own)).trans (KeepsOthers.setCell _ _ _)
def Om.ext{W':ay}(hb:B0<=W.heap.size)(hx:Ext W W')(hk:KeepsOthers W W'):Om Bn Bo B0 W W':=⟨Keep.of_below hx (λk hk=>aq),hk⟩
end
def Dq(num:Nat)(txt:List aZ)(xs:List LN):List LN:=if yC txt=[]then xs else xs++[(num,yC txt)]
theorem lY{w0 W:ay}{Bn Bo B0 num:Nat}{txt:List aZ}{xs:List LN}{u:aA}(h:ES w0 Bn Bo B0 num txt xs u W)(ht:txt.length<=100000000000)(hxl:xs.length<=1000000):Calls prog 164 #[.pointer (some Bn),.pointer (some Bo)] W λe w'=>e= .returned (.tuple #[])/\∃u',ES w0 Bn Bo B0 0 [] (Dq num txt xs) u' w'/\Om Bn Bo B0 W w':=by
 have hT:=λW=>Ch (str txt) eV W
 have hl:=tH txt;rw[show bytes (str txt)=txt from by simp[bytes]]at hT;obtain⟨t,htt⟩:∃t,t=yC txt:=⟨_,rfl⟩;have he:Dq num txt xs=if t=[]then xs else xs++[(num,t)]:=by rw[htt];rfl
 rw[<-htt]at hT hl;rw[he];have hS1:=h.tY 1 (.string (str t)) num t rfl;have c1:=h.c1;have f1:=h.f 1;have hlt:=h.lt;have HS:=ah h;have A9:=ah hS1;have vV:=ah hT;have aAp:=ah htt;have Hhe:=ah he;clear hT htt he h hS1;go_in;go_wp2_with fail;refine ap (vV.o _) ?_;rintro w1 rfl;go_upto_region 1 with fail;obtain⟨W1,hW1⟩:∃W1,W1=W.setCell ⟨Bn,1,none⟩ (.string (str t)):=⟨_,rfl⟩;rw[<-hW1]at A9⊢;clear hW1 c1 f1 hlt;have c1:=A9.o.1.c1;have c0:=A9.o.1.c0;have hlt:=A9.o.1.lt;have f0:=A9.o.1.f 0;have f1:=A9.o.1.f 1;by_cases h0:t=[]
 ·subst h0;have hz1:=A9.o.1.tY 0 (.int .i64 0) 0 [] rfl;have hz2:=hz1.1.tY 1 (.string (str [])) 0 [] rfl;have HZ:=ah (ak hz2.1 (A9.o.2.trans (hz1.2.trans hz2.2)));clear hz1 hz2;go_wp2_with fail;go_end0;exact⟨rfl,⟨_,HZ.o.1⟩,HZ.o.2⟩
 ·have hn:(!t.isEmpty)=true:=by
   cases t with
   |nil=>exact absurd rfl h0
   |cons x r=>rfl
  have hn2:t.isEmpty=false:=by
   cases t with
   |nil=>exact absurd rfl h0
   |cons x r=>rfl
  have hrow:=A9.o.1.own;obtain⟨au,cu,rfl⟩:=bU hrow;have hbx:=A9.o.1.box.cell;have hfb:=A9.o.1.box.frozen;have hbl:=A9.o.1.box.lt;have Cn:=ah (A9.o.1.ext' ((aj W1).alloc (.cells #[.int .i64 num,.string (str t)] 261)));have HKA:=ah (Om.ext (Bn:=Bn) (Bo:=Bo) A9.o.1.bs ((aj W1).alloc (.cells #[.int .i64 num,.string (str t)] 261)) (KeepsOthers.alloc _ _));have Sj:=ah hrow;clear hrow
  go_wp2_with(at_builtin
              refine iX rfl (.tmp 9) (.tmp 11) _ rfl underlying206 Xb rfl az mU Dr B0 _ _ xs [(num,t)] rfl rfl Cn.o.own (gI mU W1 [(num,t)] _ _ rfl) bp az Cn.o.bs ?_;intro EN EJ w5 lM hg5;have hs5:=Cn.o.app hg5 lM;have c5:w5.cell? Bo=some (.slice au xs cu):=hg5.cell Cn.o.box.cell (λe=>by have:=(Cn.o.own.lt _ e.symm).1;have:=Cn.o.ob;dsimp only at *;omega);have f5:w5.frozen? Bo=false:=(dD (a:=⟨Bo,0,none⟩) (hg5.block Bo Cn.o.box.lt (λe=>by have:=(Cn.o.own.lt _ e.symm).1;have:=Cn.o.ob;omega))).trans Cn.o.box.frozen;have hb5:=aY _ _ c5;have c6:w5.cell? Bn=some (.int .i64 num):=hg5.cell Cn.o.c0 (λe=>by have:=(Cn.o.own.lt _ e.symm).1;have:=Cn.o.nb;dsimp only at *;omega);have c7:w5.cell? ⟨Bn,1,none⟩=some (.string (str t)):=hg5.cell Cn.o.c1 (λe=>by have:=(Cn.o.own.lt _ e.symm).1;have:=Cn.o.nb;dsimp only at *;omega);have f6:∀j,w5.frozen? ⟨Bn,j,none⟩=false:=λj=>(dD (a:=⟨Bn,j,none⟩) (hg5.block Bn Cn.o.lt (λe=>by have:=(Cn.o.own.lt _ e.symm).1;have:=Cn.o.nb;omega))).trans (Cn.o.f j)
              have hb6:=aY _ _ c6;have hno:=Cn.o.no;have hno':Bo≠Bn:=λe=>hno e.symm
              have yS:=ah hs5;have f60:=f6 0;have f61:=f6 1;clear lM hg5 hs5 f6)
  go_end0;have hz1:=yS.o.1.tY 0 (.int .i64 0) 0 t rfl;have hz2:=hz1.1.tY 1 (.string (str [])) 0 [] rfl;exact⟨rfl,⟨_,hz2.1⟩,A9.o.2.trans (HKA.o.trans (yS.o.2.trans (hz1.2.trans hz2.2)))⟩
end gZ
def tP(h:zP:=by
 have htl:=nH s [92];have HZ:=ah (ak hz2.1 (hz.2.trans hz2.2));clear hz hz2;have aen:=ah happ;have XK:=ah hstp;clear happ hstp;have ag8:=ah hcm;have akU:=ah hsf;clear hcm hsf;have N3:=ah ZJ;have Sm:=ah hCS;clear ZJ hCS;gi_wp2_with(first
  |(refine⟨trivial,?_⟩;gi_at_call 167;refine tI (CallsIn.inRound l (bM.2 (N3.o _))) ?_;rintro w' rfl)
  |(refine⟨trivial,?_⟩;gi_at_call 168;refine tI (CallsIn.inRound l (bM.2 (Sm.o _))) ?_;rintro w' rfl))
 exact XQ.o _ ⟨u,HZ.o.1⟩ HZ.o.2):zP:=h
def tM(h:zP:=by
 have hdn:=lY hz2.1 (by rw[aH];omega) aq;have HZ:=ah (ak hz2.1 (hz.2.trans hz2.2));have ael:=ah hdn;have aen:=ah happ;clear hdn hz hz2 happ;have XK:=ah hstp;have ag8:=ah hcm;clear hstp hcm;have akU:=ah hsf;have N3:=ah ZJ;have Sm:=ah hCS;clear hsf ZJ hCS;gi_wp2_with(first
  |(refine⟨trivial,?_⟩;gi_at_call 167;refine tI (CallsIn.inRound l (bM.2 (N3.o _))) ?_;rintro w' rfl)
  |(refine⟨trivial,?_⟩;gi_at_call 168;refine tI (CallsIn.inRound l (bM.2 (Sm.o _))) ?_;rintro w' rfl)
  |(refine⟨trivial,?_⟩;gi_at_call 164;refine tI (CallsIn.inRound l (bM.2 ael.o)) ?_;rintro w' ⟨u',hs3,hk3⟩))
 exact XQ.o _ ⟨u',hs3⟩ (HZ.o.2.trans hk3)):zP:=h
def gd(h:zP:=by rw[happ];rfl):zP:=h
def gb(h:zP:=by rw[hcm];simp):zP:=h
namespace gZ
variable{B0 Bn Bo M e k n num:Nat}{W W' w0:ay}{u:aA}
abbrev St:=List LN×Nat×List aZ
def kP(st:St)(x:LN):St:=
 if Dx x.2=true then st
 else if Lib.hasSuffix x.2 [92]=true then(st.1,if st.2.1=0 then x.1 else st.2.1,st.2.2++(Lib.trimSuffix x.2 [92]++[32]))
 else(Dq (if st.2.1=0 then x.1 else st.2.1) (st.2.2++x.2) st.1,0,[])
def D7(pre:List LN):St:=pre.foldl kP ([],0,[])
def Eh(bs:List aZ):List LN:=Dq (D7 (oP 1 (ig bs))).2.1 (D7 (oP 1 (ig bs))).2.2 (D7 (oP 1 (ig bs))).1
def je(bs:List aZ):List LN×Int:=if 65536<bs.length then([],3)else if 1000<(ig bs).length then([],4)else(Eh bs,0)
def abv(pre:List LN)(x:LN):D7 (pre++[x])=kP (D7 pre) x:=by unfold D7;rw[gU];rfl
def I6(n:Nat)(t:List aZ)(xs:List LN):(Dq n t xs).length<=xs.length+1:=by unfold Dq;split<;>simp
def nH(l p:List aZ):(Lib.trimSuffix l p).length<=l.length:=by
 unfold Lib.trimSuffix;split
 ·exact List.length_take_le' _ _
 ·exact aD _
def Bd(M:Nat)(st:St)(k:Nat):Prop:=st.1.length<=k/\st.2.2.length<=k*M
def OQ{st:St}(h:Bd M st k)(x:LN)(hx:x.2.length+1<=M):Bd M (kP st x) (k+1):=by
 obtain⟨h1,h2⟩:=h;unfold Bd;rw[Nat.succ_mul];unfold kP;split
 ·exact⟨aq,aq⟩
 split
 ·have:=nH x.2 [92];exact⟨by dsimp only;omega,by simp only[aH,aO,bD];omega⟩
 ·exact⟨aL (I6 _ _ _) aq,aE⟩
def Al(a b:List aZ):str a++str b=str (a++b):=bytes_inj (by simp[bytes])
def ES.grow{txt:List aZ}{xs:List LN}{row:Option Nat}(h:ES w0 Bn Bo B0 num txt xs u W)(hg:W.grownBy W' row)(hr:∀r,row=some r->B0<=r/\∃o:Obj,W.heap[r]?=some o/\o.isCells=false):ES w0 Bn Bo B0 num txt xs u W':=by
 have hne:∀k,k<B0->some k≠row:=λk hk e=>by have:=(hr k e.symm).1;omega
 refine⟨h.ext.grown hg (λk e=>by have:=(hr k e).1;have:=h.n0;have:=h.nb;omega),h.n0,h.o0,h.no,h.nb,h.ob,aL h.bs hg.size,(hg.block Bn h.lt (hne _ h.nb)).trans h.now,(hg.block Bo h.box.lt (hne _ h.ob)).trans h.box,World.ownsRow.kept h.own hg ?_⟩;cases hu:u.ownBlock with
 |none=>exact vq
 |some k=>
  refine .inr λe=> ?_
  obtain⟨-,o,ho,hc⟩:=hr k e.symm;rw[Ld h.own k o hu ho]at hc;cases hc
def kK{base base':Nat}{zs:List aA}(h:W.ownsRow base e n u k zs)(hb:base'<=base):W.ownsRow base' e n u k zs:=jb
def I12(w1:ay)(pre:List LNb)(W:ay):Prop:=
 (∃u,ES w1 (w1+1) w1 (w1+4) (D7 (pre.map Subtype.val)).2.1 (D7 (pre.map Subtype.val)).2.2 (D7 (pre.map Subtype.val)).1 u W)/\Bd 1000001 (D7 (pre.map Subtype.val)) pre.length/\
 Boxed W (w1+2) 1 (.func (.func 164) #[] #[.pointer (some ⟨w1+1,0,none⟩),.pointer (some w1)])
def I12.own(w1:ay)(n:Nat)(hn:w1.heap.size+4<=n):OwnFrom n (I12 w1):=by intro s A B row hs hg hr;obtain⟨⟨u,h1⟩,h2,h3⟩:=hs;refine⟨⟨u,h1.grow hg (λr e=>⟨aL hn (hr r e).1,(hr r e).2⟩)⟩,h2,?_⟩;exact(hg.block _ h3.lt (λe=>by have:=(hr _ e.symm).1;omega)).trans h3
theorem RD(v:aA)(bs:List aZ)(hl:bs.length<=1000000)(w:ay)(hv:Rd w 1 m9 v bs):Calls prog 116 #[v] w λe w'=>∃u,e= .returned (.tuple #[u,.int .i64 (je bs).2])/\Ext w w'/\w'.ownsRow w 261 2 u (je bs).1.length ((je bs).1.flatMap qF):=by
 have hvR:=hv;obtain⟨a,c,rfl,-⟩:=hv;have hC:=λW=>SA (.slice a bs c) bs hl W
 by_cases hlong:65536<bs.length
 ·have hA:je bs=([],3):=by unfold je;rw[aV hlong]
  have hd:decide (65536<bs.length)=true:=aQ hlong;have hd':decide ((65536:Int)<bs)=true:=aQ aq;rw[hA];have pQ:=ah hA;have ato:=ah hlong;clear hA hlong;have aed:=ah hvR;have yN:=ah hC;clear hvR hC;go_in;go_wp2;go_ret2;exact⟨_,rfl,aj _,dB _ _ _ _⟩
 have hd:decide (65536<bs.length)=false:=aT hlong;have hd':decide ((65536:Int)<bs)=false:=aT aq;by_cases hfull:1000<(ig bs).length
 ·have hA:je bs=([],4):=by unfold je;rw[aN hlong,aV hfull]
  have hf:decide (1000<(ig bs).length)=true:=aQ hfull;have hf':decide ((1000:Int)<((ig bs).length:Int))=true:=aQ aq;rw[hA];have pQ:=ah hA;have atw:=ah hfull;clear hA hfull;have aed:=ah hvR;have yN:=ah hC;clear hvR hC;go_in;go_wp2_with fail;refine ap (yN.o _ aed.o) ?_;intro w1 hx1;go_wp2_with fail;go_ret2;exact⟨_,rfl,hx1,dB _ _ _ _⟩
 have hA:je bs=(Eh bs,0):=by unfold je;rw[aN hlong,aN hfull]
 have hf:decide (1000<(ig bs).length)=false:=aT hfull;have hf':decide ((1000:Int)<((ig bs).length:Int))=false:=aT aq;rw[hA];have pQ:=ah hA;have aed:=ah hvR;have yN:=ah hC;clear hA hvR hC;refine(bM (n:=4)).1 ?_;refine callsIn_of_wp_marks func116 rfl trivial ?_ rfl;simp only[ntmps116,bW,aO,bD,Nat.reduceAdd,Nat.reduceSub,dU,dS,fq,dZ,dA,dh];gi_wp2_with(first
  |(refine⟨trivial,?_⟩;gi_at_call 163;refine tI (bM.2 (yN.o _ aed.o)) ?_;intro w1 hx1;have gK:=ah hx1;clear hx1)
  |(refine⟨trivial,?_⟩;gi_at_call 166;refine tI (bM.2 (Fv _ _ _ _)) ?_;rintro w' rfl))
 have hS0:ES w1 (w1+1) w1 (w1+4) 0 [] [] (.slice none 0 0) ((((w1.alloc (.cells #[.slice none 0 0] 206)).alloc (.cells #[.int .i64 0,.string ⟨#[]⟩] 261)).alloc (.cells #[.func (.func 164) #[] #[.pointer (some ⟨w1+1,0,none⟩),.pointer (some w1)]] 1)).alloc (.cells #[.slice a bs c] 22)):=by
  have h1:=Boxed.new w1 206 (.slice none 0 0);have h2:((w1.alloc (.cells #[.slice none 0 0] 206)).alloc (.cells #[.int .i64 0,.string ⟨#[]⟩] 261)).heap[w1.heap.size+1]?=some (.cells #[.int .i64 0,.string ⟨#[]⟩] 261 (0,0)):=by have:=aC (w1.alloc (.cells #[.slice none 0 0] 206)) (.cells #[.int .i64 0,.string ⟨#[]⟩] 261);rw[aR]at this;exact this
  have hx:Ext ((w1.alloc (.cells #[.slice none 0 0] 206)).alloc (.cells #[.int .i64 0,.string ⟨#[]⟩] 261)) _:=((aj _).alloc (.cells #[.func (.func 164) #[] #[.pointer (some ⟨w1+1,0,none⟩),.pointer (some w1)]] 1)).alloc (.cells #[.slice a bs c] 22);exact⟨((((aj w1).alloc _).alloc _).alloc _).alloc _,aq,aD _,aq,aq,aq,aE,(hx.block aE).trans h2,(hx.block bp).trans (h1.alloc _),dB _ _ _ _⟩
 have hF0:Boxed ((((w1.alloc (.cells #[.slice none 0 0] 206)).alloc (.cells #[.int .i64 0,.string ⟨#[]⟩] 261)).alloc (.cells #[.func (.func 164) #[] #[.pointer (some ⟨w1+1,0,none⟩),.pointer (some w1)]] 1)).alloc (.cells #[.slice a bs c] 22)) (w1+2) 1 (.func (.func 164) #[] #[.pointer (some ⟨w1+1,0,none⟩),.pointer (some w1)]):=by have h:=Boxed.new ((w1.alloc (.cells #[.slice none 0 0] 206)).alloc (.cells #[.int .i64 0,.string ⟨#[]⟩] 261)) 1 (.func (.func 164) #[] #[.pointer (some ⟨w1+1,0,none⟩),.pointer (some w1)]);rw[aR,aR]at h;exact h.alloc _
 have hB0:Boxed ((((w1.alloc (.cells #[.slice none 0 0] 206)).alloc (.cells #[.int .i64 0,.string ⟨#[]⟩] 261)).alloc (.cells #[.func (.func 164) #[] #[.pointer (some ⟨w1+1,0,none⟩),.pointer (some w1)]] 1)).alloc (.cells #[.slice a bs c] 22)) (w1+3) 22 (.slice a bs c):=by have h:=Boxed.new (((w1.alloc (.cells #[.slice none 0 0] 206)).alloc (.cells #[.int .i64 0,.string ⟨#[]⟩] 261)).alloc (.cells #[.func (.func 164) #[] #[.pointer (some ⟨w1+1,0,none⟩),.pointer (some w1)]] 1)) 22 (.slice a bs c);rw[aR,aR,aR]at h;exact h
 obtain⟨W0,hW0⟩:∃W0,((((w1.alloc (.cells #[.slice none 0 0] 206)).alloc (.cells #[.int .i64 0,.string ⟨#[]⟩] 261)).alloc (.cells #[.func (.func 164) #[] #[.pointer (some ⟨w1+1,0,none⟩),.pointer (some w1)]] 1)).alloc (.cells #[.slice a bs c] 22))=W0:=⟨_,rfl⟩;have hsz0:W0.heap.size=w1.heap.size+4:=by rw[<-hW0];simp
 rw[hW0]at hS0 hF0 hB0⊢;clear hW0;have h1:1<=4:=aq;refine wpIn_rangeFunc_ownF rfl h1 (gf:=207) (lb:= #[.pointer (some ⟨w1+3,0,none⟩)]) rfl trivial (enters_of func207 ax rfl)
  (Fu (w1+3) w1 _ bs hl _ aq hB0.cell (aed.o.ext (gK.o.trans hS0.ext))) belowK_t (belowK_b aq) (Below.refl _ _) (λ_=>rfl)
  (I12 w1)
  (λ_ _ _=>False)
  (I12.own w1 _ aq)
  (λ_ _ _ _ _ hs _ _=>hs)
  ⟨⟨_,hS0⟩,⟨aD _,bP _⟩,hF0⟩
  (λx=> {tmps:= #[.slice a bs c,undef,.slice none 0 0,.int .i64 0,.pointer (some w1),.pointer (some ⟨w1+1,0,none⟩),.pointer (some ⟨w1+1+1,0,none⟩),.int .i64 x.1.1,.string (str x.1.2),undef,undef,.bool false,.slice a bs c,.int .i64 bs,.bool false,.bool false,.slice a bs c,.int .i64 ((ig bs).length:Int),.bool false,
   .func (.func 164) #[] #[.pointer (some ⟨w1+1,0,none⟩),.pointer (some w1)],.slice a bs c,.func (.func 207) #[] #[.pointer (some ⟨w1+3,0,none⟩)],.int .i64 x.1.1,.string (str x.1.2),undef,undef,undef,undef,undef,undef,undef,undef,undef,undef,undef,undef,undef,undef,undef,undef,undef,undef,undef,undef,undef,undef,undef,undef,undef,undef,undef,undef,undef],defers:= []}) ?assign ?body ?done ?stop
 case assign=>
  intro l x W K hK;gi_wp2
  first|exact hK|(simp;exact hK)
 case body=>
  rintro l pre ⟨⟨k,s⟩,hxs⟩ W ⟨⟨u,hs⟩,hbd,hbf⟩ hlt;have hxs:s.length<=1000000:=hxs;have hst:=abv (pre.map Subtype.val) (k,s);have aom:=OQ hbd (k,s) (by show s.length+1<=1000001;omega);have hmap:(pre++[(⟨(k,s),hxs⟩:LNb)]).map Subtype.val=pre.map Subtype.val++[(k,s)]:=aE;have HI:∀W',(∃u,ES w1 (w1+1) w1 (w1+4) (kP (D7 (pre.map Subtype.val)) (k,s)).2.1 (kP (D7 (pre.map Subtype.val)) (k,s)).2.2 (kP (D7 (pre.map Subtype.val)) (k,s)).1 u W')->Om (w1+1) w1 (w1+4) W W'->
   KeepsOthers W W'/\Below w1 W W'/\I12 w1 (pre++[(⟨(k,s),hxs⟩:LNb)]) W':=λW' h1 h2=>⟨h2.ko,h2.kp.below (λj hj=>⟨aq,aq,aq⟩),by
   unfold I12;rw[hmap,hst,aH];exact⟨h1,aom,(h2.kp.block _ ⟨aq,aq,aq⟩).trans hbf⟩⟩
  have hlen:pre.length<=1000:=aq;obtain⟨hb1,hb2⟩:=hbd;have hb3:(D7 (pre.map Subtype.val)).2.2.length<=1000*1000001:=aL hb2 (eY _ hlen);clear hst aom hmap hb2;generalize D7 (pre.map Subtype.val)=st at *;obtain⟨xs,num,txt⟩:=st;dsimp only at hs hb1 hb3;have XQ:=ah HI;clear HI;have c0:=hs.c0;have c1:=hs.c1;have hlt1:=hs.lt;have f0:=hs.f 0;have f1:=hs.f 1;have cF:W.cell? ⟨w1+1+1,0,none⟩=some (.func (.func 164) #[] #[.pointer (some ⟨w1+1,0,none⟩),.pointer (some w1)]):=hbf.cell;have n1:1<=4-1-1:=aq;have ZJ:=λW=>KP (str s) eV W
  rw[show bytes (str s)=s from by simp[bytes]]at ZJ;have hCS:∀W,Calls prog 168 #[.string (str s),.string ⟨#[92]⟩] W λe w'=>e= .returned (.tuple #[.string (str (Lib.trimSuffix s [92])),.bool (Lib.hasSuffix s [92])])/\W=w':=λW=>(Tryz.strings_CutSuffix (str s) ⟨#[92]⟩ W (by rw[kI];omega)).mono λe w' h=>by obtain⟨rfl,rfl⟩:=h;exact⟨aE,rfl⟩
  have HSt:=ah hs;have HLT:=ah hlt;clear hs hbf hlt;cases hcm:Dx s
  case true=>
   rw[hcm]at ZJ;have hstp:kP (xs,num,txt) (k,s)=(xs,num,txt):=by unfold kP;rw[aV hcm]
   rw[hstp]at XQ;have XK:=ah hstp;have ag8:=ah hcm;clear hstp hcm;have N3:=ah ZJ;have Sm:=ah hCS;clear ZJ hCS;gi_wp2_with(refine⟨trivial,?_⟩;gi_at_call 167;refine tI (CallsIn.inRound l (bM.2 (N3.o _))) ?_;rintro w' rfl);exact XQ.o W ⟨u,HSt.o⟩ (Om.refl _ _ _ _)
  case false=>
   rw[hcm]at ZJ;cases hsf:Lib.hasSuffix s [92]
   all_goals
    rw[hsf]at hCS;by_cases agr:num=0
   ·subst agr;have hstp:kP (xs,0,txt) (k,s)=(Dq k (txt++s) xs,0,[]):=by unfold kP;rw[aN gb,aN (by rw[hsf];simp)];dsimp only;rw[aV rfl]
    rw[hstp]at XQ;dsimp only at XQ;have hz:=HSt.o.tY 0 (.int .i64 k) k txt rfl;have happ:str txt++str s=str (txt++s):=Al _ _;have hz2:=hz.1.tY 1 (.string (str txt++str s)) k (txt++s) gd;exact tM
   ·have hnb:((num:Int)==0)=false:=by rw[bK];omega
    have hstp:kP (xs,num,txt) (k,s)=(Dq num (txt++s) xs,0,[]):=by unfold kP;rw[aN gb,aN (by rw[hsf];simp)];dsimp only;rw[aN agr]
    rw[hstp]at XQ;dsimp only at XQ;have hz:ES w1 (w1+1) w1 (w1+4) num txt xs u W/\Om (w1+1) w1 (w1+4) W W:=⟨HSt.o,Om.refl _ _ _ _⟩;have happ:str txt++str s=str (txt++s):=Al _ _;have hz2:=hz.1.tY 1 (.string (str txt++str s)) num (txt++s) gd;exact tM
   ·subst agr;have hstp:kP (xs,0,txt) (k,s)=(xs,k,txt++(Lib.trimSuffix s [92]++[32])):=by unfold kP;rw[aN gb,aV hsf];dsimp only;rw[aV rfl]
    rw[hstp]at XQ;dsimp only at XQ;have hz:=HSt.o.tY 0 (.int .i64 k) k txt rfl;have happ:str txt++(str (Lib.trimSuffix s [92])++(⟨#[32]⟩:aK))=str (txt++(Lib.trimSuffix s [92]++[32])):=by rw[show(⟨#[32]⟩:aK)=str [32]from rfl,Al,Al]
    have hz2:=hz.1.tY 1 (.string (str txt++(str (Lib.trimSuffix s [92])++(⟨#[32]⟩:aK)))) k (txt++(Lib.trimSuffix s [92]++[32])) gd;exact tP
   ·have hnb:((num:Int)==0)=false:=by rw[bK];omega
    have hstp:kP (xs,num,txt) (k,s)=(xs,num,txt++(Lib.trimSuffix s [92]++[32])):=by unfold kP;rw[aN gb,aV hsf];dsimp only;rw[aN agr]
    rw[hstp]at XQ;dsimp only at XQ;have hz:ES w1 (w1+1) w1 (w1+4) num txt xs u W/\Om (w1+1) w1 (w1+4) W W:=⟨HSt.o,Om.refl _ _ _ _⟩;have happ:str txt++(str (Lib.trimSuffix s [92])++(⟨#[32]⟩:aK))=str (txt++(Lib.trimSuffix s [92]++[32])):=by rw[show(⟨#[32]⟩:aK)=str [32]from rfl,Al,Al]
    have hz2:=hz.1.tY 1 (.string (str txt++(str (Lib.trimSuffix s [92])++(⟨#[32]⟩:aK)))) num (txt++(Lib.trimSuffix s [92]++[32])) gd;exact tP
 case done=>
  rintro D ys W hD hys ⟨⟨u,hs⟩,⟨hb1,hb2⟩,hbf⟩ hK;have hyl:ys.length<=1000:=by rw[<-aS (f:=Subtype.val),hys,p8];omega
  have hb3:(D7 (ys.map Subtype.val)).2.2.length<=1000*1000001:=aL hb2 (eY _ hyl);rw[hys]at hs hb1 hb3;have hsl:Eh bs=Dq (D7 (oP 1 (ig bs))).2.1 (D7 (oP 1 (ig bs))).2.2 (D7 (oP 1 (ig bs))).1:=rfl;clear hb2 hys;generalize D7 (oP 1 (ig bs))=st at *;obtain⟨xs,num,txt⟩:=st;dsimp only at hs hb1 hb3 hsl;have hdn:=lY hs aq aq;have cF:W.cell? ⟨w1+1+1,0,none⟩=some (.func (.func 164) #[] #[.pointer (some ⟨w1+1,0,none⟩),.pointer (some w1)]):=hbf.cell;generalize Dq num txt xs=zs at *;have HDK:=ah (ak hD hK);have ael:=ah hdn;have ag2:=ah hsl;have Hhs:=ah hs;clear hdn hsl hs hbf hK hD;gi_wp2_with(refine⟨trivial,?_⟩;gi_at_call 164;refine tI (bM.2 ael.o) ?_;rintro w' ⟨u',hs3,hk3⟩;have cU:=hs3.box.cell;obtain⟨au,cu,hau⟩:=bU hs3.own;subst hau;have wZ:=ah (ak hs3 hk3);clear hs3 hk3);obtain⟨hs3,hk3⟩:=wZ.o;obtain⟨hD,hK⟩:=HDK.o;have hK3:=hk3.ko.same D _ hK rfl;have hg:=hs3.grow (grownBy_putObj' w' D (.deferred none)) (λr e=>by cases e;exact⟨aq,_,hK3,rfl⟩);refine⟨aE,.inl ⟨_,_,rfl,run_takeDeferred hK3,?_⟩⟩;refine⟨.tuple #[.slice au zs cu,.int .i64 0],(by simp[results,results116,go_sem]),_,rfl,?_,?_⟩
  ·exact gK.o.trans hg.ext
  ·rw[ag2.o];exact kK hg.own (by have:=gK.o.size;omega)
 case stop=>exact mx
end gZ
end Go.Proofs.YtopfefhenfineaaGreat
namespace Go.Proofs.YtopfefhenfineaaGreat
open Go.Proofs.Tryz Go.RowKit V
namespace gZ
variable{v:aA}{w:ay}
theorem Ja(w:ay)(s:aK):(convert 9 22 (.string s)).run prog w= .ok (.slice (some w) s.size (grownCap w s.size 0 5)) (w.drew.alloc (.cells (bytesRow s (grownCap w s.size 0 5)) 5 ((bytesRow s (grownCap w s.size 0 5)).size,(bytesRow s (grownCap w s.size 0 5)).size+1))):=
 run_bytes_of_string w _ _ _ s underlying9 underlying22 underlying5
def Hl(w:ay)(s:aK)(cap:Nat)(hc:s.size<=cap)(fr:Nat×Nat):Rd (w.alloc (.cells (bytesRow s cap) 5 fr)) 1 m9 (.slice (some w) s.size cap) (bytes s):=kt
def rW{xs:List LN}(h:Rd w 2 qF v xs):∃a c,v= .slice a xs c/\xs.length<=c/\∀i,(hi:i<xs.length)->∃b o,a=some ⟨b,o,none⟩/\w.cell? ⟨b,o+i*2,none⟩=some (.int .i64 ((xs[i]).1:Int))/\w.cell? ⟨b,o+i*2+1,none⟩=some (.string (str (xs[i]).2)):=by obtain⟨a,c,h1,h2,h3,h4⟩:=h;refine⟨a,c,h1,h2,λi hi=> ?_⟩;obtain⟨b,o,e,k⟩:=h4 i hi;have k0:=k 0 eQ;have k1:=k 1 eQ;exact⟨b,o,e,by simpa[qF]using k0,by simpa[qF]using k1⟩
def Tt(l:List aZ):(je l).2=0\/(je l).2=3\/(je l).2=4:=by
 unfold je;split
 ·exact .inr (.inl rfl)
 split
 ·exact .inr (.inr rfl)
 ·exact vq
def V8:∀(pre:List LN)(st:St),(pre.foldl kP st).1.length<=st.1.length+pre.length
 | [],_=>aD _
 |x::r,st=>by
  rw[jD];have h:=V8 r (kP st x);have h2:(kP st x).1.length<=st.1.length+1:=by
   unfold kP;split
   ·omega
   split
   ·dsimp only;omega
   ·exact I6 _ _ _
  rw[aO];omega
def G3(l:List aZ):(je l).1.length<=1001:=by
 unfold je;split
 ·simp
 split
 ·simp
 ·dsimp only;unfold Eh;have:=V8 (oP 1 (ig l)) ([],0,[]);rw[p8]at this;have h2:=I6 (D7 (oP 1 (ig l))).2.1 (D7 (oP 1 (ig l))).2.2 (D7 (oP 1 (ig l))).1;unfold D7 at *;simp only[bD]at this;omega
def CQ{xs:List aZ}(h:Rd w 1 m9 v xs):∃a c,v= .slice a xs c/\xs.length<=c/\∀i,(hi:i<xs.length)->∃b o,a=some ⟨b,o,none⟩/\w.cell? ⟨b,o+i,none⟩=some (.int .u8 ((xs[i]).toNat:Int)):=by obtain⟨a,c,h1,h2,h3,h4⟩:=h;refine⟨a,c,h1,h2,λi hi=> ?_⟩;obtain⟨b,o,e,k⟩:=h4 i hi;have:=k 0 (by simp[m9]);rw[eO,iB]at this;exact⟨b,o,e,this⟩
end gZ
variable{zP:Prop}
def eL(h:zP:=by cases h):zP:=h
namespace gZ
variable{a b c:List aZ}{i j k:Nat}
abbrev Fl:=List aZ×Int×List aZ
def lt(a b:List aZ):Bool:=Op.bytesLess a b
def lt_iff(a b:List aZ):lt a b=true↔a<b:=by unfold lt;rw[bytesLess_eq,iH]
def Ij(a:List aZ):lt a a=false:=by
 cases h:lt a a
 ·rfl
 ·exact absurd ((lt_iff a a).1 h) (List.lt_irrefl a)
def lt_trans(h:lt a b=true)(k:lt b c=true):lt a c=true:=(lt_iff a c).2 (List.lt_trans ((lt_iff a b).1 h) ((lt_iff b c).1 k))
def af4(h:lt a b=true):lt b a=false:=by
 cases k:lt b a
 ·rfl
 ·have:=lt_trans h k;rw[Ij]at this;cases this
def acp(h:lt a b=false)(k:lt b a=false):a=b:=by
 have h1:¬a<b:=λx=>by rw[(lt_iff a b).2 x]at h;cases h
 have h2:¬b<a:=λx=>by rw[(lt_iff b a).2 x]at k;cases k
 exact List.le_antisymm (List.not_lt.1 h2) (List.not_lt.1 h1)
def acq(h:lt a b=false)(hne:a≠b):lt b a=true:=by
 cases k:lt b a
 ·exact absurd (acp h k) hne
 ·rfl
def F6(c:aZ):Bool:=decide (33<=c.toNat)&&decide (c.toNat<=126)&& !(c==47)
def tq(l:List aZ):Bool:=decide (6<=l.length)&&decide (l.length<=60)&&Lib.hasSuffix l [46,99,111,110,102]&&l.all F6
def ad2(fs:List Fl)(k i:Nat)(f:Fl):Prop:=i<k/\fs[i]?=some f/\∀j g,j<k->fs[j]?=some g->g.1=f.1->f.2.1<g.2.1\/f.2.1=g.2.1/\i<=j
abbrev Win(fs:List Fl):=ad2 fs fs.length
abbrev Srt(L:List Fl):Prop:=L.Pairwise (λa b=>lt a.1 b.1=true)
def Gb(fs:List Fl)(i:Nat)(L:List Fl):Prop:=Srt L/\∀f,f∈L↔∃j,j<i/\Win fs j f
abbrev ad7(fs L:List Fl):Prop:=Gb fs fs L
def Wd:∀ {L M:List Fl},Srt L->Srt M->(∀f,f∈L↔f∈M)->L=M
 | [],[],_,_,_=>rfl
 | [],b::M,_,_,h=>by have:=(h b).2 aE;cases this
 |a::L,[],_,_,h=>by have:=(h a).1 aE;cases this
 |a::L,b::M,h1,h2,h=>by
  obtain⟨p1,q1⟩:=List.pairwise_cons.1 h1;obtain⟨p2,q2⟩:=List.pairwise_cons.1 h2;have hab:a=b:=by
   rcases dF.1 ((h a).1 aE)with e|e
   ·exact e
   ·rcases dF.1 ((h b).2 aE)with e'|e'
    ·exact e'.symm
    ·have x:=p2 a e;rw[af4 (p1 b e')]at x;cases x
  subst hab;rw[Wd q1 q2 (λf=>⟨λhf=>by
   rcases dF.1 ((h f).1 (gM _ hf))with e|e
   ·subst e;have:=p1 f hf;rw[Ij]at this;cases this
   ·exact e,λhf=>by
   rcases dF.1 ((h f).2 (gM _ hf))with e|e
   ·subst e;have:=p2 f hf;rw[Ij]at this;cases this
   ·exact e⟩)]
def ab3{fs L M:List Fl}(h:Gb fs i L)(k:Gb fs i M):L=M:=Wd h.1 k.1 (λf=>(h.2 f).trans (k.2 f).symm)
def VR{fs:List Fl}{f g:Fl}(h:ad2 fs k i f)(l:ad2 fs k j g)(e:f.1=g.1):i=j/\f=g:=by obtain⟨h1,h2,h3⟩:=h;obtain⟨l1,l2,l3⟩:=l;have a:=h3 j g l1 l2 e.symm;have b:=l3 i f h1 h2 e;have:i=j:=aq;subst this;rw[h2]at l2;exact⟨rfl,bV l2⟩
def PO{fs L:List Fl}(h:Gb fs i L)(hn:∀f,¬Win fs i f):Gb fs (i+1) L:=
 ⟨h.1,λf=>(h.2 f).trans ⟨λ⟨j,a,b⟩=>⟨j,aq,b⟩,λ⟨j,a,b⟩=>by
  by_cases e:j=i
  ·subst e;exact absurd b (hn f)
  ·exact⟨j,aq,b⟩⟩⟩
def ai1{fs L:List Fl}(h:Gb fs i L){f:Fl}(hw:Win fs i f):∀g∈L,g.1≠f.1:=λg hg e=>by obtain⟨j,a,b⟩:=(h.2 g).1 hg;have:=(VR b hw e).1;omega
def MW{fs A B:List Fl}{f:Fl}(h:Gb fs i (A++B))(hw:Win fs i f)(hB:∀b∈B,lt f.1 b.1=true)(hA:∀a,A.getLast?=some a->lt f.1 a.1=false):Gb fs (i+1) (A++f::B):=by
 have hne:=ai1 h hw;obtain⟨p1,p2,p3⟩:=List.pairwise_append.1 h.1;refine⟨List.pairwise_append.2 ⟨p1,List.pairwise_cons.2 ⟨hB,p2⟩,?_⟩,λg=> ?_⟩
 ·have hAf:∀a∈A,lt a.1 f.1=true:=by
   intro a ha;rcases List.eq_nil_or_concat A with e|⟨A',z,e⟩
   ·subst e;cases ha
   ·subst e;have hz:lt z.1 f.1=true:=acq (hA z aE) (λe=>hne z aE e.symm);rcases dJ.1 (by simpa using ha:a∈A'++[z])with q|q
    ·simp only[List.concat_eq_append]at p1;exact lt_trans ((List.pairwise_append.1 p1).2.2 a q z aE) hz
    ·simp at q;subst q;exact hz
  intro a ha b hb;rcases dF.1 hb with e|e
  ·subst e;exact hAf a ha
  ·exact p3 a ha b e
 ·constructor
  ·intro hg;rcases dJ.1 hg with q|q
   ·obtain⟨j,a,b⟩:=(h.2 g).1 (List.mem_append_left _ q);exact⟨j,aq,b⟩
   ·rcases dF.1 q with e|e
    ·subst e;exact⟨i,aq,hw⟩
    ·obtain⟨j,a,b⟩:=(h.2 g).1 (List.mem_append_right _ e);exact⟨j,aq,b⟩
  ·rintro⟨j,a,b⟩;by_cases e:j=i
   ·subst e;obtain⟨-,q1,-⟩:=b;obtain⟨-,q2,-⟩:=hw;rw[q1]at q2;obtain rfl:=bV q2;simp
   ·rcases dJ.1 ((h.2 g).2 ⟨j,aq,b⟩)with q|q<;>simp[q]
def YV(fs:List Fl):Gb fs 0 []:=⟨List.Pairwise.nil,λf=>⟨λh=>eL,λ⟨j,a,_⟩=>aq⟩⟩
def abb(fs:List Fl)(i:Nat)(f:Fl):Bool:=(List.range fs).all λj=>match fs[j]? with|none=>true|some g=> !(g.1==f.1)||decide (f.2.1<g.2.1)||(decide (f.2.1=g.2.1)&&decide (i<=j))
def OA{fs:List Fl}{f:Fl}(hf:fs[i]?=some f):abb fs i f=true↔Win fs i f:=by
 have hi:i<fs:=(List.getElem?_eq_some_iff.1 hf).1;unfold abb Win ad2;rw[List.all_eq_true];constructor
 ·intro h;refine⟨hi,hf,λj g hj hg e=> ?_⟩;have:=h j (List.mem_range.2 hj);rw[hg]at this;simpa[e]using this
 ·rintro⟨-,-,h⟩ j hj;have hj':=List.mem_range.1 hj;have hg:fs[j]?=some fs[j]:=aJ hj';have:=h j _ hj' hg;rw[hg];by_cases e:fs[j].1=f.1
  ·simpa[e]using this e
  ·simp[e]
def UC(f:Fl):List Fl->List Fl
 | []=>[f]
 |g::l=>if lt f.1 g.1=true then f::g::l else g::UC f l
def Iq(f:Fl):∀L:List Fl,Srt L->∃A B,L=A++B/\UC f L=A++f::B/\(∀b∈B,lt f.1 b.1=true)/\∀a,A.getLast?=some a->lt f.1 a.1=false
 | [],_=>⟨[],[],rfl,rfl,aE,aE⟩
 |g::l,h=>by
  obtain⟨h1,h2⟩:=List.pairwise_cons.1 h;unfold UC;by_cases e:lt f.1 g.1=true
  ·rw[aV e];refine⟨[],g::l,rfl,rfl,λb hb=> ?_,aE⟩;rcases dF.1 hb with q|q
   ·subst q;exact e
   ·exact lt_trans e (h1 b q)
  ·rw[aN e];obtain⟨A,B,q1,q2,q3,q4⟩:=Iq f l h2;refine⟨g::A,B,by rw[q1];rfl,by rw[q2];rfl,q3,λa ha=> ?_⟩;rw[List.getLast?_cons]at ha;cases hA:A.getLast? with
   |none=>rw[hA]at ha;simp at ha;subst ha;simpa using e
   |some z=>rw[hA]at ha;simp at ha;subst ha;exact q4 z hA
def sW(fs L:List Fl)(i:Nat):List Fl:=match fs[i]? with|none=>L|some f=>if abb fs i f=true then UC f L else L
def uh(fs:List Fl):List Fl:=(List.range fs).foldl (sW fs) []
def Lg(fs:List Fl):∀i,i<=fs.length->Gb fs i ((List.range i).foldl (sW fs) [])
 |0,_=>YV fs
 |i+1,hi=>by
  have ih:=Lg fs i aq;rw[List.range_succ,gU];generalize(List.range i).foldl (sW fs) []=L at *;have hf:fs[i]?=some fs[i]:=aJ aq;show Gb fs (i+1) (sW fs L i);unfold sW;rw[hf];show Gb fs (i+1) (if abb fs i fs[i]=true then UC fs[i] L else L);by_cases hw:abb fs i fs[i]=true
  ·rw[aV hw];obtain⟨A,B,rfl,q2,q3,q4⟩:=Iq fs[i] L ih.1;rw[q2];exact MW ih ((OA hf).1 hw) q3 q4
  ·rw[aN hw];refine PO ih (λf hW=> ?_);have:=hW.2.1;rw[hf]at this;obtain rfl:=bV this;exact hw ((OA hf).2 hW)
def MX(fs:List Fl):ad7 fs (uh fs):=Lg fs fs (aD _)
def afI{fs L:List Fl}(h:ad7 fs L):L=uh fs:=ab3 h (MX fs)
def Hz(fs:List Fl):(uh fs).length<=fs.length:=by
 have:∀i,((List.range i).foldl (sW fs) []).length<=i:=by
  intro i
  induction i with
  |zero=>simp
  |succ i ih=>
   rw[List.range_succ,gU];generalize(List.range i).foldl (sW fs) []=L at *;show(sW fs L i).length<=i+1;have hin:∀(f:Fl) (L:List Fl),(UC f L).length=L.length+1:=by
    intro f L
    induction L with
    |nil=>rfl
    |cons g l ih=>unfold UC;split<;>simp[ih]
   unfold sW;split
   ·omega
   ·split
    ·rw[hin];omega
    ·omega
 exact this _
def KF(fs:List Fl)(k:Nat)(m:List aZ->Option Fl):Prop:=
 ∀x,match m x with
  |none=>∀i f,i<k->fs[i]?=some f->f.1≠x
  |some f=>f.1=x/\∃i,ad2 fs k i f
def Zj(fs:List Fl):KF fs 0 (λ_=>none):=λx i f h=>aq
def af2{fs:List Fl}{m:List aZ->Option Fl}{f:Fl}(h:KF fs k m)(hf:fs[k]?=some f)(hd:∀g,m f.1=some g->f.2.1<g.2.1):KF fs (k+1) (λx=>if x=f.1 then some f else m x):=by
 intro x;have hx:=h x;by_cases e:x=f.1
 ·subst e;simp only[if_true];refine⟨trivial,k,aq,hf,λj g hj hg e=> ?_⟩;by_cases ej:j=k
  ·subst ej;rw[hf]at hg;obtain rfl:=bV hg;exact .inr ⟨rfl,aD _⟩
  ·left;cases hm:m f.1 with
   |none=>rw[hm]at hx;exact absurd e (hx j g aq hg)
   |some z=>rw[hm]at hx;obtain⟨z1,i,w1,w2,w3⟩:=hx;have a:=hd z hm;have b:=w3 j g aq hg (e.trans z1.symm);omega
 ·simp only[aN e];cases hm:m x with
  |none=>
   rw[hm]at hx;intro i g hi hg;by_cases ei:i=k
   ·subst ei;rw[hf]at hg;obtain rfl:=bV hg;exactλq=>e q.symm
   ·exact hx i g aq hg
  |some z=>
   rw[hm]at hx;obtain⟨z1,i,w1,w2,w3⟩:=hx;refine⟨z1,i,aq,w2,λj g hj hg eg=> ?_⟩;by_cases ej:j=k
   ·subst ej;rw[hf]at hg;obtain rfl:=bV hg;exact absurd (eg.trans z1) (λq=>e q.symm)
   ·exact w3 j g aq hg eg
def acj{fs:List Fl}{m:List aZ->Option Fl}{f g:Fl}(h:KF fs k m)(hf:fs[k]?=some f)(hg:m f.1=some g)(hd:¬f.2.1<g.2.1):KF fs (k+1) m:=by
 intro x;have hx:=h x;cases hm:m x with
 |none=>
  rw[hm]at hx;intro i z hi hz;by_cases ei:i=k
  ·subst ei;rw[hf]at hz;obtain rfl:=bV hz;intro q;rw[<-q,hg]at hm;cases hm
  ·exact hx i z aq hz
 |some z=>
  rw[hm]at hx;obtain⟨z1,i,w1,w2,w3⟩:=hx;refine⟨z1,i,aq,w2,λj y hj hy ey=> ?_⟩;by_cases ej:j=k
  ·subst ej;rw[hf]at hy;obtain rfl:=bV hy;have:m f.1=some z:=by rw[ey,z1];exact hm
   rw[hg]at this;obtain rfl:=bV this;omega
  ·exact w3 j y aq hy ey
def af3{fs L:List Fl}{m:List aZ->Option Fl}(h:KF fs fs m)(hs:Srt L)(hm:∀f,f∈L↔m f.1=some f):ad7 fs L:=by
 refine⟨hs,λf=>(hm f).trans ⟨λe=> ?_,λ⟨i,hi,hw⟩=> ?_⟩⟩
 ·have:=h f.1;rw[e]at this;obtain⟨-,i,hw⟩:=this;exact⟨i,hw.1,hw⟩
 ·have:=h f.1;cases e:m f.1 with
  |none=>rw[e]at this;exact absurd rfl (this i f hi hw.2.1)
  |some z=>rw[e]at this;obtain⟨z1,j,hz⟩:=this;rw[(VR hz hw z1).2]
end gZ
end Go.Proofs.YtopfefhenfineaaGreat
namespace Go.Proofs.YtopfefhenfineaaGreat
open Go.Proofs.Tryz Go.RowKit Go.Shelf V
attribute[local go_sem] Oper.semAt_some Option.isSome_some run_convert_int_string
namespace gZ
def valid_eq(r:Int):Lib.validRune r=Utf8.valid r:=by unfold Lib.validRune Utf8.valid;rw[bB];simp only[dK,gq,bA];omega
def vQ(l:List aZ):Prop:= ∀b∈l,b.toNat<128
def Nj{l:List aZ}(h:vQ l){c:aZ}(hc:128<=c.toNat):Lib.indexByte l c= -1:=by rw[AL,aN];intro hh;rw[List.contains_iff_mem]at hh;have:=h c hh;omega
def aas{s:aK}(h:vQ (bytes s))(a b:Nat):vQ (bytes (s.extract a b)):=by intro x hx;rw[mI]at hx;exact h x (List.mem_of_mem_drop (iU hx))
def L3{s:aK}(h:vQ (bytes s))(i:Nat)(hi:i<s.size):(s[i]'hi).toNat<128:=by rw[EM];exact h _ (aW _)
theorem C8(s:aK)(_hs:s.size<=1000000)(ha:vQ (bytes s))(r:Int)(h0:128<=r)(h1:r<=2147483647)(w:ay):Rt 265 #[.string s,.int .i32 r] w (.int .i64 (-1)):=by
 have g0:(0:Int)<=r:=aq;have g1:¬r<128:=aq;have hV:=λW=>Tryz.utf8_ValidRune r W
 rw[valid_eq]at hV;by_cases hE:r=65533
 ·subst hE;clear hV;have Hha:=ah ha;clear ha;unfold Rt;go_in;go_wp2_with fail;go_loopg [5,6] s.size (λg _ _ wx=>∃i:Nat,i+g=s.size/\wx=w.iter s i)
  case atStart=>exact⟨0,aq,rfl⟩
  case round=>
   obtain⟨i,hig,rfl⟩:=hrel;cases gk with
   |zero=>obtain rfl:i=s.size:=aq;have hnx:=run_next_end (P:=prog) w s s.size;go_wp2_with fail;exact wg
   |succ g=>
    have hi:i<s.size:=aq;have hx128:=L3 Hha.o i hi;have hnx:=λty=>run_next_ascii (P:=prog) w s i ty hi hx128
    generalize s[i]'hi=x at *;have hne:((x.toNat:Int)==65533)=false:=by rw[bK];omega
    go_wp2_with fail;go_roundg g
    case measure=>omega
    case rel=>exact⟨i+1,aq,rfl⟩
 ·have hEb:(r==65533)=false:=by rw[bK];exact hE
  cases hv:Utf8.valid r
  ·rw[hv]at hV;have HhV:=ah hV;clear hV ha;unfold Rt;go_in;go_wp2_with fail;refine ap (HhV.o _) ?_;rintro w1 rfl;exact oc
  ·rw[hv]at hV;obtain⟨t1,t2,t3⟩:=encode_facts r hv h0;generalize het:Utf8.encode r=t at *;obtain⟨k,hk⟩:∃k,t.size=k+1:=⟨t.size-1,aq⟩;have hks:t.size-1=k:=aq;have hkz:(t:Int)-1=k:=aq;have hkw:IntKind.i64.wrap ((t:Int)-1)=(k:Int):=by rw[hkz];exact IntWalk.i64_in _ aq
   have hkt:k<t.size:=aq;have hy:128<=(t[k]'hkt).toNat:=by have:=t3 aq;simpa only[hks]using this
   clear t3 hkz;by_cases hi:k<s.size
   ·have hx:=L3 ha k hi;have hB:=λW=>Tryz.strings_IndexByte (s.extract (k+1) s.size) ((t[k]'hkt).toNat:Int) W
    rw[show(((t[k]'hkt).toNat:Int)).toNat.toUInt8=t[k]'hkt from aE,Nj (aas ha _ _) hy]at hB;have hne:(((s[k]'hi).toNat:Int)==((t[k]'hkt).toNat:Int))=false:=by rw[bK];omega
    have hw1:IntKind.i64.wrap ((k:Int)+1)=(k:Int)+1:=IntWalk.i64_in _ aq;have hk0:(0:Int)<=k+1:=aq;have hk1:((k:Int)+1).toNat=k+1:=aq;have hk2:(k:Int)+1<=s:=aq;have hk3:(k:Int)<s:=aq;have hk4:(k:Int)<t:=aq;have HhB:=ah hB;have HhV:=ah hV;clear hB hV;have Hha:=ah ha;have Hhk:=ah hk;clear ha hk hks t1 t2 g1;unfold Rt;go_in;go_wp2_with fail;refine ap (HhV.o _) ?_;rintro w1 rfl;go_wp2_with fail;go_step3;go_wp2_with fail;go_loopw [9,10,11,12] (λu9 u10 u11 u12 wr=>u9= .int .i64 k/\u10= .int .i64 0/\w1=wr) (λ_ _ _ _ _=>0)
    case atStart=>exact⟨rfl,rfl,rfl⟩
    case round=>obtain⟨rfl,rfl,rfl⟩:=hrel;go_wp2_with fail;go_step3;go_wp2_with(go_quiet (fail));have HX:=ah ((aj w1).drewN nq);generalize w1.drewN nq=W at HX⊢;go_wp2_with(go_quiet ((go_at_call 329;exact Calls.quiet_of_same (HhB.o _))));rw[Exit.noGoto_ret];go_wp2_with fail;rw[Exit.noGoto_ret];go_wp2_with fail;go_ret;exact⟨rfl,HX.o.drewN _⟩
   ·have hk3:¬((k:Int)<s):=aq;have HhV:=ah hV;have Hha:=ah ha;have Hhk:=ah hk;clear hV ha hk hks t1 t2 g1;unfold Rt;go_in;go_wp2_with fail;refine ap (HhV.o _) ?_;rintro w1 rfl;go_wp2_with fail;go_step3;go_wp2_with fail;go_loopw [9,10,11,12] (λu9 u10 u11 u12 wr=>u9= .int .i64 k/\u10= .int .i64 0/\w1=wr) (λ_ _ _ _ _=>0)
    case atStart=>exact⟨rfl,rfl,rfl⟩
    case round=>obtain⟨rfl,rfl,rfl⟩:=hrel;go_wp2_with fail;rw[Exit.noGoto_ret];exact oc
end gZ
end Go.Proofs.YtopfefhenfineaaGreat
namespace Go.Proofs.YtopfefhenfineaaGreat
open Go.Proofs.Tryz Go.RowKit Go.Shelf V
attribute[local go_sem] Oper.semAt_some Option.isSome_some
variable{zP:Prop}
def pk(h:zP:=by exact key 1 aq (λhh=>aq) (λhh=>aq) (λhh=>aq) aq):zP:=h
namespace gZ
def Gy(s:aK)(j:Nat)(h:j<s.size):s.get! j=s[j]'h:=by have:=get_at s j h;exact sd
def Ra(s:aK)(pos:Nat)(h:pos<s.size)(ha:128<=(s[pos]'h).toNat):pos+(Utf8.decode s pos).2<=s.size/\∀(j:Nat)(hj:j<s.size),pos<=j->j<pos+(Utf8.decode s pos).2->128<=(s[j]'hj).toNat:=by
 rw[Lib.decode_at];have e0:=Gy s pos h;have g1:=λhh:pos+1<s.size=>Gy s (pos+1) hh
 have g2:=λhh:pos+2<s.size=>Gy s (pos+2) hh
 have g3:=λhh:pos+3<s.size=>Gy s (pos+3) hh
 rw[e0];have key:∀d:Nat,1<=d->(1<d->pos+1<s.size/\128<=(s.get! (pos+1)).toNat)->(2<d->pos+2<s.size/\128<=(s.get! (pos+2)).toNat)->(3<d->pos+3<s.size/\128<=(s.get! (pos+3)).toNat)->d<=4->
  pos+d<=s.size/\∀(j:Nat) (hj:j<s.size),pos<=j->j<pos+d->128<=(s[j]'hj).toNat:=by
  intro d h0 h1 h2 h3 h4;refine⟨?_,?_⟩
  ·by_cases c3:3<d
   ·have:=(h3 c3).1;omega
   ·by_cases c2:2<d
    ·have:=(h2 c2).1;omega
    ·by_cases c1:1<d
     ·have:=(h1 c1).1;omega
     ·omega
  ·intro j hj hp hd;by_cases j0:j=pos
   ·subst j0;exact ha
   by_cases j1:j=pos+1
   ·subst j1;rw[<-g1 hj];exact(h1 aq).2
   by_cases j2:j=pos+2
   ·subst j2;rw[<-g2 hj];exact(h2 aq).2
   have j3:j=pos+3:=aq;subst j3;rw[<-g3 hj];exact(h3 aq).2
 generalize(s.get! (pos+1)).toNat=b1 at *;generalize(s.get! (pos+2)).toNat=b2 at *;generalize(s.get! (pos+3)).toNat=b3 at *;generalize(s[pos]'h).toNat=b0 at *;unfold Lib.decodeN;rw[aN aq];split
 ·split
  ·exact key 2 aq (λ_=>aq) (λhh=>aq) (λhh=>aq) aq
  ·exact pk
 split
 ·split
  ·exact key 3 aq (λ_=>aq) (λhh=>aq) (λhh=>aq) aq
  ·exact pk
 split
 ·split
  ·exact key 4 aq (λ_=>aq) (λhh=>aq) (λhh=>aq) aq
  ·exact pk
 exact pk
def I3{a W:ay}(h:Ext a W){k:Nat}(hk:a.heap.size<=k)(s:aK)(pos:Nat):Ext a (W.iterAt k s pos):=
 h.grown (grownBy_putObj' W k (.stringIter s pos)) (λr e=>by cases e;exact hk)
def NoAny.skip{s:aK}{chars:List aZ}{i d:Nat}(h:Lib.NoAny s.data.toList chars i)(hc:vQ chars)(hd:∀(j:Nat)(hj:j<s.size),i<=j->j<i+d->128<=(s[j]'hj).toNat):Lib.NoAny s.data.toList chars (i+d):=by
 intro j b hj hb;by_cases hji:j<i
 ·exact h j b hji hb
 have hlt:j<s.size:=by obtain⟨hh,_⟩:=List.getElem?_eq_some_iff.1 hb;exact hh
 have hbe:b=s[j]'hlt:=by have:=Lib.data_getElem? s j hlt;rw[hb]at this;exact bV this
 have h1:=hd j hlt aq hj;rw[<-hbe]at h1;rw[Bool.eq_false_iff];intro hm;rw[List.contains_iff_mem]at hm;have:=hc b hm;omega
theorem Nl(s chars:aK)(h2:2<=chars.size)(hcs:chars.size<=1000000)(ha:vQ (bytes chars))(h8:s.size<=8)(w:ay):Rt 264 #[.string s,.string chars] w (.int .i64 (Lib.indexAny (bytes s) (bytes chars))):=by
 have hemp:chars.toList.isEmpty=false:=by
  rw[Lib.toList_data];cases h:chars.data.toList with
  |nil=>have:=Lib.size_eq chars;rw[h,bD]at this;omega
  |cons _ _=>rfl
 have hn1:((chars:Int)==1)=false:=bK.2 aq;have h8z:decide ((8:Int)<s)=false:=aT aq;have hS:=λW=>Tryz.strings_shouldUseASCIISet (s:Int) W
 rw[h8z]at hS;have HhS:=ah hS;have Hha:=ah ha;clear hS ha h8z;unfold Rt;go_in;go_wp2_with fail;refine ap (HhS.o _) ?_;rintro w1 rfl;go_wp2_with fail;go_loopg [9,10] s.size (λg _ _ wr=>∃wx:ay,wx=wr/\∃i:Nat,s.size=i+g/\Ext w1 wx/\wx.heap[w1.heap.size]?=some (.stringIter s i)/\Lib.NoAny s.data.toList chars.data.toList i)
 case atStart=>exact⟨_,rfl,0,aq,(aj w1).alloc _,World.iter_heap w1 s 0,Lib.NoAny.zero _ _⟩
 case round=>
  obtain⟨wx,rfl,i,hig,hx,hk,hno⟩:=hrel;have ag4:=ah hno;have N1:=ah hx;clear hno hx;have hgi:i<s.size->s.size-i=gk:=aq;have ajT:¬i<s.size->i=s.size:=aq;clear hig;by_cases hi:i<s.size
  ·have hgk:=ah (hgi hi);clear hgi ajT;by_cases hb:(s[i]'hi).toNat<128
   ·have hnx:=λty=>Lib.run_next_ascii_at (P:=prog) wx w1 s i ty hk hi hb
    have hk2:=Lib.iterAt_heap wx w1 s i (i+1) hk;have hx2:=I3 N1.o (aD _) s (i+1);generalize wx.iterAt w1 s (i+1)=W2 at hnx hk2 hx2;have hxl:=Lib.data_getElem? s i hi;generalize s[i]'hi=x at *;have hI:=λW=>Tryz.strings_IndexRune_ascii chars (x.toNat:Int) W aq aq
    have hback:((x.toNat:Int)).toNat.toUInt8=x:=aE;rw[hback]at hI;have hcon:=Lib.contains_iff_indexByte chars.data.toList x;generalize Lib.indexByte chars.data.toList x=q at *;have AZ:=ah hI;have ag7:=ah hk2;clear hI hk2;have DV:=ah hx2;have ao6:=ah hxl;clear hx2 hxl;cases hin:chars.data.toList.contains x
    ·rw[hin]at hcon;have hlt:¬((0:Int)<=q):=of_decide_eq_false hcon.symm;clear hcon;go_wp2_with fail;refine ap (AZ.o _) ?_;rintro w3 rfl;go_wp2_with fail;go_roundg (s.size-(i+1))
     case measure=>have:=hgk.o;omega
     case rel=>exact⟨_,rfl,i+1,aq,DV.o,ag7.o,ag4.o.succ ao6.o hin⟩
    ·rw[hin]at hcon;have hge:(0:Int)<=q:=of_decide_eq_true hcon.symm;clear hcon;go_wp2_with fail;refine ap (AZ.o _) ?_;rintro w3 rfl;go_wp2_with fail;go_ret;exact⟨by rw[show Lib.indexAny (bytes s) (bytes chars)=(i:Int)from Lib.indexAny_hit ag4.o ao6.o hin];rfl,DV.o⟩
   ·have hb2:128<=(s[i]'hi).toNat:=aq;have hnx:=λty=>Lib.run_next_any_at (P:=prog) wx w1 s i ty hk hi
    obtain⟨d1,d2⟩:=decode_high s i hi hb2;have d3:=decode_le s i;obtain⟨d4,d5⟩:=Ra s i hi hb2;have anW:=NoAny.skip ag4.o Hha.o d5;clear d5;generalize(Utf8.decode s i).1=r at *;generalize(Utf8.decode s i).2=dd at *;have hk2:=Lib.iterAt_heap wx w1 s i (i+dd) hk;have hx2:=I3 N1.o (aD _) s (i+dd);generalize wx.iterAt w1 s (i+dd)=W2 at hnx hk2 hx2;have hI:=λW=>C8 chars hcs Hha.o (r:Int) aq aq W
    have api:=ah anW;have AZ:=ah hI;clear anW hI;have ag7:=ah hk2;have DV:=ah hx2;clear hk2 hx2;go_wp2_with fail;refine ap (AZ.o _) ?_;intro w3 hx3;have kg:=ah hx3;clear hx3;go_wp2_with fail;go_roundg (s.size-(i+dd))
    case measure=>have:=hgk.o;omega
    case rel=>exact⟨_,rfl,i+dd,aq,DV.o.trans kg.o,(kg.o.block (aB.1 ag7.o).1).trans ag7.o,api.o⟩
  ·have hie:i=s.size:=ajT hi;have hnx:=λty=>Lib.run_next_end_at (P:=prog) wx w1 s i ty hk hi
   have Hhk:=ah hk;have att:=ah hie;clear hk hie hgi ajT;go_wp2_with fail;go_ret;exact⟨by rw[show Lib.indexAny (bytes s) (bytes chars)= -1 from Lib.indexAny_none (by rw[<-Lib.size_eq,<-att.o];exact ag4.o)];rfl,N1.o⟩
theorem vv(s chars:aK)(h2:2<=chars.size)(hcs:chars.size<=1000000)(ha:vQ (bytes chars))(hs:s.size<=4000000000)(w:ay):Rt 211 #[.string s,.string chars] w (.bool (Lib.containsAny (bytes s) (bytes chars))):=by
 have hI:∀W,Rt 264 #[.string s,.string chars] W (.int .i64 (Lib.indexAny (bytes s) (bytes chars))):=by
  intro W;by_cases h8:s.size<=8
  ·exact Nl s chars h2 hcs ha h8 W
  ·refine(Tryz.strings_IndexAny_long ((by exact(zero_of_info (P:=prog) (v:= .agg (Array.replicate 256 (.bool false))) (n:=256) ax).1)) s chars W h2 aq aq aq (λj b hb=>ha b (List.mem_of_getElem? hb))).mono ?_
   ·rintro e w' ⟨rfl,rfl⟩;exact⟨rfl,((aj _).alloc _).alloc _⟩
 unfold Lib.containsAny;generalize Lib.indexAny (bytes s) (bytes chars)=q at *;by_cases hq:(0:Int)<=q
 all_goals
  have AZ:=ah hI;clear hI;unfold Rt;go_in;go_wp2_with fail;refine ap (AZ.o _) ?_;intro w1 hx;go_wp2_with fail;go_ret;exact⟨by simp[hq],hx⟩
end gZ
def pM(h:zP:=by go_wp2_with fail;refine ap (VD.o _) ?_;rintro w3 rfl;go_wp2_with fail;go_ret3;exact⟨by rw[Si.o];rfl,N1.o⟩):zP:=h
namespace gZ
def adP:vQ (bytes ⟨#[91,93]⟩):=by intro b hb;simp[bytes]at hb;rcases hb with rfl|rfl<;>decide
def Jl:vQ (bytes ⟨#[32,9,13]⟩):=by intro b hb;simp[bytes]at hb;rcases hb with rfl|rfl|rfl<;>decide
theorem B8(c:aZ)(w:ay):Rt 212 #[.string ⟨#[32,9,13]⟩,.int .i32 c.toNat] w (.bool (UA c)):=by
 have hB:UA c=(bytes ⟨#[32,9,13]⟩).contains c:=by unfold UA vP;rw[bB];simp[bytes,<-UInt8.toNat_inj,or_assoc]
 have hlt:=c.toNat_lt;by_cases h:c.toNat<128
 ·refine(Tryz.strings_ContainsRune_ascii ⟨#[32,9,13]⟩ (c.toNat:Int) w aq aq).mono ?_;rintro e w' ⟨rfl,rfl⟩;rw[show((c.toNat:Int)).toNat.toUInt8=c from aE,<-Lib.contains_iff_indexByte,hB];exact kq
 ·have hI:=λW=>C8 ⟨#[32,9,13]⟩ az Jl (c.toNat:Int) aq aq W
  have hF:UA c=false:=by rw[hB,Bool.eq_false_iff];intro hm;rw[List.contains_iff_mem]at hm;have:=Jl c hm;omega
  rw[hF];have AZ:=ah hI;clear hI hB hF;unfold Rt;go_in;go_wp2_with fail;refine ap (AZ.o _) ?_;intro w1 hx;go_wp2_with fail;go_ret;exact⟨rfl,hx⟩
def zo(l:List aZ):List aZ×Bool:=
 if Lib.hasPrefix l [91]=false then([],false)
 else if Lib.hasSuffix (Lib.trimPrefix l [91]) [93]=false then([],false)
 else if Lib.trimSuffix (Lib.trimPrefix l [91]) [93]=[]then([],false)
 else if Lib.containsAny (Lib.trimSuffix (Lib.trimPrefix l [91]) [93]) [91,93]=true then([],false)
 else(Lib.trimSuffix (Lib.trimPrefix l [91]) [93],true)
def GV(l p:List aZ):(Lib.trimPrefix l p).length<=l.length:=od
def amR(r:List aZ×Bool):aA:= .tuple #[.string (str r.1),.bool r.2]
theorem KE(s:aK)(hs:s.size<=2000000000)(w:ay):Rt 169 #[.string s] w (amR (zo (bytes s))):=by
 have hP:=λW=>Tryz.strings_CutPrefix s ⟨#[91]⟩ W
 have hl1:=GV (bytes s) [91];rw[eD]at hl1;obtain⟨p,hp⟩:∃p,p=Lib.trimPrefix (bytes s) [91]:=⟨_,rfl⟩;have hS:=λW=>Tryz.strings_CutSuffix (str p) ⟨#[93]⟩ W (by rw[kI,hp];omega)
 obtain⟨q,hq⟩:∃q,q=Lib.trimSuffix p [93]:=⟨_,rfl⟩;have hl2:=nH p [93];have hA:=λW=>vv (str q) ⟨#[91,93]⟩ az az adP (by rw[kI,hq];rw[hp]at hl2⊢;omega) W
 have hL:zo (bytes s)=if Lib.hasPrefix (bytes s) [91]=false then([],false)else if Lib.hasSuffix p [93]=false then([],false)else if q=[]then([],false)else if Lib.containsAny q [91,93]=true then([],false)else(q,true):=by rw[hq,hp];rfl
 rw[show s.data.toList=bytes s from rfl,show(⟨#[91]⟩:aK).data.toList=[91]from rfl,<-hp]at hP;rw[show(str p).data.toList=p from aE,show(⟨#[93]⟩:aK).data.toList=[93]from rfl,<-hq]at hS;rw[show bytes (str q)=q from by simp[bytes],show bytes (⟨#[91,93]⟩:aK)=[91,93]from rfl]at hA;rw[hL];generalize Lib.hasPrefix (bytes s) [91]=b1 at *;generalize Lib.hasSuffix p [93]=b2 at *;generalize Lib.containsAny q [91,93]=b3 at *;clear hl1 hl2 hL;have VD:=ah hP;have HhS:=ah hS;clear hP hS;have pQ:=ah hA;have Hhp:=ah hp;have Hhq:=ah hq;clear hA hp hq;by_cases hq0:q=[]
 ·subst hq0;cases b1<;>cases b2
  all_goals
   unfold Rt;go_in;go_wp2_with fail;refine ap (VD.o _) ?_;rintro w1 rfl;go_wp2_with fail;refine ap (HhS.o _) ?_;rintro w1 rfl;go_wp2_with fail;go_ret2;exact⟨rfl,aj _⟩
 ·have hn:(!q.isEmpty)=true:=by
   cases q with
   |nil=>exact absurd rfl hq0
   |cons x r=>rfl
  have hn2:q.isEmpty=false:=by
   cases q with
   |nil=>exact absurd rfl hq0
   |cons x r=>rfl
  cases b1<;>cases b2
  case true.true=>
   rw[aN aE,aN aE,aN hq0];cases b3
   all_goals
    unfold Rt;go_in;go_wp2_with fail;refine ap (VD.o _) ?_;rintro w1 rfl;go_wp2_with fail;refine ap (HhS.o _) ?_;rintro w1 rfl;go_wp2_with fail;refine ap (pQ.o _) ?_;intro w2 hx;go_wp2_with fail;go_ret2;exact⟨rfl,hx⟩
  all_goals
   unfold Rt;go_in;go_wp2_with fail;refine ap (VD.o _) ?_;rintro w1 rfl;go_wp2_with fail;refine ap (HhS.o _) ?_;rintro w1 rfl;go_wp2_with fail;go_ret2;exact⟨rfl,aj _⟩
def Wq(l:List aZ):List aZ:=(l.reverse.dropWhile UA).reverse
def vC(l:List aZ):List aZ×List aZ×Bool:=
 if l.contains 61=false then([],[],false)
 else if Lib.hasPrefix l [91]=true then([],[],false)
 else if Wq (hd1 61 l)=[]then([],[],false)
 else if Lib.containsAny (Wq (hd1 61 l)) [32,9,13]=true then([],[],false)
 else(Wq (hd1 61 l),yC (tl1 61 l),true)
def agQ(r:List aZ×List aZ×Bool):aA:= .tuple #[.string (str r.1),.string (str r.2.1),.bool r.2.2]
theorem E5(s:aK)(hs:s.size<=2000000000)(w:ay):Rt 170 #[.string s] w (agQ (vC (bytes s))):=by
 have hC:=λW=>A1 s 61 cH W
 have hP:=λW=>Tryz.strings_HasPrefix s ⟨#[91]⟩ W
 rw[show s.data.toList=bytes s from rfl,show(⟨#[91]⟩:aK).data.toList=[91]from rfl]at hP;obtain⟨k0,hk0⟩:∃k0,k0=hd1 61 (bytes s):=⟨_,rfl⟩;obtain⟨v0,hv0⟩:∃v0,v0=tl1 61 (bytes s):=⟨_,rfl⟩;obtain⟨k,hk⟩:∃k,k=Wq k0:=⟨_,rfl⟩;have hkl:k0.length<=2000000000:=by rw[hk0];have:=Gw 61 (bytes s);rw[eD]at this;omega
 have hvl:v0.length<=2000000000:=by rw[hv0,rA,eD];omega
 have hT:=λW=>Ch (str v0) eV W
 rw[show bytes (str v0)=v0 from by simp[bytes]]at hT;have hL:vC (bytes s)=if (bytes s).contains 61=false then([],[],false)else if Lib.hasPrefix (bytes s) [91]=true then([],[],false)else if k=[]then([],[],false)
  else if Lib.containsAny k [32,9,13]=true then([],[],false)else(k,yC v0,true):=by
  rw[hk,hv0,hk0];rfl
 rw[hL];unfold mH at hC;rw[<-hk0,<-hv0]at hC;have hR:=λ(c:aZ) W=>B8 c W
 have hA:∀(t:aK),t.size<=2000000000->∀W,Calls prog 211 #[.string t,.string ⟨#[32,9,13]⟩] W λe w'=>e= .returned (.bool (Lib.containsAny (bytes t) [32,9,13]))/\Ext W w':=λt ht W=>vv t ⟨#[32,9,13]⟩ az az Jl aq W
 generalize hb1:(bytes s).contains 61=b1 at *;generalize hb2:Lib.hasPrefix (bytes s) [91]=b2 at *;obtain⟨R,hRR⟩:∃R,R=k0.reverse.dropWhile UA:=⟨_,rfl⟩;have hkR:k=R.reverse:=by rw[hk,hRR];rfl
 clear hL hb1 hb2 hk0 hv0 hk;obtain⟨res,hres⟩:∃res,res=agQ (if b1=false then([],[],false)else if b2=true then([],[],false)else if k=[]then([],[],false)else if Lib.containsAny k [32,9,13]=true then([],[],false)else(k,yC v0,true)):=⟨_,rfl⟩;rw[<-hres];have XL:=ah hres;have VD:=ah hP;clear hres hP;have yN:=ah hC;have vV:=ah hT;clear hC hT;have A8:=ah hR;have pQ:=ah hA;clear hR hA;have aps:=ah hkR;have atL:=ah hRR;clear hkR hRR;unfold Rt;go_in;go_wp2_with fail;refine ap (yN.o _) ?_;intro w1 hx1;have as0:=ah hx1;clear hx1;go_wp2_with fail;go_loopw [2] (λu wr=>∃W:ay,W=wr/\∃t:aK,u= .string t/\t.size<=k0.length/\(bytes t).reverse.dropWhile UA=R/\Ext w W) (λu _=>Mr u)
 case atStart=>exact⟨_,rfl,str k0,rfl,aD _,by rw[atL.o,show bytes (str k0)=k0 from by simp[bytes]],as0.o⟩
 case round=>
  obtain⟨W,rfl,t,rfl,hts,htr,hx⟩:=hrel;have N1:=ah hx;clear hx;by_cases hp:0<t.size
  ·have hlt:t.size-1<t.size:=aq;have hc:=A8.o (t[t.size-1]'hlt);have hsz:=ext_size t 0 (t.size-1) aq;have hsn:=Jg t hp;have hw32:wrap32 ((t[t.size-1]'hlt).toNat:Int)=((t[t.size-1]'hlt).toNat:Int):=by have:=(t[t.size-1]'hlt).toNat_lt;unfold wrap32;first|omega|(split<;>omega)
   have zR:(bytes t).reverse=t[t.size-1]'hlt::(bytes (t.extract 0 (t.size-1))).reverse:=by rw[hsn,List.reverse_append];rfl
   rw[zR]at htr;have hne:t.toList.isEmpty=false:=by
    rw[Lib.toList_data];cases h:t.data.toList with
    |nil=>have:=Lib.size_eq t;rw[h,bD]at this;omega
    |cons _ _=>rfl
   cases hb:UA (t[t.size-1]'hlt)
   all_goals
    rw[hb]at hc
   ·rw[List.dropWhile_cons_of_neg (by rw[hb];simp),<-zR]at htr;have hkt:k=bytes t:=by rw[aps.o,<-htr,List.reverse_reverse]
    have hk0:k≠[]:=λe=>by rw[e]at hkt;have:=eD t;rw[<-hkt]at this;simp at this;omega
    have hAt:=pQ.o t aq;rw[<-hkt]at hAt;have hrs:=XL.o;rw[aN hk0]at hrs;have htk:Value.string t=Value.string (str k):=by rw[hkt,nY]
    generalize Lib.containsAny k [32,9,13]=b3 at *;have Jt:=ah htk;have aAu:=ah hkt;clear htk hkt;have Si:=ah hrs;have apJ:=ah hAt;clear hrs hAt;have Hhb:=ah hb;have EW:=ah hc;clear hb hc;have aaI:=ah htr;have KG:=ah hsz;clear htr hsz;have aef:=ah hsn;have akV:=ah zR;clear hsn zR hk0;cases b1<;>cases b2
    case true.false=>
     cases b3
     ·go_wp2_with fail;refine ap (EW.o _) ?_;intro w2 hx2;have DV:=ah hx2;clear hx2;go_wp2_with fail;refine ap (VD.o _) ?_;rintro w3 rfl;go_wp2_with fail;refine ap (apJ.o _) ?_;intro w4 hx4;have akR:=ah hx4;clear hx4;go_wp2_with fail;refine ap (vV.o _) ?_;rintro w5 rfl;go_wp2_with fail;go_ret3;exact⟨by rw[Si.o,aN aE,aN aE,aN aE];show Ending.returned (.tuple #[.string t,_,_])=_;rw[Jt.o];rfl,N1.o.trans (DV.o.trans akR.o)⟩
     ·go_wp2_with fail;refine ap (EW.o _) ?_;intro w2 hx2;have DV:=ah hx2;clear hx2;go_wp2_with fail;refine ap (VD.o _) ?_;rintro w3 rfl;go_wp2_with fail;refine ap (apJ.o _) ?_;intro w4 hx4;have akR:=ah hx4;clear hx4;go_wp2_with fail;go_ret3;exact⟨by rw[Si.o];rfl,N1.o.trans (DV.o.trans akR.o)⟩
    case true.true=>go_wp2_with fail;refine ap (EW.o _) ?_;intro w2 hx2;have DV:=ah hx2;clear hx2;go_wp2_with fail;refine ap (VD.o _) ?_;rintro w3 rfl;go_wp2_with fail;go_ret3;exact⟨by rw[Si.o];rfl,N1.o.trans DV.o⟩
    all_goals
     go_wp2_with fail;refine ap (EW.o _) ?_;intro w2 hx2;have DV:=ah hx2;clear hx2;go_wp2_with fail;go_ret3;exact⟨by rw[Si.o];rfl,N1.o.trans DV.o⟩
   ·rw[i7 hb]at htr;have Hhb:=ah hb;have EW:=ah hc;clear hb hc;have aaI:=ah htr;have KG:=ah hsz;clear htr hsz;have aef:=ah hsn;have akV:=ah zR;clear hsn zR;go_wp2_with fail;refine ap (EW.o _) ?_;intro w2 hx2;have DV:=ah hx2;clear hx2;go_wp2_with fail;go_roundw
    case rel=>exact⟨_,rfl,_,rfl,by rw[KG.o];omega,aaI.o,N1.o.trans DV.o⟩
    case measure=>show(t.extract 0 (t.size-1)).size<t.size;rw[KG.o];omega
  ·have hz:bytes t=[]:=bG dc;have hkt:k=[]:=by rw[aps.o,<-htr,hz];rfl
   have ht:t=⟨#[]⟩:=bytes_inj hz;subst ht;have hrs:res=agQ ([],[],false):=by rw[XL.o,hkt];cases b1<;>cases b2<;>rfl
   have Si:=ah hrs;clear hrs hz hkt htr hts hp;cases b1<;>cases b2
   case true.false=>exact pM
   case true.true=>exact pM
   all_goals
    go_wp2_with fail;go_ret3;exact⟨by rw[Si.o];rfl,N1.o⟩
abbrev As:=Nat×List aZ×List aZ×List aZ
abbrev Nt:=Nat×Nat×List aZ
def FL(fn:aK)(x:As):List aA:= [.string fn,.int .i64 x.1,.string (str x.2.1),.string (str x.2.2.1),.string (str x.2.2.2)]
def BA(fn:aK)(x:Nt):List aA:= [.string fn,.int .i64 x.1,.int .i64 x.2.1,.string (str x.2.2)]
def LW(fn:aK)(x:As):(FL fn x).length=5:=rfl
def LQ(fn:aK)(x:Nt):(BA fn x).length=4:=rfl
def aad(fn:aK)(s:As):∀u∈FL fn s,u.oneCell'=true:=by intro u hu;simp[FL]at hu;rcases hu with rfl|rfl|rfl|rfl|rfl<;>rfl
def ZW(fn:aK)(s:Nt):∀u∈BA fn s,u.oneCell'=true:=by intro u hu;simp[BA]at hu;rcases hu with rfl|rfl|rfl|rfl<;>rfl
theorem acM:(Tryz.prog.info? 148).map (λi=>(i.zero,i.size,i.bytes))=some (some (.agg #[.string ⟨#[]⟩,.int .i64 0,.string ⟨#[]⟩,.string ⟨#[]⟩,.string ⟨#[]⟩]),5,72):=ax
theorem acL:(Tryz.prog.info? 45).map (λi=>(i.zero,i.size,i.bytes))=some (some (.agg #[.string ⟨#[]⟩,.int .i64 0,.int .i64 0,.string ⟨#[]⟩]),4,48):=ax
def own_ne{W:ay}{b1 b2 e1 e2 n1 n2 k1 k2:Nat}{u1 u2:aA}{z1 z2:List aA}(h1:W.ownsRow b1 e1 n1 u1 k1 z1)(h2:W.ownsRow b2 e2 n2 u2 k2 z2)(hn:e1≠e2):∀j,u1.ownBlock=some j->u2.ownBlock≠some j:=by
 intro j hj hj2;rcases h1.2 with⟨rfl,_⟩|⟨g,cap,cur,rfl,_,hh,_⟩
 ·simp[Value.ownBlock]at hj
 rcases h2.2 with⟨rfl,_⟩|⟨g2,cap2,asB,rfl,_,hh2,_⟩
 ·simp[Value.ownBlock]at hj2
 simp only[Value.ownBlock,dw]at hj hj2;subst hj hj2;rw[hh]at hh2;simp at hh2;exact hn hh2.2
theorem E6{W:ay}{N F B:Nat}{fn:aK}{u1:aA}{ns:List Nt}(n e:Nat)(t:List aZ)(hb:Boxed W N 38 u1)(hf:W.cell? F=some (.string fn))(ho:W.ownsRow B 45 4 u1 ns (ns.flatMap (BA fn)))(hN:N<B)(hB:B<=W.heap.size)(hl:ns.length<=1000000):Calls prog 115 #[.int .i64 n,.int .i64 e,.string (str t),.pointer (some N),.pointer (some F)] W λx w'=>x= .returned (.tuple #[])/\∃Te,Keep (λk=>k<W.heap.size/\k≠N/\u1.ownBlock≠some k) W w'/\Boxed w' N 38 Te/\w'.ownsRow B 45 4 Te (ns++[(n,e,t)]).length ((ns++[(n,e,t)]).flatMap (BA fn)):=by
 obtain⟨au,cu,rfl⟩:=bU ho;have c1:=hb.cell;have f1:=hb.frozen;have hlo:=ho.lt;have hbl:=hb.lt;obtain⟨o,ho1⟩:∃o,o=Obj.cells #[.string fn,.int .i64 n,.int .i64 e,.string (str t)] 45:=⟨_,rfl⟩;have HOA:=ah (dM ho o);have HB:=ah hb;have KH:=ah hlo;have Hho:=ah ho;clear hlo ho hb;go_in
 go_wp2_with(at_builtin
             refine iX rfl (.tmp 8) (.tmp 15) _ rfl underlying38 acL rfl az (LQ fn) (ZW fn) B _ _ ns [(n,e,t)] rfl rfl (by rw[ho1]at HOA;exact HOA.o) (gI (LQ fn) W [(n,e,t)] _ _ rfl) bp az bp ?_;intro EN EJ w5 lM hg5;have hnr:∀k,k<B->(some k:Option Nat)≠Value.ownBlock (.slice au ns cu):=λk hk e=>by have:=(KH.o k e.symm).1;omega
             have hb5:Boxed w5 N 38 _:=(hg5.block N bp (hnr N hN)).trans (HB.o.alloc _);have c5:=hb5.cell;have f5:=hb5.frozen;have ay0:=hb5.lt;have E0:=ah hb5;have EY:=ah lM;have JV:=ah hg5;clear lM hg5 hb5 hnr)
 go_end0;have hsz:=JV.o.size;rw[aR]at hsz;refine⟨rfl,_,⟨JV.o.os,JV.o.tape,JV.o.output,by rw[jq];omega,λk hk=>(aX _ _ _ k hk.2.1).trans ((JV.o.block k ev (λe=>hk.2.2 e.symm)).trans (((aj W).alloc _).block hk.1))⟩,E0.o.set _,?_⟩;rw[aH];exact ownsRow_setCell_below EY.o hN _
structure US where
 sec:List aZ
 inn:Bool
 al:List As
 nl:List Nt
def BO(N F:Nat):aA:= .func (.func 115) #[] #[.pointer (some N),.pointer (some F)]
structure FT(w0:ay)(F N R B0:Nat)(fn:aK)(st:US)(u1 u2:aA)(W:ay):Prop where
 ext:Ext w0 W
 f0:w0.heap.size<=F
 n0:w0.heap.size<=N
 r0:w0.heap.size<=R
 fn':F≠N
 fr:F≠R
 nr:N≠R
 fb:F<B0
 nb:N<B0
 rb:R<B0
 bs:B0<=W.heap.size
 file:W.cell? F=some (.string fn)
 notes:Boxed W N 38 u1
 rd:W.heap[R]?=some (.cells #[.string fn,.string (str st.sec),.bool st.inn,u2,BO N F] 211 (0,0))
 Kg:W.ownsRow B0 45 4 u1 st.nl (st.nl.flatMap (BA fn))
 CZ:W.ownsRow B0 148 5 u2 st.al (st.al.flatMap (FL fn))
abbrev Vu(N R B0:Nat)(W W':ay):Prop:=Keep (λk=>k<B0/\k≠N/\k≠R) W W'
section
variable {w0 W:ay} {F N R B0:Nat} {fn:aK} {st:US} {u1 u2:aA}
def FT.c(h:FT w0 F N R B0 fn st u1 u2 W):W.cell? R=some (.string fn)/\W.cell? ⟨R,1,none⟩=some (.string (str st.sec))/\W.cell? ⟨R,2,none⟩=some (.bool st.inn)/\W.cell? ⟨R,3,none⟩=some u2/\W.cell? ⟨R,4,none⟩=some (BO N F):=by simp[World.cell?,h.rd]
def FT.f(h:FT w0 F N R B0 fn st u1 u2 W)(j:Nat):W.frozen? ⟨R,j,none⟩=false:=by simp[World.frozen?,h.rd]
def FT.lt(h:FT w0 F N R B0 fn st u1 u2 W):R<W.heap.size:=(aB.1 h.rd).1
def FT.flt(h:FT w0 F N R B0 fn st u1 u2 W):F<W.heap.size:=aY _ _ h.file
def FT.ext'{W':ay}(h:FT w0 F N R B0 fn st u1 u2 W)(hx:Ext W W'):FT w0 F N R B0 fn st u1 u2 W':=
 ⟨h.ext.trans hx,h.f0,h.n0,h.r0,h.fn',h.fr,h.nr,h.fb,h.nb,h.rb,aL h.bs hx.size,hx.cell h.file,(hx.block h.notes.lt).trans h.notes,(hx.block h.lt).trans h.rd,
  fO (S:=λb=>b<W.heap.size) h.Kg (Keep.of_below hx (λ_ h=>h)) (λb hb=>(h.Kg.lt b hb).2),fO (S:=λb=>b<W.heap.size) h.CZ (Keep.of_below hx (λ_ h=>h)) (λb hb=>(h.CZ.lt b hb).2)⟩
def Vu.ext{W':ay}(hb:B0<=W.heap.size)(hx:Ext W W'):Vu N R B0 W W':=Keep.of_below hx (λk hk=>aq)
def FT.amQ(h:FT w0 F N R B0 fn st u1 u2 W)(j:Nat)(v:aA)(sec:List aZ)(inn:Bool)(he:(#[.string fn,.string (str st.sec),.bool st.inn,u2,BO N F]:Array aA).setIfInBounds j v= #[.string fn,.string (str sec),.bool inn,u2,BO N F]):FT w0 F N R B0 fn ⟨sec,inn,st.al,st.nl⟩ u1 u2 (W.setCell ⟨R,j,none⟩ v)/\Vu N R B0 W (W.setCell ⟨R,j,none⟩ v):=by
 refine⟨⟨h.ext.setCell h.r0 _,h.f0,h.n0,h.r0,h.fn',h.fr,h.nr,h.fb,h.nb,h.rb,by rw[jq];exact h.bs,?_,(aX _ _ _ N h.nr).trans h.notes,?_,ownsRow_setCell_below h.Kg h.rb _,ownsRow_setCell_below h.CZ h.rb _⟩,Keep.setCell W (λhh=>hh.2.2 rfl) _⟩
 ·exact(eG (a:=⟨F,0,none⟩) (aX _ _ _ F h.fr)).trans h.file
 ·obtain⟨hlt,hk⟩:=aB.1 h.rd;show(W.heap.modify R _)[R]?=_;exact rx
def FT.note{W':ay}{Te:aA}{x:Nt}(h:FT w0 F N R B0 fn st u1 u2 W)(hk:Keep (λk=>k<W.heap.size/\k≠N/\u1.ownBlock≠some k) W W')(hb:Boxed W' N 38 Te)(ho:W'.ownsRow B0 45 4 Te (st.nl++[x]).length ((st.nl++[x]).flatMap (BA fn))):FT w0 F N R B0 fn ⟨st.sec,st.inn,st.al,st.nl++[x]⟩ Te u2 W'/\Vu N R B0 W W':=by
 have hlo:=h.Kg.lt;have hnr:∀k,k<B0->u1.ownBlock≠some k:=λk hk e=>by have:=(hlo k e).1;omega
 have hbs:=h.bs;refine⟨⟨?_,h.f0,h.n0,h.r0,h.fn',h.fr,h.nr,h.fb,h.nb,h.rb,aL h.bs hk.size,(hk.cell (p:=⟨F,0,none⟩) ⟨h.flt,h.fn',hnr F h.fb⟩).trans h.file,hb,(hk.block R ⟨h.lt,λe=>h.nr e.symm,hnr R h.rb⟩).trans h.rd,ho,
  fO h.CZ hk (λb hb=>⟨(h.CZ.lt b hb).2,λe=>by have:=(h.CZ.lt b hb).1;have:=h.nb;omega,λe=>own_ne h.Kg h.CZ az b e hb⟩)⟩,hk.mono (λk hk=>⟨aq,hk.2.1,hnr k hk.1⟩)⟩
 exact Below.trans h.ext (hk.below (λk hk=>by have:=h.ext.size;have h1:=h.n0;have h2:=h.nb;have h3:=h.f0;have h4:=h.fb;exact⟨aq,aq,hnr k aq⟩))
def FT.more{W':ay}{u2':aA}{x:As}(h:FT w0 F N R B0 fn st u1 u2 W)(hg:W.grownBy W' u2.ownBlock)(ho:W'.ownsRow B0 148 5 u2' (st.al++[x]).length ((st.al++[x]).flatMap (FL fn))):FT w0 F N R B0 fn ⟨st.sec,st.inn,st.al++[x],st.nl⟩ u1 u2' (W'.setCell ⟨R,3,none⟩ u2')/\Vu N R B0 W (W'.setCell ⟨R,3,none⟩ u2'):=by
 have hlo:=h.CZ.lt;have hnr:∀k,k<B0->some k≠u2.ownBlock:=λk hk e=>by have:=(hlo k e.symm).1;omega
 have hbs:=h.bs;have hrd:W'.heap[R]?=_:=(hg.block R h.lt (hnr _ h.rb)).trans h.rd;refine⟨⟨(h.ext.grown hg (λk e=>by have:=(hlo k e).1;have:=h.n0;have:=h.nb;omega)).setCell h.r0 _,h.f0,h.n0,h.r0,h.fn',h.fr,h.nr,h.fb,h.nb,h.rb,by rw[jq];exact aL h.bs hg.size,?_,(aX _ _ _ N h.nr).trans ((hg.block N h.notes.lt (hnr _ h.nb)).trans h.notes),?_,?_,ownsRow_setCell_below ho h.rb _⟩,?_⟩
 ·exact(eG (a:=⟨F,0,none⟩) ((aX _ _ _ F h.fr).trans (hg.block F h.flt (hnr _ h.fb)))).trans h.file
 ·obtain⟨hlt,hk⟩:=aB.1 hrd;show(W'.heap.modify R _)[R]?=_;rw[dL db,Array.getElem_modify_self,hk]
  rfl
 ·refine ownsRow_setCell_below (World.ownsRow.kept h.Kg hg ?_) h.rb _;cases hu:u1.ownBlock with
  |none=>exact vq
  |some k=>exact .inr λe=>own_ne h.Kg h.CZ az k hu e.symm
 ·exact⟨hg.os,hg.tape,hg.output,by rw[jq];exact hg.size,λk hk=>(aX _ _ _ k hk.2.2).trans (hg.block k aq (hnr k hk.1))⟩
end
def ni(st:US)(x:LN):US:=
 if (zo x.2).2=true then⟨(zo x.2).1,true,st.al,st.nl⟩
 else if (vC x.2).2.2=true/\st.inn=true then⟨st.sec,st.inn,st.al++[(x.1,st.sec,(vC x.2).1,(vC x.2).2.1)],st.nl⟩
 else⟨st.sec,st.inn,st.al,st.nl++[(x.1,130,x.2.take 60)]⟩
def acB(x:LN):aA:= .agg #[.int .i64 x.1,.string (str x.2)]
theorem Us{w0 W:ay}{F N R B0:Nat}{fn:aK}{st:US}{u1 u2:aA}(h:FT w0 F N R B0 fn st u1 u2 W)(x:LN)(hx:x.2.length<=2000000000)(hn:st.nl.length<=1000000)(ha:st.al.length<=1000000):Calls prog 118 #[.pointer (some R),acB x] W λe w'=>e= .returned (.tuple #[])/\∃Te u2',FT w0 F N R B0 fn (ni st x) Te u2' w'/\Vu N R B0 W w':=by
 have hSc:=λW=>KE (str x.2) (by rw[kI];exact hx) W
 have hAs:=λW=>E5 (str x.2) (by rw[kI];exact hx) W
 rw[show bytes (str x.2)=x.2 from by simp[bytes]]at hSc hAs;obtain⟨n,t⟩:=x;obtain⟨sc,hsc⟩:∃sc,sc=zo t:=⟨_,rfl⟩;obtain⟨ag,hag⟩:∃ag,ag=vC t:=⟨_,rfl⟩;have hst:ni st (n,t)=if sc.2=true then⟨sc.1,true,st.al,st.nl⟩else if ag.2.2=true/\st.inn=true then⟨st.sec,st.inn,st.al++[(n,st.sec,ag.1,ag.2.1)],st.nl⟩else⟨st.sec,st.inn,st.al,st.nl++[(n,130,t.take 60)]⟩:=by rw[hsc,hag];rfl
 rw[hst];dsimp only at hSc hAs hx;rw[<-hsc]at hSc;rw[<-hag]at hAs;unfold amR at hSc;unfold agQ at hAs;obtain⟨s1,s2⟩:=sc;obtain⟨a1,a2,a3⟩:=ag;obtain⟨sec,inn,al,nl⟩:=st;dsimp only at *;unfold acB;have hbx:Boxed (W.alloc (.cells #[.int .i64 n,.string (str t)] 261)) W 261 (.int .i64 n)\/True:= .inr trivial;clear hbx;have q0:(W.alloc (.cells #[.int .i64 n,.string (str t)] 261)).cell? W=some (.int .i64 n):=oC W [.int .i64 n,.string (str t)] _ 0 _ rfl;have q1:(W.alloc (.cells #[.int .i64 n,.string (str t)] 261)).cell? ⟨W,1,none⟩=some (.string (str t)):=oC W [.int .i64 n,.string (str t)] _ 1 _ rfl;have hS:=h.ext' ((aj W).alloc (.cells #[.int .i64 n,.string (str t)] 261));have hKA:Vu N R B0 W _:=Vu.ext h.bs ((aj W).alloc (.cells #[.int .i64 n,.string (str t)] 261));have HKA:=ah hKA;have HS:=ah hS;have atI:=ah hSc;have N4:=ah hAs;clear hS hKA hsc hag hst h hSc hAs;go_in;go_wp2_with fail;generalize hW1:W.alloc (.cells #[.int .i64 n,.string (str t)] 261)=W1 at *;clear hW1;generalize W.heap.size=lb at *;refine ap (atI.o _) ?_;intro w2 hx2;have q02:=hx2.cell q0;have q12:=hx2.cell q1;have jm:=ah hx2;have HS2:=ah (HS.o.ext' hx2);have HK2:=ah (HKA.o.trans (Vu.ext HS.o.bs hx2));clear hx2 q0 q1;cases s2
 case true=>have hr1:=HS2.o.amQ 1 (.string (str s1)) s1 inn rfl;have hr2:=hr1.1.amQ 2 (.bool true) s1 true rfl;have HR:=ah (ak hr2.1 (HK2.o.trans (hr1.2.trans hr2.2)));obtain⟨r0,r1,r2,r3,r4⟩:=HS2.o.c;have rf1:=HS2.o.f 1;have rf2:=HS2.o.f 2;have rlt:=HS2.o.lt;clear hr1 hr2;go_wp2_with fail;refine aM (bH rfl _ _ _) rfl ?_;exact⟨rfl,⟨_,_,HR.o.1⟩,HR.o.2⟩
 case false=>
  go_wp2_with fail;refine ap (N4.o _) ?_;intro w3 hx3;have q03:=hx3.cell q02;have q13:=hx3.cell q12;have kg:=ah hx3;have wZ:=ah (HS2.o.ext' hx3);have HK3:=ah (HK2.o.trans (Vu.ext HS2.o.bs hx3));clear hx3 q02 q12;obtain⟨r0,r1,r2,r3,r4⟩:=wZ.o.c;have rf3:=wZ.o.f 3;have rlt:=wZ.o.lt;dsimp only at r1 r2;unfold BO at r4;obtain⟨k,hk⟩:∃k,k=min t.length 60:=⟨_,rfl⟩;have hmz:min (t:Int) 60=(k:Int):=aq;have hkl:k<=t:=aq;have hkz:(k:Int)<=t:=aq;have hex:(str t).extract 0 k=str (t.take 60):=bytes_inj (by
   rw[mI,List.drop_zero,Nat.sub_zero,show bytes (str t)=t from by simp[bytes],show bytes (str (t.take 60))=t.take 60 from by simp[bytes],hk];by_cases hh:t.length<=60
   ·rw[dI hh,dY (aD _),dY hh]
   ·rw[Nat.min_eq_right aq])
  have Hhk:=ah hk;clear hk;cases a3<;>cases inn
  case true.true=>
   obtain⟨au2,cu2,rfl⟩:=bU wZ.o.CZ;dsimp only at r3;have r3o:=λo=>((aj w3).alloc o).cell r3
   have hlo2:=wZ.o.CZ.lt;obtain⟨o,ho⟩:∃o,o=Obj.cells #[.string fn,.int .i64 n,.string (str sec),.string (str a1),.string (str a2)] 148:=⟨_,rfl⟩;have Cn:=ah (wZ.o.ext' (((aj w3).alloc o).drew));have aut:=ah (HK3.o.trans (Vu.ext wZ.o.bs (((aj w3).alloc o).drew)));subst ho;have apn:=ah hlo2;clear hlo2 r4;go_wp2_with fail
   (go_region_law
    ((refine pI rfl (.tmp 57) (.tmp 71) _ rfl underlying64 acM rfl az (LW fn) (aad fn) B0 _ _ al [(n,sec,a1,a2)] (by rfl) (by rfl) (by exact Cn.o.CZ) (Rd.ext ((aj _).drew) (gI (LW fn) w3 [(n,sec,a1,a2)] _ _ rfl)) bp az (by exact Cn.o.bs) ?_;intro au7 cu7 w7 qY Df
      have HR7:=ah (Cn.o.more (x:=(n,sec,a1,a2)) Df (by rw[aH];exact qY));have ajM:(some R:Option Nat)≠Value.ownBlock (.slice au2 al cu2):=λe=>by have:=(apn.o R e.symm).1;have:=Cn.o.rb;omega
      have c7:w7.cell? ⟨R,3,none⟩=some (.slice au2 al cu2):=Df.cell Cn.o.c.2.2.2.1 ajM;have f7:w7.frozen? ⟨R,3,none⟩=false:=(dD (a:=⟨R,3,none⟩) (Df.block R Cn.o.lt ajM)).trans (Cn.o.f 3);have oM:=aY _ _ c7;clear qY Df ajM)))
   all_goals
    go_wp2_with fail;go_end0;exact⟨rfl,⟨_,_,HR7.o.1⟩,aut.o.trans HR7.o.2⟩
  all_goals
   go_wp2_with fail;go_still_tail 13,ax
   change wpList _ _ _ _ _ w3.drew
   have Ot:=ah (wZ.o.ext' ((aj w3).drew));have HK4:=ah (HK3.o.trans (Vu.ext wZ.o.bs ((aj w3).drew)));generalize w3.drew=w4 at *;clear r0 r1 r2 r3 r4 rf3 rlt q03 q13;go_wp2_with fail;refine ap (E6 n 130 (t.take 60) Ot.o.notes Ot.o.file Ot.o.Kg Ot.o.nb Ot.o.bs hn) ?_;rintro w5 ⟨Te,hk5,hb5,lM⟩;have HR:=ah (Ot.o.note hk5 hb5 lM);clear hk5 hb5 lM;go_wp2_with fail;refine aM (bH rfl _ _ _) rfl ?_;exact⟨rfl,⟨_,_,HR.o.1⟩,HK4.o.trans HR.o.2⟩
def Yn(st:US)(x:LN):(ni st x).al.length+(ni st x).nl.length<=st.al.length+st.nl+1:=by
 unfold ni;split
 ·dsimp only;omega
 split
 ·dsimp only;rw[aH,iN];omega
 ·dsimp only;rw[aH,iN];omega
def AQ:∀(xs:List LN)(st:US),(xs.foldl ni st).al.length+(xs.foldl ni st).nl.length<=st.al.length+st.nl+xs.length
 | [],_=>aD _
 |x::r,st=>by rw[jD];have h1:=AQ r (ni st x);have h2:=Yn st x;rw[aO];omega
theorem U5{w0 W:ay}{F N R B0 base:Nat}{fn:aK}{st:US}{u1 u2 v:aA}{xs:List LN}(h:FT w0 F N R B0 fn st u1 u2 W)(hv:W.ownsRow base 261 2 v xs (xs.flatMap qF))(hvb:∀b,v.ownBlock=some b->b<B0/\b≠N/\b≠R)(hxs:∀x∈xs,x.2.length<=2000000000)(hl:xs.length<=10000)(hst:st.al.length+st.nl<=10000):Calls prog 117 #[v,.func (.func 118) #[.pointer (some R)] #[]] W λe w'=>e= .returned (.tuple #[])/\∃Te u2',FT w0 F N R B0 fn (xs.foldl ni st) Te u2' w'/\Vu N R B0 W w':=by
 obtain⟨a,c,rfl⟩:=bU hv;have Hhv:=ah hv;have as2:=ah hvb;clear hv hvb;have asZ:=ah hxs;have HS:=ah h;clear hxs h;go_in;go_wp2_with fail;go_loopg [8] xs (λg u wr=>∃(W2:ay) (i:Nat) (u1 u2:aA),W2=wr/\u= .int .i64 i/\xs.length=i+g/\FT w0 F N R B0 fn ((xs.take i).foldl ni st) u1 u2 W2/\Vu N R B0 W W2)
 case atStart=>exact⟨W,0,u1,u2,rfl,rfl,aq,by simpa using HS.o,Keep.refl _ _⟩
 case round=>
  obtain⟨W2,i,v1,v2,rfl,rfl,hig,hs,hk⟩:=hrel;have HS2:=ah hs;have HK2:=ah hk;clear hs hk;by_cases hi:i<xs
  ·have HG:Hid (xs.length=i+gk):=ah hig;obtain⟨a',c',e,hc2,hcell⟩:=rW (bY mU (fO Hhv.o HK2.o as2.o));cases e
   obtain⟨b,o,rfl,q0,q1⟩:=hcell i hi;have hx:=asZ.o xs[i] (aW _);have htk:(xs.take (i+1)).foldl ni st=ni ((xs.take i).foldl ni st) xs[i]:=by rw[bE hi,gU];rfl
   have hfl:=AQ (xs.take i) st;rw[bC]at hfl;have hmn:min i xs.length<=i:=Nat.min_le_left _ _;have HL:=ah (λ(w2:ay) (hx2:Ext W2 w2)=>Us (HS2.o.ext' hx2) xs[i] hx aq aq);have hw1:IntKind.i64.wrap ((i:Int)+1)=(i:Int)+1:=IntWalk.i64_in _ aq;have hiz:(i:Int)<xs:=aq;generalize hxi:xs[i]=x at *;obtain⟨n,t⟩:=x;unfold acB at HL;dsimp only at q0 q1 HL;have qb:=aY _ _ q0;have Jt:=ah htk;have aAm:=ah hxi;clear htk hxi hig hcell hfl hmn hx;go_wp2_with fail;refine ap (HL.o _ ((aj W2).alloc _)) ?_;rintro w3 ⟨Te,u2',hs3,hk3⟩;have wZ:=ah hs3;have HK3:=ah (HK2.o.trans ((Vu.ext HS2.o.bs ((aj W2).alloc (.cells #[.int .i64 n,.string (str t)] 261))).trans hk3));clear hs3 hk3;go_wp2_with fail;go_roundg (xs.length-(i+1))
   case measure=>have:=HG.o;omega
   case rel=>exact⟨_,i+1,Te,u2',rfl,rfl,aq,by rw[Jt.o];exact wZ.o,HK3.o⟩
  ·have hie:i=xs.length:=aq;have HI:=ah hie;have hd:((i:Int)<xs)=False:=by simp;omega
   clear hig hie;go_wp2_with fail;go_end0;have hS2:=HS2.o;rw[HI.o,bZ]at hS2;exact⟨rfl,_,_,hS2,HK2.o⟩
end gZ
end Go.Proofs.YtopfefhenfineaaGreat
namespace Go.Proofs.YtopfefhenfineaaGreat
open Go.Proofs.Tryz Go.RowKit V
namespace gZ
variable{B n:Nat}
def Fw:∀(n:Nat)(l:List aZ),l.length<=n->∀x∈ig l,x.length<=n
 |0,l,h,x,hx=>by have:l=[]:=bG aq;rw[this,B1]at hx;cases hx
 |n+1,l,h,x,hx=>by
  by_cases hl:l=[]
  ·rw[hl,B1]at hx;cases hx
  ·rw[uV hl]at hx;rcases dF.1 hx with rfl|hx
   ·exact aL (Gw _ _) h
   ·have:=Fw n (tl1 10 l) (by rw[rA];have:0<l.length:=List.length_pos_iff.2 hl;omega) x hx;omega
def PY:∀(n:Nat)(l:List (List aZ)),∀x∈oP n l,x.2∈l
 |_,[],x,hx=>by cases hx
 |n,y::r,x,hx=>by
  rcases dF.1 hx with rfl|hx
  ·exact jw
  ·exact gM _ (PY (n+1) r x hx)
def Q3{t:List aZ}{xs:List LN}(h:∀y∈xs,y.2.length<=B)(ht:t.length<=B):∀y∈Dq n t xs,y.2.length<=B:=by
 intro y hy;unfold Dq at hy;split at hy
 ·exact h y hy
 ·rcases dJ.1 hy with hy|hy
  ·exact h y hy
  ·rw[e8]at hy;subst hy;exact aL (tH t) ht
def Yp{st:St}{x:LN}(h:∀y∈st.1,y.2.length<=B)(ht:st.2.2.length+x.2.length<=B):∀y∈(kP st x).1,y.2.length<=B:=by
 unfold kP;split
 ·exact h
 split
 ·exact h
 ·exact Q3 h (by rw[aH];exact ht)
def LJ(M B:Nat):∀(l:List LN)(st:St)(k:Nat),Bd M st k->(∀y∈l,y.2.length+1<=M)->(k+l.length)*M<=B->(∀y∈st.1,y.2.length<=B)->(∀y∈(l.foldl kP st).1,y.2.length<=B)/\Bd M (l.foldl kP st) (k+l.length)
 | [],st,k,hb,_,_,h=>⟨h,hb⟩
 |x::r,st,k,hb,hx,hB,h=>by rw[jD,aO];rw[aO]at hB;have hx1:=hx x jw;have e:(k+1)*M=k*M+M:=Nat.succ_mul k M;have hle:(k+1)*M<=(k+(r.length+1))*M:=eY M aq;have h1:=LJ M B r (kP st x) (k+1) (OQ hb x hx1) (λy hy=>hx y (gM _ hy)) (by rw[show k+1+r.length=k+(r.length+1)from aq];exact hB) (Yp h (by have:=hb.2;omega));rw[show k+(r.length+1)=k+1+r.length from aq];exact h1
def Mt(bs:List aZ):∀x∈(je bs).1,x.2.length<=2000000000:=by
 unfold je;split
 ·intro x hx;cases hx
 split
 ·intro x hx;cases hx
 ·rename_i h1 h2;dsimp only;unfold Eh D7;have hm:∀y∈oP 1 (ig bs),y.2.length+1<=65537:=λy hy=>by have:=Fw bs bs (aD _) y.2 (PY _ _ y hy);omega
  have hf:=LJ 65537 2000000000 (oP 1 (ig bs)) ([],0,[]) 0 ⟨bP _,bP _⟩ hm (by rw[p8];have:(0+(ig bs).length)*65537<=1000*65537:=eY _ aq;omega) (λy hy=>by cases hy)
  refine Q3 hf.1 ?_;have h3:=hf.2.2;rw[p8]at h3;have:(0+(ig bs).length)*65537<=1000*65537:=eY _ aq;omega
end gZ
end Go.Proofs.YtopfefhenfineaaGreat
namespace Go.Proofs.YtopfefhenfineaaGreat
open Go.Proofs.Tryz Go.RowKit Go.Shelf V
attribute[local go_sem] Oper.semAt_some Option.isSome_some
namespace gZ
def Bz(bs:List aZ):US:=(je bs).1.foldl ni ⟨[],false,[],[]⟩
def mh(bs:List aZ):List As×List Nt:=
 if (je bs).2≠0 then([],[(0,(je bs).2.toNat,[])])
 else if (Bz bs).nl≠[]then([],(Bz bs).nl)
 else((Bz bs).al,[])
def adp(fn:aK)(d:Int)(v:aA):aA:= .agg #[.string fn,.int .i64 d,v]
theorem Ac(fn:aK)(d:Int)(v:aA)(bs:List aZ)(hl:bs.length<=1000000)(w:ay)(hv:Rd w 1 m9 v bs):Calls prog 70 #[adp fn d v] w λe w'=>∃ua un,e= .returned (.tuple #[ua,un])/\Ext w w'/\w'.ownsRow w 148 5 ua (mh bs).1.length ((mh bs).1.flatMap (FL fn))/\w'.ownsRow w 45 4 un (mh bs).2.length ((mh bs).2.flatMap (BA fn)):=by
 obtain⟨av,cv,hvs,-⟩:=CQ hv;have hP:mh bs=if (je bs).2≠0 then([],[(0,(je bs).2.toNat,[])])else if (Bz bs).nl≠[]then([],(Bz bs).nl)else((Bz bs).al,[]):=rfl
 have hfl:=AQ (je bs).1 ⟨[],false,[],[]⟩;have hU:Bz bs=(je bs).1.foldl ni ⟨[],false,[],[]⟩:=rfl;rw[<-hU]at hfl;have hsl:=G3 bs;have her:=Tt bs;have htx:=Mt bs;have hSp:=λW (h:Rd W 1 m9 v bs)=>RD v bs hl W h
 rw[hP];clear hP;generalize Bz bs=fu at *;generalize(je bs).1=zs at *;generalize(je bs).2=er at *;obtain⟨pr,hpr⟩:∃pr:List As×List Nt,pr=if er≠0 then([],[(0,er.toNat,[])])else if fu.nl≠[]then([],fu.nl)else(fu.al,[]):=⟨_,rfl⟩
 rw[<-hpr];subst hvs;unfold adp;obtain⟨W2,hW2⟩:∃W2,W2=(w.alloc (.cells #[.string fn,.int .i64 d,.slice av bs cv] 24)).alloc (.cells #[.slice none 0 0] 38):=⟨_,rfl⟩;have s2:W2.heap.size=w.heap.size+2:=by rw[hW2];simp
 have e2:Ext w W2:=by rw[hW2];exact((aj w).alloc _).alloc _
 have q0:W2.cell? w=some (.string fn):=by rw[hW2];exact((aj _).alloc _).cell (oC w [.string fn,.int .i64 d,.slice av bs cv] _ 0 _ rfl)
 have q2:W2.cell? ⟨w,2,none⟩=some (.slice av bs cv):=by rw[hW2];exact((aj _).alloc _).cell (oC w [.string fn,.int .i64 d,.slice av bs cv] _ 2 _ rfl)
 have bN:Boxed W2 (w+1) 38 (.slice none 0 0):=by have:=Boxed.new (w.alloc (.cells #[.string fn,.int .i64 d,.slice av bs cv] 24)) 38 (.slice none 0 0);rw[aR,<-hW2]at this;exact this
 have hv2:=hv.ext e2;have HE2:=ah e2;have HB:=ah bN;have HS2:=ah s2;have HV2:=ah hv2;have HW:=ah hW2;have atG:=ah hSp;have as6:=ah htx;clear hSp htx;have HhU:=ah hU;have aAy:=ah hfl;clear hU hfl hv hv2 e2 s2 bN hW2;go_in;go_wp2_with fail;rw[<-HW.o];refine(atG.o _ HV2.o).mono ?_;rintro e w3 ⟨u,rfl,hx3,ho3⟩;have c0:=hx3.cell q0;have bN3:Boxed w3 (w+1) 38 (.slice none 0 0):=(hx3.block HB.o.lt).trans HB.o;have HB3:=ah bN3;have kg:=ah hx3;have HO3:=ah ho3;clear hx3 ho3 bN3 q0 q2;by_cases h0:er=0
 ·subst h0;rw[aN aE]at hpr;have Jv:=ah hpr;clear hpr;have hlo:=HO3.o.lt;have HLO:=ah hlo;clear hlo;have hs2:=HS2.o;have anz:=kg.o.size;have HSZ:Hid (w.heap.size+2<=w3.heap.size):=ah aq;clear hs2 anz;obtain⟨W4,rH⟩:∃W4,W4=w3.alloc (.cells #[.string fn,.string ⟨#[]⟩,.bool false,.slice none 0 0,BO (w+1) w.heap.size] 211):=⟨_,rfl⟩;have hS4:FT w w (w+1) w3 (w3+1) fn ⟨[],false,[],[]⟩ (.slice none 0 0) (.slice none 0 0) W4:=by
   have hsz:=HSZ.o;have h4:W4.heap.size=w3+1:=by rw[rH];simp
   have hx4:Ext w3 W4:=by rw[rH];exact(aj _).alloc _
   exact⟨(HE2.o.trans kg.o).trans hx4,aD _,Nat.le_succ _,aq,aq,aq,aq,aq,aq,aq,aq,hx4.cell c0,(hx4.block HB3.o.lt).trans HB3.o,by rw[rH];exact aC _ _,dB _ _ _ _,dB _ _ _ _⟩
  have hO4:W4.ownsRow W2 261 2 u zs (zs.flatMap qF):=by rw[rH];exact dM HO3.o _
  have hE4:=U5 hS4 hO4 (λb hb=>by have h1:=HLO.o b hb;have h2:=HS2.o;exact⟨aq,aq,aq⟩) as6.o aq aE
  rw[<-HhU.o]at hE4;unfold BO at rH;have atV:=ah hE4;have atF:=ah rH;clear hE4 rH hS4 hO4;go_wp2_with fail;rw[<-atF.o];refine ap atV.o ?_;rintro w5 ⟨Te,u2',hs5,hk5⟩;have yS:=ah hs5;have c5:=hs5.notes.cell;obtain⟨r0,r1,r2,r3,r4⟩:=hs5.c;obtain⟨au,cu,rfl⟩:=bU hs5.Kg;obtain⟨aw,cw,rfl⟩:=bU hs5.CZ;clear hs5 hk5;have hb1:w.heap.size<=w3+1:=by have:=HSZ.o;omega
  have HB1:=ah hb1;clear hb1;by_cases hnl:fu.nl=[]
  ·have hz:fu.nl.length=0:=by rw[hnl];rfl
   have hp:=Jv.o;rw[aN (by simpa using hnl)]at hp;have Hhp:=ah hp;clear hp;rw[hz]at c5;go_wp2_with fail;go_ret2;exact⟨_,_,rfl,yS.o.ext,by rw[Hhp.o];exact kK yS.o.CZ HB1.o,by rw[Hhp.o];exact dB _ _ _ _⟩
  ·have hz:(0:Int)<fu.nl:=by have:=List.length_pos_iff.2 hnl;omega
   have hp:=Jv.o;rw[aV hnl]at hp;have Hhp:=ah hp;clear hp;go_wp2_with(go_quiet (fail));go_ret2;exact⟨_,_,rfl,yS.o.ext.drewN _,by rw[Hhp.o];exact dB _ _ _ _,by rw[Hhp.o];exact rG (kK yS.o.Kg HB1.o) _⟩
 ·have hne:(er==0)=false:=by simpa using h0
  obtain⟨en,hen⟩:∃en:Nat,er=(en:Int):=⟨er.toNat,aq⟩;subst hen;rw[aV h0,show((en:Int)).toNat=en from aq]at hpr;have Jv:=ah hpr;clear hpr;have hsz:w.heap.size+1<w3.heap.size:=by have:=HB3.o.lt;exact this
  have HSZ:=ah hsz;clear hsz;go_wp2_with fail;refine ap (E6 (W:=w3) (N:=w.heap.size+1) (F:=w.heap.size) (B:=w3.heap.size) (ns:= []) (fn:=fn) 0 en [] HB3.o c0 (dB _ _ _ _) HSZ.o (aD _) aE) ?_;rintro w4 ⟨Te,hk4,hb4,rY⟩;have c4:=hb4.cell;have HK4:=ah hk4;have HO4:=ah rY;obtain⟨au,cu,rfl⟩:=bU rY;clear hk4 hb4 rY;have Ck:Hid (Ext w w4):=ah (Below.trans (HE2.o.trans kg.o) (HK4.o.below (λk hk=>⟨by have:=HSZ.o;omega,aq,λe=>by cases e⟩)));have HB1:Hid (w.heap.size<=w3):=ah (by have:=HSZ.o;omega);go_wp2_with(go_quiet (fail));go_ret2;exact⟨_,_,rfl,Ck.o.drewN _,by rw[Jv.o];exact dB _ _ _ _,by rw[Jv.o];exact rG (kK HO4.o HB1.o) _⟩
def qR{W W':ay}{b1 b2 e1 e2 n1 n2 k1 k2:Nat}{u1 u2:aA}{z1 z2:List aA}(h1:W.ownsRow b1 e1 n1 u1 k1 z1)(h2:W.ownsRow b2 e2 n2 u2 k2 z2)(hn:e1≠e2)(hg:W.grownBy W' u1.ownBlock):W'.ownsRow b2 e2 n2 u2 k2 z2:=by
 refine World.ownsRow.kept h2 hg ?_;cases hu:u2.ownBlock with
 |none=>exact vq
 |some k=>exact .inr λe=>own_ne h2 h1 (λe=>hn e.symm) k hu e.symm
end gZ
end Go.Proofs.YtopfefhenfineaaGreat
namespace Go.Proofs.YtopfefhenfineaaGreat
open Go.Proofs.Tryz
namespace gZ
abbrev AF:=List aZ×Nat×List aZ×List aZ×List aZ
abbrev NF:=List aZ×Nat×Nat×List aZ
def JN(f:Fl):List AF:=(mh f.2.2).1.map λx=>(f.1,x.1,x.2.1,x.2.2.1,x.2.2.2)
def JI(f:Fl):List NF:=(mh f.2.2).2.map λx=>(f.1,x.1,x.2.1,x.2.2)
def wz(fs:List Fl):Nat:=if 16<fs.length then 4 else if fs.all (λf=>tq f.1)=true then 0 else 140
def xH(m:Fl)(fs:List Fl):List Fl:=if wz fs=0 then m::uh fs else []
def P0(m:Fl)(fs:List Fl):NF:=(m.1,0,wz fs,if wz fs=140 then(match fs.find? (λf=> !tq f.1)with|some f=>f.1.take 60|none=>[])else [])
def gy(m:Fl)(fs:List Fl):List AF×List NF:=
 if wz fs≠0 then([],[P0 m fs])
 else if (m::uh fs).flatMap JI≠[]then([],(m::uh fs).flatMap JI)
 else((m::uh fs).flatMap JN,[])
def Zf{m:Fl}{fs:List Fl}(h:wz fs=0):gy m fs=if (m::uh fs).flatMap JI≠[]then([],(m::uh fs).flatMap JI)else((m::uh fs).flatMap JN,[]):=aN (λx=>x h)
def Ie{m:Fl}{fs:List Fl}(h:wz fs≠0):gy m fs=([],[P0 m fs]):=aV h
end gZ
end Go.Proofs.YtopfefhenfineaaGreat
