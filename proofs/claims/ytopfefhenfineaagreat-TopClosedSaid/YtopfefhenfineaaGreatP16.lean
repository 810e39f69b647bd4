import Derived.Test.YtopfefhenfineaaGreatP1
import Derived.Shelf.Abstract
import Derived.Shelf.RegionOpen
import Derived.TacticsInMore
import Derived.LoopNIn
import Derived.LoopIn
import Derived.Laws.EntriesVeiled
set_option linter.all false
set_option maxRecDepth 100000
set_option maxHeartbeats 2000000
namespace Go.Proofs.YtopfefhenfineaaGreat
open Go.Proofs.Tryz Go.RowKit Go.Shelf V
attribute[local go_sem] Oper.semAt_some
variable{zP:Prop}
def pm(h:zP:=by
 obtain⟨b',o',e',g1⟩:=h4 0 h0;simp only[aU]at e;rw[e.1]at e';obtain⟨rfl,rfl⟩:b=b'/\o=o':=by simpa using e'
 exact aY _ _ g1):zP:=h
def ox(h:zP:=by gi_wp2;refine aM (bH rfl _ _ _) rfl ?_;exact⟨⟨_,rfl⟩,.inr ⟨_,by rw[hsplit];exact⟨pc o (ns.drop (k+1)) (ws.drop (k+1)) (n+1),aE⟩,akb⟩⟩):zP:=h
def mS(h:zP:=by
 obtain⟨h1,h2⟩:=h;refine⟨h1,?_⟩;rcases h2 with h2|⟨g,cap,cur,hv,hg,hh,r⟩
 ·exact .inl h2
 ·exact .inr ⟨g,cap,cur,hv,hg,(hx.block (aB.1 hh).1).trans hh,r⟩):zP:=h
def gz(h:zP:=by
 go_in;go_wp2_with(first
  |(go_quiet (fail))
  |(at_builtin;refine wpList_append_own _ rfl _ _ 360 rfl base 420 i0 (.agg #[.int .u32 0,.int .u32 0,.int .i64 0]) 3 16 underlying360 hi hz0 hz1 hz2 rfl az _ out (out.flatMap encS) rfl et _ 1 1 (encS ⟨lo,hi',XR⟩) rfl rfl (yc _ _ _ _ aE) (Q4 _) cH aq bp ?_;intro u' w1 hown' hg' _;obtain⟨g',cap',rfl⟩:=ownsRow_succ hown';have hE1:Ext w _:=(((aj w).alloc (.cells #[.int .u32 lo,.int .u32 hi',.int .i64 XR] 420)).drewN nq).alloc (.cells #[.int .u32 lo,.int .u32 hi',.int .i64 XR] 420);obtain⟨UJ,ajP,ajQ⟩:=Ph hB hbs hE1 aem.o KH.o hg';have ar8:=UJ.cell;have ar4:=UJ.frozen;have HO':=ah hown';clear hown'))
 go_end0;exact⟨rfl,_,UJ.set _,ownsRow_setCell_below HO'.o hB _ |>λh=>by unfold Own;rw[Ju.o];simpa using h,ajP _,(ajQ (((KeepsOthers.alloc _ _).trans (Nf _ _)).trans (KeepsOthers.alloc _ _)) (zD (((wY.o.alloc _).drewN _).alloc _))).trans (KeepsOthers.setCell _ _ _)⟩):zP:=h
def et(h:zP:=by first|exact(wY.o.alloc _).alloc _|exact((wY.o.alloc _).drewN _).alloc _):zP:=h
def fj(h:zP:=by rw[hsplit];simp):zP:=h
namespace Gd
variable{Bo base base' k t:Nat}{W W' w w' w1:ay}{ns:List Nat}{out xs:List Span}{u v:aA}
theorem RA(v:aA)(xs:List Span)(hl:xs.length<=140737488351232)(hok:∀s∈xs,OkS s)(w:ay)(hv:Rd w 3 encS v xs):Rt 293 #[v] w (.bool (whole xs)):=by
 obtain⟨a,c,rfl,hac,hca⟩:=CO hv;clear hv;unfold Rt;go_in;go_wp2;go_loopw [3,8] (λv i wr=>∃k nx:Nat,k<=xs/\i= .int .i64 k/\nx<=4294967296/\v= .int .u64 nx/\Ext w wr/\chain xs 0=chain (xs.drop k) nx) (λ_ i _=>xs.length-(intOf i).toNat)
 case atStart=>exact⟨0,0,aq,rfl,aq,rfl,aj _,rfl⟩
 case round=>
  obtain⟨k,nx,hk,rfl,hnx,rfl,hx,heq⟩:=hrel;have HE:=ah heq;have HX:=ah hx;clear heq;by_cases hlt:k<xs
  ·obtain⟨b,o,rfl,h1,h2,h3⟩:=hca k hlt;replace h1:=hx.cell h1;replace h2:=hx.cell h2;replace h3:=hx.cell h3;have hs:=Vb hlt nx;have HS:=ah hs;obtain⟨ok1,ok2,-,-⟩:=hok _ (aW hlt);clear hs hca hok hx;generalize xs[k]=s at *;obtain⟨lo,hi,wy⟩:=s;dsimp only at *;by_cases hc:lo=nx/\lo<=hi
   ·obtain⟨rfl,hle⟩:=hc;go_wp2;go_roundw
    case rel=>exact⟨k+1,hi+1,aq,bm,aq,bm,HX.o.alloc _,by rw[HE.o,HS.o,aV ⟨rfl,hle⟩]⟩
    case measure=>exact gO
   ·have hres:whole xs=false:=by unfold whole;rw[HE.o,HS.o,aN hc];rfl
    have HR:=ah hres;clear hres;by_cases h4:lo=nx
    ·subst h4;have h5:hi<lo:=aq;go_wp2;go_ret;exact⟨by rw[HR.o];rfl,HX.o.alloc _⟩
    ·have h6:((lo:Int) !=(nx:Int))=true:=by rw[bne_iff_ne];omega
     go_wp2;go_ret;exact⟨by rw[HR.o];rfl,HX.o.alloc _⟩
  ·obtain rfl:k=xs.length:=aq;have hres:whole xs=((nx:Int)==4294967296):=by unfold whole;rw[HE.o,List.drop_eq_nil_of_le (aD _),chain_nil,bB];simp;omega
   have HR:=ah hres;clear hres;go_wp2;go_ret;exact⟨by rw[HR.o];rfl,HX.o⟩
theorem ann:(Tryz.prog.info? 420).map (λi=>(i.zero,i.size,i.bytes))=some (some (.agg #[.int .u32 0,.int .u32 0,.int .i64 0]),3,16):=ax
def Own(w:ay)(base:Nat)(v:aA)(xs:List Span):Prop:=w.ownsRow base 420 3 v xs (xs.flatMap encS)
def Own.rd(h:Own w base v xs):Rd w 3 encS v xs:=bY I8 h
def Own.alloc{w:ay}{base:Nat}{v:aA}{xs:List Span}(h:Own w base v xs)(o:Obj):Own (w.alloc o) base v xs:=dM h o
def Own.drewN(h:Own w base v xs)(n:Nat):Own (w.drewN n) base v xs:=by obtain⟨h1,h2⟩:=h;exact⟨h1,by rw[heap_drewN];exact h2⟩
def Ph(hB:Bo<base)(hbs:base<=w.heap.size)(hE:Ext w W)(hbx:Boxed w Bo t v)(hlo:∀k,u.ownBlock=some k->base<=k/\k<w.heap.size)(hg:W.grownBy w1 u.ownBlock):Boxed w1 Bo t v/\(∀x,Keep (λk=>k<base/\k≠Bo) w (w1.setCell Bo x))/\(KeepsOthers w W->(∀(j:Nat)(o:Obj),u.ownBlock=some j->W.heap[j]?=some o->o.isCells=true)->KeepsOthers w w1):=by
 have hsz:=hE.size;have hne:∀k,k<base->some k≠u.ownBlock:=λk hk e=>by have:=(hlo k e.symm).1;omega
 refine⟨(hg.block Bo aq (hne Bo hB)).trans ((hE.block aq).trans hbx),λx=>⟨hg.os.trans hE.os,hg.tape.trans hE.tape,hg.output.trans hE.output,?_,λk hk=> ?_⟩,λh1 h2=>h1.trans (KeepsOthers.of_grownBy hg h2)⟩
 ·rw[jq];exact aL hsz hg.size
 ·rw[aX _ _ _ _ hk.2];exact(hg.block k aq (hne k hk.1)).trans (hE.block aq)
def zD(h:Own W base u out):∀(j:Nat)(o:Obj),u.ownBlock=some j->W.heap[j]?=some o->o.isCells=true:=mN
def Nf(w:ay)(n:Nat):KeepsOthers w (w.drewN n):=⟨aD _,λ_ _ h _=>h⟩
theorem kT(Bo base:Nat)(u:aA)(out:List Span)(s:Span)(hl:out.length<=1000000)(w:ay)(hB:Bo<base)(hbs:base<=w.heap.size)(hbx:Boxed w Bo 360 u)(hown:Own w base u out):Calls prog 370 #[.agg #[.int .u32 s.lo,.int .u32 s.hi,.int .i64 s.way],.pointer (some Bo)] w λe w'=>e= .returned (.tuple #[])/\∃u',Boxed w' Bo 360 u'/\Own w' base u' (put out s)/\Keep (λk=>k<base/\k≠Bo) w w'/\KeepsOthers w w':=by
 obtain⟨i0,hi,hz0,hz1,hz2⟩:=jo ann;have hlo:=hown.lt;obtain⟨ao,co,rfl,hco,hcells⟩:=CO hown.rd;obtain⟨lo,hi',XR⟩:=s;dsimp only;have hcb:=hbx.cell;have hfb:=hbx.frozen;have agu:Bo<w.heap.size:=aq;by_cases h0:out.length=0
 ·have hd:decide ((0:Int)<out)=false:=aT aq;have hd2:decide (0<out.length)=false:=aT aq;have hput:put out ⟨lo,hi',XR⟩=out++[⟨lo,hi',XR⟩]:=by rw[bG h0];rfl
  have Ju:=ah hput;have Oo:=ah h0;clear hput h0;have KH:=ah hlo;have wY:=ah hown;have aem:=ah hbx;clear hlo hown hcells;exact gz
 ·have hpos:0<out.length:=aq;obtain⟨q,hq⟩:∃q,q=out.length-1:=⟨_,rfl⟩;have hql:q<out.length:=aq;have hd4:((out:Int)-1)=(q:Int):=aq;obtain⟨g,og,rfl,g1,g2,g3⟩:=hcells q hql;have hd:decide ((0:Int)<out)=true:=aQ aq;have hd2:decide (0<out.length)=true:=aQ aq;obtain⟨g',c',e',hgb,hgs,hfz⟩:=mo hown hpos;simp only[aU,dw,gD,and_true,true_and]at e';obtain⟨⟨rfl,rfl⟩,rfl⟩:=e';rw[cO]at g1 g2 g3;have xQ:=hfz (q*3+1);clear hcells hfz;by_cases hw:out[q].way=XR
  ·have hput:put out ⟨lo,hi',XR⟩=out.set q ⟨out[q].lo,hi',out[q].way⟩:=by subst hq;exact abQ hpos hw
   have Ju:=ah hput;have Hhq:=ah hq;clear hput hq;have KH:=ah hlo;have wY:=ah hown;have aem:=ah hbx;clear hlo hown hbx;generalize hov:out[q]=ov at *;have atd:=ah hov;clear hov;obtain⟨vlo,vhi,vwy⟩:=ov;dsimp only at *;subst hw;go_in;go_wp2_with(go_quiet (fail));have hst:=kE (e:=420) I8 (Own.drewN (wY.o.alloc (.cells #[.int .u32 lo,.int .u32 hi',.int .i64 vwy] 420)) nq) q 1 (.int .u32 hi') ⟨vlo,hi',vwy⟩ hql az (by rw[atd.o];rfl);have hkp:Keep (λk=>k<base/\k≠Bo) w ((w.alloc (.cells #[.int .u32 lo,.int .u32 hi',.int .i64 vwy] 420)).drewN nq):=Keep.of_below (((aj w).alloc _).drewN _) (λk hk=>aq);refine aM (bH rfl _ _ _) rfl ⟨rfl,.slice (some g) out co,?_,?_,hkp.trans (Keep.setCell _ cG _),((KeepsOthers.alloc _ _).trans (Nf _ _)).trans (KeepsOthers.setCell _ _ _)⟩
   ·unfold Boxed;rw[aX _ _ _ _ cG];exact(Ext.block (((aj w).alloc _).drewN nq) aq).trans aem.o
   ·rw[Ju.o];unfold Own;rw[dO];exact hst.1
  ·have hput:put out ⟨lo,hi',XR⟩=out++[⟨lo,hi',XR⟩]:=by subst hq;exact YI hpos hw
   have Ju:=ah hput;have Hhq:=ah hq;clear hput hq;have KH:=ah hlo;have wY:=ah hown;clear hlo hown;have aem:=ah hbx;have hne:(out[q].way==XR)=false:=by simp[hw]
   have Hhw:=ah hw;clear hw;generalize out[q]=ov at *;obtain⟨vlo,vhi,vwy⟩:=ov;dsimp only at *;exact gz
def PG{row:Option Nat}(h:Own W base u xs)(hg:W.grownBy W' row)(hr:∀r,row=some r->∃o:Obj,W.heap[r]?=some o/\o.isCells=false):Own W' base u xs:=by
 refine World.ownsRow.kept h hg ?_;cases hu:u.ownBlock with
 |none=>exact vq
 |some k=>
  refine .inr λe=> ?_
  obtain⟨o,ho,hc⟩:=hr k e.symm;rw[zD h k o hu ho]at hc;cases hc
def kK(h:Own W base u xs)(hb:base'<=base):Own W base' u xs:=jb
theorem M4(gf:Nat)(lb:Array aA)(n₀ N:Nat)(xs:List Span)(hN:xs.length<=N)(Oh:N<=1000000)(w:ay)(hn₀:n₀<=w.heap.size)(hgf:∀args w,(callFunc gf args).run prog w= .ok (.enter gf args) w)(hseq:SeqStopsK Fence.wide 3 prog gf lb (λx:Span=> #[.agg #[.int .u32 x.lo,.int .u32 x.hi,.int .i64 x.way]]) (Below n₀) (λys=>ys=xs) (λpre=>pre <+: xs) N w):Calls prog 291 #[.func (.func gf) #[] lb] w λe w'=>∃u,e= .returned u/\Ext w w'/\Own w' w u (merge xs):=by
 refine(bM (n:=4)).1 ?_;refine callsIn_of_wp_marks func291 rfl trivial ?_ rfl;simp only[ntmps291,bW,aO,bD,Nat.reduceAdd,Nat.reduceSub,dU,dS,fq,dZ,dA,dh];gi_wp2;have h1:1<=4:=aq;have bO:=Boxed.new w 360 (.slice none 0 0);have bF:=Boxed.new (w.alloc (.cells #[.slice none 0 0] 360)) 475 (.func (.func 370) #[] #[.pointer (some w)]);rw[aR]at bF;have hE0:Ext w ((w.alloc (.cells #[.slice none 0 0] 360)).alloc (.cells #[.func (.func 370) #[] #[.pointer (some w)]] 475)):=((aj w).alloc _).alloc _;have hsz0:((w.alloc (.cells #[.slice none 0 0] 360)).alloc (.cells #[.func (.func 370) #[] #[.pointer (some w)]] 475)).heap.size=w.heap.size+2:=aE;replace bO:=bO.alloc (.cells #[.func (.func 370) #[] #[.pointer (some w)]] 475);obtain⟨W0,hW0⟩:∃W0,((w.alloc (.cells #[.slice none 0 0] 360)).alloc (.cells #[.func (.func 370) #[] #[.pointer (some w)]] 475))=W0:=⟨_,rfl⟩;rw[hW0]at bO bF hE0 hsz0⊢;clear hW0;refine wpIn_rangeFunc_ownH (w0:=w) rfl h1 (gf:=gf) (lb:=lb) rfl trivial hgf hseq belowK_t (belowK_b aq) hE0 (λ_=>rfl)
  (λpre W=>((∃u,Boxed W w 360 u/\Own W (w+2) u (merge pre))/\Boxed W (w+1) 475 (.func (.func 370) #[] #[.pointer (some w)]))/\Below w w W)
  (λ_ _ _=>False)
  (OwnFrom.and (OwnFrom.and (Own.from (λs A B row hs hg hr=> ?hI1) _) (Own.from (boxed_own _ _ _) _)) (ownFrom_below (aD _) aq))
  (λ_ _ _ _ _ hs _ _=>hs)
  ⟨⟨⟨_,bO,dB _ _ _ _⟩,bF⟩,hE0⟩
  (λx a' W=>∃Bx,w.heap.size+1<Bx/\W.heap[Bx]?=some (.cells #[.int .u32 x.lo,.int .u32 x.hi,.int .i64 x.way] 420 (0,0))/\
   a'= {tmps:= #[.func (.func gf) #[] lb,undef,.slice none 0 0,.pointer (some w),.pointer (some ⟨w+1,0,none⟩),.pointer (some Bx),.func (.func 370) #[] #[.pointer (some w)],.func (.func gf) #[] lb,.agg #[.int .u32 x.lo,.int .u32 x.hi,.int .i64 x.way],undef,undef,undef,undef],defers:= []})
  (λx a' _ X Y row hs hg hr=> ?hI2)
  ?assign ?body ?done ?stop
 case hI1=>obtain⟨u,hb,ho⟩:=hs;exact⟨u,boxed_own _ _ (λ(_:Unit)=>u) () A B row hb hg hr,PG ho hg hr⟩
 case hI2=>exact nj
 case assign=>rintro l pre x W K ⟨⟨⟨u,bu,ou⟩,bf⟩,hB⟩ hK;gi_wp2;exact hK _ _ ((KeepsOthers.alloc _ _).from _) ((Below.refl _ W).alloc (aL hn₀ hB.size) _) ⟨⟨⟨u,bu.alloc _,ou.alloc _⟩,bf.alloc _⟩,hB.alloc hB.size _⟩ ⟨W.heap.size,bf.lt,aC W _,rfl⟩
 case body=>
  rintro l pre x a' W hl ⟨r,hr⟩ ⟨⟨⟨u,bu,ou⟩,bf⟩,hB⟩ ⟨Bx,hBx,bX,rfl⟩ hlt;have cF:=bf.cell;have n1:1<=4-1-1:=aq;have hml:=Lp pre;have x0:W.cell? Bx=some (.int .u32 x.lo):=by simp[World.cell?,bX]
  have x1:W.cell? ⟨Bx,1,none⟩=some (.int .u32 x.hi):=by simp[World.cell?,bX]
  have x2:W.cell? ⟨Bx,2,none⟩=some (.int .i64 x.way):=by simp[World.cell?,bX]
  have hput:=kT w (w+2) u (merge pre) x aq W aq (by have:=bf.lt;omega) bu ou;have Ju:=ah hput;clear hput;have hmp:merge (pre++[x])=put (merge pre) x:=by unfold merge;rw[gU];rfl
  have atn:=ah hmp;clear hmp;gi_wp2_with(refine⟨trivial,?_⟩;gi_at_call 370;refine tI (CallsIn.inRound l (bM.2 Ju.o)) ?_;rintro w' ⟨u',bu',ou',hkp,hko⟩);exact⟨hko.from _,hkp.below (λk hk=>⟨aq,aq⟩),⟨⟨⟨u',bu',by rw[atn.o];exact ou'⟩,(hkp.block _ ⟨aq,aq⟩).trans bf⟩,hB.trans (hkp.below (λk hk=>⟨aq,aq⟩))⟩⟩
 case done=>rintro D ys W hD rfl ⟨⟨⟨u,bu,ou⟩,bf⟩,hB⟩ hK;have cu:=bu.cell;gi_wp2;refine⟨aE,.inl ⟨_,_,rfl,run_takeDeferred hK,?_⟩⟩;refine⟨_,results_tmp rfl _ _ _,u,rfl,hB.trans (belowK_b (w:=w) (aD _) W D _ _ aq hK rfl rfl),kK (PG ou (grownBy_putObj' _ D (.deferred none)) (λr e=>by cases e;exact⟨_,hK,rfl⟩)) aq⟩
 case stop=>exact mx
def j8(n:Nat):List aA:= [.int .u32 n]
def encI(i:Int):List aA:= [.int .i64 i]
def Ho{xs:List Nat}(h:Rd w 1 j8 v xs):∃a c,v= .slice a xs c/\xs.length<=c/\∀i,(hi:i<xs.length)->∃b o,a=some ⟨b,o,none⟩/\w.cell? ⟨b,o+i,none⟩=some (.int .u32 (xs[i]:Int)):=by obtain⟨a,c,h1,h2,h3,h4⟩:=h;refine⟨a,c,h1,h2,λi hi=> ?_⟩;obtain⟨b,o,e,k⟩:=h4 i hi;have:=k 0 gh;rw[eO]at this;exact⟨b,o,e,this⟩
def jX{xs:List Int}(h:Rd w 1 encI v xs):∃a c,v= .slice a xs c/\xs.length<=c/\∀i,(hi:i<xs.length)->∃b o,a=some ⟨b,o,none⟩/\w.cell? ⟨b,o+i,none⟩=some (.int .i64 xs[i]):=nz
def gap(o:Int)(next n:Nat):List Span:=if next<n then [⟨next,n-1,o⟩]else []
def pc(o:Int):List Nat->List Int->Nat->List Span
 |n::r,w::q,next=>gap o next n++⟨n,n,w⟩::pc o r q (n+1)
 | [],_,next=>gap o next 4294967296
 |_::_,[],next=>gap o next 4294967296
def afF{o:Int}{ws:List Int}(h:k<ns)(h':k<ws)(next:Nat):pc o (ns.drop k) (ws.drop k) next=gap o next ns[k]++⟨ns[k],ns[k],ws[k]⟩::pc o (ns.drop (k+1)) (ws.drop (k+1)) (ns[k]+1):=by rw[bJ h,bJ h'];rfl
def aiY(o:Int)(ns:List Nat)(ws:List Int)(next:Nat):pc o (ns.drop ns) ws next=gap o next 4294967296:=by rw[dQ];rfl
def TR(o:Int):∀(ns:List Nat)(ws:List Int)(next:Nat),(pc o ns ws next).length<=2*ns.length+1
 |n::r,w::q,next=>by have:=TR o r q (n+1);unfold pc gap;split<;>simp<;>omega
 | [],_,next=>by unfold pc gap;split<;>simp
 |_::_,[],next=>by unfold pc gap;split<;>simp
abbrev amM(x:Span):Array aA:= #[.agg #[.int .u32 x.lo,.int .u32 x.hi,.int .i64 x.way]]
theorem TQ(l b1 b2 b3 n₀:Nat)(vn vw:aA)(ns:List Nat)(ws:List Int)(o:Int)(hl:ns.length<=1000000)(hlw:ns.length=ws)(hns:∀n∈ns,n<4294967296)(J Jx:List Span->ay->Prop)(w W:ay)(hE:Ext w W)(asU:n₀<=w.heap.size)(xs:List Span)(hxs:xs=pc o ns ws 0)(hvn:Rd w 1 j8 vn ns)(hvw:Rd w 1 encI vw ws)(an6:∀b o c,vn= .slice (some ⟨b,o,none⟩) ns c->0<ns.length->b<n₀)(an5:∀b o c,vw= .slice (some ⟨b,o,none⟩) ws c->0<ws.length->b<n₀)(h1:b1<n₀)(h2:b2<n₀)(h3:b3<n₀)(c1:w.cell? b1=some vn)(c2:w.cell? b2=some (.int .i64 o))(c3:w.cell? b3=some vw)(hY:∀(pre:List Span)(x:Span) W,J pre W->pre.length<xs->YieldAt Fence.wide (3-1) prog l (amM x) W λe W'=>(e= .returned (.bool true)/\J (pre++[x]) W'/\Below n₀ W W')\/(e= .returned (.bool false)/\Jx (pre++[x]) W'))(h0:J [] W):CallsIn Fence.wide 3 prog 371 #[.func (.yield l) #[] #[],.pointer (some b1),.pointer (some b2),.pointer (some b3)] W λe W'=>(∃v,e= .returned v)/\((∃ys,ys=xs/\J ys W')\/(∃pre,pre <+: xs/\Jx pre W')):=by
 obtain⟨an,cn,rfl,asb,hcan⟩:=Ho hvn;obtain⟨aw,cw,rfl,asa,ZG⟩:=jX hvw;clear hvn hvw;replace c1:=hE.cell c1;replace c2:=hE.cell c2;replace c3:=hE.cell c3;refine kX func371 rfl trivial ?_ rfl;simp only[ntmps371,bW,aO,bD,Nat.reduceAdd,Nat.reduceSub,dU,dS,fq,dZ,dA,dh];gi_wp2;gi_loopw [5,10] (λnx i wr=>∃(k:Nat) (next:Nat) (pre:List Span),k<=ns/\next<=4294967296/\i= .int .i64 k/\nx= .int .u64 next/\J pre wr/\Below n₀ W wr/\xs=pre++pc o (ns.drop k) (ws.drop k) next) (λ_ i _=>ns.length-(intOf i).toNat)
 case atStart=>exact⟨0,0,[],bP _,aq,rfl,rfl,h0,Below.refl _ _,by simpa using hxs⟩
 case round=>
  obtain⟨k,next,pre,hk,hnext,rfl,rfl,hJ,hB,hsplit⟩:=hrel;have d1:=(hB.cell (p:=⟨b1,0,none⟩) h1).trans c1;have d2:=(hB.cell (p:=⟨b2,0,none⟩) h2).trans c2;have d3:=(hB.cell (p:=⟨b3,0,none⟩) h3).trans c3;by_cases hlt:k<ns
  ·obtain⟨b,q,rfl,g1⟩:=hcan k hlt;obtain⟨b',q',rfl,g2⟩:=ZG k aq;have hb:=an6 b q cn rfl aq;have hb':=an5 b' q' cw rfl aq;replace g1:=(hB.cell (p:=⟨b,q+k,none⟩) hb).trans (hE.cell g1);replace g2:=(hB.cell (p:=⟨b',q'+k,none⟩) hb').trans (hE.cell g2);rw[afF hlt aq]at hsplit;have hnk:=hns _ (aW hlt);clear hcan ZG;generalize ns[k]=n at *;generalize ws[k]' aq=wy at *;have hkw:k<ws:=aq;generalize ws.length=nws at *;by_cases hn:next<n
   ·have hd:decide (next<n)=true:=aQ hn;have hd':decide ((next:Int)<n)=true:=aQ aq;obtain⟨j,hjn⟩:∃j,j=n-1:=⟨n-1,aq⟩;have hj:((n:Int)-1)=(j:Int):=aq;have hjl:j<4294967296:=aq;have hnl:next<4294967296:=aq;have hg:gap o next n=[⟨next,j,o⟩]:=by unfold gap;rw[aV hn,hjn]
    rw[hg]at hsplit;obtain⟨fn,tmps,assign,body,hy,hR⟩:=hY pre ⟨next,j,o⟩ wr hJ fj;have aAv:=ah hjn;clear hjn;gi_wp2;refine hR.mono ?_;rintro e W3 (⟨rfl,hJ3,hk3⟩|⟨rfl,hJx3⟩)
    ·obtain⟨fn',amN,assign',body',hy',hR'⟩:=hY (pre++[⟨next,j,o⟩]) ⟨n,n,wy⟩ W3 hJ3 fj;replace d2:=(hk3.cell (p:=⟨b2,0,none⟩) h2).trans d2;replace d3:=(hk3.cell (p:=⟨b3,0,none⟩) h3).trans d3;replace g2:=(hk3.cell (p:=⟨b',q'+k,none⟩) hb').trans g2;gi_wp2;refine hR'.mono ?_;rintro e W4 (⟨rfl,hJ4,hk4⟩|⟨rfl,akb⟩)
     ·gi_wp2;go_roundw
      case rel=>exact⟨k+1,n+1,_,aq,aq,bm,bm,hJ4,(hB.trans hk3).trans hk4,by rw[hsplit];simp⟩
      case measure=>exact gO
     ·exact ox
    ·gi_wp2;refine aM (bH rfl _ _ _) rfl ?_;exact⟨⟨_,rfl⟩,.inr ⟨_,by rw[hsplit];exact⟨_,by rw[bI]⟩,hJx3⟩⟩
   ·have hd:decide (next<n)=false:=aT hn;have hd':decide ((next:Int)<n)=false:=aT aq;have hg:gap o next n=[]:=by unfold gap;rw[aN hn]
    rw[hg,dA]at hsplit;obtain⟨fn',amN,assign',body',hy',hR'⟩:=hY pre ⟨n,n,wy⟩ wr hJ fj;gi_wp2;refine⟨(λ_ h=>by cases h),?_⟩;gi_wp2;refine hR'.mono ?_;rintro e W4 (⟨rfl,hJ4,hk4⟩|⟨rfl,akb⟩)
    ·gi_wp2;go_roundw
     case rel=>exact⟨k+1,n+1,_,aq,aq,bm,bm,hJ4,hB.trans hk4,by rw[hsplit];simp⟩
     case measure=>exact gO
    ·exact ox
  ·obtain rfl:k=ns.length:=aq;rw[aiY]at hsplit;by_cases hn:next<4294967296
   ·have hg:gap o next 4294967296=[⟨next,4294967295,o⟩]:=by unfold gap;rw[aV hn]
    rw[hg]at hsplit;have hd:decide (next<4294967296)=true:=aQ hn;have hd':decide ((next:Int)<4294967296)=true:=aQ aq;obtain⟨fn,tmps,assign,body,hy,hR⟩:=hY pre ⟨next,4294967295,o⟩ wr hJ fj;clear hcan ZG;have hlit:((4294967295:Nat):Int)=4294967295:=rfl;simp only[amM,hlit]at hy;gi_wp2;refine hR.mono ?_;rintro e W3 (⟨rfl,hJ3,hk3⟩|⟨rfl,hJx3⟩)
    ·gi_wp2;go_end0;exact⟨⟨_,rfl⟩,.inl ⟨_,hsplit.symm,hJ3⟩⟩
    ·gi_wp2;go_end0;exact⟨⟨_,rfl⟩,.inr ⟨xs,List.prefix_refl _,by rw[hsplit];exact hJx3⟩⟩
   ·have hd:decide (next<4294967296)=false:=aT hn;have hd':decide ((next:Int)<4294967296)=false:=aT aq;have hg:gap o next 4294967296=[]:=by unfold gap;rw[aN hn]
    rw[hg,fH]at hsplit;have Hhn:=ah hn;have atk:=ah hnext;clear hn hnext hcan ZG;gi_wp2;go_end0;exact⟨⟨_,rfl⟩,.inl ⟨_,rfl,by rw[hsplit];exact hJ⟩⟩
theorem MR(a1 a2:Option Addr)(n1 n2 k1 k2:Nat)(o:Int)(w:ay):Calls prog 292 #[.slice a1 n1 k1,.slice a2 n2 k2,.int .i64 o] w λe w'=>e= .returned (.func (.func 371) #[] #[.pointer (some w),.pointer (some ⟨w+2,0,none⟩),.pointer (some ⟨w+1,0,none⟩)])/\Ext w w'/\w'.heap.size=w+3/\w'.cell? w=some (.slice a1 n1 k1)/\w'.cell? ⟨w+2,0,none⟩=some (.int .i64 o)/\w'.cell? ⟨w+1,0,none⟩=some (.slice a2 n2 k2):=by go_in;go_wp2;go_ret;have h1:=Boxed.new w 33 (.slice a1 n1 k1);have h2:=Boxed.new (w.alloc (.cells #[.slice a1 n1 k1] 33)) 28 (.slice a2 n2 k2);rw[aR]at h2;have h3:=Boxed.new ((w.alloc (.cells #[.slice a1 n1 k1] 33)).alloc (.cells #[.slice a2 n2 k2] 28)) 3 (.int .i64 o);rw[aR,aR]at h3;exact⟨rfl,(((aj w).alloc _).alloc _).alloc _,aE,((h1.alloc _).alloc _).cell,h3.cell,(h2.alloc _).cell⟩
def aft{xs:List Nat}(h:Rd w 1 j8 v xs):∀b o c,v= .slice (some ⟨b,o,none⟩) xs c->0<xs.length->b<w.heap.size:=by intro b o c e h0;obtain⟨a,c',rfl,-,h4⟩:=Ho h;exact pm
def afu{xs:List Int}(h:Rd w 1 encI v xs):∀b o c,v= .slice (some ⟨b,o,none⟩) xs c->0<xs.length->b<w.heap.size:=by intro b o c e h0;obtain⟨a,c',rfl,-,h4⟩:=jX h;exact pm
theorem MQ(b1 b2 b3:Nat)(vn vw:aA)(ns:List Nat)(ws:List Int)(o:Int)(hl:ns.length<=1000000)(hlw:ns.length=ws)(hns:∀n∈ns,n<4294967296)(w:ay)(hvn:Rd w 1 j8 vn ns)(hvw:Rd w 1 encI vw ws)(c1:w.cell? b1=some vn)(c2:w.cell? b2=some (.int .i64 o))(c3:w.cell? b3=some vw):SeqStopsK Fence.wide 3 prog 371 #[.pointer (some b1),.pointer (some b2),.pointer (some b3)] (λx:Span=> #[.agg #[.int .u32 x.lo,.int .u32 x.hi,.int .i64 x.way]]) (Below w) (λys=>ys=pc o ns ws 0) (λpre=>pre <+: pc o ns ws 0) (pc o ns ws 0).length w:=λl J Jx W hW _ _ hY h0=>by have hE:Ext w W:=hW;exact TQ l b1 b2 b3 w vn vw ns ws o hl hlw hns J Jx w W hE (aD _) _ rfl hvn hvw (aft hvn) (afu hvw) (aY _ _ c1) (aY _ _ c2) (aY _ _ c3) c1 c2 c3 hY h0
def up:List Nat->Nat->Bool
 | [],_=>true
 |n::r,next=>decide (next<=n)&&up r (n+1)
def ae5(h:k<ns)(next:Nat):up (ns.drop k) next=(decide (next<=ns[k])&&up (ns.drop (k+1)) (ns[k]+1)):=by rw[bJ h];rfl
def Et(ns:List Nat)(k:Nat):Nat:=if 0<k then(ns[k-1]?.getD 0)+1 else 0
def ofA(ns:List Nat)(ws:List Int)(o:Int):List Span×Int:=if ns.length=ws/\up ns 0=true then(merge (pc o ns ws 0),0)else([],2)
def zH(h:k<ns):Et ns (k+1)=ns[k]+1:=by unfold Et;simp[h]
theorem kD(vn vw:aA)(ns:List Nat)(ws:List Int)(o:Int)(hl:ns.length<=300000)(hns:∀n∈ns,n<4294967296)(w:ay)(hvn:Rd w 1 j8 vn ns)(hvw:Rd w 1 encI vw ws):Calls prog 243 #[vn,vw,.int .i64 o] w λe w'=>∃u,e= .returned (.tuple #[u,.int .i64 (ofA ns ws o).2])/\Ext w w'/\Own w' w u (ofA ns ws o).1:=by
 have anr:=hvn;have anq:=hvw;obtain⟨an,cn,rfl,asb,hcan⟩:=Ho hvn;obtain⟨aw,cw,rfl,asa,ZG⟩:=jX hvw;clear hvn hvw ZG;have ao9:=ah anr;have ao8:=ah anq;clear anr anq;by_cases hlw:ns.length=ws
 ·have hd:((ns:Int) !=(ws:Int))=false:=by rw[hlw];simp
  have hd':(ns.length !=ws.length)=false:=by rw[hlw];simp
  have ak4:=ah hlw;clear hlw;go_in;go_wp2;go_loopw [16] (λi wr=>∃k:Nat,k<=ns/\i= .int .i64 k/\Ext w wr/\up ns 0=up (ns.drop k) (Et ns k)) (λi _=>ns.length-(intOf i).toNat)
  case atStart=>exact kf
  case round=>
   obtain⟨k,hk,rfl,hx,hup⟩:=hrel;have HX:=ah hx;by_cases hlt:k<ns
   ·obtain⟨b,q,rfl,g1⟩:=hcan k hlt;rw[ae5 hlt]at hup;replace g1:=hx.cell g1;by_cases h0:0<k
    ·obtain⟨j,hj⟩:∃j,j=k-1:=⟨_,rfl⟩;obtain⟨b',q',e',g2⟩:=hcan j aq;obtain⟨rfl,rfl⟩:b=b'/\q=q':=by simpa using e'
     replace g2:=hx.cell g2;have hjk:((k:Int)-1)=(j:Int):=aq;have hd0:decide (0<k)=true:=aQ h0;have ar7:decide ((0:Int)<k)=true:=aQ aq;have hn:Et ns k=ns[j]' aq+1:=by
      have:=zH (ns:=ns) (k:=j) aq
      rwa [show j+1=k from aq]at this
     have hnx:=zH hlt;rw[hn]at hup;have hnk:=hns _ (aW hlt);have hjl:j<ns:=aq;clear hcan hn;generalize ns[j]' aq=m at *;generalize ns[k]=n at *;have Af:=ah hnx;have Oo:=ah h0;have Hhj:=ah hj;clear hnx h0 hj;by_cases hmn:m+1<=n
     ·have hd1:decide (n<=m)=false:=aT aq;have ar6:decide ((n:Int)<=m)=false:=aT aq;rw[aQ hmn,iP]at hup;have ag0:=ah hup;clear hup;go_wp2_with(go_quiet (fail));go_roundw
      case rel=>exact⟨k+1,aq,bm,cj,by rw[Af.o];exact ag0.o⟩
      case measure=>exact gO
     ·have hd1:decide (n<=m)=true:=aQ aq;have ar6:decide ((n:Int)<=m)=true:=aQ aq;rw[aT hmn,Bool.false_and]at hup;have hA:ofA ns ws o=([],2):=by unfold ofA;rw[aN (λh=>by rw[hup]at h;exact absurd h.2 az)]
      have ag0:=ah hup;have pQ:=ah hA;clear hup hA;go_wp2_with(go_quiet (fail));go_ret2;exact⟨_,(by rw[pQ.o];rfl),cj,by rw[pQ.o];exact dB _ _ _ _⟩
    ·have hnx:=zH hlt;have ans:up ns 0=up (ns.drop (k+1)) (Et ns (k+1)):=by rw[hnx,hup];simp[Et,h0]
     have hd0:decide (0<k)=false:=aT h0;have ar7:decide ((0:Int)<k)=false:=aT aq;have apa:=ah ans;have Oo:=ah h0;clear ans h0 hcan hup hnx;go_wp2_with(go_quiet (fail));go_roundw
     case rel=>exact⟨k+1,aq,bm,cj,apa.o⟩
     case measure=>exact gO
   ·obtain rfl:k=ns.length:=aq;have hA:ofA ns ws o=(merge (pc o ns ws 0),0):=by unfold ofA;rw[aV ⟨ak4.o,by rw[hup,dQ];rfl⟩]
    have ag0:=ah hup;have pQ:=ah hA;clear hup hA;have hlen:=TR o ns ws 0;clear hcan;go_wp2_with(first
     |(go_at_call 292;refine ap (MR _ _ _ _ _ _ _ _) ?_;rintro w1 ⟨hx1,hs1,k1,k2,k3⟩)
     |(go_at_call 291;refine(M4 371 _ w1 (pc o ns ws 0).length (pc o ns ws 0) (aD _) aq _ (aD _) (enters_of func371 ax rfl) (MQ _ _ _ _ _ ns ws o aq ak4.o hns _ (ao9.o.ext (HX.o.trans hx1)) (ao8.o.ext (HX.o.trans hx1)) k1 k2 k3)).mono ?_;rintro e w2 ⟨u,rfl,hx2,hown⟩))
    go_ret2;exact⟨u,(by rw[pQ.o];rfl),(HX.o.trans hx1).trans hx2,by rw[pQ.o];exact kK hown (by have:=HX.o.size;omega)⟩
 ·have hd:((ns:Int) !=(ws:Int))=true:=by simp;omega
  have hd':(ns.length !=ws.length)=true:=by simp;omega
  have hA:ofA ns ws o=([],2):=by unfold ofA;rw[aN (λh=>hlw h.1)]
  rw[hA];have ak4:=ah hlw;have pQ:=ah hA;clear hlw hA hcan;go_in;go_wp2;go_ret2;exact⟨_,rfl,aj _,dB _ _ _ _⟩
def Own.ext(h:Own w base v xs)(hx:Ext w w'):Own w' base v xs:=mS
end Gd
end Go.Proofs.YtopfefhenfineaaGreat
