import Derived.Test.YtopfefhenfineaaGreatP8
import Derived.Deep.RegionLaw
set_option linter.all false
set_option maxRecDepth 100000
set_option maxHeartbeats 8000000
namespace Go.Proofs.YtopfefhenfineaaGreat
open Go.Proofs.Tryz Go.RowKit Go.Shelf V
attribute[local go_sem] Oper.semAt_some
variable{zP:Prop}
def Be(h:zP:=by
 have hlt:∀b,v.ownBlock=some b->B<=b:=λb e=>(ho.lt b e).1
 exact AH):zP:=h
def rK(h:zP:=by
 have:D=(cur.toList.take (xs.length*2)).drop (i*2):=by rw[hcur,pW fM,hD]
 exact io):zP:=h
def qT(h:zP:=by rw[Addr.add_lit,cO,eG (w:=w) (h5 vb hne)];exact lO):zP:=h
def AW(h:zP:=by
 rw[Addr.add_lit];have:D=(cur.toList.take (xs.length*1)).drop (i*1):=by rw[hcur,pW yk,hD]
 exact io):zP:=h
def py(h:zP:=by rw[hzs];exact run_firstCells_some w.drew 1 i ⟨g,0,none⟩ i xs A rM (λj v hj=>by rw[Addr.add_lit,cO];exact hcA j v hj)):zP:=h
def AT(h:zP:=by have hr:Rd w 1 xn (.slice (some vb) 1 1) [x]:=zA xo [x] (by simpa using hvb);exact Be):zP:=h
def oB(h:zP:=by rw[Addr.add_lit,cO];exact(eG (w:=w) (KJ.o.2.1 vb hvw)).trans (HC.o.2.2 j v hj)):zP:=h
def nw(h:zP:=by have:=congrArg Array.size hROW;simp only[bW,Array.size_append,hzl,rM]at this;omega):zP:=h
def mT(h:zP:=by
 split at hj
 ·simp[World.cell?,hg];simpa using hj
 ·cases hj):zP:=h
def mz(h:zP:=by rw[Addr.add_lit];exact(eG (w:=w) ((h4 g aq).trans (KJ.o.2.1 g hgw))).trans (HC.o.2.1 j v hj)):zP:=h
def lO(h:zP:=by simp[World.cell?,hvb];rw[hX]at hj;simpa using hj):zP:=h
def iz(h:zP:=by
 refine⟨_,_,rfl,E0.o,by rw[hfl,aH,aH,rM,vg,hDl];omega,.inr ⟨_,cap,_,rfl,hBg,JV.o.1,hr,hcm,?_,?_⟩⟩
 ·rw[bW,length_splice _ _ _ qO.o.2.2.1,length_splice _ _ _ vD.o.2.2.1,rJ]<;>omega
 ·rw[hfl];exact hs):zP:=h
def lB(h:zP:=by have:=congrArg Array.toList hROW;simp only[Array.toList_append]at this;rw[this,bI];exact List.take_left' rfl):zP:=h
def ja(h:zP:=by
 refine⟨_,_,rfl,E0.o,by rw[hfl,aH,aH,rM,vg,hDl];omega,.inr ⟨_,G,_,rfl,hB,JV.o.1,hGn,UM,?_,?_⟩⟩
 ·rw[bW,length_splice _ _ _ vD.o.2.2,length_splice _ _ _ qO.o.2.2,hRl]<;>omega
 ·rw[hfl];exact hs):zP:=h
def io(h:zP:=by rw[this,List.getElem?_drop,gH]at hj;exact mT):zP:=h
def AK(h:zP:=by
 by_cases hn:i=xs.length
 ·subst hn;rw[bZ,dQ];exact xz B v xs x hl w vb ho hB hvb
 ·rcases ho.2 with⟨rfl,h2⟩|⟨g,cap,cur,rfl,h1,h3,h4,h5,h6,h7⟩
  ·omega
  ·by_cases hr:xs.length<cap
   ·exact xF B g cap cur xs x i aq hl hr h5 w vb h1 h3 h6 h7 hvb (λe=>hne (by rw[e];rfl))
   ·obtain rfl:cap=xs.length:=aq;exact xN B g cur xs x i aq hl w vb h3 h7 hB hvb):zP:=h
def AH(h:zP:=by
 obtain⟨a,c,rfl,hac,hca⟩:∃a c,v= .slice a xs c/\xs.length<=c/\(a=none\/∃g,a=some ⟨g,0,none⟩):=by
  rcases ho.2 with⟨rfl,h2⟩|⟨g,cap,cur,rfl,h1,h3,h4,h5,h6⟩
  ·exact⟨none,0,by rw[h2],aq,.inl rfl⟩
  ·exact⟨_,cap,rfl,h4,.inr ⟨g,rfl⟩⟩
 have HO:=ah ho;have HR:=ah hr;have HL:=ah hlt;clear ho hr hlt hvb;rcases hca with rfl|⟨g,rfl⟩
 all_goals
  go_in
  go_wp2_with(at_builtin
              refine sQ rfl (.tmp 23) (.tmp 24) _ rfl xp xr rfl az xo xt B _ _ xs [x] rfl rfl HO.o HR.o bp az hB ?_;intro EN EJ w5 lM hg5 hs5;have EY:=ah lM;have kM:=ah (Below.grown (Below.refl B w) hg5 hB HL.o);clear lM hg5 hs5)
  all_goals go_ret
  all_goals exact⟨EN,EJ,rfl,kM.o,by simpa using EY.o⟩):zP:=h
def BE(h:zP:=by
 have hnD:D.length=Nat.min (xs+1-i) (xs.length+1-(i+1))*1:=by rw[hDl,show xs.length+1-(i+1)=xs.length-i from aq,show Nat.min (xs+1-i) (xs.length-i)=xs.length-i from Nat.min_eq_right aq]
 have LB:(i+1)*1+D.length<=L:=by rw[hDl,rJ];omega
 have QF:X.length=Nat.min 1 (xs+1-i)*1:=by rw[vg,show Nat.min 1 (xs+1-i)=1 from dI aq]
 have hfX:i*1+X.length<=(splice L ((i+1)*1) D).length:=by rw[length_splice _ _ _ LB,vg,rJ];omega
 have hsz:(Tryz.prog.info? ym).map (·.size)=some 1:=by rw[hi0];simp[hzs]
 have qO:=ah (ak QF (ak QH (ak hfX hX1)));have vD:=ah (ak hnD (ak QI (ak LB hD1)));have HAX:=ah (ak hA (ak hX hD));have DZ:=ah (ak rM (ak vg (ak hDl rJ)));have HLA:=ah hLA;have HG:=ah hgL;clear QF QH hfX hX1 hnD QI LB hD1 hA hX hD rM vg hDl rJ hLA hgL hL hg hvb hcur hsize;have hw1:IntKind.i64.wrap ((i:Int)+1)=(i:Int)+1:=by rw[IntKind.wrap_i64];omega
 have hb2:¬((i:Int)=xs):=aq;have hb3:¬((cap:Int)<xs+1):=aq;have hb4:¬(cap=i):=aq;have hb5:¬(cap=i+1):=aq;have oM:(0:Int)<=i+1:=aq;have htn:((i:Int)+1).toNat=i+1:=aq;have hb8:(i:Int)<=xs:=aq;have SY:(i:Int)+1<=xs+1:=aq;have aoo:(xs:Int)+1<=cap:=aq;have aon:(i:Int)<=xs+1:=aq;simp only[eO]at *;go_in;go_wp2_with(first
  |(simp only[hov]))
 go_region_law(refine pR rfl (.tmp 73) (.tmp 76) yq yq rfl ym 1 az yr hsz (some ⟨g,(i+1),none⟩) (some ⟨g,i,none⟩) (xs.length+1-(i+1)) (cap-(i+1)) (xs+1-i) (cap-i) cJ cJ g ((i+1)) L ym HG.o D (vD.o.1.trans (eO _).symm) (λ_=>⟨rfl,_,rfl,vD.o.2.1⟩) vD.o.2.2.1 vD.o.2.2.2 B w (Below.refl B w).drew hBg ?_;intro w4 Ma hB4);have FZ:=ah hB4;clear hB4;go_wp2_with(first
  |(refine mX rfl _ _ yq yq rfl ym 1 az yr hsz _ _ _ _ _ _ rfl rfl g (i) _ ym Ma.o.1 X (qO.o.1.trans (eO _).symm) (λ_=>⟨rfl,_,rfl,qO.o.2.1 w4 Ma.o.2⟩) qO.o.2.2.1 qO.o.2.2.2 B w FZ.o hBg ?_
    intro w5 JV QK;have E0:=ah QK;clear QK))
 go_ret;obtain⟨hA,hX,hD⟩:=HAX.o;obtain⟨rM,vg,hDl,rJ⟩:=DZ.o;have hs:=aiI L A X D HLA.o fR;rw[rM,vg,hDl,show(i+1)+(xs.length-i)=(xs.length+1)*1 from aq]at hs;have hfl:(xs.take i++x::xs.drop i).flatMap yi=A++(X++D):=by rw[iO,eP,<-hA,<-hX,<-hD]
 exact iz):zP:=h
def dl(h:zP:=by rw[hzb,hin];exact growslice_fits (by omega) (by omega)):zP:=h
def de(h:zP:=by simp[World.frozen?,hvb]):zP:=h
def eR(h:zP:=by simp[World.shape?,hg,hsize]):zP:=h
def cJ(h:zP:=by simp[Act.eval,Act.put]):zP:=h
def fR(h:zP:=by rw[rM,vg,hDl,rJ];omega):zP:=h
namespace LT
namespace xv
abbrev xn:=@fD
abbrev xo:=@fM
abbrev xp:=@underlying29
abbrev xr:=@Iu
abbrev xt:=@oz
end xv
open xv in
theorem aaH(B:Nat)(v:aA)(xs:List Cl)(x:Cl)(hl:xs.length<=1000000)(w:ay)(vb:Nat)(ho:w.ownsRow B 121 2 v xs (xs.flatMap fD))(hB:B<=w.heap.size)(hvb:w.heap[vb]?=some (.cells (fD x).toArray 121 (0,0))):Calls prog 383 #[v,.int .i64 xs,.slice (some vb) 1 1] w λe w'=>∃au cu,e= .returned (.slice au (xs+1) cu)/\Below B w w'/\w'.ownsRow B 121 2 (.slice au (xs+1) cu) (xs+1) ((xs++[x]).flatMap fD):=by have hr:Rd w 2 xn (.slice (some vb) 1 1) [x]:=zA xo [x] (by simpa using hvb);exact Be
theorem Vz(B:Nat)(g:Nat)(cur:Array aA)(xs:List Cl)(x:Cl)(i:Nat)(hi:i<xs)(hl:xs.length<=1000000)(w:ay)(vb:Nat)(hg:w.heap[g]?=some (.cells cur 121 (0,0)))(hcur:cur.toList.take (xs.length*2)=xs.flatMap fD)(hB:B<=w.heap.size)(hvb:w.heap[vb]?=some (.cells (fD x).toArray 121 (0,0))):Calls prog 383 #[.slice (some g) xs xs.length,.int .i64 i,.slice (some vb) 1 1] w λe w'=>∃au cu,e= .returned (.slice au (xs+1) cu)/\Below B w w'/\w'.ownsRow B 121 2 (.slice au (xs+1) cu) (xs+1) ((xs.take i++x::xs.drop i).flatMap fD):=by
 obtain⟨i0,hi0,hz0,hzs,hzb⟩:=jo Iu;have hgw:g<w.heap.size:=(aB.1 hg).1;have hvw:vb<w.heap.size:=(aB.1 hvb).1;obtain⟨A,hA⟩:∃A,A=(xs.take i).flatMap fD:=⟨_,rfl⟩;obtain⟨X,hX⟩:∃X,X=fD x:=⟨_,rfl⟩;obtain⟨D,hD⟩:∃D,D=(xs.drop i).flatMap fD:=⟨_,rfl⟩;have rM:A.length=i*2:=by rw[hA,lQ fM,bC,dI aq]
 have vg:X.length=2:=by rw[hX];exact fM x
 have hDl:D.length=(xs.length-i)*2:=by rw[hD,lQ fM,cZ]
 have hA1:∀v∈A,v.oneCell'=true:=by rw[hA];exact nO oz _
 have hX1:∀v∈X,v.oneCell'=true:=by rw[hX];exact oz _
 have hD1:∀v∈D,v.oneCell'=true:=by rw[hD];exact nO oz _
 have hcA:∀j v,A[j]?=some v->w.cell? ⟨g,j,none⟩=some v:=λj v hj=>by
  have:A=cur.toList.take (i*2):=by rw[hA,<-mF fM,<-hcur,i6,dI aq]
  rw[this,gH]at hj;exact mT
 have QI:∀j v,D[j]?=some v->w.cell? ⟨g,i*2+j,none⟩=some v:=λj v hj=>rK
 have QH:∀j v,X[j]?=some v->w.cell? ⟨vb,j,none⟩=some v:=λj v hj=>lO
 obtain⟨G,hG⟩:∃G,G=grownCap w (xs+1) xs 121:=⟨_,rfl⟩;obtain⟨ROW,hROW⟩:∃ROW:List aA,ROW.toArray=A.toArray++Builtin.zeroCells (.agg #[.string ⟨#[]⟩,.int .u32 0]:aA).cells (xs+1-i)++Builtin.zeroCells (.agg #[.string ⟨#[]⟩,.int .u32 0]:aA).cells (G-(xs.length+1)):=⟨_,Array.toArray_toList⟩;have hGn:xs.length+1<=G:=by rw[hG];exact grownCap_ge w _ _ _
 have UM:G<=maxLen:=by rw[hG];exact grownCap_le_maxLen w _ _ _ cH
 have hzl:∀m,(Builtin.zeroCells (.agg #[.string ⟨#[]⟩,.int .u32 0]:aA).cells m).size=m*2:=λm=>by simp[Builtin.zeroCells,Value.cells]
 have hRl:ROW.length=G*2:=nw
 have hRA:ROW.take A.length=A:=lB
 have hold:(Builtin.firstCells i0.size i (.slice (some g) i xs)).run prog w.drew= .ok A.toArray w.drew:=by rw[hzs];exact run_firstCells_some w.drew 2 i ⟨g,0,none⟩ i xs A rM (λj v hj=>by rw[Addr.add_lit,cO];exact hcA j v hj)
 have hin:i+(xs.length+1-i)=xs.length+1:=aq;have hrz:∀ty,(Builtin.append_ #[29,3] ty #[.slice (some g) i xs.length,.int .i64 ((xs.length+1-i:Nat):Int)]).run prog w= .ok (.slice (some w) (xs+1) G) (w.drew.alloc (.cells ROW.toArray 121)):=λty=>by have h:=Lib.run_append_grow_zeros (P:=prog) w 29 3 ty 121 i0 _ .i64 .i64 underlying29 ax hi0 hz0 (some g) i xs A hold (xs+1-i) aq aq aq aq (by rw[hzb];omega) dl;rw[hin,<-hG,<-hROW]at h;exact h
 obtain⟨W1,hW1⟩:∃W1,W1=w.drew.alloc (.cells ROW.toArray 121):=⟨_,rfl⟩;rw[<-hW1]at hrz;have hN:W1.heap[w.heap.size]?=some (.cells ROW.toArray 121 (0,0)):=by rw[hW1];show(w.heap.push _)[w.heap.size]?=_;simp
 have hE:∀m,m<w.heap.size->W1.heap[m]?=w.heap[m]?:=λm hm=>by rw[hW1];exact((aj w).drew.alloc _).block hm
 have hB1:Below B w W1:=by rw[hW1];exact((Below.refl B w).drew).alloc hB _
 have hb1:(xs:Int)+1-i=((xs.length+1-i:Nat):Int):=aq;have hb2:¬((i:Int)=xs):=aq;have hb3:(xs:Int)<xs+1:=aq;have hb4:¬(G=i):=aq;have hb5:¬(G=i+1):=aq;have hb6:¬(xs.length=i):=aq;have HC:=ah (ak hcA (ak QI QH));have H1:=ah (ak hA1 (ak hX1 hD1));have DZ:=ah (ak rM (ak vg (ak hDl hRl)));have HRA:=ah hRA;have KJ:=ah (ak hB1 (ak hE hN));have HAX:=ah (ak hA (ak hX hD));clear hcA QI QH hA1 hX1 hD1 rM vg hDl hRl hRA hB1 hE hN hA hX hD hcur hROW hG hold hzl hW1 hvb hg;have QF:X.length=Nat.min 1 (xs+1-i)*2:=by rw[DZ.o.2.1,show Nat.min 1 (xs+1-i)=1 from dI aq]
 have hpX:∀j v,X[j]?=some v->W1.cell? ((vb:Addr).add j)=some v:=λj v hj=>oB
 have hfX:i*2+X.length<=ROW:=by rw[DZ.o.2.1,DZ.o.2.2.2];omega
 have hnD:D.length=Nat.min (xs-i) (xs.length+1-(i+1))*2:=by rw[DZ.o.2.2.1,show xs.length+1-(i+1)=xs.length-i from aq];simp
 have LB:(i+1)*2+D.length<=(splice ROW (i*2) X).length:=by rw[length_splice _ _ _ hfX,DZ.o.2.2.1,DZ.o.2.2.2];omega
 have hpD:∀w4:ay,(∀m,m≠w.heap.size->w4.heap[m]?=W1.heap[m]?)->∀j v,D[j]?=some v->w4.cell? ((⟨g,i*2,none⟩:Addr).add j)=some v:=λw4 h4 j v hj=>mz
 have qO:=ah (ak QF (ak hpX hfX));have vD:=ah (ak hnD (ak hpD LB));clear QF hpX hfX hnD hpD LB;have hsz:(Tryz.prog.info? 121).map (·.size)=some 2:=by rw[hi0];simp[hzs]
 have hw1:IntKind.i64.wrap ((i:Int)+1)=(i:Int)+1:=by rw[IntKind.wrap_i64];omega
 have oM:(0:Int)<=i+1:=aq;have htn:((i:Int)+1).toNat=i+1:=aq;have hb8:(i:Int)<=xs:=aq;have SY:(i:Int)+1<=xs+1:=aq;go_in;go_wp2_with(first
  |(at_builtin;refine Lib.wpList_append_run _ rfl _ _ _ _ rfl _ _ rfl rfl _ _ (hrz _) ?_)
  |(refine mX rfl _ _ 29 29 rfl 121 2 az underlying29 (by rw[hi0];simp[hzs]) _ _ _ _ _ _ rfl rfl w.heap.size (i*2) ROW 121 KJ.o.2.2 X qO.o.1 (λ_=>⟨rfl,_,rfl,qO.o.2.1⟩) qO.o.2.2 H1.o.2.1 B w KJ.o.1 hB ?_
    intro w4 Ma hB4;have FZ:=ah hB4;clear hB4))
 go_region_law(refine pR rfl (.tmp 50) (.tmp 53) 29 29 rfl 121 2 az underlying29 hsz (some ⟨w,(i+1)*2,none⟩) (some ⟨g,i*2,none⟩) (xs.length+1-(i+1)) (G-(i+1)) (xs-i) (xs.length-i) cJ cJ w ((i+1)*2) _ 121 Ma.o.1 D vD.o.1 (λ_=>⟨rfl,_,rfl,vD.o.2.1 w4 Ma.o.2⟩) vD.o.2.2 H1.o.2.2 B w FZ.o.drew hB ?_;intro w5 JV QK);have E0:=ah QK;clear QK;go_wp2_with fail;go_ret;obtain⟨hA,hX,hD⟩:=HAX.o;obtain⟨rM,vg,hDl,hRl⟩:=DZ.o;have hs:=aiJ ROW A X D HRA.o;rw[rM,vg,hDl,show i*2+2=(i+1)*2 from aq,show(i+1)*2+(xs.length-i)*2=(xs.length+1)*2 from aq]at hs;have hfl:(xs.take i++x::xs.drop i).flatMap fD=A++(X++D):=by rw[iO,eP,<-hA,<-hX,<-hD]
 exact ja
theorem RU(B:Nat)(g cap:Nat)(cur:Array aA)(xs:List Cl)(x:Cl)(i:Nat)(hi:i<xs)(hl:xs.length<=1000000)(hr:xs.length<cap)(hcm:cap<=maxLen)(w:ay)(vb:Nat)(hBg:B<=g)(hg:w.heap[g]?=some (.cells cur 121 (0,0)))(hsize:cur.size=cap*2)(hcur:cur.toList.take (xs.length*2)=xs.flatMap fD)(hvb:w.heap[vb]?=some (.cells (fD x).toArray 121 (0,0)))(hne:vb≠g):Calls prog 383 #[.slice (some g) xs cap,.int .i64 i,.slice (some vb) 1 1] w λe w'=>∃au cu,e= .returned (.slice au (xs+1) cu)/\Below B w w'/\w'.ownsRow B 121 2 (.slice au (xs+1) cu) (xs+1) ((xs.take i++x::xs.drop i).flatMap fD):=by
 obtain⟨i0,hi0,hz0,hzs,hzb⟩:=jo Iu;obtain⟨A,hA⟩:∃A,A=(xs.take i).flatMap fD:=⟨_,rfl⟩;obtain⟨X,hX⟩:∃X,X=fD x:=⟨_,rfl⟩;obtain⟨D,hD⟩:∃D,D=(xs.drop i).flatMap fD:=⟨_,rfl⟩;have rM:A.length=i*2:=by rw[hA,lQ fM,bC,dI aq]
 have vg:X.length=2:=by rw[hX];exact fM x
 have hDl:D.length=(xs.length-i)*2:=by rw[hD,lQ fM,cZ]
 have hX1:∀v∈X,v.oneCell'=true:=by rw[hX];exact oz _
 have hD1:∀v∈D,v.oneCell'=true:=by rw[hD];exact nO oz _
 obtain⟨L,hL⟩:∃L:List aA,L=cur.toList:=⟨_,rfl⟩;have rJ:L.length=cap*2:=by rw[hL];simpa using hsize
 have hgL:w.heap[g]?=some (.cells L.toArray 121 (0,0)):=by rw[hL];simpa using hg
 have hLA:L.take A.length=A:=by rw[rM,hL,hA,<-mF fM,<-hcur,i6,dI aq]
 have QI:∀j v,D[j]?=some v->w.cell? ((⟨g,i*2,none⟩:Addr).add j)=some v:=λj v hj=>by rw[Addr.add_lit];exact rK
 have QH:∀w5:ay,(∀m,m≠g->w5.heap[m]?=w.heap[m]?)->∀j v,X[j]?=some v->w5.cell? ((vb:Addr).add j)=some v:=λw5 h5 j v hj=>qT
 have hov:∀lb cb,(callFunc 410 #[.slice (some vb) 1 1,.slice (some ⟨g,(i+1)*2,none⟩) lb cb]).run prog w= .ok (.value (.bool false)) w:=λlb cb=>by
  rw[run_callFunc_extern func410 ax ax ax (e:=Extern.SlicesOverlaps.overlaps #[29,29] #[4]) ax,
   Lib.run_overlaps_apart (P:=prog) w 29 4 121 underlying29 2 (λw=>by simp[sizeOf,typeInfo,hi0,hzs]) ⟨vb,0,none⟩ ⟨g,(i+1)*2,none⟩ 1 1 lb cb hne 121 121 2 (cap*2) (by simp[World.shape?,hvb];exact fM x) eR aq de de]
  rfl
 have hnD:D.length=Nat.min (xs+1-i) (xs.length+1-(i+1))*2:=by rw[hDl,show xs.length+1-(i+1)=xs.length-i from aq,show Nat.min (xs+1-i) (xs.length-i)=xs.length-i from Nat.min_eq_right aq]
 have LB:(i+1)*2+D.length<=L:=by rw[hDl,rJ];omega
 have QF:X.length=Nat.min 1 (xs+1-i)*2:=by rw[vg,show Nat.min 1 (xs+1-i)=1 from dI aq]
 have hfX:i*2+X.length<=(splice L ((i+1)*2) D).length:=by rw[length_splice _ _ _ LB,vg,rJ];omega
 have hsz:(Tryz.prog.info? 121).map (·.size)=some 2:=by rw[hi0];simp[hzs]
 have qO:=ah (ak QF (ak QH (ak hfX hX1)));have vD:=ah (ak hnD (ak QI (ak LB hD1)));have HAX:=ah (ak hA (ak hX hD));have DZ:=ah (ak rM (ak vg (ak hDl rJ)));have HLA:=ah hLA;have HG:=ah hgL;clear QF QH hfX hX1 hnD QI LB hD1 hA hX hD rM vg hDl rJ hLA hgL hL hg hvb hcur hsize;have hw1:IntKind.i64.wrap ((i:Int)+1)=(i:Int)+1:=by rw[IntKind.wrap_i64];omega
 have hb2:¬((i:Int)=xs):=aq;have hb3:¬((cap:Int)<xs+1):=aq;have hb4:¬(cap=i):=aq;have hb5:¬(cap=i+1):=aq;have oM:(0:Int)<=i+1:=aq;have htn:((i:Int)+1).toNat=i+1:=aq;have hb8:(i:Int)<=xs:=aq;have SY:(i:Int)+1<=xs+1:=aq;have aoo:(xs:Int)+1<=cap:=aq;have aon:(i:Int)<=xs+1:=aq;go_in;go_wp2_with(first
  |(simp only[hov]))
 go_region_law(refine pR rfl (.tmp 73) (.tmp 76) 29 29 rfl 121 2 az underlying29 hsz (some ⟨g,(i+1)*2,none⟩) (some ⟨g,i*2,none⟩) (xs.length+1-(i+1)) (cap-(i+1)) (xs+1-i) (cap-i) cJ cJ g ((i+1)*2) L 121 HG.o D vD.o.1 (λ_=>⟨rfl,_,rfl,vD.o.2.1⟩) vD.o.2.2.1 vD.o.2.2.2 B w (Below.refl B w).drew hBg ?_;intro w4 Ma hB4);have FZ:=ah hB4;clear hB4;go_wp2_with(first
  |(refine mX rfl _ _ 29 29 rfl 121 2 az underlying29 hsz _ _ _ _ _ _ rfl rfl g (i*2) _ 121 Ma.o.1 X qO.o.1 (λ_=>⟨rfl,_,rfl,qO.o.2.1 w4 Ma.o.2⟩) qO.o.2.2.1 qO.o.2.2.2 B w FZ.o hBg ?_
    intro w5 JV QK;have E0:=ah QK;clear QK))
 go_ret;obtain⟨hA,hX,hD⟩:=HAX.o;obtain⟨rM,vg,hDl,rJ⟩:=DZ.o;have hs:=aiI L A X D HLA.o fR;rw[rM,vg,hDl,show i*2+2=(i+1)*2 from aq,show(i+1)*2+(xs.length-i)*2=(xs.length+1)*2 from aq]at hs;have hfl:(xs.take i++x::xs.drop i).flatMap fD=A++(X++D):=by rw[iO,eP,<-hA,<-hX,<-hD]
 exact iz
namespace xT
abbrev xz:=@aaH
abbrev xF:=@RU
abbrev xN:=@Vz
end xT
open xT in
theorem RX(B:Nat)(v:aA)(xs:List Cl)(x:Cl)(i:Nat)(hi:i<=xs)(hl:xs.length<=1000000)(w:ay)(vb:Nat)(ho:w.ownsRow B 121 2 v xs (xs.flatMap fD))(hB:B<=w.heap.size)(hvb:w.heap[vb]?=some (.cells (fD x).toArray 121 (0,0)))(hne:v.ownBlock≠some vb):Calls prog 383 #[v,.int .i64 i,.slice (some vb) 1 1] w λe w'=>∃au cu,e= .returned (.slice au (xs+1) cu)/\Below B w w'/\w'.ownsRow B 121 2 (.slice au (xs+1) cu) (xs+1) ((xs.take i++x::xs.drop i).flatMap fD):=by exact AK
namespace xx
abbrev xn:=@i3
abbrev xo:=@iD
abbrev xp:=@underlying28
abbrev xr:=@FC
abbrev xt:=@oq
end xx
open xx in
theorem aeb(B:Nat)(v:aA)(xs:List Int)(x:Int)(hl:xs.length<=1000000)(w:ay)(vb:Nat)(ho:w.ownsRow B 3 1 v xs (xs.flatMap i3))(hB:B<=w.heap.size)(hvb:w.heap[vb]?=some (.cells (i3 x).toArray 3 (0,0))):Calls prog 348 #[v,.int .i64 xs,.slice (some vb) 1 1] w λe w'=>∃au cu,e= .returned (.slice au (xs+1) cu)/\Below B w w'/\w'.ownsRow B 3 1 (.slice au (xs+1) cu) (xs+1) ((xs++[x]).flatMap i3):=by exact AT
theorem aaG(B:Nat)(g:Nat)(cur:Array aA)(xs:List Int)(x:Int)(i:Nat)(hi:i<xs)(hl:xs.length<=1000000)(w:ay)(vb:Nat)(hg:w.heap[g]?=some (.cells cur 3 (0,0)))(hcur:cur.toList.take (xs.length*1)=xs.flatMap i3)(hB:B<=w.heap.size)(hvb:w.heap[vb]?=some (.cells (i3 x).toArray 3 (0,0))):Calls prog 348 #[.slice (some g) xs xs.length,.int .i64 i,.slice (some vb) 1 1] w λe w'=>∃au cu,e= .returned (.slice au (xs+1) cu)/\Below B w w'/\w'.ownsRow B 3 1 (.slice au (xs+1) cu) (xs+1) ((xs.take i++x::xs.drop i).flatMap i3):=by
 obtain⟨i0,hi0,hz0,hzs,hzb⟩:=jo FC;have hgw:g<w.heap.size:=(aB.1 hg).1;have hvw:vb<w.heap.size:=(aB.1 hvb).1;obtain⟨A,hA⟩:∃A,A=(xs.take i).flatMap i3:=⟨_,rfl⟩;obtain⟨X,hX⟩:∃X,X=i3 x:=⟨_,rfl⟩;obtain⟨D,hD⟩:∃D,D=(xs.drop i).flatMap i3:=⟨_,rfl⟩;have rM:A.length=i*1:=by rw[hA,lQ iD,bC,dI aq]
 have vg:X.length=1:=by rw[hX];exact iD x
 have hDl:D.length=(xs.length-i)*1:=by rw[hD,lQ iD,cZ]
 have hA1:∀v∈A,v.oneCell'=true:=by rw[hA];exact nO oq _
 have hX1:∀v∈X,v.oneCell'=true:=by rw[hX];exact oq _
 have hD1:∀v∈D,v.oneCell'=true:=by rw[hD];exact nO oq _
 have hcA:∀j v,A[j]?=some v->w.cell? ⟨g,j,none⟩=some v:=λj v hj=>by
  have:A=cur.toList.take (i*1):=by rw[hA,<-mF iD,<-hcur,i6,dI aq]
  rw[this,gH]at hj;exact mT
 have QI:∀j v,D[j]?=some v->w.cell? ⟨g,i*1+j,none⟩=some v:=λj v hj=>by
  have:D=(cur.toList.take (xs.length*1)).drop (i*1):=by rw[hcur,pW iD,hD]
  exact io
 have QH:∀j v,X[j]?=some v->w.cell? ⟨vb,j,none⟩=some v:=λj v hj=>lO
 obtain⟨G,hG⟩:∃G,G=grownCap w (xs+1) xs 3:=⟨_,rfl⟩;obtain⟨ROW,hROW⟩:∃ROW:List aA,ROW.toArray=A.toArray++Builtin.zeroCells (.int .i64 0:aA).cells (xs+1-i)++Builtin.zeroCells (.int .i64 0:aA).cells (G-(xs.length+1)):=⟨_,Array.toArray_toList⟩;have hGn:xs.length+1<=G:=by rw[hG];exact grownCap_ge w _ _ _
 have UM:G<=maxLen:=by rw[hG];exact grownCap_le_maxLen w _ _ _ cH
 have hzl:∀m,(Builtin.zeroCells (.int .i64 0:aA).cells m).size=m*1:=λm=>by simp[Builtin.zeroCells,Value.cells]
 have hRl:ROW.length=G*1:=nw
 have hRA:ROW.take A.length=A:=lB
 have hold:(Builtin.firstCells i0.size i (.slice (some g) i xs)).run prog w.drew= .ok A.toArray w.drew:=py
 have hin:i+(xs.length+1-i)=xs.length+1:=aq;have hrz:∀ty,(Builtin.append_ #[28,3] ty #[.slice (some g) i xs.length,.int .i64 ((xs.length+1-i:Nat):Int)]).run prog w= .ok (.slice (some w) (xs+1) G) (w.drew.alloc (.cells ROW.toArray 3)):=λty=>by have h:=Lib.run_append_grow_zeros (P:=prog) w 28 3 ty 3 i0 _ .i64 .i64 underlying28 ax hi0 hz0 (some g) i xs A hold (xs+1-i) aq aq aq aq (by rw[hzb];omega) dl;rw[hin,<-hG,<-hROW]at h;exact h
 obtain⟨W1,hW1⟩:∃W1,W1=w.drew.alloc (.cells ROW.toArray 3):=⟨_,rfl⟩;rw[<-hW1]at hrz;have hN:W1.heap[w.heap.size]?=some (.cells ROW.toArray 3 (0,0)):=by rw[hW1];show(w.heap.push _)[w.heap.size]?=_;simp
 have hE:∀m,m<w.heap.size->W1.heap[m]?=w.heap[m]?:=λm hm=>by rw[hW1];exact((aj w).drew.alloc _).block hm
 have hB1:Below B w W1:=by rw[hW1];exact((Below.refl B w).drew).alloc hB _
 have hb1:(xs:Int)+1-i=((xs.length+1-i:Nat):Int):=aq;have hb2:¬((i:Int)=xs):=aq;have hb3:(xs:Int)<xs+1:=aq;have hb4:¬(G=i):=aq;have hb5:¬(G=i+1):=aq;have hb6:¬(xs.length=i):=aq;have HC:=ah (ak hcA (ak QI QH));have H1:=ah (ak hA1 (ak hX1 hD1));have DZ:=ah (ak rM (ak vg (ak hDl hRl)));have HRA:=ah hRA;have KJ:=ah (ak hB1 (ak hE hN));have HAX:=ah (ak hA (ak hX hD));clear hcA QI QH hA1 hX1 hD1 rM vg hDl hRl hRA hB1 hE hN hA hX hD hcur hROW hG hold hzl hW1 hvb hg;have QF:X.length=Nat.min 1 (xs+1-i)*1:=by rw[DZ.o.2.1,show Nat.min 1 (xs+1-i)=1 from dI aq]
 have hpX:∀j v,X[j]?=some v->W1.cell? ((vb:Addr).add j)=some v:=λj v hj=>oB
 have hfX:i*1+X.length<=ROW:=by rw[DZ.o.2.1,DZ.o.2.2.2];omega
 have hnD:D.length=Nat.min (xs-i) (xs.length+1-(i+1))*1:=by rw[DZ.o.2.2.1,show xs.length+1-(i+1)=xs.length-i from aq];simp
 have LB:(i+1)*1+D.length<=(splice ROW (i*1) X).length:=by rw[length_splice _ _ _ hfX,DZ.o.2.2.1,DZ.o.2.2.2];omega
 have hpD:∀w4:ay,(∀m,m≠w.heap.size->w4.heap[m]?=W1.heap[m]?)->∀j v,D[j]?=some v->w4.cell? ((⟨g,i*1,none⟩:Addr).add j)=some v:=λw4 h4 j v hj=>mz
 have qO:=ah (ak QF (ak hpX hfX));have vD:=ah (ak hnD (ak hpD LB));clear QF hpX hfX hnD hpD LB;have hsz:(Tryz.prog.info? 3).map (·.size)=some 1:=by rw[hi0];simp[hzs]
 have hw1:IntKind.i64.wrap ((i:Int)+1)=(i:Int)+1:=by rw[IntKind.wrap_i64];omega
 have oM:(0:Int)<=i+1:=aq;have htn:((i:Int)+1).toNat=i+1:=aq;have hb8:(i:Int)<=xs:=aq;have SY:(i:Int)+1<=xs+1:=aq;simp only[eO]at *;go_in;go_wp2_with(first
  |(at_builtin;refine Lib.wpList_append_run _ rfl _ _ _ _ rfl _ _ rfl rfl _ _ (hrz _) ?_)
  |(refine mX rfl _ _ 28 28 rfl 3 1 az underlying28 (by rw[hi0];simp[hzs]) _ _ _ _ _ _ rfl rfl w.heap.size (i) ROW 3 KJ.o.2.2 X (qO.o.1.trans (eO _).symm) (λ_=>⟨rfl,_,rfl,qO.o.2.1⟩) qO.o.2.2 H1.o.2.1 B w KJ.o.1 hB ?_
    intro w4 Ma hB4;have FZ:=ah hB4;clear hB4))
 go_region_law(refine pR rfl (.tmp 50) (.tmp 53) 28 28 rfl 3 1 az underlying28 hsz (some ⟨w,(i+1),none⟩) (some ⟨g,i,none⟩) (xs.length+1-(i+1)) (G-(i+1)) (xs-i) (xs.length-i) cJ cJ w ((i+1)) _ 3 Ma.o.1 D (vD.o.1.trans (eO _).symm) (λ_=>⟨rfl,_,rfl,vD.o.2.1 w4 Ma.o.2⟩) vD.o.2.2 H1.o.2.2 B w FZ.o.drew hB ?_;intro w5 JV QK);have E0:=ah QK;clear QK;go_wp2_with fail;go_ret;obtain⟨hA,hX,hD⟩:=HAX.o;obtain⟨rM,vg,hDl,hRl⟩:=DZ.o;have hs:=aiJ ROW A X D HRA.o;rw[rM,vg,hDl,show(i+1)+(xs.length-i)=(xs.length+1)*1 from aq]at hs;have hfl:(xs.take i++x::xs.drop i).flatMap i3=A++(X++D):=by rw[iO,eP,<-hA,<-hX,<-hD]
 exact ja
namespace yv
abbrev ye:=@FC
abbrev yi:=@i3
abbrev yk:=@iD
abbrev yl:=@oq
abbrev ym:Nat:=3
abbrev yn:Nat:=388
abbrev yo:=@func388
abbrev yq:Nat:=28
abbrev yr:=@underlying28
end yv
open yv in
theorem Vx(B:Nat)(g cap:Nat)(cur:Array aA)(xs:List Int)(x:Int)(i:Nat)(hi:i<xs)(hl:xs.length<=1000000)(hr:xs.length<cap)(hcm:cap<=maxLen)(w:ay)(vb:Nat)(hBg:B<=g)(hg:w.heap[g]?=some (.cells cur 3 (0,0)))(hsize:cur.size=cap*1)(hcur:cur.toList.take (xs.length*1)=xs.flatMap i3)(hvb:w.heap[vb]?=some (.cells (i3 x).toArray 3 (0,0)))(hne:vb≠g):Calls prog 348 #[.slice (some g) xs cap,.int .i64 i,.slice (some vb) 1 1] w λe w'=>∃au cu,e= .returned (.slice au (xs+1) cu)/\Below B w w'/\w'.ownsRow B 3 1 (.slice au (xs+1) cu) (xs+1) ((xs.take i++x::xs.drop i).flatMap i3):=by
 obtain⟨i0,hi0,hz0,hzs,hzb⟩:=jo ye;obtain⟨A,hA⟩:∃A,A=(xs.take i).flatMap yi:=⟨_,rfl⟩;obtain⟨X,hX⟩:∃X,X=yi x:=⟨_,rfl⟩;obtain⟨D,hD⟩:∃D,D=(xs.drop i).flatMap yi:=⟨_,rfl⟩;have rM:A.length=i*1:=by rw[hA,lQ yk,bC,dI aq]
 have vg:X.length=1:=by rw[hX];exact yk x
 have hDl:D.length=(xs.length-i)*1:=by rw[hD,lQ yk,cZ]
 have hX1:∀v∈X,v.oneCell'=true:=by rw[hX];exact yl _
 have hD1:∀v∈D,v.oneCell'=true:=by rw[hD];exact nO yl _
 obtain⟨L,hL⟩:∃L:List aA,L=cur.toList:=⟨_,rfl⟩;have rJ:L.length=cap*1:=by rw[hL];simpa using hsize
 have hgL:w.heap[g]?=some (.cells L.toArray ym (0,0)):=by rw[hL];simpa using hg
 have hLA:L.take A.length=A:=by rw[rM,hL,hA,<-mF yk,<-hcur,i6,dI aq]
 have QI:∀j v,D[j]?=some v->w.cell? ((⟨g,i*1,none⟩:Addr).add j)=some v:=λj v hj=>AW
 have QH:∀w5:ay,(∀m,m≠g->w5.heap[m]?=w.heap[m]?)->∀j v,X[j]?=some v->w5.cell? ((vb:Addr).add j)=some v:=λw5 h5 j v hj=>qT
 have hov:∀lb cb,(callFunc yn #[.slice (some vb) 1 1,.slice (some ⟨g,(i+1)*1,none⟩) lb cb]).run prog w= .ok (.value (.bool false)) w:=λlb cb=>by
  rw[run_callFunc_extern yo ax ax ax (e:=Extern.SlicesOverlaps.overlaps #[28,28] #[4]) ax,
   Lib.run_overlaps_apart (P:=prog) w yq 4 ym yr 1 (λw=>by simp[sizeOf,typeInfo,hi0,hzs]) ⟨vb,0,none⟩ ⟨g,(i+1)*1,none⟩ 1 1 lb cb hne ym ym 1 (cap*1) (by simp[World.shape?,hvb];exact yk x) eR aq de de]
  rfl
 exact BE
namespace ya
abbrev xz:=@aeb
abbrev xF:=@Vx
abbrev xN:=@aaG
end ya
open ya in
theorem Vy(B:Nat)(v:aA)(xs:List Int)(x:Int)(i:Nat)(hi:i<=xs)(hl:xs.length<=1000000)(w:ay)(vb:Nat)(ho:w.ownsRow B 3 1 v xs (xs.flatMap i3))(hB:B<=w.heap.size)(hvb:w.heap[vb]?=some (.cells (i3 x).toArray 3 (0,0)))(hne:v.ownBlock≠some vb):Calls prog 348 #[v,.int .i64 i,.slice (some vb) 1 1] w λe w'=>∃au cu,e= .returned (.slice au (xs+1) cu)/\Below B w w'/\w'.ownsRow B 3 1 (.slice au (xs+1) cu) (xs+1) ((xs.take i++x::xs.drop i).flatMap i3):=by exact AK
namespace xy
abbrev xn:=@i8
abbrev xo:=@iK
abbrev xp:=@underlying33
abbrev xr:=@EC
abbrev xt:=@oo
end xy
open xy in
theorem aea(B:Nat)(v:aA)(xs:List Nat)(x:Nat)(hl:xs.length<=1000000)(w:ay)(vb:Nat)(ho:w.ownsRow B 32 1 v xs (xs.flatMap i8))(hB:B<=w.heap.size)(hvb:w.heap[vb]?=some (.cells (i8 x).toArray 32 (0,0))):Calls prog 352 #[v,.int .i64 xs,.slice (some vb) 1 1] w λe w'=>∃au cu,e= .returned (.slice au (xs+1) cu)/\Below B w w'/\w'.ownsRow B 32 1 (.slice au (xs+1) cu) (xs+1) ((xs++[x]).flatMap i8):=by exact AT
theorem aaF(B:Nat)(g:Nat)(cur:Array aA)(xs:List Nat)(x:Nat)(i:Nat)(hi:i<xs)(hl:xs.length<=1000000)(w:ay)(vb:Nat)(hg:w.heap[g]?=some (.cells cur 32 (0,0)))(hcur:cur.toList.take (xs.length*1)=xs.flatMap i8)(hB:B<=w.heap.size)(hvb:w.heap[vb]?=some (.cells (i8 x).toArray 32 (0,0))):Calls prog 352 #[.slice (some g) xs xs.length,.int .i64 i,.slice (some vb) 1 1] w λe w'=>∃au cu,e= .returned (.slice au (xs+1) cu)/\Below B w w'/\w'.ownsRow B 32 1 (.slice au (xs+1) cu) (xs+1) ((xs.take i++x::xs.drop i).flatMap i8):=by
 obtain⟨i0,hi0,hz0,hzs,hzb⟩:=jo EC;have hgw:g<w.heap.size:=(aB.1 hg).1;have hvw:vb<w.heap.size:=(aB.1 hvb).1;obtain⟨A,hA⟩:∃A,A=(xs.take i).flatMap i8:=⟨_,rfl⟩;obtain⟨X,hX⟩:∃X,X=i8 x:=⟨_,rfl⟩;obtain⟨D,hD⟩:∃D,D=(xs.drop i).flatMap i8:=⟨_,rfl⟩;have rM:A.length=i*1:=by rw[hA,lQ iK,bC,dI aq]
 have vg:X.length=1:=by rw[hX];exact iK x
 have hDl:D.length=(xs.length-i)*1:=by rw[hD,lQ iK,cZ]
 have hA1:∀v∈A,v.oneCell'=true:=by rw[hA];exact nO oo _
 have hX1:∀v∈X,v.oneCell'=true:=by rw[hX];exact oo _
 have hD1:∀v∈D,v.oneCell'=true:=by rw[hD];exact nO oo _
 have hcA:∀j v,A[j]?=some v->w.cell? ⟨g,j,none⟩=some v:=λj v hj=>by
  have:A=cur.toList.take (i*1):=by rw[hA,<-mF iK,<-hcur,i6,dI aq]
  rw[this,gH]at hj;exact mT
 have QI:∀j v,D[j]?=some v->w.cell? ⟨g,i*1+j,none⟩=some v:=λj v hj=>by
  have:D=(cur.toList.take (xs.length*1)).drop (i*1):=by rw[hcur,pW iK,hD]
  exact io
 have QH:∀j v,X[j]?=some v->w.cell? ⟨vb,j,none⟩=some v:=λj v hj=>lO
 obtain⟨G,hG⟩:∃G,G=grownCap w (xs+1) xs 32:=⟨_,rfl⟩;obtain⟨ROW,hROW⟩:∃ROW:List aA,ROW.toArray=A.toArray++Builtin.zeroCells (.int .u32 0:aA).cells (xs+1-i)++Builtin.zeroCells (.int .u32 0:aA).cells (G-(xs.length+1)):=⟨_,Array.toArray_toList⟩;have hGn:xs.length+1<=G:=by rw[hG];exact grownCap_ge w _ _ _
 have UM:G<=maxLen:=by rw[hG];exact grownCap_le_maxLen w _ _ _ cH
 have hzl:∀m,(Builtin.zeroCells (.int .u32 0:aA).cells m).size=m*1:=λm=>by simp[Builtin.zeroCells,Value.cells]
 have hRl:ROW.length=G*1:=nw
 have hRA:ROW.take A.length=A:=lB
 have hold:(Builtin.firstCells i0.size i (.slice (some g) i xs)).run prog w.drew= .ok A.toArray w.drew:=py
 have hin:i+(xs.length+1-i)=xs.length+1:=aq;have hrz:∀ty,(Builtin.append_ #[33,3] ty #[.slice (some g) i xs.length,.int .i64 ((xs.length+1-i:Nat):Int)]).run prog w= .ok (.slice (some w) (xs+1) G) (w.drew.alloc (.cells ROW.toArray 32)):=λty=>by have h:=Lib.run_append_grow_zeros (P:=prog) w 33 3 ty 32 i0 _ .i64 .i64 underlying33 ax hi0 hz0 (some g) i xs A hold (xs+1-i) aq aq aq aq (by rw[hzb];omega) dl;rw[hin,<-hG,<-hROW]at h;exact h
 obtain⟨W1,hW1⟩:∃W1,W1=w.drew.alloc (.cells ROW.toArray 32):=⟨_,rfl⟩;rw[<-hW1]at hrz;have hN:W1.heap[w.heap.size]?=some (.cells ROW.toArray 32 (0,0)):=by rw[hW1];show(w.heap.push _)[w.heap.size]?=_;simp
 have hE:∀m,m<w.heap.size->W1.heap[m]?=w.heap[m]?:=λm hm=>by rw[hW1];exact((aj w).drew.alloc _).block hm
 have hB1:Below B w W1:=by rw[hW1];exact((Below.refl B w).drew).alloc hB _
 have hb1:(xs:Int)+1-i=((xs.length+1-i:Nat):Int):=aq;have hb2:¬((i:Int)=xs):=aq;have hb3:(xs:Int)<xs+1:=aq;have hb4:¬(G=i):=aq;have hb5:¬(G=i+1):=aq;have hb6:¬(xs.length=i):=aq;have HC:=ah (ak hcA (ak QI QH));have H1:=ah (ak hA1 (ak hX1 hD1));have DZ:=ah (ak rM (ak vg (ak hDl hRl)));have HRA:=ah hRA;have KJ:=ah (ak hB1 (ak hE hN));have HAX:=ah (ak hA (ak hX hD));clear hcA QI QH hA1 hX1 hD1 rM vg hDl hRl hRA hB1 hE hN hA hX hD hcur hROW hG hold hzl hW1 hvb hg;have QF:X.length=Nat.min 1 (xs+1-i)*1:=by rw[DZ.o.2.1,show Nat.min 1 (xs+1-i)=1 from dI aq]
 have hpX:∀j v,X[j]?=some v->W1.cell? ((vb:Addr).add j)=some v:=λj v hj=>oB
 have hfX:i*1+X.length<=ROW:=by rw[DZ.o.2.1,DZ.o.2.2.2];omega
 have hnD:D.length=Nat.min (xs-i) (xs.length+1-(i+1))*1:=by rw[DZ.o.2.2.1,show xs.length+1-(i+1)=xs.length-i from aq];simp
 have LB:(i+1)*1+D.length<=(splice ROW (i*1) X).length:=by rw[length_splice _ _ _ hfX,DZ.o.2.2.1,DZ.o.2.2.2];omega
 have hpD:∀w4:ay,(∀m,m≠w.heap.size->w4.heap[m]?=W1.heap[m]?)->∀j v,D[j]?=some v->w4.cell? ((⟨g,i*1,none⟩:Addr).add j)=some v:=λw4 h4 j v hj=>mz
 have qO:=ah (ak QF (ak hpX hfX));have vD:=ah (ak hnD (ak hpD LB));clear QF hpX hfX hnD hpD LB;have hsz:(Tryz.prog.info? 32).map (·.size)=some 1:=by rw[hi0];simp[hzs]
 have hw1:IntKind.i64.wrap ((i:Int)+1)=(i:Int)+1:=by rw[IntKind.wrap_i64];omega
 have oM:(0:Int)<=i+1:=aq;have htn:((i:Int)+1).toNat=i+1:=aq;have hb8:(i:Int)<=xs:=aq;have SY:(i:Int)+1<=xs+1:=aq;simp only[eO]at *;go_in;go_wp2_with(first
  |(at_builtin;refine Lib.wpList_append_run _ rfl _ _ _ _ rfl _ _ rfl rfl _ _ (hrz _) ?_)
  |(refine mX rfl _ _ 33 33 rfl 32 1 az underlying33 (by rw[hi0];simp[hzs]) _ _ _ _ _ _ rfl rfl w.heap.size (i) ROW 32 KJ.o.2.2 X (qO.o.1.trans (eO _).symm) (λ_=>⟨rfl,_,rfl,qO.o.2.1⟩) qO.o.2.2 H1.o.2.1 B w KJ.o.1 hB ?_
    intro w4 Ma hB4;have FZ:=ah hB4;clear hB4))
 go_region_law(refine pR rfl (.tmp 50) (.tmp 53) 33 33 rfl 32 1 az underlying33 hsz (some ⟨w,(i+1),none⟩) (some ⟨g,i,none⟩) (xs.length+1-(i+1)) (G-(i+1)) (xs-i) (xs.length-i) cJ cJ w ((i+1)) _ 32 Ma.o.1 D (vD.o.1.trans (eO _).symm) (λ_=>⟨rfl,_,rfl,vD.o.2.1 w4 Ma.o.2⟩) vD.o.2.2 H1.o.2.2 B w FZ.o.drew hB ?_;intro w5 JV QK);have E0:=ah QK;clear QK;go_wp2_with fail;go_ret;obtain⟨hA,hX,hD⟩:=HAX.o;obtain⟨rM,vg,hDl,hRl⟩:=DZ.o;have hs:=aiJ ROW A X D HRA.o;rw[rM,vg,hDl,show(i+1)+(xs.length-i)=(xs.length+1)*1 from aq]at hs;have hfl:(xs.take i++x::xs.drop i).flatMap i8=A++(X++D):=by rw[iO,eP,<-hA,<-hX,<-hD]
 exact ja
namespace yy
abbrev ye:=@EC
abbrev yi:=@i8
abbrev yk:=@iK
abbrev yl:=@oo
abbrev ym:Nat:=32
abbrev yn:Nat:=393
abbrev yo:=@func393
abbrev yq:Nat:=33
abbrev yr:=@underlying33
end yy
open yy in
theorem Vv(B:Nat)(g cap:Nat)(cur:Array aA)(xs:List Nat)(x:Nat)(i:Nat)(hi:i<xs)(hl:xs.length<=1000000)(hr:xs.length<cap)(hcm:cap<=maxLen)(w:ay)(vb:Nat)(hBg:B<=g)(hg:w.heap[g]?=some (.cells cur 32 (0,0)))(hsize:cur.size=cap*1)(hcur:cur.toList.take (xs.length*1)=xs.flatMap i8)(hvb:w.heap[vb]?=some (.cells (i8 x).toArray 32 (0,0)))(hne:vb≠g):Calls prog 352 #[.slice (some g) xs cap,.int .i64 i,.slice (some vb) 1 1] w λe w'=>∃au cu,e= .returned (.slice au (xs+1) cu)/\Below B w w'/\w'.ownsRow B 32 1 (.slice au (xs+1) cu) (xs+1) ((xs.take i++x::xs.drop i).flatMap i8):=by
 obtain⟨i0,hi0,hz0,hzs,hzb⟩:=jo ye;obtain⟨A,hA⟩:∃A,A=(xs.take i).flatMap yi:=⟨_,rfl⟩;obtain⟨X,hX⟩:∃X,X=yi x:=⟨_,rfl⟩;obtain⟨D,hD⟩:∃D,D=(xs.drop i).flatMap yi:=⟨_,rfl⟩;have rM:A.length=i*1:=by rw[hA,lQ yk,bC,dI aq]
 have vg:X.length=1:=by rw[hX];exact yk x
 have hDl:D.length=(xs.length-i)*1:=by rw[hD,lQ yk,cZ]
 have hX1:∀v∈X,v.oneCell'=true:=by rw[hX];exact yl _
 have hD1:∀v∈D,v.oneCell'=true:=by rw[hD];exact nO yl _
 obtain⟨L,hL⟩:∃L:List aA,L=cur.toList:=⟨_,rfl⟩;have rJ:L.length=cap*1:=by rw[hL];simpa using hsize
 have hgL:w.heap[g]?=some (.cells L.toArray ym (0,0)):=by rw[hL];simpa using hg
 have hLA:L.take A.length=A:=by rw[rM,hL,hA,<-mF yk,<-hcur,i6,dI aq]
 have QI:∀j v,D[j]?=some v->w.cell? ((⟨g,i*1,none⟩:Addr).add j)=some v:=λj v hj=>AW
 have QH:∀w5:ay,(∀m,m≠g->w5.heap[m]?=w.heap[m]?)->∀j v,X[j]?=some v->w5.cell? ((vb:Addr).add j)=some v:=λw5 h5 j v hj=>qT
 have hov:∀lb cb,(callFunc yn #[.slice (some vb) 1 1,.slice (some ⟨g,(i+1)*1,none⟩) lb cb]).run prog w= .ok (.value (.bool false)) w:=λlb cb=>by
  rw[run_callFunc_extern yo ax ax ax (e:=Extern.SlicesOverlaps.overlaps #[33,33] #[4]) ax,
   Lib.run_overlaps_apart (P:=prog) w yq 4 ym yr 1 (λw=>by simp[sizeOf,typeInfo,hi0,hzs]) ⟨vb,0,none⟩ ⟨g,(i+1)*1,none⟩ 1 1 lb cb hne ym ym 1 (cap*1) (by simp[World.shape?,hvb];exact yk x) eR aq de de]
  rfl
 exact BE
namespace yb
abbrev xz:=@aea
abbrev xF:=@Vv
abbrev xN:=@aaF
end yb
open yb in
theorem Vw(B:Nat)(v:aA)(xs:List Nat)(x:Nat)(i:Nat)(hi:i<=xs)(hl:xs.length<=1000000)(w:ay)(vb:Nat)(ho:w.ownsRow B 32 1 v xs (xs.flatMap i8))(hB:B<=w.heap.size)(hvb:w.heap[vb]?=some (.cells (i8 x).toArray 32 (0,0)))(hne:v.ownBlock≠some vb):Calls prog 352 #[v,.int .i64 i,.slice (some vb) 1 1] w λe w'=>∃au cu,e= .returned (.slice au (xs+1) cu)/\Below B w w'/\w'.ownsRow B 32 1 (.slice au (xs+1) cu) (xs+1) ((xs.take i++x::xs.drop i).flatMap i8):=by exact AK
end LT
end Go.Proofs.YtopfefhenfineaaGreat
