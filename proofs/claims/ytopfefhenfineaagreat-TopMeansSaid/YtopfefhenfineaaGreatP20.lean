import Derived.Test.YtopfefhenfineaaGreatP12
import Derived.Deep.RegionLaw
set_option linter.all false
set_option maxRecDepth 100000
set_option maxHeartbeats 8000000
namespace Go.Proofs.YtopfefhenfineaaGreat
open Go.Proofs.Tryz Go.RowKit Go.Shelf bh
attribute[local go_sem] Oper.semAt_some
variable{S:Prop}
def ahd(h:S:=by
 split at Z
 ·simp[World.cell?,hg];simpa using Z
 ·cases Z):S:=h
def Rn(h:S:=by go_ret;exact⟨_,_,rfl,qr.o,cz.o _ ta.o.1⟩):S:=h
def ahe(h:S:=by
 have:ax=(bm.toList.take (A.length*k)).drop (i*k):=by rw[hc,U5 cp,cE]
 rw[this,List.getElem?_drop,FC]at Z;exact ahd):S:=h
def Xm(h:S:=by
 by_cases hn:i=A.length
 ·subst hn;exact Xn B v A x X w ew ho hB hU
 ·rcases ho.2 with⟨rfl,h2⟩|⟨g,cap,bm,rfl,h1,T,af,aQ,a9,cF⟩
  ·omega
  ·by_cases hr:A.length<cap
   ·exact Xo B g cap bm A x i aE X hr aQ w ew h1 T a9 cF hU (λe=>bO (by rw[e];rfl))
   ·obtain rfl:cap=A.length:=aE;exact Xp B g bm A x i aE X w ew T cF hB hU):S:=h
def ahf(h:S:=by
 obtain⟨aP,ax,L,g4,jL,lL,cz⟩:=ahg Ro ahh B g cap bm A x i i (i+1) aE aE hi hr mv w ew hH hg Cd hc hU bO;obtain⟨fN,cH,ck,m8,f5,e8,s7,e6,Cf,w5,Xq,Xs,Xt,Xu⟩:=Rp hi X hr;clear hg hc hU Cd;go_in;go_wp2_with(first
  |(simp only[GM]))
 go_region_law(refine PO rfl (.tmp 73) (.tmp 76) GQ GQ rfl zn 1 Y MN aj (some ⟨g,(i+1),none⟩) (some ⟨g,i,none⟩) (A.length+1-(i+1)) (cap-(i+1)) (A+1-i) (cap-i) Ey Ey g (i+1) L zn g4.o ax lL.o.1 (λ_=>⟨rfl,_,rfl,lL.o.2.1⟩) lL.o.2.2.1 lL.o.2.2.2 B w (Below.refl B w).drew hH ?_;intro dC ua yr);have nh:=z yr;clear yr;go_wp2_with(first
  |(refine PN rfl _ _ GQ GQ rfl zn 1 Y MN aj _ _ _ _ _ _ rfl rfl g (i) _ zn ua.o.1 aP jL.o.1 (λ_=>⟨rfl,_,rfl,jL.o.2.1 dC ua.o.2⟩) jL.o.2.2.1 jL.o.2.2.2 B w nh.o hH ?_
    intro bQ ta v2;have qr:=z v2;clear v2))
 exact Rn):S:=h
def ahi(h:S:=by
 obtain⟨aP,ax,rc,ff,az,Xv,ww,jL,lL,hq,cz⟩:=ahj ahk ahl Rq ahm (λm=>by simp[Builtin.zeroCells,Value.cells]) Y Y B g bm A x i i (i+1) aE aE hi X w ew hg hc hB hU;obtain⟨fN,cH,ck,m8,f5,e8,s7,e6,Cf,w5,Xq,Xs,Xt,Xu⟩:=Rp hi X hq;clear hg hc hU;go_in;go_wp2_with(first
  |(at_builtin;refine Lib.wpList_append_run _ rfl _ _ _ _ rfl _ _ rfl rfl _ _ (Xv _) ?_)
  |(refine PN rfl _ _ MO MO rfl MP 1 Y Rq aj _ _ _ _ _ _ rfl rfl w.heap.size (i) rc MP ww.o.2 aP jL.o.1 (λ_=>⟨rfl,_,rfl,jL.o.2.1⟩) jL.o.2.2.1 jL.o.2.2.2 B w ww.o.1 hB ?_
    intro dC ua yr;have nh:=z yr;clear yr))
 go_region_law(refine PO rfl (.tmp 50) (.tmp 53) MO MO rfl MP 1 Y Rq aj (some ⟨w,(i+1),none⟩) (some ⟨g,i,none⟩) (A.length+1-(i+1)) (ff-(i+1)) (A-i) (A.length-i) Ey Ey w (i+1) _ MP ua.o.1 ax lL.o.1 (λ_=>⟨rfl,_,rfl,lL.o.2.1 dC ua.o.2⟩) lL.o.2.2.1 lL.o.2.2.2 B w nh.o.drew hB ?_;intro bQ ta v2);have qr:=z v2;clear v2;go_wp2_with fail;exact Rn):S:=h
def Xw(h:S:=by
 have cD:=z (UQ Rs [x] (by simpa using hU));have ec:=z λb (e:v.ownBlock=some b)=>(ho.lt b e).1
 obtain⟨a,c,rfl,bV⟩:=axZ ho;have cx:=z ho;clear ho hU;rcases bV with rfl|⟨g,rfl⟩
 all_goals
  go_in
  go_wp2_with(at_builtin
              refine acD rfl (.tmp 23) (.tmp 24) _ rfl Xx Xy rfl Y Rs Xz B _ _ A [x] rfl rfl cx.o cD.o dU Y hB ?_;intro ri rj bQ d0 hA i1;have rk:=z d0;have c9:=z (Below.grown (Below.refl B w) hA hB ec.o);clear d0 hA i1)
  all_goals go_ret
  all_goals exact⟨ri,rj,rfl,c9.o,by rw[iR,qy];exact rk.o⟩):S:=h
def Ey(h:S:=by simp[Act.eval,Act.put]):S:=h
def Jj(h:S:=by simp[World.frozen?,hU]):S:=h
def XA(h:S:=by simp[World.shape?,hg,Cd]):S:=h
namespace LT
def Cg{α:Type}(enc:α->List K)(k el B:Nat)(A:List α)(x:α)(i:Nat)(w:G)(e:Ending)(F:G):Prop:= ∃bv bp,e=aI (E bv (A+1) bp)/\Below B w F/\F.ownsRow B el k (E bv (A+1) bp) (A+1) ((A.take i++x::A.drop i).flatMap enc)
def Rp{n i ff:Nat}(hi:i<n)(X:n<=1000000)(hq:n+1<=ff):(n:Int)+1-i=((n+1-i:Nat):Int)/\¬((i:Int)=n)/\(n:Int)<n+1/\¬((ff:Int)<n+1)/\¬(ff=i)/\¬(ff=i+1)/\¬(n=i)/\IntKind.i64.wrap ((i:Int)+1)=(i:Int)+1/\(0:Int)<=i+1/\((i:Int)+1).toNat=i+1/\(i:Int)<=n/\(i:Int)+1<=n+1/\(n:Int)+1<=ff/\(i:Int)<=n+1:=
 ⟨aE,aE,aE,aE,aE,aE,aE,by rw[IntKind.wrap_i64];omega,aE,aE,aE,aE,aE,aE⟩
def axZ{w:G}{B e k n:Nat}{v:K}{b3:List K}(ho:w.ownsRow B e k v n b3):∃a c,v=E a n c/\(a=none\/∃g,a=some ⟨g,0,none⟩):=by
 rcases ho.2 with⟨rfl,h2⟩|⟨g,cap,bm,rfl,h1,T,af,aQ,a9⟩
 ·exact⟨none,0,by rw[h2],.inl rfl⟩
 ·exact⟨_,cap,rfl,.inr ⟨g,rfl⟩⟩
section
variable {α:Type} {enc:α->List K} {k el j4 bytes:Nat} {aR:K}
def ahn{n B:Nat}{A:List α}{x:α}{i:Nat}(cp:∀x,(enc x).length=k)(hi:i<A){aq aP ax:List K}(bl:aq=(A.take i).flatMap enc)(g9:aP=enc x)(cE:ax=(A.drop i).flatMap enc){bQ:G}{b ff:Nat}(V:B<=b){aH:List K}(be:bQ.heap[b]?=some (J aH.toArray el (0,0)))(hq:A.length+1<=ff)(yd:ff<=maxLen)(bd:aH.length=ff*k)(ab:aH.take (i*k+k+(A.length-i)*k)=aq++(aP++ax))(hn:n=A.length+1):bQ.ownsRow B el k (E (some b) n ff) n ((A.take i++x::A.drop i).flatMap enc):=by
 subst hn;have ma:(A.take i++x::A.drop i).flatMap enc=aq++(aP++ax):=by rw[FD,sI,<-bl,<-g9,<-cE]
 have rN:aq.length=i*k:=by rw[bl,Dv cp,gV,mQ aE]
 have AC:aP.length=k:=by rw[g9];exact cp x
 have AD:ax.length=(A.length-i)*k:=by rw[cE,Dv cp,mP]
 have e:i*k+k+(A.length-i)*k=(A.length+1)*k:=by rw[<-Nat.succ_mul,<-Nat.add_mul];congr 1;omega
 rw[e]at ab;exact⟨by rw[ma,dA,dA,rN,AC,AD,<-e];omega,.inr ⟨_,ff,_,rfl,V,be,hq,yd,by simpa using bd,by rw[ma];exact ab⟩⟩
theorem ahj(cp:∀x,(enc x).length=k)(fL:∀x,∀u∈enc x,u.oneCell'=true)(a6:Tryz.prog.underlying j4=some (.slice el))(i5:(Tryz.prog.info? el).map (λi=>(i.zero,i.size,i.bytes))=some (some aR,k,bytes))(FF:∀m,(Builtin.zeroCells aR.cells m).size=m*k)(lh:bytes<=24)(hk:0<k)(B g:Nat)(bm:Array K)(A:List α)(x:α)(i o1 o2:Nat)(d4:o1=i*k)(fv:o2=(i+1)*k)(hi:i<A.length)(X:A.length<=1000000)(w:G)(ew:Nat)(hg:w.heap[g]?=some (J bm el (0,0)))(hc:bm.toList.take (A.length*k)=A.flatMap enc)(hB:B<=w.heap.size)(hU:w.heap[ew]?=some (J (enc x).toArray el (0,0))):∃(aP ax rc:List K)(ff:Nat)(az:G),(∀eJ,(Builtin.append_ #[j4,3] eJ #[E (some g) i A.length,H ((A.length+1-i:Nat):Int)]).run prog w= .ok (E (some w) (A+1) ff) az)/\Hid (Below B w az/\az.heap[w.heap.size]?=some (J rc.toArray el (0,0)))/\Hid (aP.length=Nat.min 1 (A+1-i)*k/\(∀j v,aP[j]?=some v->az.cell? ((ew:Addr).add j)=some v)/\o1+aP.length<=rc/\∀v∈aP,v.oneCell'=true)/\Hid (ax.length=Nat.min (A-i) (A.length+1-(i+1))*k/\(∀dC:G,(∀m,m≠w.heap.size->dC.heap[m]?=az.heap[m]?)->∀j v,ax[j]?=some v->dC.cell? ((⟨g,o1,none⟩:Addr).add j)=some v)/\o2+ax.length<=(splice rc o1 aP).length/\∀v∈ax,v.oneCell'=true)/\A.length+1<=ff/\Hid (∀bQ:G,bQ.heap[w.heap.size]?=some (J (splice (splice rc o1 aP) o2 ax).toArray el (0,0))->bQ.ownsRow B el k (E (some w) (A+1) ff) (A+1) ((A.take i++x::A.drop i).flatMap enc)):=by
 obtain⟨hh,kw,nv,hQ,MG⟩:=sJ i5;have GL:g<w.heap.size:=(dG.1 hg).1;have yv:ew<w.heap.size:=(dG.1 hU).1;obtain⟨aq,bl⟩:∃aq,aq=(A.take i).flatMap enc:=⟨_,rfl⟩;obtain⟨aP,g9⟩:∃aP,aP=enc x:=⟨_,rfl⟩;obtain⟨ax,cE⟩:∃ax,ax=(A.drop i).flatMap enc:=⟨_,rfl⟩;have rN:aq.length=i*k:=by rw[bl,Dv cp,gV,mQ aE]
 have AC:aP.length=k:=by rw[g9];exact cp x
 have AD:ax.length=(A.length-i)*k:=by rw[cE,Dv cp,mP]
 have aK:(i+1)*k=i*k+k:=Nat.succ_mul _ _;have aV:(i+1)*k+(A.length-i)*k=(A.length+1)*k:=by rw[<-Nat.add_mul];congr 1;omega
 have ax0:∀j v,aq[j]?=some v->w.cell? ⟨g,j,none⟩=some v:=λj v Z=>by
  have:aq=bm.toList.take (i*k):=by rw[bl,<-FT cp,<-hc,y7,mQ (pF _ aE)]
  rw[this,FC]at Z;exact ahd
 have ax1:∀j v,ax[j]?=some v->w.cell? ⟨g,i*k+j,none⟩=some v:=λj v Z=>ahe
 obtain⟨ff,hq⟩:∃ff,ff=grownCap w (A+1) A el:=⟨_,rfl⟩;obtain⟨rc,XB⟩:∃rc:List K,rc.toArray=aq.toArray++Builtin.zeroCells aR.cells (A+1-i)++Builtin.zeroCells aR.cells (ff-(A.length+1)):=⟨_,Array.toArray_toList⟩;have XC:A.length+1<=ff:=by rw[hq];exact grownCap_ge w _ _ _
 have yd:ff<=maxLen:=by rw[hq];exact grownCap_le_maxLen w _ _ _ y9
 have tj:rc.length=ff*k:=by have:=congrArg Array.size XB;simp only[ku,Array.size_append,FF,rN]at this;rw[this,<-Nat.add_mul,<-Nat.add_mul];congr 1;omega
 have ax2:rc.take aq.length=aq:=by have:=congrArg Array.toList XB;simp only[Array.toList_append]at this;rw[this,gJ];exact List.take_left' rfl
 have ax3:(Builtin.firstCells hh.size i (E (some g) i A)).run prog w.drew= .ok aq.toArray w.drew:=by rw[hQ];exact run_firstCells_some w.drew k i ⟨g,0,none⟩ i A aq rN (λj v Z=>by rw[Addr.add_lit,gF];exact ax0 j v Z)
 have ih:i+(A.length+1-i)=A.length+1:=aE;have Qs:(A.length+1)*k<=ff*k:=pF _ XC;have Jl:i*k+aP.length<=rc:=by rw[AC,tj];omega
 have Jm:(i+1)*k+ax.length<=(splice rc (i*k) aP).length:=by rw[length_splice _ _ _ Jl,AD,tj,aV];exact Qs
 obtain⟨az,b7⟩:∃az,az=w.drew.alloc (J rc.toArray el):=⟨_,rfl⟩;have b1:=Nat.mul_le_mul (show A.length+1-i<=1000001 from aE) lh;have b2:=Nat.mul_le_mul (show A.length+1<=1000001 from aE) lh;have cA:∀m,m<w.heap.size->az.heap[m]?=w.heap[m]?:=λm R=>by rw[b7];exact((O w).drew.alloc _).block R
 subst d4 fv;refine⟨aP,ax,rc,ff,az,λeJ=> ?_,z ⟨by rw[b7];exact((Below.refl B w).drew).alloc hB _,by rw[b7];show(w.heap.push _)[w.heap.size]?=_;simp⟩,z ⟨?_,λj v Z=> ?_,Jl,by rw[g9];exact fL _⟩,z ⟨?_,λdC af j v Z=> ?_,Jm,by rw[cE];exact Py fL _⟩,XC,z λbQ aQ=>ahn cp hi bl g9 cE hB aQ XC yd ?_ ?_ rfl⟩
 ·have h:=Lib.run_append_grow_zeros (P:=prog) w j4 3 eJ el hh _ .i64 .i64 a6 aj kw nv (some g) i A aq ax3 (A+1-i) aE aE aE aE (by rw[MG];omega) (by rw[MG,ih];exact growslice_fits aE aE);rw[ih,<-hq,<-XB,<-b7]at h;exact h
 ·rw[AC,show Nat.min 1 (A+1-i)=1 from mQ aE,Nat.one_mul]
 ·rw[Addr.add_lit,gF];refine(xD (w:=w) (cA ew yv)).trans ?_;simp[World.cell?,hU];rw[g9]at Z;simpa using Z
 ·rw[AD,show A.length+1-(i+1)=A.length-i from aE];simp
 ·rw[Addr.add_lit];exact(xD (w:=w) ((af g aE).trans (cA g GL))).trans (ax1 j v Z)
 ·rw[length_splice _ _ _ Jm,length_splice _ _ _ Jl,tj]
 ·have ab:=asg rc aq aP ax ax2;rw[rN,AC,AD]at ab;rw[aK];exact ab
def ahg(cp:∀x,(enc x).length=k)(fL:∀x,∀u∈enc x,u.oneCell'=true)(B g cap:Nat)(bm:Array K)(A:List α)(x:α)(i o1 o2:Nat)(d4:o1=i*k)(fv:o2=(i+1)*k)(hi:i<A)(hr:A.length<cap)(mv:cap<=maxLen)(w:G)(ew:Nat)(hH:B<=g)(hg:w.heap[g]?=some (J bm el (0,0)))(Cd:bm.size=cap*k)(hc:bm.toList.take (A.length*k)=A.flatMap enc)(hU:w.heap[ew]?=some (J (enc x).toArray el (0,0)))(bO:ew≠g):∃aP ax L:List K,Hid (w.heap[g]?=some (J L.toArray el (0,0)))/\Hid (aP.length=Nat.min 1 (A+1-i)*k/\(∀bQ:G,(∀m,m≠g->bQ.heap[m]?=w.heap[m]?)->∀j v,aP[j]?=some v->bQ.cell? ((ew:Addr).add j)=some v)/\o1+aP.length<=(splice L o2 ax).length/\∀v∈aP,v.oneCell'=true)/\Hid (ax.length=Nat.min (A+1-i) (A.length+1-(i+1))*k/\(∀j v,ax[j]?=some v->w.cell? ((⟨g,o1,none⟩:Addr).add j)=some v)/\o2+ax.length<=L/\∀v∈ax,v.oneCell'=true)/\Hid (∀bQ:G,bQ.heap[g]?=some (J (splice (splice L o2 ax) o1 aP).toArray el (0,0))->bQ.ownsRow B el k (E (some g) (A+1) cap) (A+1) ((A.take i++x::A.drop i).flatMap enc)):=by
 obtain⟨aq,bl⟩:∃aq,aq=(A.take i).flatMap enc:=⟨_,rfl⟩;obtain⟨aP,g9⟩:∃aP,aP=enc x:=⟨_,rfl⟩;obtain⟨ax,cE⟩:∃ax,ax=(A.drop i).flatMap enc:=⟨_,rfl⟩;have rN:aq.length=i*k:=by rw[bl,Dv cp,gV,mQ aE]
 have AC:aP.length=k:=by rw[g9];exact cp x
 have AD:ax.length=(A.length-i)*k:=by rw[cE,Dv cp,mP]
 have aK:(i+1)*k=i*k+k:=Nat.succ_mul _ _;have aV:(i+1)*k+(A.length-i)*k=(A.length+1)*k:=by rw[<-Nat.add_mul];congr 1;omega
 obtain⟨L,da⟩:∃L:List K,L=bm.toList:=⟨_,rfl⟩;have jI:L.length=cap*k:=by rw[da];simpa using Cd
 have ax4:L.take aq.length=aq:=by rw[rN,da,bl,<-FT cp,<-hc,y7,mQ (pF _ aE)]
 have aho:(A.length+1)*k<=cap*k:=pF _ hr;have Jm:(i+1)*k+ax.length<=L:=by rw[AD,jI,aV];exact aho
 have Jl:i*k+aP.length<=(splice L ((i+1)*k) ax).length:=by rw[length_splice _ _ _ Jm,AC,jI];omega
 subst d4 fv;refine⟨aP,ax,L,z (by rw[da];simpa using hg),z ⟨?_,λbQ aQ j v Z=> ?_,Jl,by rw[g9];exact fL _⟩,z ⟨?_,λj v Z=> ?_,Jm,by rw[cE];exact Py fL _⟩,z λbQ aQ=>ahn cp hi bl g9 cE hH aQ hr mv ?_ ?_ rfl⟩
 ·rw[AC,show Nat.min 1 (A+1-i)=1 from mQ aE,Nat.one_mul]
 ·rw[Addr.add_lit,gF,xD (w:=w) (aQ ew bO)];simp[World.cell?,hU];rw[g9]at Z;simpa using Z
 ·rw[AD,show A.length+1-(i+1)=A.length-i from aE,show Nat.min (A+1-i) (A.length-i)=A.length-i from Nat.min_eq_right aE]
 ·rw[Addr.add_lit];exact ahe
 ·rw[length_splice _ _ _ Jl,length_splice _ _ _ Jm,jI]
 ·have ab:=ash L aq aP ax ax4 (by rw[rN,AC,AD,jI,<-aK,aV];exact aho);rw[rN,AC,AD]at ab;rw[aK];exact ab
end
namespace iz
abbrev Rs:=@oN
abbrev Xx:=@underlying29
abbrev Xy:=@Me
abbrev Xz:=@IG
end iz
open iz in
theorem ax5(B:Nat)(v:K)(A:List dQ)(x:dQ)(X:A.length<=1000000)(w:G)(ew:Nat)(ho:w.ownsRow B 121 2 v A (A.flatMap dY))(hB:B<=w.heap.size)(hU:w.heap[ew]?=some (J (dY x).toArray 121 (0,0))):Calls prog 383 #[v,H A,E (some ew) 1 1] w (Cg dY 2 121 B A x A w):=by exact Xw
theorem ax6(B g:Nat)(bm:Array K)(A:List dQ)(x:dQ)(i:Nat)(hi:i<A)(X:A.length<=1000000)(w:G)(ew:Nat)(hg:w.heap[g]?=some (J bm 121 (0,0)))(hc:bm.toList.take (A.length*2)=A.flatMap dY)(hB:B<=w.heap.size)(hU:w.heap[ew]?=some (J (dY x).toArray 121 (0,0))):Calls prog 383 #[E (some g) A A.length,H i,E (some ew) 1 1] w (Cg dY 2 121 B A x i w):=by
 obtain⟨aP,ax,rc,ff,az,Xv,ww,jL,lL,hq,cz⟩:=ahj oN IG underlying29 Me (λm=>by simp[Builtin.zeroCells,Value.cells]) Y Y B g bm A x i (i*2) ((i+1)*2) aE aE hi X w ew hg hc hB hU;obtain⟨fN,cH,ck,m8,f5,e8,s7,e6,Cf,w5,Xq,Xs,Xt,Xu⟩:=Rp hi X hq;clear hg hc hU;go_in;go_wp2_with(first
  |(at_builtin;refine Lib.wpList_append_run _ rfl _ _ _ _ rfl _ _ rfl rfl _ _ (Xv _) ?_)
  |(refine PN rfl _ _ 29 29 rfl 121 2 Y underlying29 aj _ _ _ _ _ _ rfl rfl w.heap.size (i*2) rc 121 ww.o.2 aP jL.o.1 (λ_=>⟨rfl,_,rfl,jL.o.2.1⟩) jL.o.2.2.1 jL.o.2.2.2 B w ww.o.1 hB ?_
    intro dC ua yr;have nh:=z yr;clear yr))
 go_region_law(refine PO rfl (.tmp 50) (.tmp 53) 29 29 rfl 121 2 Y underlying29 aj (some ⟨w,((i+1)*2),none⟩) (some ⟨g,i*2,none⟩) (A.length+1-(i+1)) (ff-(i+1)) (A-i) (A.length-i) Ey Ey w ((i+1)*2) _ 121 ua.o.1 ax lL.o.1 (λ_=>⟨rfl,_,rfl,lL.o.2.1 dC ua.o.2⟩) lL.o.2.2.1 lL.o.2.2.2 B w nh.o.drew hB ?_;intro bQ ta v2);have qr:=z v2;clear v2;go_wp2_with fail;exact Rn
theorem ax7(B g cap:Nat)(bm:Array K)(A:List dQ)(x:dQ)(i:Nat)(hi:i<A)(X:A.length<=1000000)(hr:A.length<cap)(mv:cap<=maxLen)(w:G)(ew:Nat)(hH:B<=g)(hg:w.heap[g]?=some (J bm 121 (0,0)))(Cd:bm.size=cap*2)(hc:bm.toList.take (A.length*2)=A.flatMap dY)(hU:w.heap[ew]?=some (J (dY x).toArray 121 (0,0)))(bO:ew≠g):Calls prog 383 #[E (some g) A cap,H i,E (some ew) 1 1] w (Cg dY 2 121 B A x i w):=by
 obtain⟨hh,kw,-,hQ,-⟩:=sJ Me;have GM:∀lb pC,(callFunc 410 #[E (some ew) 1 1,E (some ⟨g,((i+1)*2),none⟩) lb pC]).run prog w= .ok (.value (av false)) w:=λlb pC=>by
  rw[run_callFunc_extern func410 aj aj aj (e:=Extern.SlicesOverlaps.overlaps #[29,29] #[4]) aj,
   Lib.run_overlaps_apart (P:=prog) w 29 4 121 underlying29 2 (λw=>by simp[sizeOf,typeInfo,kw,hQ]) ⟨ew,0,none⟩ ⟨g,((i+1)*2),none⟩ 1 1 lb pC bO 121 121 2 (cap*2) (by simp[World.shape?,hU];exact oN x) XA aE Jj Jj]
  rfl
 obtain⟨aP,ax,L,g4,jL,lL,cz⟩:=ahg oN IG B g cap bm A x i (i*2) ((i+1)*2) aE aE hi hr mv w ew hH hg Cd hc hU bO;obtain⟨fN,cH,ck,m8,f5,e8,s7,e6,Cf,w5,Xq,Xs,Xt,Xu⟩:=Rp hi X hr;clear hg hc hU Cd;go_in;go_wp2_with(first
  |(simp only[GM]))
 go_region_law(refine PO rfl (.tmp 73) (.tmp 76) 29 29 rfl 121 2 Y underlying29 aj (some ⟨g,((i+1)*2),none⟩) (some ⟨g,i*2,none⟩) (A.length+1-(i+1)) (cap-(i+1)) (A+1-i) (cap-i) Ey Ey g ((i+1)*2) L 121 g4.o ax lL.o.1 (λ_=>⟨rfl,_,rfl,lL.o.2.1⟩) lL.o.2.2.1 lL.o.2.2.2 B w (Below.refl B w).drew hH ?_;intro dC ua yr);have nh:=z yr;clear yr;go_wp2_with(first
  |(refine PN rfl _ _ 29 29 rfl 121 2 Y underlying29 aj _ _ _ _ _ _ rfl rfl g (i*2) _ 121 ua.o.1 aP jL.o.1 (λ_=>⟨rfl,_,rfl,jL.o.2.1 dC ua.o.2⟩) jL.o.2.2.1 jL.o.2.2.2 B w nh.o hH ?_
    intro bQ ta v2;have qr:=z v2;clear v2))
 exact Rn
namespace ju
abbrev Xn:=@ax5
abbrev Xo:=@ax7
abbrev Xp:=@ax6
end ju
open ju in
theorem ax8(B:Nat)(v:K)(A:List dQ)(x:dQ)(i:Nat)(hi:i<=A)(X:A.length<=1000000)(w:G)(ew:Nat)(ho:w.ownsRow B 121 2 v A (A.flatMap dY))(hB:B<=w.heap.size)(hU:w.heap[ew]?=some (J (dY x).toArray 121 (0,0)))(bO:v.ownBlock≠some ew):Calls prog 383 #[v,H i,E (some ew) 1 1] w λe F=>∃bv bp,e=aI (E bv (A+1) bp)/\Below B w F/\F.ownsRow B 121 2 (E bv (A+1) bp) (A+1) ((A.take i++x::A.drop i).flatMap dY):=by exact Xm
namespace iS
abbrev Rs:=@vP
abbrev Xx:=@underlying28
abbrev Xy:=@DY
abbrev Xz:=@II
end iS
open iS in
theorem ax9(B:Nat)(v:K)(A:List Int)(x:Int)(X:A.length<=1000000)(w:G)(ew:Nat)(ho:w.ownsRow B 3 1 v A (A.flatMap iB))(hB:B<=w.heap.size)(hU:w.heap[ew]?=some (J (iB x).toArray 3 (0,0))):Calls prog 348 #[v,H A,E (some ew) 1 1] w (Cg iB 1 3 B A x A w):=by exact Xw
namespace BV
abbrev ahk:=@vP
abbrev ahl:=@II
abbrev Rq:=@underlying28
abbrev ahm:=@DY
abbrev MO:Nat:=28
abbrev MP:Nat:=3
end BV
open BV in
theorem aya(B g:Nat)(bm:Array K)(A:List Int)(x:Int)(i:Nat)(hi:i<A)(X:A.length<=1000000)(w:G)(ew:Nat)(hg:w.heap[g]?=some (J bm 3 (0,0)))(hc:bm.toList.take (A.length*1)=A.flatMap iB)(hB:B<=w.heap.size)(hU:w.heap[ew]?=some (J (iB x).toArray 3 (0,0))):Calls prog 348 #[E (some g) A A.length,H i,E (some ew) 1 1] w (Cg iB 1 3 B A x i w):=by exact ahi
namespace CE
abbrev XD:=@DY
abbrev XF:Nat:=388
abbrev XH:=@func388
abbrev GQ:Nat:=28
abbrev zn:Nat:=3
abbrev MN:=@underlying28
abbrev Ro:=@vP
abbrev ahh:=@II
end CE
open CE in
theorem ayb(B g cap:Nat)(bm:Array K)(A:List Int)(x:Int)(i:Nat)(hi:i<A)(X:A.length<=1000000)(hr:A.length<cap)(mv:cap<=maxLen)(w:G)(ew:Nat)(hH:B<=g)(hg:w.heap[g]?=some (J bm 3 (0,0)))(Cd:bm.size=cap*1)(hc:bm.toList.take (A.length*1)=A.flatMap iB)(hU:w.heap[ew]?=some (J (iB x).toArray 3 (0,0)))(bO:ew≠g):Calls prog 348 #[E (some g) A cap,H i,E (some ew) 1 1] w (Cg iB 1 3 B A x i w):=by
 obtain⟨hh,kw,-,hQ,-⟩:=sJ XD;have GM:∀lb pC,(callFunc XF #[E (some ew) 1 1,E (some ⟨g,(i+1),none⟩) lb pC]).run prog w= .ok (.value (av false)) w:=λlb pC=>by
  rw[run_callFunc_extern XH aj aj aj (e:=Extern.SlicesOverlaps.overlaps #[28,28] #[4]) aj,
   Lib.run_overlaps_apart (P:=prog) w GQ 4 zn MN 1 (λw=>by simp[sizeOf,typeInfo,kw,hQ]) ⟨ew,0,none⟩ ⟨g,(i+1),none⟩ 1 1 lb pC bO zn zn 1 (cap*1) (by simp[World.shape?,hU];exact Ro x) XA aE Jj Jj]
  rfl
 exact ahf
namespace jz
abbrev Xn:=@ax9
abbrev Xo:=@ayb
abbrev Xp:=@aya
end jz
open jz in
theorem ayc(B:Nat)(v:K)(A:List Int)(x:Int)(i:Nat)(hi:i<=A)(X:A.length<=1000000)(w:G)(ew:Nat)(ho:w.ownsRow B 3 1 v A (A.flatMap iB))(hB:B<=w.heap.size)(hU:w.heap[ew]?=some (J (iB x).toArray 3 (0,0)))(bO:v.ownBlock≠some ew):Calls prog 348 #[v,H i,E (some ew) 1 1] w λe F=>∃bv bp,e=aI (E bv (A+1) bp)/\Below B w F/\F.ownsRow B 3 1 (E bv (A+1) bp) (A+1) ((A.take i++x::A.drop i).flatMap iB):=by exact Xm
namespace ja
abbrev Rs:=@sQ
abbrev Xx:=@underlying33
abbrev Xy:=@D5
abbrev Xz:=@DZ
end ja
open ja in
theorem ayd(B:Nat)(v:K)(A:List Nat)(x:Nat)(X:A.length<=1000000)(w:G)(ew:Nat)(ho:w.ownsRow B 32 1 v A (A.flatMap iC))(hB:B<=w.heap.size)(hU:w.heap[ew]?=some (J (iC x).toArray 32 (0,0))):Calls prog 352 #[v,H A,E (some ew) 1 1] w (Cg iC 1 32 B A x A w):=by exact Xw
namespace BW
abbrev ahk:=@sQ
abbrev ahl:=@DZ
abbrev Rq:=@underlying33
abbrev ahm:=@D5
abbrev MO:Nat:=33
abbrev MP:Nat:=32
end BW
open BW in
theorem aye(B g:Nat)(bm:Array K)(A:List Nat)(x:Nat)(i:Nat)(hi:i<A)(X:A.length<=1000000)(w:G)(ew:Nat)(hg:w.heap[g]?=some (J bm 32 (0,0)))(hc:bm.toList.take (A.length*1)=A.flatMap iC)(hB:B<=w.heap.size)(hU:w.heap[ew]?=some (J (iC x).toArray 32 (0,0))):Calls prog 352 #[E (some g) A A.length,H i,E (some ew) 1 1] w (Cg iC 1 32 B A x i w):=by exact ahi
namespace CH
abbrev XD:=@D5
abbrev XF:Nat:=393
abbrev XH:=@func393
abbrev GQ:Nat:=33
abbrev zn:Nat:=32
abbrev MN:=@underlying33
abbrev Ro:=@sQ
abbrev ahh:=@DZ
end CH
open CH in
theorem ayf(B g cap:Nat)(bm:Array K)(A:List Nat)(x:Nat)(i:Nat)(hi:i<A)(X:A.length<=1000000)(hr:A.length<cap)(mv:cap<=maxLen)(w:G)(ew:Nat)(hH:B<=g)(hg:w.heap[g]?=some (J bm 32 (0,0)))(Cd:bm.size=cap*1)(hc:bm.toList.take (A.length*1)=A.flatMap iC)(hU:w.heap[ew]?=some (J (iC x).toArray 32 (0,0)))(bO:ew≠g):Calls prog 352 #[E (some g) A cap,H i,E (some ew) 1 1] w (Cg iC 1 32 B A x i w):=by
 obtain⟨hh,kw,-,hQ,-⟩:=sJ XD;have GM:∀lb pC,(callFunc XF #[E (some ew) 1 1,E (some ⟨g,(i+1),none⟩) lb pC]).run prog w= .ok (.value (av false)) w:=λlb pC=>by
  rw[run_callFunc_extern XH aj aj aj (e:=Extern.SlicesOverlaps.overlaps #[33,33] #[4]) aj,
   Lib.run_overlaps_apart (P:=prog) w GQ 4 zn MN 1 (λw=>by simp[sizeOf,typeInfo,kw,hQ]) ⟨ew,0,none⟩ ⟨g,(i+1),none⟩ 1 1 lb pC bO zn zn 1 (cap*1) (by simp[World.shape?,hU];exact Ro x) XA aE Jj Jj]
  rfl
 exact ahf
namespace ka
abbrev Xn:=@ayd
abbrev Xo:=@ayf
abbrev Xp:=@aye
end ka
open ka in
theorem ayg(B:Nat)(v:K)(A:List Nat)(x:Nat)(i:Nat)(hi:i<=A)(X:A.length<=1000000)(w:G)(ew:Nat)(ho:w.ownsRow B 32 1 v A (A.flatMap iC))(hB:B<=w.heap.size)(hU:w.heap[ew]?=some (J (iC x).toArray 32 (0,0)))(bO:v.ownBlock≠some ew):Calls prog 352 #[v,H i,E (some ew) 1 1] w λe F=>∃bv bp,e=aI (E bv (A+1) bp)/\Below B w F/\F.ownsRow B 32 1 (E bv (A+1) bp) (A+1) ((A.take i++x::A.drop i).flatMap iC):=by exact Xm
end LT
end Go.Proofs.YtopfefhenfineaaGreat
