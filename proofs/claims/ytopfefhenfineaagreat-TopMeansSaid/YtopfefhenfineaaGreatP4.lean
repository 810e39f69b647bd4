import Derived.Test.YtopfefhenfineaaGreatP3
import Derived.Test.YtopfefhenfineaaGreatP1
import Derived.Shelf.SlGeneric
import Derived.Shelf.SlSortCmp.WholeK
import Derived.Ground.SlsfProg
import Derived.Test.YtopfefhenfineaaGreatProg
set_option linter.all false
set_option maxRecDepth 100000
set_option maxHeartbeats 16000000
namespace Go.Proofs.YtopfefhenfineaaGreat
open Go.Proofs.Tryz Go.ChangeShapes Go.WideShapes Go.ChangeAt Go.RowKit
namespace LT
def aGI{bC:Type}{enc:TypeId×Value->bC}{P:Program}{w:World}{base:Nat}{pt:Nat->Bool}{held:Bool}{xi f3 e0 q' B7 vy:TypeId}{args:Array Value}{hF:List (DataW bC)}{ap:List MemPlace}(h:DataW.TrodAll enc P w base pt held [xi,f3,e0,q',B7,vy] args.toList hF ap):∃mj gv ct sy B8 AF dm cs eg h6 v7 ra e9 et fp k5 OH OI,args= #[mj,gv,ct,sy,B8,AF]/\hF=[dm,cs,eg,h6,v7,ra]/\ap=e9++et++fp++k5++OH++OI/\DataW.Trod enc P w base pt held xi mj dm e9/\DataW.Trod enc P w base pt held f3 gv cs et/\DataW.Trod enc P w base pt held e0 ct eg fp/\DataW.Trod enc P w base pt held q' sy h6 k5/\DataW.Trod enc P w base pt held B7 B8 v7 OH/\DataW.Trod enc P w base pt held vy AF ra OI:=by obtain⟨mj,JX,dm,aPk,e9,e3,aPl,rfl,rfl,ae,r0⟩:=trodAll_cons h;obtain⟨gv,aPm,cs,aPn,et,ef,rfl,rfl,rfl,h1,dq⟩:=trodAll_cons r0;obtain⟨ct,aPo,eg,aPp,fp,cY,rfl,rfl,rfl,h2,ei⟩:=trodAll_cons dq;obtain⟨sy,aPq,h6,aPr,k5,eh,rfl,rfl,rfl,T,eM⟩:=trodAll_cons ei;obtain⟨B8,aPs,v7,aPt,OH,hL,rfl,rfl,rfl,af,r4⟩:=trodAll_cons eM;obtain⟨AF,aPu,ra,aPv,OI,s4,rfl,rfl,rfl,aQ,r5⟩:=trodAll_cons r4;obtain⟨rfl,rfl,rfl⟩:=trodAll_nil r5;exact⟨mj,gv,ct,sy,B8,AF,dm,cs,eg,h6,v7,ra,e9,et,fp,k5,OH,OI,by cases args;simp_all,rfl,by simp,ae,h1,h2,T,af,aQ⟩
theorem aGK:joinedFacts Tryz.pinned.checked.prog 4 Tryz.f4 Rows.topMeansSpec Rows.topMeansRow=true:=by
 unfold joinedFacts;simp only[Bool.and_eq_true,and_assoc];refine⟨?_,?_,?_,?_,?_,?_,?_,?_,?_,?_,?_,?_,?_,?_,?_,?_,?_,?_,?_,?_,?_,?_,?_,?_,?_,?_,?_,?_,?_,?_,?_,?_⟩
 all_goals as_aux_lemma=>kernel_rfl
end LT
end Go.Proofs.YtopfefhenfineaaGreat
namespace Go.Proofs.Tryz
open Go.Shelf
theorem fb{α:Type}{x:Option α}{a b:α}(h:x=some a)(k:a=b:=by kernel_rfl):x=some b:=h.trans (congrArg some k)
theorem kl{p:Prop}(h:p:=by kernel_rfl):p:=h
def aGL:Ren:=⟨fun|6=>43|15=>86|14=>85|28=>144|29=>145|20=>136|21=>137|22=>138|23=>139|24=>140|25=>141|26=>142|27=>143|46=>182|47=>183|48=>184|49=>185|50=>186|57=>250|n=>n,fun|22=>71|24=>110|25=>112|39=>161|53=>32|55=>34|46=>229|45=>228|50=>131|66=>296|70=>299|76=>371|77=>372|n=>n,fun|n=>n⟩
theorem laysSortR:SlLaysF0.n6 prog aGL:=⟨kl,⟨f43.name,by decide,fb func43⟩,⟨f85.name,by decide,fb func85⟩,fb func86,⟨f136.name,by decide,fb func136⟩,⟨f137.name,by decide,fb func137⟩,⟨f138.name,by decide,fb func138⟩,⟨f139.name,by decide,fb func139⟩,⟨f140.name,by decide,fb func140⟩,⟨f141.name,by decide,fb func141⟩,⟨f142.name,by decide,fb func142⟩,⟨f143.name,by decide,fb func143⟩,fb func144,fb func145,⟨f182.name,by decide,fb func182⟩,fb func183,fb func184,⟨f185.name,by decide,fb func185⟩,⟨f186.name,by decide,fb func186⟩,⟨f250.name,by decide,fb func250⟩,underlying0,isAgg0,sizeOf0,zeroValue0,underlying3,isAgg3,sizeOf3,zeroValue3,underlying4,isAgg4,sizeOf4,zeroValue4,underlying5,isAgg5,sizeOf5,zeroValue5,underlying9,isAgg9,sizeOf9,zeroValue9,underlying71,isAgg71,sizeOf71,zeroValue71,underlying112,isAgg112,sizeOf112,zeroValue112,underlying161,isAgg161,sizeOf161,zeroValue161,underlying228,isAgg228,sizeOf228,zeroValue228,underlying229,isAgg229,sizeOf229,zeroValue229,underlying131,isAgg131,sizeOf131,zeroValue131,underlying32,isAgg32,sizeOf32,zeroValue32,underlying34,isAgg34,sizeOf34,zeroValue34,underlying296,isAgg296,sizeOf296,zeroValue296,underlying299,isAgg299,sizeOf299,zeroValue299,underlying371,isAgg371,sizeOf371,zeroValue371,underlying372,isAgg372,sizeOf372,zeroValue372⟩
def aGM:Ren:=⟨fun|6=>109|15=>86|14=>160|28=>144|29=>145|20=>197|21=>198|22=>199|23=>200|24=>201|25=>202|26=>203|27=>204|46=>259|47=>183|48=>184|49=>260|50=>261|57=>324|n=>n,fun|22=>25|25=>203|39=>161|53=>32|55=>34|46=>229|45=>228|50=>131|66=>296|70=>299|76=>371|77=>372|n=>n,fun|n=>n⟩
theorem laysSort:SlLaysF0.n6 prog aGM:=⟨kl,⟨f109.name,by decide,fb func109⟩,⟨f160.name,by decide,fb func160⟩,fb func86,⟨f197.name,by decide,fb func197⟩,⟨f198.name,by decide,fb func198⟩,⟨f199.name,by decide,fb func199⟩,⟨f200.name,by decide,fb func200⟩,⟨f201.name,by decide,fb func201⟩,⟨f202.name,by decide,fb func202⟩,⟨f203.name,by decide,fb func203⟩,⟨f204.name,by decide,fb func204⟩,fb func144,fb func145,⟨f259.name,by decide,fb func259⟩,fb func183,fb func184,⟨f260.name,by decide,fb func260⟩,⟨f261.name,by decide,fb func261⟩,⟨f324.name,by decide,fb func324⟩,underlying0,isAgg0,sizeOf0,zeroValue0,underlying3,isAgg3,sizeOf3,zeroValue3,underlying4,isAgg4,sizeOf4,zeroValue4,underlying5,isAgg5,sizeOf5,zeroValue5,underlying9,isAgg9,sizeOf9,zeroValue9,underlying25,isAgg25,sizeOf25,zeroValue25,underlying203,isAgg203,sizeOf203,zeroValue203,underlying161,isAgg161,sizeOf161,zeroValue161,underlying228,isAgg228,sizeOf228,zeroValue228,underlying229,isAgg229,sizeOf229,zeroValue229,underlying131,isAgg131,sizeOf131,zeroValue131,underlying32,isAgg32,sizeOf32,zeroValue32,underlying34,isAgg34,sizeOf34,zeroValue34,underlying296,isAgg296,sizeOf296,zeroValue296,underlying299,isAgg299,sizeOf299,zeroValue299,underlying371,isAgg371,sizeOf371,zeroValue371,underlying372,isAgg372,sizeOf372,zeroValue372⟩
end Go.Proofs.Tryz
namespace Go.Proofs.YtopfefhenfineaaGreat
open Go.Proofs.Tryz Go.RowKit bh
namespace jG
variable{a i j len aw:Nat}{d:Dat}{l:List aD}
def hld(s:aD)(a:Nat):Bool:=if s.c=21 then a==s.k else if s.c=37 then decide (s.k<a)else if s.c=53 then decide (s.k<=a)else if s.c=69 then(a&&&s.k) !=0 else true
def nx(s:aD)(i a:Nat):Nat:=if s.c=32\/s.c=84 then i+1 else if hld s a=true then s.th.toNat else s.el.toNat
def na(d:Dat)(s:aD)(a:Nat):Nat:=if s.c=32 then wd d s.k else if s.c=84 then a&&&s.k else a
def fF(d:Dat)(l:List aD):Nat->Nat->Nat->Nat->Nat×Nat
 |0,_,_,_=>(0,0)
 |f+1,i,a,aw=>match l[i]? with
  |none=>(0,0)
  |some s=>if s.c=6 then(s.k,aw+1)else fF d l f (nx s i a) (na d s a) (aw+1)
def rz(d:Dat)(l:List aD):Nat×Nat:=if dx l=true then fF d l l 0 0 0 else(0,0)
def abq{s:aD}(h:eU len i s=true):s.c=32\/s.c=84\/s.c=6\/s.c=5\/s.c=21\/s.c=37\/s.c=53\/s.c=69:=by
 unfold eU at h;split at h
 ·omega
 split at h
 ·omega
 split at h
 ·omega
 simp only[dV,gK,qM,jC]at h;omega
def D7(h:dx l=true)(Z:j<l)(a9:l[j].c≠6)(a:Nat):j<nx l[j] j a/\nx l[j] j a<l.length:=by
 have R:=jy h Z;have m2:=SF h;have bO:j≠l.length-1:=by intro e;subst e;exact a9 m2
 unfold nx;by_cases c1:l[j].c=32\/l[j].c=84
 ·rw[aF c1];omega
 rw[au c1];unfold eU at R;rw[au aE,au aE]at R;by_cases c5:l[j].c=5
 ·rw[aF c5]at R;have be:hld l[j] a=true:=by unfold hld;rw[au aE,au aE,au aE,au aE]
  rw[aF be];simp only[dV,there,iM]at R;omega
 ·rw[au c5]at R;simp only[dV,there,iM]at R;split<;>omega
def an0{d:Dat}{l:List aD}(h:dx l=true):∀(f:Nat) {i a aw g:Nat},i<l->l.length-i<=f->l.length-i<=g->fF d l f i a aw=fF d l g i a aw
 |0,i,a,aw,g,hi,ai,_=>aE
 |f+1,i,a,aw,0,hi,_,hg=>aE
 |f+1,i,a,aw,g+1,hi,ai,hg=>by
  unfold fF;rw[dK hi];dsimp only;split
  ·rfl
  ·rename_i a9;obtain⟨h1,h2⟩:=D7 h hi a9 a;exact an0 h f h2 aE aE
def Z8(hi:i<l)(a9:l[i].c=6):fF d l (l-i) i a aw=(l[i].k,aw+1):=by obtain⟨f,ai⟩:∃f,l.length-i=f+1:=⟨l.length-i-1,aE⟩;rw[ai];unfold fF;rw[dK hi];dsimp only;rw[aF a9]
def Z9(h:dx l=true)(hi:i<l)(a9:l[i].c≠6):fF d l (l-i) i a aw=fF d l (l.length-nx l[i] i a) (nx l[i] i a) (na d l[i] a) (aw+1):=by obtain⟨f,ai⟩:∃f,l.length-i=f+1:=⟨l.length-i-1,aE⟩;obtain⟨h1,h2⟩:=D7 h hi a9 a;rw[ai,show fF d l (f+1) i a aw=(match l[i]? with|none=>(0,0)|some s=>if s.c=6 then(s.k,aw+1)else fF d l f (nx s i a) (na d s a) (aw+1))from rfl];rw[dK hi];dsimp only;rw[au a9];exact an0 h f h2 aE (aZ _)
end jG
variable{S:Prop}
def OL(h:S:=by rw[hg,rW];exact a9):S:=h
def H7(h:S:=by simp[nV,h1]):S:=h
namespace LT
open jG
variable{a c i an1 j len n t:Nat}{b out:List Bool}{d:Dat}{f g:Nat->Nat}
def aac(d:Dat)(l:List aD):∀f i a aw,(fF d l f i a aw).1=(fF d l f i a 0).1
 |0,_,_,_=>rfl
 |f+1,i,a,aw=>by
  unfold fF;split
  ·rfl
  ·split
   ·rfl
   ·rw[aac d l f _ _ (aw+1),aac d l f _ _ (0+1)]
def ans(d:Dat)(l:List aD)(i a:Nat):Nat:=(fF d l (l-i) i a 0).1
def C9{l:List aD}(hi:i<l)(a9:l[i].c=6):ans d l i a=l[i].k:=by unfold ans;rw[Z8 hi a9]
def zJ{l:List aD}(h:dx l=true)(hi:i<l)(a9:l[i].c≠6):ans d l i a=ans d l (nx l[i] i a) (na d l[i] a):=by unfold ans;rw[Z9 h hi a9,aac]
def aad{l:List aD}(h:dx l=true):(rz d l).1=ans d l 0 0:=by unfold rz ans;rw[aF h];rfl
def OM(len:Nat):∀(r:List aD)(i:Nat),(∀j,(h:j<r.length)->eU len (i+j) r[j]=true)->iE len r i=true
 | [],_,_=>rfl
 |x::r,i,h=>by
  have ae:=h 0 ay;have hr:=OM len r (i+1) (λj Z=>by have:=h (j+1) (by simpa using Z);simpa[Nat.add_assoc,Nat.add_comm 1 j]using this)
  simp only[iE,dV];exact⟨by simpa using ae,hr⟩
def aae{l:List aD}(ae:0<l.length)(X:l.length<=131072)(ao:∀h:l.length-1<l.length,(l[l.length-1]).c=6)(R:∀j,(h:j<l.length)->eU l j l[j]=true):dx l=true:=by unfold dx;simp only[dV,iM,jC];exact⟨ae,X,by rw[Y4 ae];exact ao _,OM _ _ _ (λj Z=>by rw[gF];exact R j Z)⟩
def GH{l:List aD}(h:dx l=true):l.length<=131072:=by unfold dx at h;simp at h;exact h.2.1
def nV(c:Nat):Bool:=(c==5)||gK c
def D8(h:c=32\/c=84\/c=6):nV c=false:=by rcases h with rfl|rfl|rfl<;>rfl
def sV{s:aD}(h:eU len i s=true):(s.c=32/\s.th=0/\s.el=0/\okW s.k=true)\/((s.c=84\/s.c=6)/\s.th=0/\s.el=0)\/(s.c=5/\s.k=0/\s.el=0/\(i:Int)<s.th/\s.th<(len:Int))\/(gK s.c=true/\s.c≠32/\s.c≠84/\s.c≠6/\s.c≠5/\((i:Int)<s.th/\s.th<(len:Int))/\(i:Int)<s.el/\s.el<(len:Int)):=by
 unfold eU at h;split at h
 ·rename_i ao;simp only[none_,dV,jC]at h;exact .inl ⟨ao,h.1.1,h.1.2,h.2⟩
 split at h
 ·rename_i ao;simp only[none_,dV,jC]at h;exact .inr (.inl ⟨ao,h.1,h.2⟩)
 split at h
 ·rename_i ao;simp only[there,dV,jC,iM]at h;exact .inr (.inr (.inl ⟨ao,h.1,h.2.1,h.2.2⟩))
 ·simp only[there,dV,iM]at h;exact .inr (.inr (.inr ⟨h.1,aE,aE,aE,aE,h.2.1,h.2.2⟩))
def an2{s:aD}(h1:s.c=32)(h2:s.th=0)(T:s.el=0)(af:okW s.k=true):eU len i s=true:=by unfold eU;rw[aF h1];simp[none_,h2,T,af]
def an3{s:aD}(h1:s.c=84\/s.c=6)(h2:s.th=0)(T:s.el=0):eU len i s=true:=by unfold eU;rw[au aE,aF h1];simp[none_,h2,T]
def QT{s:aD}(h1:s.c=5)(h2:s.k=0)(T:s.el=0)(af:(i:Int)<s.th)(aQ:s.th<(len:Int)):eU len i s=true:=by unfold eU;rw[au aE,au aE,aF h1];simp[there,h2,T,af,aQ]
def an4{s:aD}(h1:gK s.c=true)(h2:s.c≠32/\s.c≠84/\s.c≠6/\s.c≠5)(af:(i:Int)<s.th)(aQ:s.th<(len:Int))(a9:(i:Int)<s.el)(cF:s.el<(len:Int)):eU len i s=true:=by unfold eU;rw[au aE,au aE,au aE];simp[there,h1,af,aQ,a9,cF]
def vQ(h:gK c=true):c≠32/\c≠84/\c≠6/\c≠5:=by simp only[gK,qM,jC]at h;omega
def gX(f:Nat->Nat)(s:aD):aD:=if s.c=5 then⟨s.c,s.k,(f s.th.toNat:Int),s.el⟩else if gK s.c=true then⟨s.c,s.k,(f s.th.toNat:Int),(f s.el.toNat:Int)⟩else s
def rW(f:Nat->Nat)(s:aD):(gX f s).c=s.c:=by unfold gX;split<;>(try split)<;>rfl
def H8(f:Nat->Nat)(s:aD):(gX f s).k=s.k:=by unfold gX;split<;>(try split)<;>rfl
def zk{s:aD}(h:s.c=32\/s.c=84\/s.c=6):gX f s=s:=by unfold gX;rw[au aE,au];rcases h with h|h|h<;>rw[h]<;>decide
def IK{s:aD}(h:s.c=5):gX f s=⟨s.c,s.k,(f s.th.toNat:Int),s.el⟩:=by unfold gX;rw[aF h]
def D9{s:aD}(h:gK s.c=true):gX f s=⟨s.c,s.k,(f s.th.toNat:Int),(f s.el.toNat:Int)⟩:=by unfold gX;rw[au (vQ h).2.2.2,aF h]
def WE{an5:Nat}{s:aD}(h:eU len i s=true)(ai:∀t,i<t->t<len->an1<f t/\f t<an5):eU an5 an1 (gX f s)=true:=by
 rcases sV h with⟨h1,h2,T,af⟩|⟨h1,h2,T⟩|⟨h1,h2,T,af,aQ⟩|⟨h1,n1,n2,n3,n4,⟨af,aQ⟩,a9,cF⟩
 ·rw[zk (.inl h1)];exact an2 h1 h2 T af
 ·rw[zk (.inr h1)];exact an3 h1 h2 T
 ·rw[IK h1];have:=ai s.th.toNat aE aE;exact QT h1 h2 T rT rT
 ·rw[D9 h1];have a1:=ai s.th.toNat aE aE;have a2:=ai s.el.toNat aE aE;exact an4 h1 ⟨n1,n2,n3,n4⟩ rT rT rT rT
def aGN(f:Nat->Nat)(s:aD)(a:Nat):hld (gX f s) a=hld s a:=by unfold hld;rw[rW,H8]
def aaf(f:Nat->Nat)(d:Dat)(s:aD)(a:Nat):na d (gX f s) a=na d s a:=by unfold na;rw[rW,H8]
def nA{s:aD}(h:s.c=32\/s.c=84)(i a:Nat):nx s i a=i+1:=by unfold nx;rw[aF h]
def aGO{s:aD}(h:s.c=5)(a:Nat):hld s a=true:=by unfold hld;rw[au aE,au aE,au aE,au aE]
def H9{s:aD}(h:s.c=5)(i a:Nat):nx s i a=s.th.toNat:=by unfold nx;rw[au aE,aF (aGO h a)]
def OO{s:aD}(h:gK s.c=true)(i a:Nat):nx s i a=if hld s a=true then s.th.toNat else s.el.toNat:=by have:=vQ h;unfold nx;rw[au aE]
def aag{s:aD}(h:nV s.c=true)(i j a:Nat):nx (gX f s) j a=f (nx s i a):=by
 simp only[nV,qM,jC]at h;rcases h with h|h
 ·rw[H9 (by rw[rW];exact h),H9 h,IK h];simp
 ·rw[OO (by rw[rW];exact h),OO h,aGN,D9 h];split<;>simp
def QJ{s:aD}(h:eU len i s=true)(a9:s.c≠6):s.c=32\/s.c=84\/nV s.c=true:=by
 rcases sV h with⟨h1,-⟩|⟨h1,-⟩|⟨h1,-⟩|⟨h1,-⟩
 ·exact .inl h1
 ·rcases h1 with h1|h1
  ·exact .inr (.inl h1)
  ·exact absurd h1 a9
 ·exact .inr (.inr H7)
 ·exact .inr (.inr H7)
def oO(f:Nat->Nat)(l:List aD):List aD:=l.map (gX f)
def uN(f:Nat->Nat)(l:List aD):(oO f l).length=l.length:=dL ..
def Tz(f:Nat->Nat)(l:List aD)(i:Nat)(h:i<(oO f l).length):(oO f l)[i]=gX f (l[i]'(by rwa [uN]at h)):=rQ ..
def an6{l:List aD}(h:dx l=true)(ai:∀j,j<l.length->j<=f j/\f j<l.length):dx (oO f l)=true:=by
 refine aae (by rw[uN];exact mV h) (by rw[uN];exact GH h) (λbe=> ?_) (λj Z=> ?_)
 ·rw[Tz,rW];have:=SF h;simpa[uN]using this
 ·rw[Tz];exact WE (jy h _) (λt h1 h2=>by have:=ai t h2;rw[uN];omega)
def TA{d:Dat}{f:Nat->Nat}{l:List aD}(h:dx l=true)(ai:∀j,j<l.length->j<=f j/\f j<l.length)(bT:∀j,j<l.length->∀a,ans d l (f j) a=ans d l j a):∀(n i a:Nat),i<l->l.length-i<=n->ans d (oO f l) i a=ans d l i a
 |0,i,a,hi,hn=>aE
 |n+1,i,a,hi,hn=>by
  have R:=an6 h ai;have l':i<(oO f l).length:=by rw[uN];exact hi
  have hg:=Tz f l i l';by_cases a9:l[i].c=6
  ·rw[C9 hi a9,C9 l' OL,hg,H8]
  ·obtain⟨n1,n2⟩:=D7 h hi a9 a;rw[zJ h hi a9,zJ R l' OL,hg,aaf];rcases QJ (jy h hi) a9 with ao|ao|ao
   ·rw[nA (by rw[rW];exact .inl ao),nA (.inl ao)];rw[nA (.inl ao)]at n2;exact TA h ai bT n _ _ n2 aE
   ·rw[nA (by rw[rW];exact .inr ao),nA (.inr ao)];rw[nA (.inr ao)]at n2;exact TA h ai bT n _ _ n2 aE
   ·rw[aag ao i];have aGP:=ai _ n2;rw[TA h ai bT n _ _ aGP.2 aE,bT _ n2]
def qG(l:List aD)(k:Nat):Nat->Nat
 |0=>0
 |n+1=>match l[n]? with
  |some s=>if s.c=6/\s.k=k then n else qG l k n
  |none=>qG l k n
def an7{l:List aD}{k:Nat}:∀(n:Nat) {j:Nat} (Z:j<l),j<n->l[j].c=6->l[j].k=k->j<=qG l k n/\∃h:qG l k n<l.length,(l[qG l k n]'h).c=6/\(l[qG l k n]'h).k=k
 |0,j,Z,hn,_,_=>aE
 |n+1,j,Z,hn,a9,hk=>by
  have e:qG l k (n+1)=if (∃h:n<l,l[n].c=6/\l[n].k=k)then n else qG l k n:=by
   show(match l[n]? with|some s=>if s.c=6/\s.k=k then n else qG l k n|none=>qG l k n)=_;by_cases X:n<l
   ·rw[dK X];dsimp only;by_cases ao:l[n].c=6/\l[n].k=k
    ·rw[aF ao,aF ⟨X,ao⟩]
    ·rw[au ao,au (λ⟨_,h⟩=>ao h)]
   ·rw[List.getElem?_eq_none aE,au (λ⟨h,_⟩=>X h)]
  have b9:=λ(h:j<n)=>an7 n Z h a9 hk
  generalize qG l k (n+1)=q at e⊢;by_cases ao:∃h:n<l,l[n].c=6/\l[n].k=k
  ·rw[aF ao]at e;subst e;obtain⟨X,h1,h2⟩:=ao;exact⟨aE,X,h1,h2⟩
  ·rw[au ao]at e;subst e;have bO:j≠n:=λe=>by subst e;exact ao ⟨Z,a9,hk⟩
   exact b9 aE
def tT(l:List aD)(j:Nat):Nat:=match l[j]? with
 |some s=>if s.c=6 then qG l s.k l else j
 |none=>j
def tV(l:List aD):List aD:=oO (tT l) l
def an8{l:List aD}(Z:j<l):(l[j].c≠6/\tT l j=j)\/(l[j].c=6/\j<=tT l j/\∃h:tT l j<l.length,(l[tT l j]'h).c=6/\(l[tT l j]'h).k=l[j].k):=by
 have e:tT l j=if l[j].c=6 then qG l l[j].k l else j:=by unfold tT;rw[dK Z]
 by_cases a9:l[j].c=6
 ·rw[aF a9]at e;obtain⟨a,b,c⟩:=an7 l Z Z a9 rfl;refine .inr ⟨a9,aE,aE,?_⟩;simp only[e];exact c
 ·rw[au a9]at e;exact .inl ⟨a9,e⟩
def an9{l:List aD}:∀j,j<l.length->j<=tT l j/\tT l j<l.length:=λj Z=>by rcases an8 Z with⟨-,e⟩|⟨-,h1,h2,-⟩<;>omega
def aGQ(d:Dat){l:List aD}:∀j,j<l.length->∀a,ans d l (tT l j) a=ans d l j a:=λj Z a=>by
 rcases an8 Z with⟨-,e⟩|⟨a9,h1,h2,T,af⟩
 ·rw[e]
 ·rw[C9 h2 T,C9 Z a9,af]
def Cb{l:List aD}(h:dx l=true):dx (tV l)=true:=an6 h an9
def aGR(d:Dat){l:List aD}(h:dx l=true)(hi:i<l)(a:Nat):ans d (tV l) i a=ans d l i a:=TA h an9 (aGQ d) _ i a hi (aZ _)
def nD(out:List aD)(j:Nat):Nat:=match out[j]? with
 |some t=>if t.c=5 then t.th.toNat else j
 |none=>j
def kI(out:List aD)(s:aD):aD:=if (gK s.c&&((gX (nD out) s).th==(gX (nD out) s).el))=true then⟨5,0,(gX (nD out) s).th,0⟩else gX (nD out) s
def wR(l:List aD):Nat->List aD->List aD
 |0,out=>out
 |n+1,out=>match l[n]? with
  |some s=>wR l n (out.set n (kI out s))
  |none=>wR l n out
def lu(l:List aD):List aD:=wR l l l
def aGS{s:aD}(h:eU len i s=true)(HE:∀t,i<t->t<len->f t=g t):gX f s=gX g s:=by
 rcases sV h with⟨h1,h2,T,af⟩|⟨h1,h2,T⟩|⟨h1,h2,T,af,aQ⟩|⟨h1,n1,n2,n3,n4,⟨af,aQ⟩,a9,cF⟩
 ·rw[zk (.inl h1),zk (.inl h1)]
 ·rw[zk (.inr h1),zk (.inr h1)]
 ·rw[IK h1,IK h1,HE _ aE aE]
 ·rw[D9 h1,D9 h1,HE s.th.toNat aE aE,HE s.el.toNat aE aE]
def aGT{o fe:List aD}{s:aD}(h:eU len i s=true)(ho:∀t,i<t->o[t]?=fe[t]?):kI o s=kI fe s:=by unfold kI;rw[aGS h (g:=nD fe) (λt h1 _=>by unfold nD;rw[ho t h1])]
def aoa{l:List aD}(h:dx l=true):∀(n:Nat)(out:List aD),n<=l->out.length=l->(∀i (hi:i<l.length),n<=i->out[i]?=some (kI out l[i]))->(wR l n out).length=l.length/\∀i (hi:i<l.length),(wR l n out)[i]?=some (kI (wR l n out) l[i])
 |0,out,_,X,hi=>⟨X,λi h1=>hi i h1 (eG _)⟩
 |n+1,out,hn,X,hi=>by
  have amf:n<l:=aE;have e:wR l (n+1) out=wR l n (out.set n (kI out l[n])):=by show(match l[n]? with|some s=>wR l n (out.set n (kI out s))|none=>wR l n out)=_;rw[dK amf]
  rw[e];refine aoa h n _ aE (by rw[kD];exact X) (λi h1 h2=> ?_);have ao:kI (out.set n (kI out l[n])) l[i]=kI out l[i]:=aGT (jy h h1) (λt an=>by rw[List.getElem?_set_ne aE]);rw[ao];by_cases ih:i=n
  ·subst ih;rw[List.getElem?_set_self aE]
  ·rw[List.getElem?_set_ne aE];exact hi i h1 aE
def Ca{l:List aD}(h:dx l=true):(lu l).length=l.length/\∀i (hi:i<l.length),(lu l)[i]?=some (kI (lu l) l[i]):=
 aoa h _ _ (aZ _) rfl (λi h1 h2=>aE)
def QS{o:List aD}(an:t<o):nD o t=if o[t].c=5 then o[t].th.toNat else t:=by unfold nD;rw[dK an]
def TB{l:List aD}(h:dx l=true)(hi:i<l)(ho:i<(lu l).length):(lu l)[i]=kI (lu l) l[i]:=by have:=(Ca h).2 i hi;rw[dK ho]at this;exact gL this
def aob{l:List aD}(h:dx l=true):∀(n i:Nat)(_:i<l)(ho:i<(lu l).length),l.length-i<=n->eU l i (lu l)[i]=true
 |0,i,hi,_,hn=>aE
 |n+1,i,hi,ho,hn=>by
  have X:=(Ca h).1;rw[TB h hi ho];have rI:eU l i (gX (nD (lu l)) l[i])=true:=WE (jy h hi) (λt h1 h2=>by
   have st:t<(lu l).length:=aE;have WD:=aob h n t h2 st aE;rw[QS st];split
   ·rename_i aQ;rcases sV WD with⟨bk,-⟩|⟨bk,-⟩|⟨-,-,-,g3,hV⟩|⟨-,-,-,-,bk,-⟩<;>omega
   ·omega)
  unfold kI;split
  ·rename_i V;simp only[dV]at V;rcases sV rI with⟨bk,-⟩|⟨bk,-⟩|⟨bk,-⟩|⟨-,-,-,-,-,⟨g3,hV⟩,-⟩
   ·rw[rW]at bk;exact absurd bk (vQ V.1).1
   ·rw[rW]at bk;have:=vQ V.1;omega
   ·rw[rW]at bk;have:=vQ V.1;omega
   ·exact QT rfl rfl rfl g3 hV
  ·exact rI
def TF{o:List aD}{s:aD}(h:s.c=32\/s.c=84\/s.c=6):kI o s=s:=by unfold kI;rw[zk h,au];rcases h with h|h|h<;>rw[h]<;>simp[gK]
def Q6{l:List aD}(h:dx l=true):dx (lu l)=true:=by
 have X:=(Ca h).1;have ac:=mV h;refine aae aE (by rw[X];exact GH h) (λbe=> ?_) (λj Z=> ?_)
 ·have a9:=SF h;rw[TB h aE be];have e:l[(lu l).length-1]' aE=l[l.length-1]' aE:=by congr 1;omega
  rw[e,TF (.inr (.inr a9))];exact a9
 ·rw[X];exact aob h _ j aE Z (aZ _)
def aGU(d:Dat){o:List aD}(h:dx o=true)(an:t<o)(a:Nat):ans d o (nD o t) a=ans d o t a:=by
 rw[QS an];split
 ·rename_i aQ;rw[zJ h an aE,H9 aQ];unfold na;rw[au aE,au aE]
 ·rfl
def Ia{s:aD}(h:nV s.c=true)(a:Nat):na d s a=a:=by
 have:s.c≠32/\s.c≠84:=by
  simp only[nV,qM,jC]at h;rcases h with h|h
  ·omega
  ·exact⟨(vQ h).1,(vQ h).2.1⟩
 unfold na;rw[au this.1,au this.2]
def TG(d:Dat){l:List aD}(h:dx l=true):∀(n i a:Nat),i<l->l.length-i<=n->ans d (lu l) i a=ans d l i a
 |0,i,a,hi,hn=>aE
 |n+1,i,a,hi,hn=>by
  have R:=Q6 h;have X:=(Ca h).1;have ho:i<(lu l).length:=aE;have hg:=TB h hi ho;by_cases a9:l[i].c=6
  ·rw[TF (.inr (.inr a9))]at hg;rw[C9 hi a9,C9 ho (by rw[hg];exact a9),hg]
  ·obtain⟨n1,n2⟩:=D7 h hi a9 a;rw[zJ h hi a9];rcases QJ (jy h hi) a9 with ao|ao|ao
   ·rw[TF (.inl ao)]at hg;rw[zJ R ho (by rw[hg];exact a9),hg,nA (.inl ao)];rw[nA (.inl ao)]at n2;exact TG d h n _ _ n2 aE
   ·rw[TF (.inr (.inl ao))]at hg;rw[zJ R ho (by rw[hg];exact a9),hg,nA (.inr ao)];rw[nA (.inr ao)]at n2;exact TG d h n _ _ n2 aE
   ·rw[Ia ao];have key:ans d (lu l) i a=ans d (lu l) (nD (lu l) (nx l[i] i a)) a:=by
     by_cases V:(gK l[i].c&&((gX (nD (lu l)) l[i]).th==(gX (nD (lu l)) l[i]).el))=true
     ·have m4:=hg;unfold kI at m4;rw[aF V]at m4;simp only[dV,jC]at V;have aQ:(lu l)[i].c=5:=by rw[m4]
      rw[zJ R ho aE,Ia (by simp[nV,aQ]),H9 aQ,m4];have nX:=V.2;rw[D9 V.1]at nX;rw[D9 V.1,OO V.1];dsimp only at nX⊢;split
      ·rw[kr]
      ·rw[nX,kr]
     ·unfold kI at hg;rw[au V]at hg;rw[zJ R ho OL,hg,aaf,aag ao i,Ia ao]
    rw[key,aGU d R aE];exact TG d h n _ _ n2 aE
def rV(l:List aD)(n:Nat)(out:List Bool):List Bool:=match l[n]? with
 |none=>out
 |some s=>if (!out.getD n false||s.c==6)=true then out
  else if nV s.c=false then out.set (n+1) true
  else if gK s.c=true then(out.set s.th.toNat true).set s.el.toNat true else out.set s.th.toNat true
def aah(l:List aD):List Bool:=(List.replicate l false).set 0 true
def ny(l:List aD):Nat->List Bool
 |0=>aah l
 |n+1=>rV l n (ny l n)
def fB(l:List aD):List Bool:=ny l l.length
def aGV(l:List aD)(n:Nat)(out:List Bool):(rV l n out).length=out.length:=by
 unfold rV;split
 ·rfl
 · (repeat' split)<;>simp
def Mj(l:List aD):∀n,(ny l n).length=l.length
 |0=>by simp[ny,aah]
 |n+1=>by rw[ny,aGV,Mj l n]
def Db(v:Bool)(hi:i<b):(b.set i v).getD j false=if i=j then v else b.getD j false:=by
 rw[kR,kR,List.getElem?_set];by_cases h:i=j
 ·subst h;simp[hi]
 ·simp[h]
def Kr(h:b.getD j false=true):(b.set i true).getD j false=true:=by
 by_cases hi:i<b
 ·rw[Db _ hi];split<;>simp_all
 ·rw[List.set_eq_of_length_le aE];exact h
def getD_set_ne(v:Bool)(h:i≠j):(b.set i v).getD j false=b.getD j false:=by rw[kR,kR,List.getElem?_set_ne h]
def aGW{l:List aD}(h:out.getD j false=true):(rV l n out).getD j false=true:=by
 unfold rV;split
 ·exact h
 ·split
  ·exact h
  split
  ·exact Kr h
  split
  ·exact Kr (Kr h)
  ·exact Kr h
def aGX{l:List aD}(h:dx l=true)(Z:j<=n):(rV l n out).getD j false=out.getD j false:=by
 unfold rV;by_cases hn:n<l
 ·rw[dK hn];dsimp only;have R:=jy h hn;split
  ·rfl
  split
  ·exact getD_set_ne _ aE
  rename_i xa;rcases sV R with⟨h1,-⟩|⟨h1,-⟩|⟨h1,h2,T,af,aQ⟩|⟨h1,n1,n2,n3,n4,⟨af,aQ⟩,a9,cF⟩
  ·exact absurd (D8 (.inl h1)) xa
  ·exact absurd (D8 (.inr h1)) xa
  ·rw[au (by rw[h1];decide)];exact getD_set_ne _ aE
  ·rw[aF h1,getD_set_ne _ aE,getD_set_ne _ aE]
 ·rw[List.getElem?_eq_none aE]
def TH{l:List aD}:∀ {n m:Nat},n<=m->(ny l n).getD j false=true->(ny l m).getD j false=true:=by
 intro n m vi h
 induction m with
 |zero=>obtain rfl:n=0:=aE
        exact h
 |succ m b9=>
  by_cases e:n=m+1
  ·subst e;exact h
  ·exact aGW (b9 aE)
def aoc{l:List aD}(h:dx l=true):∀ {n m:Nat},n<=m->j<=n->(ny l m).getD j false=(ny l n).getD j false:=by
 intro n m vi Z
 induction m with
 |zero=>obtain rfl:n=0:=aE
        rfl
 |succ m b9=>
  by_cases e:n=m+1
  ·subst e;rfl
  ·rw[ny,aGX h aE,b9 aE]
def wG(l:List aD)(i:Nat):Bool:=(fB l).getD i false
def aod{l:List aD}(h:dx l=true):wG l 0=true:=by unfold wG fB;refine TH (eG _) ?_;unfold ny aah;rw[Db _ (by simpa using mV h)];simp
def aai{l:List aD}(h:dx l=true)(hi:i<l)(hv:wG l i=true)(a9:l[i].c≠6)(a:Nat):wG l (nx l[i] i a)=true:=by
 unfold wG fB at *;rw[aoc h (n:=i) aE (aZ _)]at hv;refine TH (n:=i+1) aE ?_;obtain⟨n1,n2⟩:=D7 h hi a9 a;have R:=jy h hi;rw[ny];unfold rV;rw[dK hi];dsimp only;rw[au (by rw[hv];simp[a9])];have ey:=Mj l i;rcases sV R with⟨h1,-⟩|⟨h1,-⟩|⟨h1,h2,T,af,aQ⟩|⟨h1,eN,fS,zv,up,⟨af,aQ⟩,a9,cF⟩
 ·rw[aF (D8 (.inl h1)),nA (.inl h1)];rw[nA (.inl h1)]at n2;rw[Db _ aE];simp
 ·have eA:l[i].c=84:=aE;rw[aF (D8 (.inr (.inl eA))),nA (.inr eA)];rw[nA (.inr eA)]at n2;rw[Db _ aE];simp
 ·rw[au H7,au (by rw[h1];decide),H9 h1,Db _ aE];simp
 ·rw[au H7,aF h1,OO h1];split
  ·exact Kr (by rw[Db _ aE];simp)
  ·rw[Db _ (by rw[kD];omega)];simp
def gG(b:List Bool)(i:Nat):Nat:=((b.take i).filter id).length
def pick:List aD->List Bool->List aD
 |x::A,b::bs=>if b=true then x::pick A bs else pick A bs
 |_,_=>[]
def qW(l:List aD):List aD:=pick (oO (gG (fB l)) l) (fB l)
def aaj(b:List Bool):gG b 0=0:=rfl
def IW(hi:i<b):gG b (i+1)=gG b i+if b.getD i false=true then 1 else 0:=by unfold gG;rw[mh hi,yZ,dA,kR,dK hi];cases h:b[i]<;>simp[List.filter]
def aGY:∀ {i j:Nat},i<=j->j<=b->gG b i<=gG b j:=by
 intro i j h Z
 induction j with
 |zero=>obtain rfl:i=0:=aE
        exact aZ _
 |succ j b9=>
  by_cases e:i=j+1
  ·subst e;exact aZ _
  ·rw[IW aE];have:=b9 aE aE;omega
def OP(h:b.getD i false=true)(ox:i<j)(Z:j<=b):gG b i<gG b j:=by have h1:=IW (b:=b) (i:=i) aE;rw[aF h]at h1;have:=aGY (b:=b) (i:=i+1) (j:=j) aE Z;omega
def Wy(b:List Bool)(i:Nat):gG b i<=i:=by unfold gG;exact cB (BH _ _) (List.length_take_le _ _)
def aoe(x:Bool)(b:List Bool)(i:Nat):gG (x::b) (i+1)=(if x=true then 1 else 0)+gG b i:=by unfold gG;rw[List.take_succ_cons,List.filter_cons];cases x<;>simp<;>omega
def aof:∀(A:List aD)(b:List Bool),A.length=b->(pick A b).length=gG b b.length
 | [],[],_=>rfl
 | [],_::_,h=>by simp at h
 |_::_,[],h=>by simp at h
 |x::A,y::b,h=>by
  have b9:=aof A b tH;rw[show(y::b).length=b.length+1 from rfl,aoe];unfold pick;cases y
  ·rw[au ay,au ay,b9];omega
  ·rw[aF rfl,aF rfl,dJ,b9];omega
def aog:∀(A:List aD)(b:List Bool)(i:Nat)(hi:i<A),b.getD i false=true->(pick A b)[gG b i]?=some A[i]
 | [],_,i,hi,_=>by simp at hi
 |x::A,[],i,hi,h=>by simp at h
 |x::A,y::b,0,hi,h=>by
  have bN:y=true:=by simpa using h
  subst bN;rw[aaj];unfold pick;rw[aF rfl];rfl
 |x::A,y::b,i+1,hi,h=>by
  have b9:=aog A b i Im tH;rw[aoe];unfold pick;cases y
  ·rw[au ay,au ay,gF];simpa using b9
  ·rw[aF rfl,aF rfl,Nat.add_comm 1,List.getElem?_cons_succ];simpa using b9
def aoh{b:List Bool}:∀ {n j:Nat},n<=b->j<gG b n->∃i,i<n/\b.getD i false=true/\gG b i=j
 |0,j,_,h=>by rw[aaj]at h;omega
 |n+1,j,hn,h=>by
  rw[IW aE]at h;by_cases Z:j<gG b n
  ·obtain⟨i,h1,h2,T⟩:=aoh aE Z;exact⟨i,aE,h2,T⟩
  ·cases V:b.getD n false
   ·rw[V,au ay]at h;omega
   ·rw[V,aF rfl]at h;exact⟨n,aE,V,aE⟩
def Ec(l:List aD):(fB l).length=l.length:=Mj l _
def TI(l:List aD):(qW l).length=gG (fB l) l.length:=by unfold qW;rw[aof _ _ (by rw[uN,Ec]),Ec]
def aoi{l:List aD}(hi:i<l)(hv:wG l i=true):(qW l)[gG (fB l) i]?=some (gX (gG (fB l)) l[i]):=by
 have:=aog (oO (gG (fB l)) l) (fB l) i (by rw[uN];exact hi) hv
 rwa [Tz]at this
def Kt{l:List aD}(hi:i<l)(hv:wG l i=true):gG (fB l) i<(qW l).length:=by rw[TI];exact OP hv hi (by rw[Ec];exact aZ _)
def aGZ{l:List aD}(Z:j<(qW l).length):∃i,i<l.length/\wG l i=true/\gG (fB l) i=j:=by rw[TI]at Z;exact aoh (by rw[Ec];exact aZ _) Z
def aak{l:List aD}(Z:j<(qW l).length):∃i,∃h:i<l.length,wG l i=true/\gG (fB l) i=j/\(qW l)[j]=gX (gG (fB l)) l[i]:=by obtain⟨i,h1,h2,T⟩:=aGZ Z;have:=aoi h1 h2;rw[T,dK Z]at this;exact⟨i,h1,h2,T,gL this⟩
def aG0{l:List aD}(h:dx l=true)(hi:i<l)(hv:wG l i=true)(h1:gK l[i].c=true):wG l l[i].th.toNat=true/\wG l l[i].el.toNat=true:=by
 unfold wG fB at *;rw[aoc h (n:=i) aE (aZ _)]at hv;have bO:=vQ h1;have R:=jy h hi;rcases sV R with⟨bk,-⟩|⟨bk,-⟩|⟨bk,-⟩|⟨-,eN,fS,zv,up,⟨af,aQ⟩,a9,cF⟩
 ·omega
 ·omega
 ·omega
 have ey:=Mj l i;have key:ny l (i+1)=((ny l i).set l[i].th.toNat true).set l[i].el.toNat true:=by rw[ny];unfold rV;rw[dK hi];dsimp only;rw[au (by rw[hv];simp[zv]),au H7,aF h1]
 constructor
 ·refine TH (n:=i+1) aE ?_;rw[key];exact Kr (by rw[Db _ aE];simp)
 ·refine TH (n:=i+1) aE ?_;rw[key,Db _ (by rw[kD];omega)];simp
def aoj{l:List aD}(h:dx l=true):dx (qW l)=true:=by
 have ey:=Ec l;have ae:0<(qW l).length:=by have:=Kt (mV h) (aod h);omega
 have ge:(qW l).length<=l.length:=by rw[TI];exact Wy _ _
 refine aae ae (cB ge (GH h)) (λbe=> ?_) (λj Z=> ?_)
 ·obtain⟨i,hi,hv,ac,hg⟩:=aak be;rw[hg,rW];by_cases a9:l[i].c=6
  ·exact a9
  ·obtain⟨n1,n2⟩:=D7 h hi a9 0;have ab:=aai h hi hv a9 0;have a1:=OP hv n1 aE;have a2:=Kt n2 ab;omega
 ·obtain⟨i,hi,hv,ac,hg⟩:=aak Z;rw[hg];rcases sV (jy h hi)with⟨h1,h2,T,af⟩|⟨h1,h2,T⟩|⟨h1,h2,T,af,aQ⟩|⟨h1,n1,n2,n3,n4,⟨af,aQ⟩,a9,cF⟩
  ·rw[zk (.inl h1)];exact an2 h1 h2 T af
  ·rw[zk (.inr h1)];exact an3 h1 h2 T
  ·have ab:=aai h hi hv aE 0;rw[H9 h1]at ab;have a1:=OP hv (j:=l[i].th.toNat) aE aE;have a2:=Kt (i:=l[i].th.toNat) aE ab;rw[IK h1];exact QT h1 h2 T rT rT
  ·obtain⟨dl,gS⟩:=aG0 h hi hv h1;have a1:=OP hv (j:=l[i].th.toNat) aE aE;have a2:=Kt (i:=l[i].th.toNat) aE dl;have b1:=OP hv (j:=l[i].el.toNat) aE aE;have b2:=Kt (i:=l[i].el.toNat) aE gS;rw[D9 h1];exact an4 h1 ⟨n1,n2,n3,n4⟩ rT rT rT rT
def aok(d:Dat){l:List aD}(h:dx l=true):∀(n i a:Nat),i<l->wG l i=true->l.length-i<=n->ans d (qW l) (gG (fB l) i) a=ans d l i a
 |0,i,a,hi,_,hn=>aE
 |n+1,i,a,hi,hv,hn=>by
  have R:=aoj h;have ho:=Kt hi hv;have hg:(qW l)[gG (fB l) i]=gX (gG (fB l)) l[i]:=by have:=aoi hi hv;rw[dK ho]at this;exact gL this
  by_cases a9:l[i].c=6
  ·rw[C9 hi a9,C9 ho OL,hg,H8]
  ·obtain⟨n1,n2⟩:=D7 h hi a9 a;have ab:=aai h hi hv a9 a;rw[zJ h hi a9,zJ R ho OL,hg,aaf];have dT:nx (gX (gG (fB l)) l[i]) (gG (fB l) i) a=gG (fB l) (nx l[i] i a):=by
    rcases QJ (jy h hi) a9 with ao|ao|ao
    ·rw[nA (by rw[rW];exact .inl ao),nA (.inl ao),IW (by rw[Ec];exact hi),aF (show(fB l).getD i false=true from hv)]
    ·rw[nA (by rw[rW];exact .inr ao),nA (.inr ao),IW (by rw[Ec];exact hi),aF (show(fB l).getD i false=true from hv)]
    ·rw[aag ao i]
   rw[dT];exact aok d h n _ _ n2 ab aE
def qX(l:List aD):List aD:=qW (lu (tV l))
def RQ{l:List aD}(h:dx l=true):dx (qX l)=true:=aoj (Q6 (Cb h))
def ana(d:Dat){l:List aD}(h:dx l=true):(rz d (qX l)).1=(rz d l).1:=by have h1:=Cb h;have h2:=Q6 h1;rw[aad (RQ h),aad h];have cG:=aok d h2 _ 0 0 (mV h2) (aod h2) (aZ _);rw[aaj]at cG;unfold qX;rw[cG,TG d h1 _ 0 0 (mV h1) (aZ _),aGR d h (mV h)]
def afZ{l:List aD}(h:dx l=true):(qX l).length<=l.length:=by have h1:=Cb h;unfold qX;rw[TI];refine cB (Wy _ _) ?_;rw[(Ca h1).1];unfold tV;rw[uN];exact aZ _
def aG1{l:List aD}(hk:∀s∈l,s.k<4294967296):∀s∈oO f l,s.k<4294967296:=λs ab=>by obtain⟨t,an,rfl⟩:=iJ.1 ab;rw[H8];exact hk t an
def aG2{l:List aD}(h:dx l=true)(hk:∀s∈l,s.k<4294967296):∀s∈lu l,s.k<4294967296:=λs ab=>by
 obtain⟨i,hi,rfl⟩:=uD ab;have X:=(Ca h).1;rw[TB h aE hi];unfold kI;split
 ·show 0<4294967296;decide
 ·rw[H8];exact hk _ (eB _)
def aG3{l:List aD}(hk:∀s∈l,s.k<4294967296):∀s∈qW l,s.k<4294967296:=λs ab=>by obtain⟨j,Z,rfl⟩:=uD ab;obtain⟨i,hi,-,-,hg⟩:=aak Z;rw[hg,H8];exact hk _ (eB _)
def ay8{l:List aD}(h:dx l=true)(hk:∀s∈l,s.k<4294967296):∀s∈qX l,s.k<4294967296:=aG3 (aG2 (Cb h) (aG1 hk))
end LT
def TJ(h:S:=by rw[h1];simp):S:=h
namespace LT
open jG
variable{a b c f i k left len t:Nat}{d:Dat}
structure Ix where
 c:Nat
 jt:Nat
 jf:Nat
 k:Nat
def iD(i:Ix):List K:= [bf i.c,aC i.jt,aC i.jf,M i.k]
def Ee(i:Ix):(iD i).length=4:=rfl
def awt(s:Ix):∀u∈iD s,u.oneCell'=true:=by intro u a6;simp[iD]at a6;exact Uy
def yh(x:Ix)(a:Nat):Bool:=hld ⟨x.c,x.k,0,0⟩ a
def kV(d:Dat):Nat->List Ix->Nat->Nat
 |0,_,_=>0
 |_+1,[],_=>0
 |f+1,x::r,a=>if x.c=6 then x.k else if x.c=32 then kV d f r (wd d x.k)else if x.c=84 then kV d f r (a&&&x.k)else if x.c=5 then kV d f (r.drop x.k) a
  else kV d f (r.drop (if yh x a=true then x.jt else x.jf)) a
def mY(x:Ix)(left:Nat):Bool:=decide (x.c<65536/\x.jt<256/\x.jf<256/\x.k<4294967296)&&
 ((x.c==32&&okW x.k)||x.c==84||x.c==6||(x.c==5&&decide (x.k<left))||(gK x.c&&decide (x.jt<left)&&decide (x.jf<left)))
def oV:List Ix->Bool
 | []=>true
 |x::r=>mY x r.length&&oV r
def uW(p:List Ix):Bool:=oV p&&(match p.getLast? with|some x=>x.c==6|none=>false)
def fJ(HF:Nat->Nat)(s:aD):List Ix:=
 if s.c=5 then [⟨5,0,0,HF s.th.toNat⟩]
 else if gK s.c=false then [⟨s.c,0,0,s.k⟩]
 else if max (HF s.th.toNat) (HF s.el.toNat)<=255 then [⟨s.c,HF s.th.toNat,HF s.el.toNat,s.k⟩]
 else [⟨s.c,0,1,s.k⟩,⟨5,0,0,HF s.th.toNat+1⟩,⟨5,0,0,HF s.el.toNat⟩]
def Fp:List aD->Nat->List Ix×List Nat
 | [],_=>([],[])
 |s::r,i=>
  let aH:=Fp r (i+1)
  let bI:=fJ (λt=>aH.1.length-aH.2.getD (t-(i+1)) 0) s++aH.1
  (bI,bI.length::aH.2)
def iV(l:List aD)(i:Nat):List Ix:=(Fp (l.drop i) i).1
def wV(l:List aD)(i:Nat):List Nat:=(Fp (l.drop i) i).2
def nE(l:List aD):List Ix:=iV l 0
def aol:∀(r:List aD)(i j:Nat),j<r->(Fp r i).2.getD j 0=(Fp (r.drop j) (i+j)).1.length
 | [],_,_,h=>by simp at h
 |s::r,i,0,_=>by simp[Fp]
 |s::r,i,j+1,h=>by have:=aol r (i+1) j tH;rw[List.drop_succ_cons,show i+(j+1)=i+1+j from aE,<-this];simp[Fp]
def Q7(l:List aD):iV l l.length=[]:=by unfold iV;rw[qy];rfl
def awN(l:List aD):wV l l.length=[]:=by unfold wV;rw[qy];rfl
def aom(l:List aD)(hi:i<l):Fp (l.drop i) i=(fJ (λt=>(iV l (i+1)).length-(wV l (i+1)).getD (t-(i+1)) 0) l[i]++iV l (i+1),(fJ (λt=>(iV l (i+1)).length-(wV l (i+1)).getD (t-(i+1)) 0) l[i]++iV l (i+1)).length::wV l (i+1)):=by rw[kQ hi];rfl
def TK(f:Nat->Nat){s:aD}(h:s.c=32\/s.c=84\/s.c=6):fJ f s=[⟨s.c,0,0,s.k⟩]:=by unfold fJ;rw[au aE,aF];rcases h with h|h|h<;>rw[h]<;>rfl
def af5{f g:Nat->Nat}{s:aD}(h:eU len i s=true)(HE:∀t,i<t->t<len->f t=g t):fJ f s=fJ g s:=by
 rcases sV h with⟨h1,h2,T,af⟩|⟨h1,h2,T⟩|⟨h1,h2,T,af,aQ⟩|⟨h1,n1,n2,n3,n4,⟨af,aQ⟩,a9,cF⟩
 ·rw[TK f (.inl h1),TK g (.inl h1)]
 ·rw[TK f (.inr h1),TK g (.inr h1)]
 ·unfold fJ;rw[aF h1,aF h1,HE _ aE aE]
 ·unfold fJ;rw[au n4,au n4,HE s.th.toNat aE aE,HE s.el.toNat aE aE]
def af6(l:List aD)(hi:i<=t)(an:t<l):(wV l i).getD (t-i) 0=(iV l t).length:=by unfold wV iV;rw[aol _ _ _ xJ,List.drop_drop,show i+(t-i)=t from aE]
def dst(l:List aD)(i t:Nat):Nat:=(iV l i).length-(iV l t).length
def I6{l:List aD}(h:dx l=true)(hi:i<l):iV l i=fJ (dst l (i+1)) l[i]++iV l (i+1):=by
 conv=>lhs;unfold iV
 rw[aom l hi];dsimp only;rw[af5 (jy h hi) (g:=dst l (i+1)) (λt h1 h2=>by rw[af6 l aE h2];rfl)]
def awO{l:List aD}(hi:i<l):wV l i=(iV l i).length::wV l (i+1):=by
 unfold wV iV;rw[aom l hi]
 rfl
def WV(f:Nat->Nat)(s:aD):0<(fJ f s).length/\(fJ f s).length<=3:=by unfold fJ;exact FE
def aon{l:List aD}(h:dx l=true)(hi:i<l):(iV l (i+1)).length<(iV l i).length/\(iV l i).length<=(iV l (i+1)).length+3:=by rw[I6 h hi,dA];have:=WV (dst l (i+1)) l[i];omega
def aal{l:List aD}(h:dx l=true):∀(n i:Nat),i+n=l.length->(iV l i).length<=3*n
 |0,i,e=>by have:i=l.length:=aE;subst this;rw[Q7];simp
 |n+1,i,e=>by have:=aal h n (i+1) aE;have:=(aon h (i:=i) aE).2;omega
def ahT{l:List aD}(h:dx l=true):(nE l).length<=3*l.length:=aal h _ 0 aE
def Ku{l:List aD}(h:dx l=true){t:Nat}(an:t<=l):∀(n i:Nat),i<=t->t-i<=n->∃pre,iV l i=pre++iV l t
 |0,i,hi,hn=>by obtain rfl:i=t:=aE;exact⟨[],rfl⟩
 |n+1,i,hi,hn=>by
  by_cases e:i=t
  ·subst e;exact⟨[],rfl⟩
  ·obtain⟨pre,ac⟩:=Ku h an n (i+1) aE aE;exact⟨fJ (dst l (i+1)) l[i]++pre,by rw[I6 h aE,ac,gJ]⟩
def OQ{l:List aD}(h:dx l=true)(hi:i<=t)(an:t<=l):(iV l i).drop (dst l i t)=iV l t:=by obtain⟨pre,ac⟩:=Ku h an _ i hi (aZ _);unfold dst;rw[ac,dA,yX,List.drop_left]
def aam{l:List aD}(h:dx l=true)(hi:i<=t)(an:t<l):dst l i t<(iV l i).length:=by obtain⟨pre,ac⟩:=Ku h (Nat.le_of_lt an) _ i hi (aZ _);have:=(aon h an).1;unfold dst;rw[ac,dA];omega
def akf{x:Ix}{r:List Ix}(h:x.c=6):kV d (f+1) (x::r) a=x.k:=by simp only[kV];rw[aF h]
def R8{x:Ix}{r:List Ix}(h:x.c=5):kV d (f+1) (x::r) a=kV d f (r.drop x.k) a:=by simp only[kV];rw[au aE,au aE,au aE,aF h]
def akd{x:Ix}{r:List Ix}(h:x.c=32):kV d (f+1) (x::r) a=kV d f r (wd d x.k):=by simp only[kV];rw[au aE,aF h]
def ake{x:Ix}{r:List Ix}(h:x.c=84):kV d (f+1) (x::r) a=kV d f r (a&&&x.k):=by simp only[kV];rw[au aE,au aE,aF h]
def Yh{x:Ix}{r:List Ix}(h:gK x.c=true):kV d (f+1) (x::r) a=kV d f (r.drop (if yh x a=true then x.jt else x.jf)) a:=by have:=vQ h;simp only[kV];rw[au this.2.2.1,au this.1,au this.2.1,au this.2.2.2]
def aoo{s:aD}{x:Ix}(ao:x.c=s.c)(hk:x.k=s.k)(a:Nat):yh x a=hld s a:=by unfold yh hld;dsimp only;rw[ao,hk]
def Fq(d:Dat){l:List aD}(h:dx l=true):∀(n i a f:Nat),i<l->l.length-i<=n->(iV l i).length<=f->kV d f (iV l i) a=ans d l i a
 |0,i,a,f,hi,hn,_=>aE
 |n+1,i,a,f,hi,hn,ai=>by
  have bU:=I6 h hi;have R:=jy h hi;by_cases a9:l[i].c=6
  ·have aK:fJ (dst l (i+1)) l[i]=[⟨l[i].c,0,0,l[i].k⟩]:=by unfold fJ;rw[au aE,aF (by rw[a9];rfl)]
   rw[aK]at bU;rw[bU]at ai⊢;rw[C9 hi a9];obtain⟨g,rfl⟩:∃g,f=g+1:=⟨f-1,by simp at ai;omega⟩;rw[List.singleton_append,akf a9]
  ·obtain⟨n1,n2⟩:=D7 h hi a9 a;rw[zJ h hi a9];rcases sV R with⟨h1,h2,T,af⟩|⟨h1,h2,T⟩|⟨h1,h2,T,af,aQ⟩|⟨h1,eN,fS,zv,up,⟨af,aQ⟩,cF,eA⟩
   ·have aK:fJ (dst l (i+1)) l[i]=[⟨l[i].c,0,0,l[i].k⟩]:=by unfold fJ;rw[au aE,aF (by rw[h1];rfl)]
    rw[aK]at bU;rw[bU]at ai⊢;obtain⟨g,rfl⟩:∃g,f=g+1:=⟨f-1,by simp at ai;omega⟩;rw[nA (.inl h1)]at n2;rw[List.singleton_append,akd h1,nA (.inl h1),Fq d h n _ _ _ n2 aE (by simp at ai;omega)];unfold na;rw[aF h1]
   ·have Zq9:l[i].c=84:=aE;have aK:fJ (dst l (i+1)) l[i]=[⟨l[i].c,0,0,l[i].k⟩]:=by unfold fJ;rw[au aE,aF (by rw[Zq9];rfl)]
    rw[aK]at bU;rw[bU]at ai⊢;obtain⟨g,rfl⟩:∃g,f=g+1:=⟨f-1,by simp at ai;omega⟩;rw[nA (.inr Zq9)]at n2;rw[List.singleton_append,ake Zq9,nA (.inr Zq9),Fq d h n _ _ _ n2 aE (by simp at ai;omega)];unfold na;rw[au aE,aF Zq9]
   ·have aK:fJ (dst l (i+1)) l[i]=[⟨5,0,0,dst l (i+1) l[i].th.toNat⟩]:=by unfold fJ;rw[aF h1]
    rw[aK]at bU;rw[bU]at ai⊢;obtain⟨g,rfl⟩:∃g,f=g+1:=⟨f-1,by simp at ai;omega⟩;rw[H9 h1]at n1 n2⊢;rw[List.singleton_append,R8 rfl,Ia H7];dsimp only;rw[OQ h aE aE];refine Fq d h n _ _ _ n2 aE ?_;obtain⟨pre,ac⟩:=Ku h (t:=l[i].th.toNat) aE _ (i+1) aE (aZ _);rw[ac]at ai;simp at ai;omega
   ·have dT:=OO h1 i a;rw[dT]at n1 n2⊢;rw[Ia H7];have oX:∀t,i+1<=t->t<=l.length->(iV l t).length<=(iV l (i+1)).length:=λt h1 h2=>by obtain⟨pre,ac⟩:=Ku h h2 _ (i+1) h1 (aZ _);rw[ac,dA];omega
    by_cases Ef:max (dst l (i+1) l[i].th.toNat) (dst l (i+1) l[i].el.toNat)<=255
    ·have aK:fJ (dst l (i+1)) l[i]=[⟨l[i].c,dst l (i+1) l[i].th.toNat,dst l (i+1) l[i].el.toNat,l[i].k⟩]:=by unfold fJ;rw[au up,au TJ,aF Ef]
     rw[aK]at bU;rw[bU]at ai⊢;obtain⟨g,rfl⟩:∃g,f=g+1:=⟨f-1,by simp at ai;omega⟩;rw[List.singleton_append,Yh h1,aoo (s:=l[i]) rfl rfl];dsimp only;have hg:(iV l (i+1)).length<=g:=by simp at ai;omega
     cases be:hld l[i] a
     ·rw[be,au ay]at n1 n2;rw[au ay,au ay,OQ h aE aE];exact Fq d h n _ _ _ n2 aE (cB (oX _ aE aE) hg)
     ·rw[be,aF rfl]at n1 n2;rw[aF rfl,aF rfl,OQ h aE aE];exact Fq d h n _ _ _ n2 aE (cB (oX _ aE aE) hg)
    ·have aK:fJ (dst l (i+1)) l[i]=[⟨l[i].c,0,1,l[i].k⟩,⟨5,0,0,dst l (i+1) l[i].th.toNat+1⟩,⟨5,0,0,dst l (i+1) l[i].el.toNat⟩]:=by unfold fJ;rw[au up,au TJ,au Ef]
     rw[aK]at bU;rw[bU]at ai⊢;obtain⟨g,rfl⟩:∃g,f=g+2:=⟨f-2,by simp at ai;omega⟩;have hg:(iV l (i+1)).length<=g:=by simp at ai;omega
     simp only[gZ,iq];rw[Yh h1,aoo (s:=l[i]) rfl rfl];dsimp only;cases be:hld l[i] a
     ·rw[be,au ay]at n1 n2;rw[au ay,au ay,List.drop_succ_cons,List.drop_zero,R8 rfl];dsimp only;rw[OQ h aE aE];exact Fq d h n _ _ _ n2 aE (cB (oX _ aE aE) hg)
     ·rw[be,aF rfl]at n1 n2;rw[aF rfl,aF rfl,List.drop_zero,R8 rfl];dsimp only;rw[List.drop_succ_cons,OQ h aE aE];exact Fq d h n _ _ _ n2 aE (cB (oX _ aE aE) hg)
def rC(d:Dat)(p:List Ix):Nat:=kV d p p 0
def anb(d:Dat){l:List aD}(h:dx l=true):rC d (nE l)=(rz d l).1:=by rw[aad h];exact Fq d h _ 0 0 _ (mV h) (aZ _) (aZ _)
def aG4(h:c=84\/c=6)(hk:k<4294967296):mY ⟨c,0,0,k⟩ left=true:=by unfold mY;rcases h with rfl|rfl<;>simp[hk]
def aG5(h:c=32)(bJ:okW k=true)(hk:k<4294967296):mY ⟨c,0,0,k⟩ left=true:=by unfold mY;subst h;simp[hk,bJ]
def aan(h:k<left)(hk:k<4294967296):mY ⟨5,0,0,k⟩ left=true:=by unfold mY;simp[hk,h]
def aop(ao:gK c=true)(h1:a<left)(h2:b<left)(T:a<256)(af:b<256)(hk:k<4294967296):mY ⟨c,a,b,k⟩ left=true:=by
 have q1:c<65536:=by simp only[gK,qM,jC]at ao;omega
 unfold mY;simp[ao,h1,h2,T,af,hk,q1]
def aoq{l:List aD}(h:dx l=true)(hk:∀s∈l,s.k<4294967296):∀(n i:Nat),i+n=l.length->oV (iV l i)=true
 |0,i,e=>by have:i=l.length:=aE;subst this;rw[Q7];rfl
 |n+1,i,e=>by
  have b9:=aoq h hk n (i+1) aE;have hi:i<l:=aE;have s2:=hk _ (eB hi);have S2:(iV l (i+1)).length<=400000:=by have:=aal h n (i+1) aE;have:=GH h;omega
  rw[I6 h hi];rcases sV (jy h hi)with⟨h1,h2,T,af⟩|⟨h1,h2,T⟩|⟨h1,h2,T,af,aQ⟩|⟨h1,eN,fS,zv,up,⟨af,aQ⟩,cF,eA⟩
  ·have aK:fJ (dst l (i+1)) l[i]=[⟨l[i].c,0,0,l[i].k⟩]:=by unfold fJ;rw[au aE,aF (by rw[h1];rfl)]
   rw[aK,List.singleton_append];simp only[oV,dV];exact⟨aG5 h1 af s2,b9⟩
  ·have aK:fJ (dst l (i+1)) l[i]=[⟨l[i].c,0,0,l[i].k⟩]:=by unfold fJ;rw[au aE,aF];rcases h1 with h1|h1<;>rw[h1]<;>rfl
   rw[aK,List.singleton_append];simp only[oV,dV];exact⟨aG4 h1 s2,b9⟩
  ·have aK:fJ (dst l (i+1)) l[i]=[⟨5,0,0,dst l (i+1) l[i].th.toNat⟩]:=by unfold fJ;rw[aF h1]
   have hd:=aam h (i:=i+1) (t:=l[i].th.toNat) aE aE;rw[aK,List.singleton_append];simp only[oV,dV];exact⟨aan hd aE,b9⟩
  ·have hd1:=aam h (i:=i+1) (t:=l[i].th.toNat) aE aE;have t5:=aam h (i:=i+1) (t:=l[i].el.toNat) aE aE;by_cases Ef:max (dst l (i+1) l[i].th.toNat) (dst l (i+1) l[i].el.toNat)<=255
   ·have aK:fJ (dst l (i+1)) l[i]=[⟨l[i].c,dst l (i+1) l[i].th.toNat,dst l (i+1) l[i].el.toNat,l[i].k⟩]:=by unfold fJ;rw[au up,au TJ,aF Ef]
    rw[aK,List.singleton_append];simp only[oV,dV];exact⟨aop h1 hd1 t5 aE aE s2,b9⟩
   ·have aK:fJ (dst l (i+1)) l[i]=[⟨l[i].c,0,1,l[i].k⟩,⟨5,0,0,dst l (i+1) l[i].th.toNat+1⟩,⟨5,0,0,dst l (i+1) l[i].el.toNat⟩]:=by unfold fJ;rw[au up,au TJ,au Ef]
    rw[aK];simp only[gZ,iq,oV,dV,dJ];exact⟨aop h1 aE aE aE aE s2,aan aE aE,aan t5 aE,b9⟩
def aih{l:List aD}(h:dx l=true):∃x,(nE l).getLast?=some x/\x.c=6:=by
 have ac:=mV h;have a9:=SF h;obtain⟨pre,zz⟩:=Ku h (t:=l.length-1) aE _ 0 (eG _) (aZ _);have I3:l.length-1<l.length:=aE;have ab:=I6 h I3;have e:l.length-1+1=l.length:=aE;rw[e,Q7,qz]at ab;have aK:fJ (dst l l) (l[l.length-1]' aE)=[⟨6,0,0,(l[l.length-1]' aE).k⟩]:=by unfold fJ;rw[au aE,aF (by rw[a9];rfl),a9]
 rw[aK]at ab;unfold nE;rw[zz,ab];exact⟨_,List.getLast?_concat ..,rfl⟩
def ay9{l:List aD}(h:dx l=true)(hk:∀s∈l,s.k<4294967296):uW (nE l)=true:=by unfold uW;obtain⟨x,D,ao⟩:=aih h;rw[D];simp only[dV,jC];exact⟨aoq h hk l 0 (gF _),ao⟩
def aor:∀ {p:List Ix} (i:Nat),oV p=true->oV (p.drop i)=true
 |p,0,h=>h
 | [],_+1,_=>rfl
 |x::r,i+1,h=>by simp only[oV,dV]at h;exact aor i h.2
def JE{p:List Ix}(h:oV p=true)(hi:i<p):mY p[i] (p-1-i)=true:=by have:=aor i h;rw[kQ hi]at this;simp only[oV,dV,mP]at this;rw[show p.length-1-i=p.length-(i+1)from aE];exact this.1
end LT
open Go
def aos(h:S:=by
 refine⟨λh=>Lg,λj Z=> ?_⟩;by_cases lr:j=i
 ·exact aao
 ·have:=ready_mono Z lr;rw[bC.1]at this;cases this):S:=h
def aao(h:S:=by subst lr;exact bN.wpOpIn co hi (lv _ _ hi) hS ⟨λ_ h=>h,bC⟩):S:=h
namespace bh
section
variable {P:Program} {aU:Array Oper} {b6:Region.Mode} {w:G} {n:Nat}
def kM(aY:Fence)(n:Nat)(P:Program)(b6:Region.Mode)(aU:Array Oper)(bI:Exit->Act->G->Prop)(a7:G->Prop)(late:List Nat):Nat->Array Bool->Act->G->Prop
 |0,listed,a,w=>Region.ready b6 aU listed=[]/\bI .normal a w
 |fuel+1,listed,a,w=>(Region.ready b6 aU listed=[]->bI .normal a w)/\
  ∀i∈Region.ready b6 aU listed,wpOpIn aY n P aU bI i (λbu F=>(i∉late->a7 w->a7 F)/\kM aY n P b6 aU bI a7 late fuel (listed.setIfInBounds i true) bu F) a w
theorem aot{aY:Fence}{bI:Exit->Act->G->Prop}{a7:G->Prop}{late:List Nat}:∀(fuel:Nat)(listed:Array Bool)(a:Act)(w:G),kM aY n P b6 aU bI a7 late fuel listed a w->wpAnyIn aY n P b6 aU bI fuel listed a w
 |0,_,_,_,h=>h
 |fuel+1,_,_,_,h=>⟨h.1,λi hi=>wpOpIn_mono (λbu F be=>aot fuel _ bu F be.2) (h.2 i hi)⟩
def TL{aY:Fence}(co:∀f,aY.fn f){a7 OK:G->Prop}{bI:Exit->Act->G->Prop}{i:Nat}{late:List Nat}{df:Oper}{v:K}(hi:aU[i]?=some df)(lv:∀(i:Nat)(o:Oper),aU[i]?=some o->∀c,o.op≠ .defer c)(Do:∀(j:Nat)(o:Oper) U b,aU[j]?=some o->o.op≠ .select U b)(Am:(∀w,OK w)\/(OK=a7/\∀l∈late,Region.waitsFor b6 aU l i=true)):∀(fuel:Nat)(listed:Array Bool)(a:Act)(w:G),(∀j hm,aU[j]?=some hm->j≠i->listed.getD j true=false->(∀e∈hm.after,Region.binds b6 e=true->e.on≠i)->df.apart aU hm=true)->i∈Region.ready b6 aU listed->wN P aU OK df v a->OK w->kM aY n P b6 aU (Calm bI) a7 late fuel (listed.setIfInBounds i true) (a.put df.dst v) w->kM aY n P b6 aU (Calm bI) a7 late (fuel+1) listed a w:=by
 intro fuel
 induction fuel with
 |zero=>intro listed a w _ hr bN hS bC;exact aos
 |succ fuel b9=>
  intro listed a w Dx hr bN hS bC;refine⟨λh=>Lg,λj Z=> ?_⟩;by_cases lr:j=i
  ·exact aao
  ·have h1:=bC.2 j (ready_mono Z lr);obtain⟨Dy,hm,q0,fX⟩:=mem_ready.1 Z;have xN:∀e∈hm.after,Region.binds b6 e=true->e.on≠i:=λe bx V b4=>acI
   have Qj:∀F,(j∉late->a7 w->a7 F)->OK F:=λF hk=>by
    rcases Am with ao|⟨rfl,ao⟩
    ·exact ao F
    ·refine hk (λnw=> ?_) hS;obtain⟨fe,HT,e,bx,V,De⟩:=Region.waitsFor_spec (ao j nw);exact acH
   have h2:=U7 co q0 (lv _ _ q0) (Dx j hm q0 lr Dy xN) (λU b=>Do i df U b hi) (λU b=>Do j hm U b q0) bN h1;have Lh:∀k ok,aU[k]?=some ok->k≠i->(listed.setIfInBounds j true).getD k true=false->
    (∀e∈ok.after,Region.binds b6 e=true->e.on≠i)->df.apart aU ok=true:=λk ok hk s2 ro hp=>by
    refine Dx k ok hk s2 ?_ hp;by_cases lw:j=k
    ·subst lw;exact Dy
    ·rw[getD_set_ne true lw]at ro;exact ro
   refine wpOpIn_mono (λbu F T=>⟨T.2.1,b9 (listed.setIfInBounds j true) bu F Lh (ready_mono hr (Ne.symm lr)) T.1 (Qj F T.2.1) ?_⟩) h2;exact U6
def I5{aY:Fence}(co:∀f,aY.fn f){a7:G->Prop}{bI:Exit->Act->G->Prop}(i:Nat){late:List Nat}{df:Oper}{fuel:Nat}{listed:Array Bool}{a:Act}(hi:aU[i]?=some df)(lv:ze aU.toList=true)(ab:Region.noSelect aU=true)(ai:Region.free b6 aU listed i=true)(hr:(Region.ready b6 aU listed).contains i=true)(m2:(late.all λl=>Region.waitsFor b6 aU l i)=true)(hS:a7 w)(h:∀aX:Act->Prop,(∀a,kM aY n P b6 aU (Calm bI) a7 late fuel (listed.setIfInBounds i true) a w->aX a)->if Region.wanted df (yielded aU a.tmps)then Oper.idle P df a a7 aX else aX (a.put df.dst undef)):kM aY n P b6 aU (Calm bI) a7 late (fuel+1) listed a w:=by
 have h1:=h _ (λ_ h=>h);have hd:=PU lv;rw[Array.toArray_toList]at hd;have ao:(∀w,a7 w)\/(a7=a7/\∀l∈late,Region.waitsFor b6 aU l i=true):= .inr ⟨rfl,λl X=>List.all_eq_true.1 m2 l X⟩;split at h1
 ·rename_i bJ;obtain⟨v,hv,hn⟩:=h1;exact TL co hi hd (Region.noSelect_spec ab) ao fuel listed a w (Region.free_spec hi ai) Dw (.inl ⟨bJ,hv⟩) hS hn
 ·rename_i bJ;exact TL co hi hd (Region.noSelect_spec ab) ao fuel listed a w (Region.free_spec hi ai) Dw (.inr ⟨by simpa using bJ,rfl⟩) hS h1
def aou{aY:Fence}(co:∀f,aY.fn f){a7:G->Prop}{bI:Exit->Act->G->Prop}(i:Nat){late:List Nat}{df:Oper}{fuel:Nat}{listed:Array Bool}{a:Act}(hi:aU[i]?=some df)(lv:ze aU.toList=true)(ab:Region.noSelect aU=true)(ai:Region.free b6 aU listed i=true)(hr:(Region.ready b6 aU listed).contains i=true)(h:∀aX:Act->Prop,(∀a,kM aY n P b6 aU (Calm bI) a7 late fuel (listed.setIfInBounds i true) a w->aX a)->if Region.wanted df (yielded aU a.tmps)then Oper.idle P df a (λ_=>True) aX else aX (a.put df.dst undef)):kM aY n P b6 aU (Calm bI) a7 late (fuel+1) listed a w:=by
 have h1:=h _ (λ_ h=>h);have hd:=PU lv;rw[Array.toArray_toList]at hd;have ao:(∀w,(λ_:G=>True) w)\/((λ_:G=>True)=a7/\∀l∈late,Region.waitsFor b6 aU l i=true):= .inl λ_=>trivial
 split at h1
 ·rename_i bJ;obtain⟨v,hv,hn⟩:=h1;exact TL co hi hd (Region.noSelect_spec ab) ao fuel listed a w (Region.free_spec hi ai) Dw (.inl ⟨bJ,hv⟩) trivial hn
 ·rename_i bJ;exact TL co hi hd (Region.noSelect_spec ab) ao fuel listed a w (Region.free_spec hi ai) Dw (.inr ⟨by simpa using bJ,rfl⟩) trivial h1
def jK{aY:Fence}{a7:G->Prop}{bI:Exit->Act->G->Prop}(i:Nat){late:List Nat}{df:Oper}{fuel:Nat}{listed:Array Bool}{a:Act}(hi:aU[i]?=some df)(h:∀aX:Act->Prop,(∀a,kM aY n P b6 aU (Calm bI) a7 late fuel (listed.setIfInBounds i true) a w->aX a)->if Region.wanted df (yielded aU a.tmps)then Oper.idle P df a (λ_=>True) aX else aX (a.put df.dst undef))(co:∀f,aY.fn f:=by exactλ_=>trivial)(lv:ze aU.toList=true:=by kernel_rfl)(ab:Region.noSelect aU=true:=by kernel_rfl)(ai:Region.free b6 aU listed i=true:=by kernel_rfl)(hr:(Region.ready b6 aU listed).contains i=true:=by kernel_rfl):kM aY n P b6 aU (Calm bI) a7 late (fuel+1) listed a w:=aou co i hi lv ab ai hr h
def mq{aY:Fence}{a7:G->Prop}{bI:Exit->Act->G->Prop}(i:Nat){late:List Nat}{df:Oper}{fuel:Nat}{listed:Array Bool}{a:Act}(hi:aU[i]?=some df){zf:Prop}(q:zf)(h:Ux zf->∀aX:Act->Prop,(∀a,kM aY n P b6 aU (Calm bI) a7 late fuel (listed.setIfInBounds i true) a w->aX a)->if Region.wanted df (yielded aU a.tmps)then Oper.idle P df a (λ_=>True) aX else aX (a.put df.dst undef):=by intro xT aX am;go_simp;exact am _ xT.o)(co:∀f,aY.fn f:=by exactλ_=>trivial)(lv:ze aU.toList=true:=by kernel_rfl)(ab:Region.noSelect aU=true:=by kernel_rfl)(ai:Region.free b6 aU listed i=true:=by kernel_rfl)(hr:(Region.ready b6 aU listed).contains i=true:=by kernel_rfl):kM aY n P b6 aU (Calm bI) a7 late (fuel+1) listed a w:=aou co i hi lv ab ai hr (h ⟨q⟩)
theorem nZ{aY:Fence}{a7:G->Prop}{bI:Exit->Act->G->Prop}(k:Nat){late:List Nat}{o:Oper}{fuel:Nat}{listed:Array Bool}{a:Act}(hr:Region.ready b6 aU listed=[k])(ho:aU[k]?=some o)(hk:late.contains k=true)(h:∀aX:Act->G->Prop,(∀a w,kM aY n P b6 aU bI a7 late fuel (listed.setIfInBounds k true) a w->aX a w)->if Region.wanted o (yielded aU a.tmps)=true then Oper.wpIn aY n P o a w aX bI else(∀f,o.about P w a.eval=some f->aY.fn f)/\aX (a.put o.dst undef) w):kM aY n P b6 aU bI a7 late (fuel+1) listed a w:=by
 refine⟨(λae=>by rw[hr]at ae;cases ae),λi hi=> ?_⟩;rw[hr]at hi;obtain rfl:i=k:=by simpa using hi
 unfold wpOpIn;rw[ho];exact h _ (λa w h2=>⟨λkv=>absurd K6 kv,h2⟩)
def AJ{aY:Fence}{a7:G->Prop}{bI:Exit->Act->G->Prop}{late:List Nat}{fuel:Nat}{listed:Array Bool}{a:Act}(hr:Region.ready b6 aU listed=[])(h:bI .normal a w):kM aY n P b6 aU bI a7 late fuel listed a w:=acK
theorem R4{aY:Fence}{id:Nat}{bI:Exit->Act->G->Prop}{a:Act}{r:List Oper}(late:List Nat)(a7:G->Prop)(R:P.follows .mixedOrders=true)(h:kM aY n P .any r.toArray (Calm bI) a7 late r.toArray.size (Array.replicate r.toArray.size false) a w.drew):(Code.region id r.toArray true).wpIn aY n P bI a w:=
 wpIn_mono (wpIn_region_any R (aot _ _ _ _ h)) Calm.imp
theorem Ms{id:Nat}{bI:Exit->Act->G->Prop}{a:Act}{r:List Oper}(late:List Nat)(a7:G->Prop)(R:P.follows .mixedOrders=true)(h:kM Fence.wide n P .any r.toArray (Calm bI) a7 late r.toArray.size (Array.replicate r.toArray.size false) a w.drew):(Code.region id r.toArray true).wp P bI a w:=
 wpIn_wide.1 (R4 (n:=n) late a7 R h)
end
end bh
namespace jG
variable{a i:Nat}{s:aD}
def aov{d:Dat}{L:List aD}(R:dx L=true){cb:List Nat}{p0:Nat}(hk:∀i (h:i<cb.length),L[1+i]?=some ⟨21,cb[i],(p0:Int),((2+i:Nat):Int)⟩)(ON:L[p0]?=some ⟨6,2147418112,0,0⟩)(a:Nat):∀(n i aw:Nat),i+n=cb.length->1+cb.length<L->∃qv,fF d L (L.length-(1+i)) (1+i) a aw=if (cb.drop i).contains a=true then(2147418112,qv)else fF d L (L.length-(1+cb.length)) (1+cb.length) a qv
 |0,i,aw,hi,X=>⟨aw,by have e:i=cb.length:=aE;subst e;rw[qy,au ay]⟩
 |n+1,i,aw,hi,X=>by
  have ad:i<cb:=aE;have h1:=hk i ad;have ih:1+i<L.length:=aE;rw[dK ih]at h1;have aK:=gL h1;have v8:=Z9 (d:=d) (a:=a) (aw:=aw) R ih (by rw[aK];show(21:Nat)≠6;decide);rw[v8,aK];have OS:na d ⟨21,cb[i],(p0:Int),((2+i:Nat):Int)⟩ a=a:=by unfold na;rw[au (by show¬(21:Nat)=32;decide),au (by show¬(21:Nat)=84;decide)]
  rw[OS,kQ ad,y5];have be:hld ⟨21,cb[i],(p0:Int),((2+i:Nat):Int)⟩ a=(a==cb[i]):=by unfold hld;rw[aF rfl]
  cases ao:a==cb[i]
  ·have dT:nx ⟨21,cb[i],(p0:Int),((2+i:Nat):Int)⟩ (1+i) a=1+(i+1):=by unfold nx;rw[au ay,be,ao,au ay];show((2+i:Nat):Int).toNat=_;omega
   rw[dT,Bool.false_or];exact aov R hk ON a n (i+1) (aw+1) aE X
  ·have dT:nx ⟨21,cb[i],(p0:Int),((2+i:Nat):Int)⟩ (1+i) a=p0:=by unfold nx;rw[au ay,be,ao,aF rfl];show(p0:Int).toNat=_;omega
   have rN:p0<L.length:=by
    rcases Nat.lt_or_ge p0 L with h|h
    ·exact h
    ·rw[List.getElem?_eq_none h]at ON;cases ON
   rw[dK rN]at ON;have aV:=gL ON;rw[dT,Z8 rN (by rw[aV]),aV,Bool.true_or];exact⟨aw+1+1,by rw[aF rfl]⟩
def aG6(h1:s.c≠32)(h2:s.c≠84):nx s i a=if hld s a=true then s.th.toNat else s.el.toNat:=by unfold nx;rw[au aE]
def Ia{d:Dat}(h1:s.c≠32)(h2:s.c≠84):na d s a=a:=by unfold na;rw[au h1,au h2]
end jG
namespace bh
section
variable {P:Program} {aU:Array Oper} {b6:Region.Mode} {w:G} {n:Nat}
theorem aow{aY:Fence}{bI:Exit->Act->G->Prop}(oi:Array Bool->Act->G->Prop)(v8:∀listed a w,oi listed a w->∀i∈Region.ready b6 aU listed,wpOpIn aY n P aU bI i (λbu F=>oi (listed.setIfInBounds i true) bu F) a w)(sA:∀listed a w,oi listed a w->Region.ready b6 aU listed=[]->bI .normal a w):∀(fuel:Nat)(listed:Array Bool)(a:Act)(w:G),listed.toList.countP (λb=> !b)<=fuel->oi listed a w->wpAnyIn aY n P b6 aU bI fuel listed a w
 |0,listed,a,w,ao,bS=>by
  have hr:Region.ready b6 aU listed=[]:=by
   apply List.eq_nil_iff_forall_not_mem.2;intro i hi;have ae:=(mem_ready.1 hi).1;have ad:i<listed.size:=by
    rcases Nat.lt_or_ge i listed.size with h|h
    ·exact h
    ·simp[Il h]at ae
   have:false∈listed.toList:=by
    have e:listed[i]=false:=by simpa[ad]using ae
    rw[<-e];simp
   have ac:0<listed.toList.countP (λb=> !b):=List.countP_pos_iff.2 ⟨false,this,rfl⟩;omega
  exact⟨hr,sA _ _ _ bS hr⟩
 |fuel+1,listed,a,w,ao,bS=>by
  refine⟨λhr=>sA _ _ _ bS hr,λi hi=>wpOpIn_mono (λbu F h=>aow oi v8 sA fuel _ bu F ?_ h) (v8 _ _ _ bS i hi)⟩;have ae:=(mem_ready.1 hi).1;have ad:i<listed.size:=by
   rcases Nat.lt_or_ge i listed.size with h|h
   ·exact h
   ·simp[Il h]at ae
  have e:listed[i]=false:=by simpa[ad]using ae
  have aV:listed.toList[i]'(by simpa using ad)=false:=by simpa using e
  rw[Array.toList_setIfInBounds,List.countP_set (by simpa using ad),aV];have ac:0<listed.toList.countP (λb=> !b):=List.countP_pos_iff.2 ⟨false,by rw[<-aV];exact eB _,rfl⟩;simp;simp at ao ac;omega
theorem az1{aY:Fence}{id:Nat}{bI:Exit->Act->G->Prop}{a:Act}{r:List Oper}(R:P.follows .mixedOrders=true)(oi:Array Bool->Act->G->Prop)(ae:oi (Array.replicate r.toArray.size false) a w.drew)(v8:∀listed a w,oi listed a w->∀i∈Region.ready .any r.toArray listed,wpOpIn aY n P r.toArray bI i (λbu F=>oi (listed.setIfInBounds i true) bu F) a w)(sA:∀listed a w,oi listed a w->Region.ready .any r.toArray listed=[]->bI .normal a w):(Code.region id r.toArray true).wpIn aY n P bI a w:=
 wpIn_region_any R (aow oi v8 sA _ _ _ _ (cB List.countP_le_length ay) ae)
theorem A9{aY:Fence}{bI:Exit->Act->G->Prop}{i:Nat}{o:Oper}{aX:Act->G->Prop}{a:Act}(ho:aU[i]?=some o)(h:if Region.wanted o (yielded aU a.tmps)=true then Oper.wpIn aY n P o a w aX bI else(∀f,o.about P w a.eval=some f->aY.fn f)/\aX (a.put o.dst undef) w):wpOpIn aY n P aU bI i aX a w:=by unfold wpOpIn;rw[ho];exact h
def az2{listed:Array Bool}{i:Nat}(h:i∈Region.ready b6 aU listed):i<aU.size/\listed.getD i true=false:=by obtain⟨h1,o,h2,-⟩:=mem_ready.1 h;exact⟨(dG.1 h2).1,h1⟩
def yg{listed:Array Bool}{i j:Nat}(h:i∈Region.ready b6 aU listed)(bJ:Region.waitsFor b6 aU i j=true):listed.getD j false=true:=by obtain⟨h1,o,h2,T⟩:=mem_ready.1 h;obtain⟨fe,HT,e,bx,V,De⟩:=Region.waitsFor_spec bJ;have:fe=o:=gL (HT.symm.trans h2);subst this;rw[<-De];exact T e bx V
def aox{listed:Array Bool}{i:Nat}(h:i<listed.size):(listed.setIfInBounds i true).getD i false=true:=by simp[h]
def az3{listed:Array Bool}{i:Nat}(h:i<listed.size)(k:Nat):(k=i\/listed.getD k false=true)↔(listed.setIfInBounds i true).getD k false=true:=by
 by_cases e:i=k
 ·subst e;exact⟨λ_=>aox h,λ_=> .inl rfl⟩
 ·rw[getD_set_ne false e];exact⟨λhk=>hk.resolve_left (λaV=>e aV.symm),.inr⟩
def az4{listed:Array Bool}(hr:Region.ready b6 aU listed=[])(ab:listed.size=aU.size)(V:((List.range aU.size).all λk=>match aU[k]? with|some o=>o.after.all (λe=>decide (e.on<k))|none=>true)=true):∀k,k<aU.size->listed.getD k false=true:=by
 intro k
 induction k using Nat.strongRecOn with
 |ind k b9=>
  intro hk;by_cases h:listed.getD k false=true
  ·exact h
  exfalso;have ck:=List.all_eq_true.1 V k (List.mem_range.2 hk);rw[sG hk]at ck;have qe:k∈Region.ready b6 aU listed:=by
   refine mem_ready.2 ⟨?_,aU[k],sG hk,λe bx _=> ?_⟩
   ·have oY:k<listed.size:=aE;simpa[oY]using h
   ·have:=of_decide_eq_true ((Array.all_eq_true'.1 ck) e bx);exact b9 _ this aE
  rw[hr]at qe;cases qe
def aG7{listed:Array Bool}{i j:Nat}(h:(listed.setIfInBounds i true).getD j false=true):j=i\/listed.getD j false=true:=by
 by_cases e:i=j
 ·exact .inl e.symm
 ·right;rw[getD_set_ne false e]at h;exact h
def Kv(b6:Region.Mode)(aU:Array Oper)(listed:Array Bool):Prop:= ∀(j:Nat)(o:Oper),listed.getD j false=true->aU[j]?=some o->∀e∈o.after,Region.binds b6 e=true->listed.getD e.on false=true
def TM(b6:Region.Mode)(aU:Array Oper)(listed:Array Bool):Bool:=(List.range aU.size).all λj=> !listed.getD j false||match aU[j]? with|some o=>o.after.all (λe=> !Region.binds b6 e||listed.getD e.on false)|none=>true
def aoy{listed:Array Bool}(h:TM b6 aU listed=true):Kv b6 aU listed:=λj o Z ho e bx V=>by have h1:=List.all_eq_true.1 h j (List.mem_range.2 (dG.1 ho).1);rw[Z,ho]at h1;have h2:=(Array.all_eq_true'.1 (show o.after.all (λe=> !Region.binds b6 e||listed.getD e.on false)=true from h1)) e bx;rw[V]at h2;exact h2
def Kv.set{listed:Array Bool}(h:Kv b6 aU listed){j:Nat}(Z:j∈Region.ready b6 aU listed):Kv b6 aU (listed.setIfInBounds j true):=λk o hk ho e bx V=>by
 obtain⟨-,fe,HT,fX⟩:=mem_ready.1 Z;have R:listed.getD e.on false=true:=by
  rcases aG7 hk with rfl|h1
  ·have:fe=o:=gL (HT.symm.trans ho);subst this;exact fX e bx V
  ·exact h k o h1 ho e bx V
 by_cases aV:j=e.on
 ·rw[<-aV];by_cases X:j<listed.size
  ·exact aox X
  ·rw[<-aV]at R;simp[Il (Nat.le_of_not_lt X)]at R
 ·rw[getD_set_ne false aV];exact R
def Dc(b6:Region.Mode)(aU:Array Oper):Nat->Nat->Nat->Bool
 |0,_,_=>false
 |f+1,l,i=>match aU[l]? with|some o=>o.after.any (λe=>Region.binds b6 e&&(e.on==i||Dc b6 aU f e.on i))|none=>false
def aoz{listed:Array Bool}(h:Kv b6 aU listed){i:Nat}:∀(f l:Nat)(o:Oper),aU[l]?=some o->(∀e∈o.after,Region.binds b6 e=true->listed.getD e.on false=true)->Dc b6 aU f l i=true->listed.getD i false=true
 |0,_,_,_,_,bJ=>by cases bJ
 |f+1,l,o,ho,X,bJ=>by
  unfold Dc at bJ;rw[ho]at bJ;obtain⟨e,bx,h1⟩:=Array.any_eq_true'.1 bJ;simp only[dV,qM,jC]at h1;rcases h1.2 with h2|h2
  ·rw[<-h2];exact X e bx h1.1
  ·have T:=X e bx h1.1;cases fv:aU[e.on]? with
   |none=>cases f with|zero=>cases h2|succ f=>simp[Dc,fv]at h2
   |some o2=>exact aoz h f e.on o2 fv (λaV re ck=>h e.on o2 T fv aV re ck) h2
def aoA{aY:Fence}(co:∀f,aY.fn f){a7:G->Prop}{bI:Exit->Act->G->Prop}{i:Nat}{late:List Nat}{df:Oper}{v:K}(hi:aU[i]?=some df)(lv:∀(i:Nat)(o:Oper),aU[i]?=some o->∀c,o.op≠ .defer c)(Do:∀(j:Nat)(o:Oper) U b,aU[j]?=some o->o.op≠ .select U b)(Am:∀l∈late,Dc b6 aU aU.size l i=true):∀(fuel:Nat)(listed:Array Bool)(a:Act)(w:G),Kv b6 aU listed->(∀j hm,aU[j]?=some hm->j≠i->listed.getD j true=false->(∀e∈hm.after,Region.binds b6 e=true->e.on≠i)->df.apart aU hm=true)->i∈Region.ready b6 aU listed->wN P aU a7 df v a->a7 w->kM aY n P b6 aU (Calm bI) a7 late fuel (listed.setIfInBounds i true) (a.put df.dst v) w->kM aY n P b6 aU (Calm bI) a7 late (fuel+1) listed a w:=by
 intro fuel
 induction fuel with
 |zero=>intro listed a w _ _ hr bN hS bC;exact aos
 |succ fuel b9=>
  intro listed a w Cu Dx hr bN hS bC;refine⟨λh=>Lg,λj Z=> ?_⟩;by_cases lr:j=i
  ·exact aao
  ·have h1:=bC.2 j (ready_mono Z lr);obtain⟨Dy,hm,q0,fX⟩:=mem_ready.1 Z;have ro:∀b,listed.getD i b=true->listed.getD i true=false->b=true->False:=λb h1 h2 V=>by subst V;rw[h1]at h2;cases h2
   have ae:=(mem_ready.1 hr).1;have hp:¬listed.getD i false=true:=λh1=>acJ
   have xN:∀e∈hm.after,Region.binds b6 e=true->e.on≠i:=λe bx V b4=>hp (b4▸fX e bx V)
   have nw:j∉late:=λnw=>hp (aoz Cu aU.size j hm q0 fX (Am j nw))
   have h2:=U7 co q0 (lv _ _ q0) (Dx j hm q0 lr Dy xN) (λU b=>Do i df U b hi) (λU b=>Do j hm U b q0) bN h1;have Lh:∀k ok,aU[k]?=some ok->k≠i->(listed.setIfInBounds j true).getD k true=false->
    (∀e∈ok.after,Region.binds b6 e=true->e.on≠i)->df.apart aU ok=true:=λk ok hk s2 ro hp=>by
    refine Dx k ok hk s2 ?_ hp;by_cases lw:j=k
    ·subst lw;exact Dy
    ·rw[getD_set_ne true lw]at ro;exact ro
   refine wpOpIn_mono (λbu F T=>⟨T.2.1,b9 (listed.setIfInBounds j true) bu F (Cu.set Z) Lh (ready_mono hr (Ne.symm lr)) T.1 (T.2.1 nw hS) ?_⟩) h2;exact U6
def aoB{aY:Fence}(co:∀f,aY.fn f){a7:G->Prop}{bI:Exit->Act->G->Prop}(i:Nat){late:List Nat}{df:Oper}{fuel:Nat}{listed:Array Bool}{a:Act}(hi:aU[i]?=some df)(lv:ze aU.toList=true)(ab:Region.noSelect aU=true)(ai:Region.free b6 aU listed i=true)(hr:(Region.ready b6 aU listed).contains i=true)(ao:TM b6 aU listed=true)(m2:(late.all λl=>Dc b6 aU aU.size l i)=true)(hS:a7 w)(h:∀aX:Act->Prop,(∀a,kM aY n P b6 aU (Calm bI) a7 late fuel (listed.setIfInBounds i true) a w->aX a)->if Region.wanted df (yielded aU a.tmps)then Oper.idle P df a a7 aX else aX (a.put df.dst undef)):kM aY n P b6 aU (Calm bI) a7 late (fuel+1) listed a w:=by
 have h1:=h _ (λ_ h=>h);have hd:=PU lv;rw[Array.toArray_toList]at hd;have X:∀l∈late,Dc b6 aU aU.size l i=true:=λl X=>List.all_eq_true.1 m2 l X
 split at h1
 ·rename_i bJ;obtain⟨v,hv,hn⟩:=h1;exact aoA co hi hd (Region.noSelect_spec ab) X fuel listed a w (aoy ao) (Region.free_spec hi ai) Dw (.inl ⟨bJ,hv⟩) hS hn
 ·rename_i bJ;exact aoA co hi hd (Region.noSelect_spec ab) X fuel listed a w (aoy ao) (Region.free_spec hi ai) Dw (.inr ⟨by simpa using bJ,rfl⟩) hS h1
def Sg{aY:Fence}{a7:G->Prop}{bI:Exit->Act->G->Prop}(i:Nat){late:List Nat}{df:Oper}{fuel:Nat}{listed:Array Bool}{a:Act}(hi:aU[i]?=some df)(hS:a7 w)(h:∀aX:Act->Prop,(∀a,kM aY n P b6 aU (Calm bI) a7 late fuel (listed.setIfInBounds i true) a w->aX a)->if Region.wanted df (yielded aU a.tmps)then Oper.idle P df a a7 aX else aX (a.put df.dst undef))(co:∀f,aY.fn f:=by exactλ_=>trivial)(lv:ze aU.toList=true:=by kernel_rfl)(ab:Region.noSelect aU=true:=by kernel_rfl)(ai:Region.free b6 aU listed i=true:=by kernel_rfl)(hr:(Region.ready b6 aU listed).contains i=true:=by kernel_rfl)(ao:TM b6 aU listed=true:=by kernel_rfl)(m2:(late.all λl=>Dc b6 aU aU.size l i)=true:=by kernel_rfl):kM aY n P b6 aU (Calm bI) a7 late (fuel+1) listed a w:=aoB co i hi lv ab ai hr ao m2 hS h
def vY{aY:Fence}{a7:G->Prop}{bI:Exit->Act->G->Prop}(i:Nat){late:List Nat}{df:Oper}{fuel:Nat}{listed:Array Bool}{a:Act}(hi:aU[i]?=some df)(hS:a7 w){zf:Prop}(q:zf)(h:Ux zf->∀aX:Act->Prop,(∀a,kM aY n P b6 aU (Calm bI) a7 late fuel (listed.setIfInBounds i true) a w->aX a)->if Region.wanted df (yielded aU a.tmps)then Oper.idle P df a a7 aX else aX (a.put df.dst undef):=by intro xT aX am;go_simp;exact am _ xT.o)(co:∀f,aY.fn f:=by exactλ_=>trivial)(lv:ze aU.toList=true:=by kernel_rfl)(ab:Region.noSelect aU=true:=by kernel_rfl)(ai:Region.free b6 aU listed i=true:=by kernel_rfl)(hr:(Region.ready b6 aU listed).contains i=true:=by kernel_rfl)(ao:TM b6 aU listed=true:=by kernel_rfl)(m2:(late.all λl=>Dc b6 aU aU.size l i)=true:=by kernel_rfl):kM aY n P b6 aU (Calm bI) a7 late (fuel+1) listed a w:=aoB co i hi lv ab ai hr ao m2 hS (h ⟨q⟩)
theorem wY{aY:Fence}{a7:G->Prop}{bI:Exit->Act->G->Prop}(k:Nat){late:List Nat}{o:Oper}{fuel:Nat}{listed:Array Bool}{a:Act}(hr:Region.ready b6 aU listed=[k])(ho:aU[k]?=some o)(h:∀aX:Act->G->Prop,(∀a F,(a7 w->a7 F)->kM aY n P b6 aU bI a7 late fuel (listed.setIfInBounds k true) a F->aX a F)->if Region.wanted o (yielded aU a.tmps)=true then Oper.wpIn aY n P o a w aX bI else(∀f,o.about P w a.eval=some f->aY.fn f)/\aX (a.put o.dst undef) w):kM aY n P b6 aU bI a7 late (fuel+1) listed a w:=by
 refine⟨(λae=>by rw[hr]at ae;cases ae),λi hi=> ?_⟩;rw[hr]at hi;obtain rfl:i=k:=by simpa using hi
 unfold wpOpIn;rw[ho];exact h _ (λa F ab h2=>⟨λ_=>ab,h2⟩)
end
end bh
end Go.Proofs.YtopfefhenfineaaGreat
