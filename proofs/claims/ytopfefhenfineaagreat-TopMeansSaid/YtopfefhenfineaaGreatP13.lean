import Derived.Test.YtopfefhenfineaaGreatP4
import Derived.Test.YtopfefhenfineaaGreatP12
import Derived.Deep.RegionWith
import Derived.Maps.Own
import Derived.Maps.OwnSet
import Derived.Maps.Views
import Derived.Laws.MakeOwn
import Derived.Shelf.RegionOpen
import Derived.TacticsInMore
import Derived.LoopNIn
import Derived.LoopIn
set_option linter.all false
set_option maxRecDepth 100000
set_option maxHeartbeats 8000000
namespace Go.Proofs.YtopfefhenfineaaGreat
open Go.Proofs.Tryz Go.RowKit Go.Shelf bh
attribute[local go_sem] Oper.semAt_some
variable{S:Prop}
def aeO(h:S:=by obtain⟨dv,c2,aV,-,-,ai⟩:=zV h aE;simp only[eZ,jB,pJ,and_true,true_and]at aV;obtain⟨rfl,-⟩:=aV;exact⟨r0,dq,ei,eM,ai⟩):S:=h
def aeP(h:S:=by rw[ec.o.2.1 (by rw[ec.o.1];exact ad)];rfl):S:=h
def Wv(h:S:=by rw[ec.o.1];exact ad):S:=h
def Gg(h:S:=by exact Gh):S:=h
namespace LT
open jG (aD sP dI gQ mR dx eU gK ig)
variable{base c i k len n:Nat}{s:aD}{w F:G}{α:Type}{g:α->α}{A:List α}
theorem aeR:(Tryz.prog.info? 407).map (λi=>(i.zero,i.size,i.bytes))=some (some (bg #[bf 0,M 0,H 0,H 0]),4,24):=aj
theorem aeS(v:K)(A:List aD)(X:A.length<=1000000)(w:G)(hv:aS w 4 dI v A):Calls prog 362 #[v] w λe F=>∃bu c',e=aI (E bu A c')/\Ext w F/\F.ownsRow w 407 4 (E bu A c') A (A.flatMap dI):=by
 obtain⟨a,c,rfl,-,-⟩:=ig hv;cases a with
 |none=>
  obtain⟨a1,c1,aK,h1,h2,T⟩:=hv;simp only[eZ,true_and]at aK;obtain⟨rfl,rfl⟩:=aK;obtain rfl:=h2 rfl;have V:A=[]:=nN aE;subst V;simp only[fu,List.flatMap_nil]at *;have hn:∀W,(binOp .eql 215 (E none 0 0) (E none 0 0)).run prog W= .ok (av true) W:=λW=>rfl
  go_in;go_wp;exact UA
 |some p=>
  have hn:∀W,(binOp .eql 215 (E (some p) A c) (E none 0 0)).run prog W= .ok (av false) W:=λW=>rfl
  have k1:=z hv;have Bi:=z (qQ gQ w ([]:List aD) 407 w w rfl (aZ _) vF);go_in
  go_wp2_with(at_builtin
              refine Dr rfl (.tmp 5) (.tmp 6) _ rfl underlying215 aeR rfl Y gQ mR w _ _ [] A rfl rfl Bi.o (k1.o.ext ((O w).alloc _)) dU Y ((O w).alloc _) ?_;intro ri rj bQ d0 bR;have rk:=z d0;have c9:=z bR;clear d0 bR)
  exact UC
def sS(s:aD):K:=bg #[bf s.c,M s.k,H s.th,H s.el]
def iy(c:Nat):Bool:=yK.i3 c==4
def QC(h:eU len i s=true):iy s.c=nV s.c/\(iy s.c&&(s.c !=5))=gK s.c:=by have aMl:iy 32=nV 32/\(iy 32&&((32:Nat) !=5))=gK 32:=jE;have aMm:iy 84=nV 84/\(iy 84&&((84:Nat) !=5))=gK 84:=jE;have a9:iy 6=nV 6/\(iy 6&&((6:Nat) !=5))=gK 6:=jE;have aQ:iy 5=nV 5/\(iy 5&&((5:Nat) !=5))=gK 5:=jE;have aMn:iy 21=nV 21/\(iy 21&&((21:Nat) !=5))=gK 21:=jE;have aMo:iy 37=nV 37/\(iy 37&&((37:Nat) !=5))=gK 37:=jE;have IF:iy 53=nV 53/\(iy 53&&((53:Nat) !=5))=gK 53:=jE;have aMp:iy 69=nV 69/\(iy 69&&((69:Nat) !=5))=gK 69:=jE;rcases jG.abq h with e|e|e|e|e|e|e|e<;>rw[e]<;>assumption
theorem Mf(s:aD)(w:G):aM 364 #[sS s] w (av (iy s.c&&(s.c !=5))):=by
 have cn:=λW=>yK.jT s.c W
 have ef:((s.c:Int) !=5)=(s.c !=5):=by rw[dW];simp;omega
 have cY:((yK.i3 s.c:Int)==4)=iy s.c:=by unfold iy;rw[dW];simp;omega
 generalize iy s.c=b at *;generalize yK.i3 s.c=cl at *;unfold sS;obtain⟨c,k,th,el⟩:=s;dsimp only at *;generalize(c !=5)=mB at *;have mc:=bA w (J #[bf c,M k,H th,H el] 407);have h4:=z mc;have i':=z cn;cases b
 all_goals
  unfold aM;go_in;go_wp2_with fail;refine ak (i'.o _) ?_;intro I Q;obtain⟨⟨c0,-⟩,-⟩:=jY (aJ h4.o Q);have aT:=z (((O w).alloc _).trans Q);go_wp2_with fail;go_ret;exact⟨ay,aT.o⟩
def aeT(h:eU len i s=true):(iy s.c=false/\(iy s.c&&(s.c !=5))=false/\∀f,gX f s=s)\/(iy s.c=true/\(iy s.c&&(s.c !=5))=false/\(∀f,gX f s=⟨s.c,s.k,(f s.th.toNat:Int),s.el⟩)/\(i:Int)<s.th/\s.th<(len:Int))\/(iy s.c=true/\(iy s.c&&(s.c !=5))=true/\(∀f,gX f s=⟨s.c,s.k,(f s.th.toNat:Int),(f s.el.toNat:Int)⟩)/\((i:Int)<s.th/\s.th<(len:Int))/\(i:Int)<s.el/\s.el<(len:Int)):=by
 obtain⟨bk,bW⟩:=QC h;rcases sV h with⟨h1,h2,T,af⟩|⟨h1,h2,T⟩|⟨h1,h2,T,af,aQ⟩|⟨h1,n1,n2,n3,n4,⟨af,aQ⟩,a9,cF⟩
 ·have e:iy s.c=false:=by rw[bk];exact D8 (.inl h1)
  exact .inl ⟨e,by rw[e];rfl,λf=>zk (.inl h1)⟩
 ·have e:iy s.c=false:=by rw[bk];exact D8 (.inr h1)
  exact .inl ⟨e,by rw[e];rfl,λf=>zk (.inr h1)⟩
 ·have e:iy s.c=true:=by rw[bk,h1];rfl
  exact .inr (.inl ⟨e,by rw[e,h1];rfl,λf=>IK h1,af,aQ⟩)
 ·have e:iy s.c=true:=by rw[bk];simp[nV,h1]
  exact .inr (.inr ⟨e,by rw[bW];exact h1,λf=>D9 h1,⟨af,aQ⟩,a9,cF⟩)
def avv(h:k<A):(((A.map g).take k++A.drop k)[k]' dU)=A[k]:=by rw[List.getElem_append_right dU];simp[mQ (Nat.le_of_lt h)]
def avw(h:k<=A):((A.map g).take k++A.drop k).length=A.length:=by simp;omega
def mid_step(h:k<A):((A.map g).take k++A.drop k).set k (g A[k])=(A.map g).take (k+1)++A.drop (k+1):=by rw[List.set_append_right _ _ dU,gV,dL,mQ aE,Nat.sub_self,kQ h,List.set_cons_zero,mh tH,rQ];simp
def Ar{g:Nat}{L:List aD}(h:w.ownsRow base 407 4 (E (some g) L c) L (L.flatMap dI))(hk:k<L):w.cell? ⟨g,k*4,none⟩=some (bf (L[k].c:Int))/\w.cell? ⟨g,k*4+1,none⟩=some (M (L[k].k:Int))/\w.cell? ⟨g,k*4+2,none⟩=some (H L[k].th)/\w.cell? ⟨g,k*4+3,none⟩=some (H L[k].el)/\∀j,w.frozen? ⟨g,j,none⟩=false:=by obtain⟨bu,c',cU,-,hG⟩:=ig (eD gQ h);simp only[eZ]at cU;obtain⟨rfl,-,rfl⟩:=cU;obtain⟨e4,fe,cU,r0,dq,ei,eM⟩:=hG k hk;simp only[jB,pJ,and_true]at cU;obtain⟨rfl,rfl⟩:=cU;rw[gF]at r0 dq ei eM;exact aeO
def wQ{e:Nat}{v:K}{b3:List K}(h:w.ownsRow base e n v k b3)(D:Ext w F):F.ownsRow base e n v k b3:=qB h (Keep.of_below D (λ_ hk=>hk)) (λb e=>(h.lt b e).2)
theorem Ww(gf:Nat)(cap:Array K)(g1:∀args w,(callFunc gf args).run prog w= .ok (.enter gf args) w)(f:Nat->Nat)(n:Nat)(v:K)(A:List aD)(X:A.length<=1000000)(w:G)(hv:aS w 4 dI v A)(R:∀s∈A,∃i,eU n i s=true)(f2:∀t:Nat,t<n->∀W,Ext w W->Calls prog gf (#[H t]++cap) W λr F=>r=aI (H (f t:Int))/\Ext W F):Calls prog 360 #[v,.func (.func gf) #[] cap] w λe F=>∃a c,e=aI (E a A c)/\Ext w F/\F.ownsRow w 407 4 (E a A c) A ((oO f A).flatMap dI):=by
 have cq:=aeS v A X w hv;obtain⟨a0,c0,rfl,-,-⟩:=ig hv;have oB:=z f2;have cW:=z R;have dt:=z cq;go_in;go_wp2_with fail;refine dt.o.mono ?_;rintro e I ⟨a,c,rfl,Q,d4⟩;have bF:=z Q;have Lc:=z d4;go_wp2_with fail;go_loopw [12] (λi wr=>∃k:Nat,k<=A/\i=H k/\Ext w wr/\wr.ownsRow w 407 4 (E a A c) A (((A.map (gX f)).take k++A.drop k).flatMap dI)) (λi _=>A.length-(intOf i).toNat)
 case atStart=>exact⟨0,aE,rfl,bF.o,by simpa using Lc.o⟩
 case round=>
  obtain⟨k,hk,rfl,D,ho⟩:=hrel;by_cases ad:k<A
  ·obtain⟨hh,IH⟩:=cW.o _ (eB ad);obtain⟨L,jI,hLk,hLs,ho⟩:∃L:List aD,L.length=A/\(∀h:k<L,L[k]=A[k])/\L.set k (gX f A[k])=(A.map (gX f)).take (k+1)++A.drop (k+1)/\wr.ownsRow w 407 4 (E a A c) A (L.flatMap dI):=
    ⟨_,avw hk,λ_=>avv ad,mid_step ad,ho⟩
   have QD:=aeT IH;generalize A[k]=s at *;rw[<-jI]at ho;obtain⟨g,c1,aK,Gh,tS,Ac⟩:=zV ho aE;simp only[eZ,true_and]at aK;obtain⟨aK,rfl⟩:=aK;rw[aK]at ho;obtain⟨r0,dq,ei,eM,-⟩:=Ar ho (by rw[jI];exact ad);rw[hLk]at r0 dq ei eM;have bl:=λW=>Mf s W
   have cn:=λW=>yK.jT s.c W
   have cY:((yK.i3 s.c:Int)==4)=iy s.c:=by unfold iy;rw[dW];simp;omega
   generalize yK.i3 s.c=cl at *;unfold sS at bl;have avx:∀aR,gX f s=aR->L.set k aR=List.take (k+1) (List.map (gX f) A)++List.drop (k+1) A:=λaR bL=>by rw[<-bL];exact hLs
   have aMq:s.th.toNat=s.th.toNat:=rfl;have ec:=z (ah jI (ah hLk avx));have F7:=z (ah ho (ah Gh (ah tS Ac)));have ca:=z D;have vq:=z aK;subst aK;obtain⟨go,g5,pi,pP⟩:=s;dsimp only at *;have ee:=z bl;have i':=z cn;have mc:=bA wr (J #[bf go,M g5,H pi,H pP] 407);have h4:=z mc;rcases QD with⟨lB,md,rI⟩|⟨lB,md,rI,f3,e0⟩|⟨lB,md,rI,⟨f3,e0⟩,aK,aV⟩
   ·rw[lB]at cY;rw[md]at ee;have BT:=z rI;go_wp2_with fail;refine ak (i'.o _) ?_;intro aO ag;obtain⟨⟨b0,b1,b2,cV⟩,-⟩:=jY (aJ h4.o ag);have cL:=z (((O wr).alloc _).trans ag);go_wp2_with fail;refine ak (ee.o _) ?_;intro bj a';have hK:=z (cL.o.trans a');go_wp2_with fail;go_roundw
    case rel=>
     refine⟨k+1,aE,cZ,ca.o.trans hK.o,?_⟩;have h1:=wQ F7.o.1 hK.o;rw[<-ec.o.2.2 _ (BT.o f)];have h2:L.set k ⟨go,g5,pi,pP⟩=L:=by have:=ec.o.2.1 Wv;rw[<-this];exact List.set_getElem_self _
     rw[h2];have T:=ec.o.1;rw[T]at h1;exact h1
    case measure=>exact eO
   ·obtain⟨dZ,rfl⟩:∃dZ:Nat,pi=(dZ:Int):=⟨pi.toNat,aE⟩;rw[lB]at cY;rw[md]at ee;rw[kr]at rI;have BT:=z rI;go_wp2_with fail;refine ak (i'.o _) ?_;intro aO ag;have a':=((O wr).alloc _).trans ag;have cg:=z (oB.o dZ aE aO (ca.o.trans a'));obtain⟨⟨b0,b1,b2,cV⟩,-⟩:=jY (aJ h4.o ag);have cL:=z a';have vl:=z (aJ h4.o ag);go_wp2_with fail;refine ak cg.o ?_;intro bj a';have hK:=z (cL.o.trans a');have Wa:=z (aJ vl.o a');have h1:=wQ F7.o.1 hK.o;obtain⟨tA,dl,gS,nW,q3⟩:=Ar h1 (show k<L.length by rw[ec.o.1];exact ad);have Wb:=q3 (k*4+2);have bU:=vD gQ h1 k 2 (H (f dZ:Int)) ⟨go,g5,(f dZ:Int),pP⟩ Wv Y aeP;rw[ec.o.2.2 _ (BT.o f)]at bU;have gg:=z bU;clear a' h1 b0 b1 b2 cV bU tA dl nW q3;go_upto_region 7 with fail;obtain⟨dj,fw⟩:∃dj,dj=bj.setCell ⟨g,k*4+2,none⟩ (H (f dZ:Int)):=⟨_,rfl⟩;have cN:Ext w dj:=by rw[fw];exact(ca.o.trans hK.o).setCell Gg _
    have tW:dj.heap[wr.heap.size]?=some (J #[bf go,M g5,H dZ,H pP] 407 (0,0)):=by rw[fw];exact(fI _ _ _ _ (by show wr.heap.size≠g;omega)).trans Wa.o
    have Wc:Hid (dj.ownsRow w 407 4 (E (some g) L c) L ((List.take (k+1) (List.map (gX f) A)++List.drop (k+1) A).flatMap dI)):=by rw[fw];exact z gg.o.1
    obtain⟨⟨b0,b1,b2,cV⟩,-⟩:=jY tW;have c9:=z cN;have aeU:=z tW;rw[<-fw];clear fw cN tW gS Wb;go_wp2_with fail;refine ak (ee.o _) ?_;intro bQ bR;have f':=z (c9.o.trans bR);have We:=z (wQ Wc.o bR);clear bR b0 b1 b2 cV;go_wp2_with fail;go_roundw
    case rel=>refine⟨k+1,aE,cZ,f'.o,?_⟩;have h1:=We.o;rw[ec.o.1]at h1;exact h1
    case measure=>exact eO
   ·obtain⟨dZ,rfl⟩:∃dZ:Nat,pi=(dZ:Int):=⟨pi.toNat,aE⟩;obtain⟨hY,rfl⟩:∃hY:Nat,pP=(hY:Int):=⟨pP.toNat,aE⟩;rw[lB]at cY;rw[md]at ee;rw[kr,kr]at rI;have BT:=z rI;clear rI lB md;go_wp2_with fail;refine ak (i'.o _) ?_;intro aO ag;have a':=((O wr).alloc _).trans ag;have cg:=z (oB.o dZ aE aO (ca.o.trans a'));obtain⟨⟨b0,b1,b2,cV⟩,-⟩:=jY (aJ h4.o ag);have cL:=z a';have vl:=z (aJ h4.o ag);clear ag a';go_wp2_with fail;refine ak cg.o ?_;intro bj a';have hK:=z (cL.o.trans a');have Wa:=z (aJ vl.o a');have h1:=wQ F7.o.1 hK.o;obtain⟨tA,dl,gS,nW,q3⟩:=Ar h1 (show k<L.length by rw[ec.o.1];exact ad);have Wb:=q3 (k*4+2);have bU:=vD gQ h1 k 2 (H (f dZ:Int)) ⟨go,g5,(f dZ:Int),(hY:Int)⟩ Wv Y aeP;have gg:=z bU;clear a' h1 b0 b1 b2 cV bU tA dl nW q3;go_upto_region 7 with fail;obtain⟨dj,fw⟩:∃dj,dj=bj.setCell ⟨g,k*4+2,none⟩ (H (f dZ:Int)):=⟨_,rfl⟩;have cN:Ext w dj:=by rw[fw];exact(ca.o.trans hK.o).setCell Gg _
    have tW:dj.heap[wr.heap.size]?=some (J #[bf go,M g5,H dZ,H hY] 407 (0,0)):=by rw[fw];exact(fI _ _ _ _ (by show wr.heap.size≠g;omega)).trans Wa.o
    have Wc:Hid (dj.ownsRow w 407 4 (E (some g) L c) L ((L.set k ⟨go,g5,(f dZ:Int),(hY:Int)⟩).flatMap dI)):=by rw[fw];exact z gg.o.1
    obtain⟨⟨b0,b1,b2,cV⟩,-⟩:=jY tW;have c9:=z cN;have aeU:=z tW;rw[<-fw];clear fw cN tW gS Wb;go_wp2_with fail;refine ak (ee.o _) ?_;intro bQ bR;have f':=z (c9.o.trans bR);have We:=z (wQ Wc.o bR);obtain⟨⟨b0,b1,b2,cV⟩,-⟩:=jY (aJ aeU.o bR);have Mg:=z (oB.o hY aE bQ (c9.o.trans bR));clear bR;go_wp2_with fail;refine ak Mg.o ?_;intro cT dX;have mS:(L.set k ⟨go,g5,(f dZ:Int),(hY:Int)⟩).length=L.length:=kD;have h1:=wQ We.o dX;rw[<-mS]at h1;obtain⟨tA,dl,gS,nW,q3⟩:=Ar h1 (show k<(L.set k ⟨go,g5,(f dZ:Int),(hY:Int)⟩).length by rw[mS,ec.o.1];exact ad);have aMr:=q3 (k*4+3);have aMs:cT.cell? ⟨g,k*4+3,none⟩=some (H hY):=by rw[nW,List.getElem_set_self]
    have bU:=vD gQ h1 k 3 (H (f hY:Int)) ⟨go,g5,(f dZ:Int),(f hY:Int)⟩ (by rw[mS,ec.o.1];exact ad) Y (by rw[List.getElem_set_self];rfl);rw[List.set_set,ec.o.2.2 _ (BT.o f),mS,ec.o.1]at bU;have avy:=z bU;have mx:=z (f'.o.trans dX);clear dX h1 b0 b1 b2 cV bU tA dl gS nW q3 mS;go_wp2_with fail;go_roundw
    case rel=>exact⟨k+1,aE,cZ,mx.o.setCell Gg _,avy.o.1⟩
    case measure=>exact eO
  ·obtain rfl:k=A.length:=aE;have t0:((A.map (gX f)).take A.length++A.drop A)=oO f A:=by rw[qy,qz,rJ ay];rfl
   rw[t0]at ho;have cx:=z ho;have aT:=z D;clear ho D;go_wp2_with fail;go_ret;exact⟨a,c,rfl,aT.o,cx.o⟩
end LT
def aeV(h:S:=by
 go_in;go_wp;refine qR aj aj ?_
 repeat(any_goals(first|go_big_quiet_step (fail)|quiet_step (fail)))
 all_goals(refine qN ?_;intro _ jb;obtain⟨x,ii⟩:=jb;subst ii)
 go_wp;go_ret;exact⟨rfl,x.h⟩):S:=h
namespace LT
open jG (aD sP dI gQ mR dx eU gK ig)
variable{ax:DataW Unit}{W aa:G}{b j n:Nat}{A:List aD}
def avz(Z:j<A):tT A j=if A[j].c=6 then qG A A[j].k A else j:=by unfold tT;rw[dK Z]
theorem aeW{k:dD}{aH:K->Option (DataW Unit×List MemPlace)}(h:W.ownsMap prog k aH b n ax)(D:Ext W aa):aa.ownsMap prog k aH b n ax:=by obtain⟨km,clock,V,r⟩:=h;exact⟨km,clock,aJ V D,r⟩
noncomputable abbrev RI:K->Option (DataW Unit×List MemPlace):=plainElem prog 3
def IU(A:List aD)(n:Nat)(ax:DataW Unit):Prop:= ∀j (h:j<A.length),j<n->A[j].c=6->ax.atKey (.int .u32 (A[j].k:Int)) (.lit (.int .i64 0))= .lit (.int .i64 (qG A A[j].k n:Int))
theorem IB(h:W.ownsMap prog 32 RI b n ax)(k:Nat)(hk:k<4294967296)(v:Int)(cE:ax.atKey (.int .u32 k) (.lit (.int .i64 0))= .lit (.int .i64 v)):(Instr.lookup 471 (.map (some b)) (.int .u32 k) false).run prog W= .ok (.int .i64 v) W:=by
 have LE:keyOf prog 32 (.int .u32 k)=some (.int .u32 k):=Maps.keyOf_int_mk underlying32 (Go.WalkArith.wf_u32 ⟨aE,aE⟩);obtain⟨c,uC,b8,-⟩:=h.lookup_int (Maps.int_keyed underlying32) underlying471 underlying3 rfl LE;rw[cE]at b8
 injection b8 with aK
 injection aK with aV cC
 rw[cC];exact uC
theorem avA(aeX x4 b n:Nat)(a:Option Addr)(c:Nat)(A:List aD)(ax:DataW Unit)(hk:∀s∈A,s.k<4294967296)(W:G)(cl:W.cell? aeX=some (E a A c))(hr:aS W 4 dI (E a A c) A)(avB:W.cell? x4=some (.map (some b)))(R:W.ownsMap prog 32 RI b n ax)(cE:IU A A ax)(j:Nat)(Z:j<A):Calls prog 361 #[H j,aB (some aeX),aB (some x4)] W λr F=>r=aI (H (tT A j:Int))/\Ext W F:=by
 obtain⟨bu,c',e,-,bV⟩:=ig hr;simp only[eZ]at e;obtain⟨rfl,-,rfl⟩:=e;obtain⟨g,o,rfl,r0,dq,-,-⟩:=bV j Z;have QE:=avz Z;have Wf:=hk _ (eB Z);have bL:(j:Int)<A:=aE;have avC:=cE j Z Z;generalize tT A j=aY at *;generalize qG A A[j].k A.length=q at *;generalize A[j]=s at *;obtain⟨go,g5,pi,pP⟩:=s;dsimp only at *;have tc:((go:Int)==6)=decide (go=6):=by rw[dW];simp;omega
 by_cases a9:go=6
 ·rw[aF a9]at QE;have da:=λ(x:fG W)=>IB (aeW R x.h) g5 Wf q (avC a9)
  rw[dH a9]at tc;subst QE;have aMt:=dh cl;have aMu:=dh avB;have aMv:=dh dq;exact aeV
 ·rw[au a9]at QE;rw[dM a9]at tc;subst QE;go_in;go_wp;exact PD
def aeY{k:Nat}(hn:n<A):qG A k (n+1)=if A[n].c=6/\A[n].k=k then n else qG A k n:=by show(match A[n]? with|some s=>if s.c=6/\s.k=k then n else qG A k n|none=>qG A k n)=_;rw[dK hn]
def avD(h:IU A n ax)(hn:n<A)(a9:A[n].c≠6):IU A (n+1) ax:=by
 intro j Z so QF;rw[aeY hn,au (λbe=>a9 be.1)];have bO:j≠n:=λe=>by subst e;exact a9 QF
 exact h j Z aE QF
def avE(h:IU A n ax)(hn:n<A)(a9:A[n].c=6)(cE:Go.Maps.IsMap ax):IU A (n+1) (ax.put (.int .u32 (A[n].k:Int)) (.lit (.int .i64 n))):=by
 intro j Z so QF;rw[aeY hn];by_cases sq:A[n].k=A[j].k
 ·rw[aF ⟨a9,sq⟩,<-sq];exact Go.Maps.atKey_put_same cE (k:= .int .u32 _) trivial _ _
 ·rw[au (λbe=>sq be.2)];have bO:j≠n:=λe=>by subst e;exact sq rfl
  rw[Go.Maps.atKey_put_other (λe=>by injection e with aK aV;omega)];exact h j Z aE QF
theorem avF(v:K)(A:List aD)(X:A.length<=1000000)(R:dx A=true)(hk:∀s∈A,s.k<4294967296)(w:G)(hv:aS w 4 dI v A):Calls prog 286 #[v] w λe F=>∃a c,e= .returned (.slice a A c)/\Ext w F/\F.ownsRow w 407 4 (.slice a A c) A ((tV A).flatMap dI):=by
 have oE:=hv;obtain⟨a,c,rfl,ep,bV⟩:=ig hv;have n1:=bA w (.cells #[.slice a A c] 215);obtain⟨az,b7⟩:∃az,az=w.alloc (.cells #[.slice a A c] 215):=⟨_,rfl⟩;rw[<-b7]at n1;have Q:Ext w az:=by rw[b7];exact(O _).alloc _
 have dp:az.heap.size=w+1:=by rw[b7];simp
 have cc:=World.ownsMap_made az prog 32 RI;obtain⟨a8,b'⟩:∃a8,a8=(az.alloc (.map #[] 0)).alloc (.cells #[.map (some az.heap.size)] 471):=⟨_,rfl⟩;have ag:Ext az a8:=by rw[b'];exact((O _).alloc _).alloc _
 have ym:a8.ownsMap prog 32 RI az 0 (.map []):=by rw[b'];exact cc.alloc _
 have n2:a8.heap[w.heap.size+1+1]?=some (.cells #[.map (some az.heap.size)] 471 (0,0)):=by have:=bA (az.alloc (.map #[] 0)) (.cells #[.map (some az.heap.size)] 471);rw[dR,dp]at this;rw[b',dp];exact this
 rw[dp]at ym;rw[dp]at n2;have eo:=z (ah b7 b');have ca:=z (Q.trans ag);have ev:=z (ah (aJ n1 ag) n2);have cx:=z ym;have gt:=z bV;have jp:=z dp;have k1:=z oE;have d2:=z hk;have cW:=z R;clear b7 b' Q ag n1 n2 cc ym bV dp hv oE hk R;have lz:∀W,(Instr.makeMap 471 none).run prog W= .ok (.map (some W.heap.size)) (W.alloc (.map #[] 0)):=λ_=>rfl
 go_in;go_upto_region 2 with fail;have Mh:((w.alloc (.cells #[.slice a A c] 215)).alloc (.map #[] 0)).alloc (.cells #[.map (some (w.heap.size+1))] 471)=a8:=by rw[eo.o.2,jp.o,eo.o.1]
 rw[Mh];clear Mh;have bk:=aG ev.o.1 0
 change a8.cell? w=some (.slice a A c)at bk
 go_wp2_with fail;go_loopw [9] (λi wr=>∃(k n:Nat) (ax:DataW Unit),k<=A/\i= .int .i64 k/\n<=k/\Ext w wr/\wr.heap[w.heap.size]?=some (.cells #[.slice a A c] 215 (0,0))/\wr.heap[w.heap.size+1+1]?=some (.cells #[.map (some (w.heap.size+1))] 471 (0,0))/\
  wr.ownsMap prog 32 RI (w+1) n ax/\IU A k ax) (λi _=>A.length-(intOf i).toNat)
 case atStart=>exact⟨0,0,_,aE,rfl,aZ _,ca.o,ev.o.1,ev.o.2,cx.o,λj _ h=>aE⟩
 case round=>
  obtain⟨k,n,ax,hk,rfl,hn,D,cH,m8,cc,cE⟩:=hrel;clear bk;have c1:wr.cell? w=some (.slice a A c):=aG cH 0;have c3:wr.cell? ⟨w+1+1,0,none⟩=some (.map (some (w.heap.size+1))):=aG m8 0;by_cases ad:k<A
  ·obtain⟨g,o,rfl,r0,dq,ei,eM⟩:=gt.o k ad;replace r0:=D.cell r0;replace dq:=D.cell dq;replace ei:=D.cell ei;replace eM:=D.cell eM;have sq:=d2.o _ (eB ad);have BX:=avD cE ad;have rK:=λh=>avE cE ad h cc.isMap
   generalize A[k]=s at *;obtain⟨go,g5,pi,pP⟩:=s;dsimp only at *;have tc:((go:Int)==6)=decide (go=6):=by rw[dW];simp;omega
   have td:=z cc;have aT:=z D;have ce:=z (ah cH m8);have t1:=z (ah BX rK);have Wg:=z sq;clear D cc cH m8 BX rK cE sq;by_cases a9:go=6
   ·rw[dH a9]at tc;have gb:=z a9;clear a9;have LE:keyOf prog 32 (.int .u32 g5)=some (.int .u32 g5):=Maps.keyOf_int_mk underlying32 (Go.WalkArith.wf_u32 ⟨aE,by have:=Wg.o;omega⟩);have avG:RI (.int .i64 k)=some (.lit (.int .i64 k),[]):=plainElem_int underlying3 (Go.WalkArith.wf_i64 ⟨aE,aE⟩);have aeZ:=z (ah LE avG);have ae0:=λo=>((O wr).alloc o).cell c3
    go_wp2_with(refine wpList_mapUpdate_own _ rfl _ _ _ 471 rfl 32 3 (Maps.int_keyed underlying32) underlying471 RI (w+1) n ax rfl (td.o.alloc _) y9 _ _ (.int .u32 g5) rfl rfl aeZ.o.1 (.lit (.int .i64 k)) [] aeZ.o.2 ?_;intro bQ d0 hA;have m':=z (ah d0 hA));go_roundw
    case rel=>
     obtain⟨d0,hA⟩:=m'.o;refine⟨k+1,n+1,_,aE,cZ,aE,?_,?_,?_,d0,t1.o.2 gb.o⟩
     ·exact(aT.o.alloc _).grown hA (λb e=>by cases e;omega)
     ·exact(hA.block _ (by have:=(dG.1 ce.o.1).1;simp;omega) ay).trans (aJ ce.o.1 ((O _).alloc _))
     ·exact(hA.block _ (by have:=(dG.1 ce.o.2).1;simp;omega) ay).trans (aJ ce.o.2 ((O _).alloc _))
    case measure=>exact eO
   ·rw[dM a9]at tc;have gb:=z a9;go_wp2_with fail;go_roundw
    case rel=>exact⟨k+1,n,ax,aE,cZ,aE,aT.o.alloc _,aJ ce.o.1 ((O _).alloc _),aJ ce.o.2 ((O _).alloc _),td.o.alloc _,t1.o.1 gb.o⟩
    case measure=>exact eO
  ·obtain rfl:k=A.length:=aE;have QG:=Ww 361 #[.pointer (some w),.pointer (some ⟨w+1+1,0,none⟩)] (enters_of func361 aj rfl) (tT A) A (.slice a A c) A X wr (k1.o.ext D)
    (λs ab=>by obtain⟨i,hi,rfl⟩:=uD ab;exact⟨i,jG.jy cW.o hi⟩)
    (λt an W f1=>avA w (w+1+1) (w.heap.size+1) n a c A ax d2.o W (f1.cell c1) ((k1.o.ext D).ext f1) (f1.cell c3) (aeW cc f1) cE t an)
   have BT:=z QG;have aT:=z D;go_wp2_with fail;refine BT.o.mono ?_;rintro e cT ⟨jJ,c6,rfl,dX,gC⟩;have gb:=z (ah dX gC);go_wp2_with fail;go_ret;exact⟨jJ,c6,rfl,aT.o.trans gb.o.1,gb.o.2.mono aT.o.size⟩
end LT
def ae1(h:S:=by
 go_wp2_with fail;go_roundw
 case rel=>exact⟨k+1,aE,cZ,aT.o.alloc _,by rw[<-QH.o];exact aJ cI.o ((O _).alloc _)⟩
 case measure=>exact eO):S:=h
def Wx(h:S:=by rw[<-Wk.o.1];exact lB):S:=h
namespace LT
open jG (aD sP dI gQ mR dx eU gK ig)
variable{W:G}{bs out:List Bool}{fr:Nat×Nat}{g k n:Nat}{l:List aD}{t:dD}
def oQ(bs:List Bool):Array K:=(bs.map Value.bool).toArray
def isA(l:List Nat):Array K:=(l.map (λ(i:Nat)=>Value.int .i64 i)).toArray
def IV(aR:K)(bL:aR.cells= #[aR])(n:Nat):madeCells aR.cells (n*1)=(List.replicate n aR).toArray:=by
 rw[bL,qA];apply Array.ext
 ·simp[madeCells]
 ·intro i h1 h2;simp[madeCells,Nat.mod_one]
def Mi(bs:List Bool)(k:Nat):(oQ bs).setIfInBounds k (av true)=oQ (bs.set k true):=by simp[oQ,List.map_set]
def ae2(l:List Nat)(k n:Nat):(isA l).setIfInBounds k (H n)=isA (l.set k n):=by simp[isA,List.map_set]
def xV(h:W.heap[g]?=some (.cells (oQ bs) t fr))(hk:k<bs):W.cell? ⟨g,k,none⟩=some (.bool (bs.getD k false)):=by rw[aG h];simp[oQ,hk]
def QI{l:List Nat}(h:W.heap[g]?=some (.cells (isA l) t fr))(hk:k<l):W.cell? ⟨g,k,none⟩=some (.int .i64 ((l.getD k 0:Nat):Int)):=by rw[aG h];simp[isA,hk]
theorem ae3(n:Nat)(hn:n<=1000000)(W:G):(Instr.makeSlice 425 (H n) (H n)).run prog W= .ok (E (some W) n n) (W.alloc (J (oQ (List.replicate n false)) 4)):=by have i5:(Tryz.prog.info? 4).map (λi=>(i.zero,i.size,i.bytes))=some (some (av false),1,1):=aj;obtain⟨i,h1,h2,T,af⟩:=sJ i5;have hr:=run_make (P:=prog) W 425 4 i _ underlying425 h1 h2 .i64 .i64 n n aE aE Lb aE;rw[T,kr,IV _ rfl]at hr;rw[hr];simp[oQ]
theorem ae4(n:Nat)(hn:n<=1000000)(W:G):(Instr.makeSlice 28 (H n) (H n)).run prog W= .ok (E (some W) n n) (W.alloc (J (isA (List.replicate n 0)) 3)):=by have i5:(Tryz.prog.info? 3).map (λi=>(i.zero,i.size,i.bytes))=some (some (H 0),1,8):=aj;obtain⟨i,h1,h2,T,af⟩:=sJ i5;have hr:=run_make (P:=prog) W 28 3 i _ underlying28 h1 h2 .i64 .i64 n n aE aE Lb aE;rw[T,kr,IV _ rfl]at hr;rw[hr];simp[isA]
def avH(hn:n<l)(h:(!out.getD n false||l[n].c==6)=true):rV l n out=out:=by unfold rV;rw[dK hn];dsimp only;rw[aF h]
def avI(hn:n<l)(h:(!out.getD n false||l[n].c==6)=false)(Z:nV l[n].c=false):rV l n out=out.set (n+1) true:=by unfold rV;rw[dK hn];dsimp only;rw[au (by rw[h];simp),aF Z]
def avJ(hn:n<l)(h:(!out.getD n false||l[n].c==6)=false)(Z:nV l[n].c=true)(bT:gK l[n].c=false):rV l n out=out.set l[n].th.toNat true:=by unfold rV;rw[dK hn];dsimp only;rw[au (by rw[h];simp),au (by rw[Z];simp),au (by rw[bT];simp)]
def avK(hn:n<l)(h:(!out.getD n false||l[n].c==6)=false)(Z:nV l[n].c=true)(bT:gK l[n].c=true):rV l n out=(out.set l[n].th.toNat true).set l[n].el.toNat true:=by unfold rV;rw[dK hn];dsimp only;rw[au (by rw[h];simp),au (by rw[Z];simp),aF bT]
theorem avL(v:K)(A:List aD)(X:A.length<=1000000)(R:dx A=true)(w:G)(hv:aS w 4 dI v A):Calls prog 365 #[v] w λe F=>e=aI (E (some w) A A)/\Ext w F/\F.heap[w.heap.size]?=some (J (oQ (fB A)) 4 (0,0)):=by
 obtain⟨a,c,rfl,ep,bV⟩:=ig hv;have oX:=jG.mV R;have lz:=ae3 A X w;have n1:=bA w (J (oQ (List.replicate A false)) 4);obtain⟨az,b7⟩:∃az,az=w.alloc (J (oQ (List.replicate A false)) 4):=⟨_,rfl⟩;rw[<-b7]at n1 lz;have Q:Ext w az:=by rw[b7];exact(O _).alloc _
 have dg:=dw n1 0;have c1:=xV n1 (show 0<(List.replicate A false).length by simpa using oX);have n2:=fH n1 0 (av true);rw[Mi]at n2;have ag:Ext w (az.setCell w (av true)):=Q.setCell (aZ _) _;have bL:(0:Int)<A:=aE;have ev:=z (ah n2 ag);have gt:=z bV;have cW:=z R;clear hv bV b7 n1 n2 Q ag R;go_in;go_wp2_with fail;go_loopw [13] (λi wr=>∃k:Nat,k<=A/\i=H k/\Ext w wr/\wr.heap[w.heap.size]?=some (J (oQ (ny A k)) 4 (0,0))) (λi _=>A.length-(intOf i).toNat)
 case atStart=>exact⟨0,aE,rfl,ev.o.2,ev.o.1⟩
 case round=>
  obtain⟨k,hk,rfl,D,V⟩:=hrel;clear c1 dg;by_cases ad:k<A
  ·obtain⟨g,o,rfl,r0,dq,ei,eM⟩:=gt.o k ad;replace r0:=D.cell r0;replace dq:=D.cell dq;replace ei:=D.cell ei;replace eM:=D.cell eM;have IH:=jG.jy cW.o ad;have dT:∀a,A[k].c≠6->jG.nx A[k] k a<A.length:=λa a9=>(jG.D7 cW.o ad a9 a).2
   have ey:=Mj A k;have bU:ny A (k+1)=rV A k (ny A k):=rfl;have dl:=avH (out:=ny A k) ad;have gS:=avI (out:=ny A k) ad;have nW:=avJ (out:=ny A k) ad;have D1:=avK (out:=ny A k) ad;have QD:=aeT IH;have lw:=QC IH;rw[<-bU]at dl gS nW D1;clear bU;generalize ny A k=B at *;obtain⟨B',Wl⟩:∃B',B'=ny A (k+1):=⟨_,rfl⟩;rw[<-Wl]at dl gS nW D1;have QH:=z Wl;clear Wl;generalize A[k]=s at *;have bl:=λW=>Mf s W
   have cn:=λW=>yK.jT s.c W
   have cY:((yK.i3 s.c:Int) !=4)= !iy s.c:=by unfold iy;rw[dW];simp;omega
   generalize yK.i3 s.c=cl at *;unfold sS at bl;obtain⟨go,g5,pi,pP⟩:=s;dsimp only at *;have tc:((go:Int)==6)=(go==6):=by rw[dW];simp;omega
   have sY:=xV V (show k<B.length from aE);have jj:=dw V;have ae5:iy go=false->go≠6->k+1<A:=λa9 cF=>by
    have:=dT 0 cF;rcases QJ IH cF with h|h|h
    ·rw[nA (.inl h)]at this;exact this
    ·rw[nA (.inr h)]at this;exact this
    ·rw[<-lw.1,a9]at h;cases h
   have ce:=z V;have aT:=z D;have bY:=z (ah dl (ah gS (ah nW D1)));have Wk:=z lw;have IM:=z ey;have Wr:=z jj;have avM:=z ae5;have ee:=z bl;have i':=z cn;clear bl cn V D dl gS nW D1 lw dT IH ey jj ae5;obtain⟨de,k6⟩:∃de,de=B.getD k false:=⟨_,rfl⟩;rw[<-k6]at sY bY;have ae6:=z k6;clear k6;have mc:=bA wr (J #[bf go,M g5,H pi,H pP] 407);have h4:=z mc;clear mc;replace sY:=λo=>((O wr).alloc o).cell sY
   by_cases BX:(!de||go==6)=true
   ·have Gi:=z (bY.o.1 BX);have cI:Hid (wr.heap[w.heap.size]?=some (J (oQ B') 4 (0,0))):=by rw[Gi.o];exact ce
    clear QD cY;cases de
    ·clear BX tc;exact ae1
    ·have a9:(go==6)=true:=by simpa using BX
     rw[a9]at tc;clear BX a9;exact ae1
   ·have L1:(!de||go==6)=false:=by simpa using BX
    have avN:de=true:=by cases de<;>simp_all
    subst avN;have a9:(go==6)=false:=by simpa using L1
    rw[a9]at tc;have ae7:go≠6:=by simpa using a9
    have t1:=z L1;have gb:=z ae7;clear BX L1 a9 ae7;rcases QD with⟨lB,md,-⟩|⟨lB,md,-,f3,e0⟩|⟨lB,md,-,⟨f3,e0⟩,aK,aV⟩
    ·have ft:=avM.o lB gb.o;have Gi:=z (bY.o.2.1 t1.o Wx);rw[lB]at cY;have pw:(k:Int)+1<A:=aE;clear lB md;go_wp2_with fail;refine ak (i'.o _) ?_;intro aO ag;have a':=((O wr).alloc _).trans ag;have ck:=aJ ce.o a';have cL:=z a';have bb1:=xV ck (show k+1<B.length by rw[IM.o];exact ft);have Gj:=dw ck (k+1);have js:=z ck;clear ag a' ck sY;go_wp2_with fail;go_roundw
     case rel=>refine⟨k+1,aE,cZ,(aT.o.trans cL.o).setCell (aZ _) _,?_⟩;rw[<-QH.o,Gi.o,<-Mi];exact fH js.o _ _
     case measure=>exact eO
    ·obtain⟨dZ,rfl⟩:∃dZ:Nat,pi=(dZ:Int):=⟨pi.toNat,aE⟩;have Gi:=z (bY.o.2.2.1 t1.o Wx (by rw[<-Wk.o.2];exact md));rw[lB]at cY;rw[md]at ee;have D2:dZ<A.length:=aE;clear lB md;go_wp2_with fail;refine ak (i'.o _) ?_;intro aO ag;have a':=((O wr).alloc _).trans ag;have ck:=aJ ce.o a';have cL:=z a';have bb1:=xV ck (show dZ<B.length by rw[IM.o];exact D2);have Gj:=dw ck dZ;obtain⟨⟨b0,b1,b2,cV⟩,-⟩:=jY (aJ h4.o ag);have js:=z ck;have vl:=z (aJ h4.o ag);have Au:w.heap.size<wr:=(dG.1 ce.o).1;clear ag a' ck sY;go_upto_region 7 with fail;obtain⟨dj,fw⟩:∃dj,dj=aO.setCell ⟨w,dZ,none⟩ (av true):=⟨_,rfl⟩;have f5:dj.heap[w.heap.size]?=some (J (oQ B') 4 (0,0)):=by rw[fw,Gi.o,kr,<-Mi];exact fH js.o _ _
     have tW:dj.heap[wr.heap.size]?=some (J #[bf go,M g5,H dZ,H pP] 407 (0,0)):=by rw[fw];exact(fI _ _ _ _ (by show wr.heap.size≠w;omega)).trans vl.o
     have cN:Ext w dj:=by rw[fw];exact(aT.o.trans cL.o).setCell (aZ _) _
     clear b0 b1 b2 cV bb1 Gj;obtain⟨⟨b0,b1,b2,cV⟩,-⟩:=jY tW;have dE:=z (ah f5 cN);rw[<-fw];clear fw f5 tW cN;go_wp2_with fail;refine ak (ee.o _) ?_;intro bQ bR;have m':=z (ah (aJ dE.o.1 bR) (dE.o.2.trans bR));clear bR b0 b1 b2 cV;go_wp2_with fail;go_roundw
     case rel=>exact⟨k+1,aE,cZ,m'.o.2,by rw[<-QH.o];exact m'.o.1⟩
     case measure=>exact eO
    ·obtain⟨dZ,rfl⟩:∃dZ:Nat,pi=(dZ:Int):=⟨pi.toNat,aE⟩;obtain⟨hY,rfl⟩:∃hY:Nat,pP=(hY:Int):=⟨pP.toNat,aE⟩;have Gi:=z (bY.o.2.2.2 t1.o Wx (by rw[<-Wk.o.2];exact md));rw[lB]at cY;rw[md]at ee;have D2:dZ<A.length:=aE;have LF:hY<A.length:=aE;clear lB md;go_wp2_with fail;refine ak (i'.o _) ?_;intro aO ag;have a':=((O wr).alloc _).trans ag;have ck:=aJ ce.o a';have cL:=z a';have bb1:=xV ck (show dZ<B.length by rw[IM.o];exact D2);have Gj:=dw ck dZ;obtain⟨⟨b0,b1,b2,cV⟩,-⟩:=jY (aJ h4.o ag);have js:=z ck;have vl:=z (aJ h4.o ag);have Au:w.heap.size<wr:=(dG.1 ce.o).1;clear ag a' ck sY;go_upto_region 7 with fail;obtain⟨dj,fw⟩:∃dj,dj=aO.setCell ⟨w,dZ,none⟩ (av true):=⟨_,rfl⟩;have f5:dj.heap[w.heap.size]?=some (J (oQ (B.set dZ true)) 4 (0,0)):=by rw[fw,<-Mi];exact fH js.o _ _
     have tW:dj.heap[wr.heap.size]?=some (J #[bf go,M g5,H dZ,H hY] 407 (0,0)):=by rw[fw];exact(fI _ _ _ _ (by show wr.heap.size≠w;omega)).trans vl.o
     have cN:Ext w dj:=by rw[fw];exact(aT.o.trans cL.o).setCell (aZ _) _
     clear b0 b1 b2 cV bb1 Gj;obtain⟨⟨b0,b1,b2,cV⟩,-⟩:=jY tW;have dE:=z (ah f5 (ah cN tW));rw[<-fw];clear fw f5 tW cN;go_wp2_with fail;refine ak (ee.o _) ?_;intro bQ bR;have e8:=aJ dE.o.1 bR;have bb1:=xV e8 (show hY<(B.set dZ true).length by rw[kD,IM.o];exact LF);have Gj:=dw e8 hY;clear b0 b1 b2 cV;obtain⟨⟨b0,b1,b2,cV⟩,-⟩:=jY (aJ dE.o.2.2 bR);have m':=z (ah e8 (dE.o.2.1.trans bR));clear bR e8;go_wp2_with fail;go_roundw
     case rel=>refine⟨k+1,aE,cZ,m'.o.2.setCell (aZ _) _,?_⟩;rw[<-QH.o,Gi.o,kr,kr,<-Mi];exact fH m'.o.1 _ _
     case measure=>exact eO
  ·obtain rfl:k=A.length:=aE;have bC:=z (ah D V);clear D V;go_wp2_with fail;go_ret;exact⟨rfl,bC.o.1,bC.o.2⟩
end LT
def ae8(h:S:=by
 simp only[Fin.getElem_fin]at bN;have sr:=z (ah aW yn);generalize A[q]=y at *;clear gd aW yn ao QK QL b8 pj;gi_wp2;refine bd.mono ?_;rintro e cd (⟨rfl,vf,hI⟩|⟨rfl,hJx3⟩)
 ·gi_wp2;go_roundw
  case rel=>exact⟨k+1,aE,by have:=sr.o.2;first|(simp;done)|(simp;omega),by rw[pd.o];exact vf,dT.trans hI⟩
  case measure=>have:=sr.o.2;simp[intOf]<;>omega
 ·gi_wp2;refine cO (gq rfl _ _ _) rfl ?_;exact⟨⟨_,rfl⟩,.inr ⟨_,⟨k+1,aE,pd.o.symm⟩,hJx3⟩⟩):S:=h
def tX(h:S:=by simp[iD]):S:=h
namespace LT
open jG (aD sP dI gQ mR dx eU gK ig)
def kH(n k:Nat)(h:k<=n):List (Fin n):=List.ofFn (λj:Fin k=>(⟨n-1-j,by have:=j.2;omega⟩:Fin n))
def QM(n k:Nat)(h:k<=n):(kH n k h).length=k:=by simp[kH]
def QN(n k:Nat)(h:k<n):kH n (k+1) h=kH n k (Nat.le_of_lt h)++[⟨n-1-k,aE⟩]:=by
 unfold kH;rw[List.ofFn_succ_last]
 rfl
def iO(i:Ix):K:=bg #[bf i.c,aC i.jt,aC i.jf,M i.k]
theorem acl(l ez b o c:Nat)(A:List aD)(hn:A.length<=9223372036854775807)(a7:Nat->Prop)(V:a7 b)(ss:a7 ez)(cm g8:List (Fin A)->G->Prop)(hu:∀(pre:List (Fin A)) (x:Fin A) W,cm pre W->pre.length<A->YieldAt Fence.wide (3-1) prog l #[H ((x:Nat):Int),sS A[x]] W λe aa=>(e=aI (av true)/\cm (pre++[x]) aa/\bh.Keep a7 W aa)\/(e=aI (av false)/\g8 (pre++[x]) aa))(W:G)(QK:W.cell? ez=some (E (some ⟨b,o,none⟩) A c))(ao:∀j (Z:j<A.length),bh.At W b (o+j*4) (dI A[j]))(ae:cm [] W):CallsIn Fence.wide 3 prog 357 #[.func (.yield l) #[] #[],aB (some ez)] W λe aa=>(∃v,e=aI v)/\((∃ys,ys=kH A A (aZ _)/\cm ys aa)\/(∃pre,(∃k,∃hk:k<=A.length,pre=kH A k hk)/\g8 pre aa)):=by
 refine y8 func357 rfl trivial ?_ rfl;simp only[ntmps357,ku,dJ,fu,Nat.reduceAdd,Nat.reduceSub,oD,oC,oH,oG,iq,gZ];gi_wp2;gi_loopw [3] (λi wr=>∃k:Nat,∃hk:k<=A,i=H ((A:Int)-1-k)/\cm (kH A k hk) wr/\bh.Keep a7 W wr) (λi _=>(intOf i+1).toNat)
 case atStart=>exact⟨0,eG _,ay,ae,bh.Keep.refl _ _⟩
 case round=>
  obtain⟨k,hk,rfl,ll,dT⟩:=hrel;by_cases ad:k<A
  ·obtain⟨q,aW⟩:∃q:Nat,q=A.length-1-k:=⟨_,rfl⟩;have yn:(A:Int)-1-k=(q:Int):=aE;have rs:q<A.length:=aE;have b8:=ao q rs;have lE:=(dT.cell (p:=⟨ez,0,none⟩) ss).trans QK;have gd:=QN A k ad;have QL:(⟨A.length-1-k,aE⟩:Fin A)=⟨q,rs⟩:=Fin.ext aW.symm;rw[QL]at gd;have pd:=z gd;obtain⟨fn,tmps,assign,body,bN,bd⟩:=hu _ ⟨q,rs⟩ wr ll (by rw[QM];exact ad);have pj:=λi=>dT.cell (p:=⟨b,i,none⟩) V
   rw[yn];have c0:=(pj _).trans (b8 0 Eb);have c1:=(pj _).trans (b8 1 Eb);have c2:=(pj _).trans (b8 2 Eb);have c3:=(pj _).trans (b8 3 Eb);simp only[dI,nO,BG,yV]at c0 c1 c2 c3;unfold sS at bN;exact ae8
  ·obtain rfl:k=A.length:=aE;exact UD
theorem avO(l ez:Nat)(A:List aD)(avP:A.length=0)(cm:List (Fin A)->G->Prop)(W:G)(a:Option Addr)(c:Nat)(ss:W.cell? ez=some (E a 0 c))(ae:cm [] W):CallsIn Fence.wide 3 prog 357 #[.func (.yield l) #[] #[],aB (some ez)] W λe aa=>(∃v,e=aI v)/\cm [] aa:=by
 refine y8 func357 rfl trivial ?_ rfl;simp only[ntmps357,ku,dJ,fu,Nat.reduceAdd,Nat.reduceSub,oD,oC,oH,oG,iq,gZ];gi_wp2;gi_loopw [3] (λi wr=>i=H (-1)/\cm [] wr) (λ_ _=>0)
 case atStart=>exact⟨rfl,ae⟩
 case round=>exact UE
theorem ae9(a:Option Addr)(n c:Nat)(w:G):Calls prog 284 #[E a n c] w λe F=>e=aI (.func (.func 357) #[] #[aB (some w)])/\w.alloc (J #[E a n c] 215)=F:=by go_in;go_wp2;exact vE
theorem afb(ez:Nat)(v:K)(A:List aD)(hn:A.length<=9223372036854775807)(w:G)(a7:Nat->Prop)(ss:ez<w.heap.size)(hS:a7 ez)(ao:w.cell? ez=some v)(bS:aS w 4 dI v A)(rL:∀b o c,v=E (some ⟨b,o,none⟩) A c->0<A.length->a7 b):SeqStopsK Fence.wide 3 prog 357 #[aB (some ez)] (λx:Fin A.length=> #[Value.int .i64 ((x:Nat):Int),sS A[x]]) (bh.Keep a7) (λys=>ys=kH A A (aZ _)) (λpre=>∃k,∃hk:k<=A.length,pre=kH A k hk) A w:=λl cm g8 W cJ _ _ hu ae=>by
 have q1:=(cJ.cell (p:=⟨ez,0,none⟩) ss).trans ao;obtain⟨a,c,rfl,ge,sc,mt⟩:=bS.ext cJ;by_cases BY:A.length=0
 ·refine(avO l ez A BY cm W a c (by rw[BY]at q1;exact q1) ae).mono λe aa ⟨bx,Z⟩=>⟨bx,.inl ⟨_,rfl,?_⟩⟩
  have cG:kH A A (aZ _)=[]:=nN (by rw[QM];exact BY);rw[cG];exact Z
 ·obtain⟨b,o,rfl,_⟩:=mt 0 aE;refine acl l ez b o c A hn a7 (rL b o c rfl aE) hS cm g8 hu W q1 ?_ ae;intro j Z;obtain⟨e4,fe,e,b8⟩:=mt j Z;obtain⟨rfl,rfl⟩:b=e4/\o=fe:=by simpa using e
  exact b8
theorem acm(l ez b o c:Nat)(A:List Ix)(hn:A.length<=9223372036854775807)(a7:Nat->Prop)(V:a7 b)(ss:a7 ez)(cm g8:List (Fin A)->G->Prop)(hu:∀(pre:List (Fin A)) (x:Fin A) W,cm pre W->pre.length<A->YieldAt Fence.wide (3-1) prog l #[H ((x:Nat):Int),iO A[x]] W λe aa=>(e=aI (av true)/\cm (pre++[x]) aa/\bh.Keep a7 W aa)\/(e=aI (av false)/\g8 (pre++[x]) aa))(W:G)(QK:W.cell? ez=some (E (some ⟨b,o,none⟩) A c))(ao:∀j (Z:j<A.length),bh.At W b (o+j*4) (iD A[j]))(ae:cm [] W):CallsIn Fence.wide 3 prog 415 #[.func (.yield l) #[] #[],aB (some ez)] W λe aa=>(∃v,e=aI v)/\((∃ys,ys=kH A A (aZ _)/\cm ys aa)\/(∃pre,(∃k,∃hk:k<=A.length,pre=kH A k hk)/\g8 pre aa)):=by
 refine y8 func415 rfl trivial ?_ rfl;simp only[ntmps415,ku,dJ,fu,Nat.reduceAdd,Nat.reduceSub,oD,oC,oH,oG,iq,gZ];gi_wp2;gi_loopw [3] (λi wr=>∃k:Nat,∃hk:k<=A,i=H ((A:Int)-1-k)/\cm (kH A k hk) wr/\bh.Keep a7 W wr) (λi _=>(intOf i+1).toNat)
 case atStart=>exact⟨0,eG _,ay,ae,bh.Keep.refl _ _⟩
 case round=>
  obtain⟨k,hk,rfl,ll,dT⟩:=hrel;by_cases ad:k<A
  ·obtain⟨q,aW⟩:∃q:Nat,q=A.length-1-k:=⟨_,rfl⟩;have yn:(A:Int)-1-k=(q:Int):=aE;have rs:q<A.length:=aE;have b8:=ao q rs;have lE:=(dT.cell (p:=⟨ez,0,none⟩) ss).trans QK;have gd:=QN A k ad;have QL:(⟨A.length-1-k,aE⟩:Fin A)=⟨q,rs⟩:=Fin.ext aW.symm;rw[QL]at gd;have pd:=z gd;obtain⟨fn,tmps,assign,body,bN,bd⟩:=hu _ ⟨q,rs⟩ wr ll (by rw[QM];exact ad);have pj:=λi=>dT.cell (p:=⟨b,i,none⟩) V
   rw[yn];have c0:=(pj _).trans (b8 0 tX);have c1:=(pj _).trans (b8 1 tX);have c2:=(pj _).trans (b8 2 tX);have c3:=(pj _).trans (b8 3 tX);simp only[iD,nO,BG,yV]at c0 c1 c2 c3;unfold iO at bN;exact ae8
  ·obtain rfl:k=A.length:=aE;exact UD
theorem avQ(l ez:Nat)(A:List Ix)(avP:A.length=0)(cm:List (Fin A)->G->Prop)(W:G)(a:Option Addr)(c:Nat)(ss:W.cell? ez=some (E a 0 c))(ae:cm [] W):CallsIn Fence.wide 3 prog 415 #[.func (.yield l) #[] #[],aB (some ez)] W λe aa=>(∃v,e=aI v)/\cm [] aa:=by
 refine y8 func415 rfl trivial ?_ rfl;simp only[ntmps415,ku,dJ,fu,Nat.reduceAdd,Nat.reduceSub,oD,oC,oH,oG,iq,gZ];gi_wp2;gi_loopw [3] (λi wr=>i=H (-1)/\cm [] wr) (λ_ _=>0)
 case atStart=>exact⟨rfl,ae⟩
 case round=>exact UE
theorem avR(a:Option Addr)(n c:Nat)(w:G):Calls prog 398 #[E a n c] w λe F=>e=aI (.func (.func 415) #[] #[aB (some w)])/\w.alloc (J #[E a n c] 51)=F:=by go_in;go_wp2;exact vE
theorem avS(ez:Nat)(v:K)(A:List Ix)(hn:A.length<=9223372036854775807)(w:G)(a7:Nat->Prop)(ss:ez<w.heap.size)(hS:a7 ez)(ao:w.cell? ez=some v)(bS:aS w 4 iD v A)(rL:∀b o c,v=E (some ⟨b,o,none⟩) A c->0<A.length->a7 b):SeqStopsK Fence.wide 3 prog 415 #[aB (some ez)] (λx:Fin A.length=> #[Value.int .i64 ((x:Nat):Int),iO A[x]]) (bh.Keep a7) (λys=>ys=kH A A (aZ _)) (λpre=>∃k,∃hk:k<=A.length,pre=kH A k hk) A w:=λl cm g8 W cJ _ _ hu ae=>by
 have q1:=(cJ.cell (p:=⟨ez,0,none⟩) ss).trans ao;obtain⟨a,c,rfl,ge,sc,mt⟩:=bS.ext cJ;by_cases BY:A.length=0
 ·refine(avQ l ez A BY cm W a c (by rw[BY]at q1;exact q1) ae).mono λe aa ⟨bx,Z⟩=>⟨bx,.inl ⟨_,rfl,?_⟩⟩
  have cG:kH A A (aZ _)=[]:=nN (by rw[QM];exact BY);rw[cG];exact Z
 ·obtain⟨b,o,rfl,_⟩:=mt 0 aE;refine acm l ez b o c A hn a7 (rL b o c rfl aE) hS cm g8 hu W q1 ?_ ae;intro j Z;obtain⟨e4,fe,e,b8⟩:=mt j Z;obtain⟨rfl,rfl⟩:b=e4/\o=fe:=by simpa using e
  exact b8
end LT
def gx(h:S:=by rw[afc.o];exact ad):S:=h
namespace LT
open jG (aD sP dI gQ mR dx eU gK ig)
variable{b:List Bool}{j k n:Nat}
theorem avT(vu g n:Nat)(l:List Nat)(W:G)(aMw:W.cell? vu=some (E (some g) l n))(hg:W.heap[g]?=some (J (isA l) 3 (0,0)))(j:Nat)(Z:j<l):Calls prog 366 #[H j,aB (some vu)] W λr F=>r=aI (H ((l.getD j 0:Nat):Int))/\Ext W F:=by have ao:=QI hg Z;have bL:(j:Int)<l:=aE;generalize l.getD j 0=q at *;go_in;go_wp;exact PD
def uM(b:List Bool)(n k:Nat):List Nat:=(List.range n).map (λi=>if i<k then gG b i else 0)
def QO(b:List Bool)(n k:Nat):(uM b n k).length=n:=by simp[uM]
def avU(b:List Bool)(n:Nat):uM b n 0=List.replicate n 0:=by
 apply List.ext_getElem
 ·simp[uM]
 ·intro i h1 h2;simp[uM]
def avV:(uM b n k).set k (gG b k)=uM b n (k+1):=by
 apply List.ext_getElem
 ·simp[uM]
 ·intro i h1 h2;rw[List.getElem_set];split
  ·rename_i e;subst e;simp[uM]
  ·rename_i e;simp only[uM,rQ,List.getElem_range];by_cases h:i<k
   ·rw[aF h,aF aE]
   ·rw[au h,au aE]
def avW(Z:j<n):(uM b n n).getD j 0=gG b j:=by rw[kR,dK (by rw[QO];exact Z)];simp[uM,Z]
def afd:∀(A:List aD)(b:List Bool)(k:Nat)(hk:k<A),A.length=b->pick (A.take (k+1)) (b.take (k+1))=pick (A.take k) (b.take k)++if b.getD k false=true then [A[k]]else []
 | [],_,k,hk,_=>by simp at hk
 |x::A,[],k,hk,h=>by simp at h
 |x::A,y::b,0,hk,_=>by cases y<;>simp[pick]
 |x::A,y::b,k+1,hk,h=>by have b9:=afd A b k K6 tH;simp only[List.take_succ_cons,yV,List.getD_cons_succ];unfold pick;rw[b9];cases y<;>simp
def afe:∀(A:List aD)(b:List Bool),(pick A b).length<=A.length
 | [],_=>by simp[pick]
 |x::A,[]=>by simp[pick]
 |x::A,y::b=>by
  have:=afe A b;unfold pick;split
  ·simp;exact this
  ·simp;omega
theorem avX(v:K)(A:List aD)(X:A.length<=1000000)(R:dx A=true)(w:G)(hv:aS w 4 dI v A):Calls prog 288 #[v] w λe F=>∃a c,e=aI (E a (qW A).length c)/\Ext w F/\F.ownsRow w 407 4 (E a (qW A).length c) (qW A).length ((qW A).flatMap dI):=by
 have rN:=avL v A X R w hv;have oE:=hv;obtain⟨a,c,rfl,ep,-⟩:=ig hv;have m5:=Ec A;have VV:=z rN;have k1:=z oE;have cW:=z R;clear rN hv oE R;go_in;go_wp2_with fail;refine ak VV.o ?_;rintro I ⟨Q,cH⟩;have dp:w.heap.size<I:=(dG.1 cH).1;have lz:=ae4 A X I;have n2:=bA I (J (isA (List.replicate A 0)) 3);obtain⟨a8,b'⟩:∃a8,a8=I.alloc (J (isA (List.replicate A 0)) 3):=⟨_,rfl⟩;rw[<-b']at n2 lz;have ag:Ext I a8:=by rw[b'];exact(O _).alloc _
 have eC:a8.heap.size=I+1:=by rw[b'];simp
 have n3:=bA a8 (J #[E (some I) A A.length] 28);obtain⟨cd,fh⟩:∃cd,cd=a8.alloc (J #[E (some I) A A.length] 28):=⟨_,rfl⟩;rw[<-fh,eC]at n3;have a':Ext a8 cd:=by rw[fh];exact(O _).alloc _
 rw[<-avU (fB A)]at n2;have es:=z (ah (aJ n2 a') (ah n3 (ah (aJ cH (ag.trans a')) (Q.trans (ag.trans a')))));have avY:=z fh;have eW:=z eC;have bF:=z Q;clear b' ag eC n2 n3 fh a' cH Q;go_upto_region 3 with fail;have Mh:a8.alloc (J #[E (some I) A A.length] 28)=cd:=avY.o.symm;rw[Mh,eW.o];clear Mh;go_wp2_with fail;go_loopw [5,17] (λn i wr=>∃k:Nat,k<=A/\i=H k/\n=H ((gG (fB A) k:Nat):Int)/\gG (fB A) k<=k/\Ext w wr/\wr.heap[I.heap.size]?=some (J (isA (uM (fB A) A k)) 3 (0,0))/\
  wr.heap[I.heap.size+1]?=some (J #[E (some I) A A.length] 28 (0,0))/\wr.heap[w.heap.size]?=some (J (oQ (fB A)) 4 (0,0))) (λ_ i _=>A.length-(intOf i).toNat)
 case atStart=>exact⟨0,aE,rfl,rfl,aZ _,es.o.2.2.2,es.o.1,es.o.2.1,es.o.2.2.1⟩
 case round=>
  obtain⟨k,hk,rfl,rfl,IN,D,B0,lE,mC⟩:=hrel;by_cases ad:k<A
  ·have c1:=aG lE 0
   change wr.cell? ⟨I+1,0,none⟩=some (E (some I) A A)at c1
   have c2:=QI B0 (show k<(uM (fB A) A k).length by rw[QO];exact ad);have fg:=dw B0 k;have c3:=xV mC (show k<(fB A).length from aE);have ws:=fH B0 k (H ((gG (fB A) k:Nat):Int));rw[ae2,avV]at ws;have aff:=IW (b:=fB A) (i:=k) aE;have ge:=Wy (fB A) (k+1);have bL:(k:Int)<A:=aE;have afg:(wr.setCell ⟨I,k,none⟩ (H ((gG (fB A) k:Nat):Int))).heap[I.heap.size+1]?=_:=(fI _ _ _ _ (by show I.heap.size+1≠I.heap.size;omega)).trans lE;have Wz:(wr.setCell ⟨I,k,none⟩ (H ((gG (fB A) k:Nat):Int))).heap[w.heap.size]?=_:=(fI _ _ _ _ (by show w.heap.size≠I;omega)).trans mC;have qi:Ext w (wr.setCell ⟨I,k,none⟩ (H ((gG (fB A) k:Nat):Int))):=D.setCell (by show w.heap.size<=I;omega) _;have afh:(wr.setCell ⟨I,k,none⟩ (H ((gG (fB A) k:Nat):Int))).cell? ⟨w,k,none⟩=some (av ((fB A).getD k false)):=xV Wz aE;have bC:=z (ah ws (ah afg (ah Wz qi)));have Zq8:=z (ah aff ge);obtain⟨q,aW⟩:∃q,q=gG (fB A) k:=⟨_,rfl⟩;obtain⟨Gk,Mk⟩:∃Gk,Gk=(fB A).getD k false:=⟨_,rfl⟩;rw[<-aW]at afh bC Zq8 IN⊢;rw[<-Mk]at c3 afh Zq8;clear ws afg Wz qi aff ge D B0 lE mC aW Mk;cases Gk
   ·go_wp2_with fail;go_roundw
    case rel=>exact⟨k+1,aE,cZ,by rw[Zq8.o.1];rfl,Zq8.o.2,bC.o.2.2.2,bC.o.1,bC.o.2.1,bC.o.2.2.1⟩
    case measure=>exact eO
   ·go_wp2_with fail;go_roundw
    case rel=>exact⟨k+1,aE,cZ,by rw[Zq8.o.1,aF rfl];go_num,Zq8.o.2,bC.o.2.2.2,bC.o.1,bC.o.2.1,bC.o.2.2.1⟩
    case measure=>exact eO
  ·obtain rfl:k=A.length:=aE;have c1:=aG lE 0
   change wr.cell? ⟨I+1,0,none⟩=some (E (some I) A A)at c1
   have QG:=Ww 366 #[aB (some ⟨I+1,0,none⟩)] (enters_of func366 aj rfl) (gG (fB A)) A (E a A c) A X wr (k1.o.ext D)
    (λs ab=>by obtain⟨i,hi,rfl⟩:=uD ab;exact⟨i,jG.jy cW.o hi⟩)
    (λt an W f1=>by have aQ:=avT (I+1) I A (uM (fB A) A A) W (by rw[QO];exact f1.cell c1) (aJ B0 f1) t (by rw[QO];exact an);rw[avW an]at aQ;exact aQ)
   have BT:=z QG;have aT:=z (ah D mC);clear QG D B0 lE mC c1 IN;go_wp2_with fail;refine BT.o.mono ?_;rintro e cT ⟨jJ,c6,rfl,dX,gC⟩;have pk:=uN (gG (fB A)) A;have afi:=eD (A:=oO (gG (fB A)) A) gQ (by rw[pk];exact gC);obtain⟨h5,c7,m3,-,bV⟩:=ig afi;rw[pk]at m3;simp only[eZ,true_and]at m3;obtain⟨rfl,rfl⟩:=m3;have hX:qW A=pick ((oO (gG (fB A)) A).take A) ((fB A).take A):=by rw[rJ (by rw[pk];exact aZ _),rJ (by rw[m5];exact aZ _)];rfl
   have Av:=z hX;clear hX;generalize oO (gG (fB A)) A=f8 at *;have gt:=z bV;have gb:=z (ah (aT.o.1.trans dX) (aJ aT.o.2 dX));have f':=z dX;have afc:=z pk;have FG:=z m5;clear gC afi bV dX pk m5;go_wp2_with fail;go_loopw [7,35] (λo i Ml=>∃(k:Nat) (IP:Option Addr) (Gm:Nat),k<=A/\i=H k/\o=E IP (pick (f8.take k) ((fB A).take k)).length Gm/\Ext cT Ml/\Ml.ownsRow cT 407 4 (E IP (pick (f8.take k) ((fB A).take k)).length Gm) (pick (f8.take k) ((fB A).take k)).length ((pick (f8.take k) ((fB A).take k)).flatMap dI)) (λ_ i _=>A.length-(intOf i).toNat)
   case atStart=>exact⟨0,none,0,aE,rfl,rfl,O _,jR _ _ _ _⟩
   case round=>
    obtain⟨k,IP,Gm,hk,rfl,rfl,D,ho⟩:=hrel;by_cases ad:k<A
    ·obtain⟨te,o7,rfl,r0,dq,ei,eM⟩:=gt.o k gx;replace r0:=D.cell r0;replace dq:=D.cell dq;replace ei:=D.cell ei;replace eM:=D.cell eM;have bU:=afd f8 (fB A) k gx (by rw[afc.o,FG.o]);have WA:=afe (f8.take k) ((fB A).take k);rw[gV]at WA;obtain⟨s,ab⟩:∃s,s=f8[k]' gx:=⟨_,rfl⟩;rw[<-ab]at r0 dq ei eM bU;clear ab;have c3:=xV (aJ gb.o.2 D) (show k<(fB A).length by rw[FG.o];exact ad);obtain⟨Gk,Mk⟩:∃Gk,Gk=(fB A).getD k false:=⟨_,rfl⟩;rw[<-Mk]at c3 bU;have gg:=z bU;have Gn:=z WA;clear Mk bU WA;obtain⟨go,g5,pi,pP⟩:=s;dsimp only at *;have ae0:=λo=>((O _).alloc o).cell c3
     obtain⟨aH,bd⟩:∃aH,aH=pick (f8.take k) ((fB A).take k):=⟨_,rfl⟩;rw[<-bd]at gg Gn ho⊢;clear bd;have cx:=z ho;have ca:=z D;clear ho D;cases Gk
     ·have vp:Hid (pick (f8.take (k+1)) ((fB A).take (k+1))=aH):=z (by rw[gg.o];simp);go_wp2_with fail;go_roundw
      case rel=>exact⟨k+1,IP,Gm,aE,cZ,by rw[vp.o],ca.o.alloc _,by rw[vp.o];exact cx.o.alloc _⟩
      case measure=>exact eO
     ·have vp:Hid (pick (f8.take (k+1)) ((fB A).take (k+1))=aH++[⟨go,g5,pi,pP⟩]):=z (by rw[gg.o];simp);have mt:aH.length+[(⟨go,g5,pi,pP⟩:aD)].length=(aH++[(⟨go,g5,pi,pP⟩:aD)]).length:=ay;have avZ:=z mt;have afj:aH.length<=1000000:=by have:=Gn.o;omega
      clear mt
      go_wp2_with(refine Dr rfl _ _ _ rfl underlying215 aeR rfl Y gQ mR cT _ _ aH [⟨go,g5,pi,pP⟩] rfl rfl ((cx.o.alloc _).alloc _) (jh gQ _ [⟨go,g5,pi,pP⟩] _ _ (by rw[dR])) dU Y ((ca.o.alloc _).alloc _) ?_
                  intro ri rj bQ d0 bR;rw[avZ.o]at d0⊢;have m':=z (ah d0 bR);clear d0 bR)
      go_roundw
      case rel=>exact⟨k+1,ri,rj,aE,cZ,by rw[vp.o,dA];rfl,m'.o.2,by rw[vp.o];exact m'.o.1⟩
      case measure=>exact eO
    ·obtain rfl:k=A.length:=aE;have Gp:=z (ah D ho);clear D ho;rw[<-Av.o]at Gp⊢;go_wp2_with fail;go_ret;exact⟨IP,Gm,rfl,gb.o.1.trans Gp.o.1,Gp.o.2.mono gb.o.1.size⟩
end LT
end Go.Proofs.YtopfefhenfineaaGreat
