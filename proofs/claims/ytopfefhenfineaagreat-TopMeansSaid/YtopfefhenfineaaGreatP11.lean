import Derived.Test.YtopfefhenfineaaGreatP9
import Derived.Test.YtopfefhenfineaaGreatP10
set_option linter.all false
set_option maxRecDepth 100000
set_option maxHeartbeats 4000000
namespace Go.Proofs.YtopfefhenfineaaGreat
open Go.Proofs.Tryz Go.RowKit bh
variable{S:Prop}
def aeo(h:S:=by have eb:=z (ah (bF.o.trans BR) cX);clear BR cX bO;go_wp2_with fail;go_ret2;exact⟨v,rfl,eb.o⟩):S:=h
def aep(h:S:=by have hn:=BS.o.2;rw[w3];exact ic.mono (λx=>⟨λh=>by rcases h.1 with h1|h1;exact h1;exact absurd h1 h.2,λh=>⟨.inl h,λe=>hn (e▸h)⟩⟩)):S:=h
namespace e2
open jG (aD dI gQ mR yC qV tQ aer)
open m9 acC
def IC(aX aq:Nat)(b:Nat):Prop:=b=aX\/b=aq
def FQ(ts:List Int)(k:Nat):Bool:=ts.contains (k:Int)
def auR(m:Nat->Bool)(w:G)(e:Ending)(F:G):Prop:= ∃v,e=aI (bH #[v,H 0])/\Ext w F/\aS F 4 dI v (qw m)
def vK{b p x:Nat}(h:x≠b):dF.res b p (.lb x)= .lb x:=au h
def auS(m:Nat->Bool)(k:Nat):lS m (k+1)=if (m k&&((k==0||k==2)&& !(m 0&&m 2)))=true then(k:Int)else lS m k:=rfl
theorem UH(v:K)(ts:List Int)(X:ts.length<=1000)(V:ts.any yC=false)(bO:0<ts.length)(w:G)(hv:aS w 1 qV v ts):Calls prog 175 #[v] w (auR (FQ ts) w):=by
 have bl:=aer v ts aE w hv;rw[V]at bl;have k1:=z hv;obtain⟨a,c,rfl,ep,-⟩:=tQ hv;have ac:((ts:Int)==0)=false:=by rw[iH];omega
 have cq:=λ(x:Nat) W (D:Ext w W)=>qm (E a ts c) ts (x:Int) aE W (hv.ext D)
 have PT:∀(x:Nat) W (D:Ext w W),Calls prog 24 #[E a ts c,H x] W λe F=>e=aI (av (FQ ts x))/\Ext W F:=cq
 clear hv cq;generalize FQ ts=m at *;have ee:=z bl;have Pr:=z V;have L2:=z PT;clear bl V PT;go_in;go_wp2_with fail;refine ak ee.o ?_;intro I Q;go_wp2_with fail;have Aj:=(cu.start I).label (H 0);have ci:(I.alloc (J #[E none 0 0,E none 0 0] 336)).heap.size=I.heap.size+1:=ay;rw[ci]at Aj;have VX:=Aj.1.label (H 0);have aes:((I.alloc (J #[E none 0 0,E none 0 0] 336)).alloc (J #[H 0] 339)).heap.size=I.heap.size+2:=ay;rw[aes]at VX;have z':=VX.1.mono (vn:=IC (I+1) (I.heap.size+2)) (λb=>by unfold IC;simp);obtain⟨bX,gh⟩:∃bX,bX=((I.alloc (J #[E none 0 0,E none 0 0] 336)).alloc (J #[H 0] 339)).alloc (J #[H 0] 339):=⟨_,rfl⟩;rw[<-gh]at z'⊢;clear gh Aj VX ci aes;have vp:=z z';have bF:=z Q;clear z' Q;refine ak (cu.nC vp.o ay 4) ?_;rintro aO ⟨eC,-⟩;have eW:=z eC;have ca:=z (bF.o.trans eC.Kh);clear eC;obtain⟨bo,pD⟩:∃bo,bo=(m 0&&m 2):=⟨_,rfl⟩;have VY:=z pD;clear pD;go_upto_region 5 with fail;go_cut [7] (λx wx=>x=av bo/\Ext aO wx)
 case first=>
  go_wp2_with fail;refine ak (L2.o 0 aO ca.o) ?_;intro bj a';have cL:=z a';clear a';cases jx:m 0
  case false=>have VZ:=z jx;clear jx;go_wp2_with fail;go_meet;exact⟨by rw[VY.o,VZ.o];rfl,cL.o⟩
  case true=>have VZ:=z jx;clear jx;go_wp2_with fail;refine ak (L2.o 2 bj (ca.o.trans cL.o)) ?_;intro dC cN;go_wp2_with fail;go_meet;exact⟨by rw[VY.o,VZ.o];rfl,cL.o.trans cN⟩
 case rest=>
  obtain⟨rfl,cN⟩:=hcut;have q6:=z (eW.o.ext cN);have hK:=z (ca.o.trans cN);clear cN;go_wp2_with fail;refine(NV _).mono ?_;rintro e bQ ⟨g,cap,rfl,bR,⟨bm,hA⟩,hc⟩;have ia:=z (q6.o.ext bR);have c9:=z (hK.o.trans bR);have ta:=z hA;have auT:=z hc;clear bR hA hc;go_wp2_with fail;go_loopw [40,8] (λi la wr=>∃k:Nat,k<=6/\i=H k/\la=H (lS m k)/\cu I I (IC (I+1) (I.heap.size+2)) (hS (.lb (I+2)) (chain m k)) wr/\eH bQ wr) (λi _ _=>6-(intOf i).toNat)
  case atStart=>exact⟨0,aE,rfl,rfl,ia.o,eH.refl _⟩
  case round=>
   obtain⟨k,hk,rfl,rfl,tR,f7⟩:=hrel;have yb:=bF.o.trans tR.Kh;have ey:=auU m k;have DU:=z tR;have V0:=z f7;have V1:=z yb;by_cases ad:k<6
   ·have c0:wr.cell? ⟨g,k,none⟩=some (H (k:Int)):=by have h1:=f7.kept g bm _ _ ta.o Y Y Y Y;have h2:=auT.o k ad;unfold World.cell? at h2⊢;dsimp only at h2⊢;rw[h1];rw[ta.o]at h2;exact h2
    have ie:=auS m k;have ye:=auV m k;clear tR f7 yb;cases lz:m k
    case false=>
     have aK:lS m (k+1)=lS m k:=by rw[ie,lz];rfl
     have aV:chain m (k+1)=chain m k:=by
      have:DV m k=false:=by unfold DV;rw[lz];rfl
      rw[ye,this];simp
     have Qt:=z ie;have aeu:=z ye;clear ie ye;have xx:=z aK;have tz:=z aV;have Qu:=z lz;clear aK aV lz;go_wp2_with fail;refine ak (L2.o k wr V1.o) ?_;intro cT dX;rw[Qu.o];have f':=z dX;clear dX;go_wp2_with fail;go_roundw
     case rel=>exact⟨k+1,aE,cZ,by rw[xx.o],by rw[tz.o];exact DU.o.ext f'.o,V0.o.trans (eH.mI f'.o)⟩
     case measure=>exact eO
    case true=>
     have bE:=λW=>L6 (k:Int) W
     have fi:uK (k:Int)=(iK k,0):=by unfold uK iK;rw[aF aE,kr]
     rw[fi]at bE;dsimp only at bE;have Am:(DV m k=true/\lS m (k+1)=lS m k/\((k≠0/\k≠2)\/(k=0/\bo=true)))\/(DV m k=false/\((k=2/\bo=true/\lS m (k+1)=lS m k)\/((k=0\/k=2)/\bo=false/\lS m (k+1)=(k:Int)))):=by
      rw[ie];unfold DV;rw[<-VY.o,lz];by_cases e3:k=0
      ·subst e3;cases bo<;>simp
      ·by_cases cY:k=2
       ·subst cY;cases bo<;>simp
       ·refine .inl ⟨by simp[e3,cY],by simp[e3,cY],.inl ⟨e3,cY⟩⟩
     generalize iK k=tk at *;have Qt:=z ie;have Qu:=z lz;clear ie lz;have hl:=z bE;have yf:=z fi;clear bE fi;rcases Am with⟨ih,aK,ao⟩|⟨ih,ao⟩
     ·have aV:chain m (k+1)=chain m k++[tk]:=by rw[ye,ih];rfl
      have aeu:=z ye;have xx:=z aK;clear ye aK;have tz:=z aV;have auW:=z ih;clear aV ih;have s0:(((k:Int) !=0)=true/\((k:Int) !=2)=true)\/(((k:Int) !=0)=false/\((k:Int)==0)=true/\bo=true):=by
       rcases ao with⟨e3,cY⟩|⟨rfl,q⟩
       ·exact .inl ⟨by simpa using e3,by simp;omega⟩
       ·exact .inr ⟨rfl,rfl,q⟩
      have mu:=z ao;clear ao;rcases s0 with⟨e3,cY⟩|⟨e3,ef,rfl⟩
      all_goals
       go_wp2_with fail;refine ak (L2.o k wr V1.o) ?_;intro cT dX;rw[Qu.o];have f':=z dX;clear dX;go_wp2_with fail;refine ak (hl.o cT) ?_;intro dy en;have mx:=z (f'.o.trans en);have BS:=z ((DU.o.ext (f'.o.trans en)).label (H 0));clear en;go_wp2_with fail;refine ak (cu.j5 BS.o.1 (by rw[vL];omega) 21 tk (I+2) dy (.inl (.inr rfl)) (.inr rfl)) ?_;rintro hz ⟨mz,oy⟩;have sn:=z mz;have yi:=z ((V0.o.trans (eH.mI mx.o)).trans (eH.after _ oy));clear mz oy;go_wp2_with fail;refine ak (cu.iI sn.o (b:=dy.heap.size) (.inr rfl)) ?_;rintro gn ⟨ic,An⟩;have mA:cu I I (IC (I+1) (I.heap.size+2)) (hS (.lb (I+2)) (chain m k++[tk])) gn:=by have hn:=BS.o.2;rw[auX (.lb (I+2)) (chain m k) tk dy (vK (λe=>hn (.inr e.symm)))]at ic;exact ic.mono (λx=>⟨λh=>by rcases h.1 with h1|h1;exact h1;exact absurd h1 h.2,λh=>⟨.inl h,λe=>hn (e▸h)⟩⟩)
       have yk:=z mA;have L3:=z (yi.o.trans An);clear ic An mA;go_wp2_with fail;go_roundw
       case rel=>exact⟨k+1,aE,cZ,by rw[xx.o],by rw[tz.o];exact yk.o,L3.o⟩
       case measure=>simp[intOf];omega
     ·have aV:chain m (k+1)=chain m k:=by rw[ye,ih];simp
      have aeu:=z ye;have tz:=z aV;have auW:=z ih;clear ye aV ih;have s0:(((k:Int) !=0)=true/\((k:Int) !=2)=false/\((k:Int)==0)=false/\bo=true/\lS m (k+1)=lS m k)\/(((k:Int) !=0)=true/\((k:Int) !=2)=false/\bo=false/\lS m (k+1)=(k:Int))\/(((k:Int) !=0)=false/\bo=false/\lS m (k+1)=(k:Int)):=by
       rcases ao with⟨rfl,q,ef⟩|⟨rfl|rfl,q,ef⟩
       ·exact .inl ⟨rfl,rfl,rfl,q,ef⟩
       ·exact .inr (.inr ⟨rfl,q,ef⟩)
       ·exact .inr (.inl ⟨rfl,rfl,q,ef⟩)
      have mu:=z ao;clear ao;rcases s0 with⟨e3,cY,eh,rfl,aK⟩|⟨e3,cY,rfl,aK⟩|⟨e3,rfl,aK⟩
      all_goals
       have vq:=z aK;clear aK;go_wp2_with fail;refine ak (L2.o k wr V1.o) ?_;intro cT dX;rw[Qu.o];have f':=z dX;clear dX;go_wp2_with fail;refine ak (hl.o cT) ?_;intro dy en;have mx:=z (f'.o.trans en);clear en;go_wp2_with fail;go_roundw
       case rel=>exact⟨k+1,aE,cZ,by rw[vq.o],by rw[tz.o];exact DU.o.ext (mx.o.alloc _),V0.o.trans (eH.mI (mx.o.alloc _))⟩
       case measure=>simp[intOf];omega
   ·obtain rfl:k=6:=aE;clear tR f7 yb;have tS:qw m=vM (chain m 6) (lS m 6):=rfl;rcases V3 m with ie|ie|ie
    ·rw[ie]at tS⊢;have L4:=z tS;have Qt:=z ie;clear tS ie;go_wp2_with fail;refine ak (cu.iI DU.o (b:=I.heap.size+1) (.inl rfl)) ?_;rintro cT ⟨ks,-⟩;have vr:=z ks;clear ks;go_wp2_with fail;refine ak (cu.lZ vr.o (by simp[vL];omega) 2147483648) ?_;rintro dy ⟨tU,-⟩;have oA:=z tU;clear tU;go_wp2_with fail;refine ak (cu.iI oA.o (b:=I.heap.size+2) ⟨.inr rfl,aE⟩) ?_;rintro hz ⟨mz,-⟩;have sn:=z mz;clear mz;go_wp2_with fail;refine ak (cu.lZ sn.o (by simp[vL];omega) 2147418112) ?_;rintro gn ⟨ic,-⟩;have yk:=z ic;clear ic;go_wp2_with fail;refine(cu.mK yk.o (by simp[vL];omega) (λb V=>by rcases V.1.1 with h|h;exact V.1.2 h;exact V.2 h)).mono ?_;rintro e DW ⟨v,rfl,aev,cX⟩;rw[auY (chain m 6) (I+1) (I.heap.size+2) aE (-1) Y,<-L4.o]at cX;have eb:=z (ah (bF.o.trans aev) cX);clear aev cX;go_wp2_with fail;go_ret2;exact⟨v,rfl,eb.o⟩
    ·have bE:=λW=>L6 0 W
     rw[show uK 0=(iK 0,0)from rfl]at bE;dsimp only at bE;have fi:iK 0=iK (Int.toNat 0):=rfl;generalize iK 0=tk at bE fi;rw[ie]at tS⊢;have L4:=z tS;have Qt:=z ie;clear tS ie;have hl:=z bE;have yf:=z fi;clear bE fi;go_wp2_with fail;have BS:=z (DU.o.label (H 0));refine ak (hl.o _) ?_;intro dy en;have oA:=z (BS.o.1.ext en);clear en;go_wp2_with fail;refine ak (cu.j5 oA.o (by rw[vL];omega) 21 tk wr (I+1) (.inr rfl) (.inl (.inl rfl))) ?_;rintro hz ⟨mz,-⟩;have sn:=z mz;clear mz;go_wp2_with fail;refine ak (cu.iI sn.o (b:=wr.heap.size) (.inr rfl)) ?_;rintro gn ⟨ic,-⟩;obtain⟨qf,w3⟩:∃qf,qf=(hS (.lb (I+2)) (chain m 6)++[Ga tk wr (I+1)]).map (bB.mp (dF.res wr (hS (.lb (I+2)) (chain m 6)++[Ga tk wr (I+1)]).length)):=⟨_,rfl⟩;have tB:qf.length<=10:=by rw[w3];simp[vL];omega
     have mA:cu I I (IC (I+1) (I.heap.size+2)) qf gn:=aep
     have yk:=z mA;have vq:=z w3;clear ic mA w3;go_wp2_with fail;refine ak (cu.nC yk.o aE 0) ?_;rintro DW ⟨mA,-⟩;have F':=z mA;clear mA;go_wp2_with fail;refine ak (cu.j5 F'.o dU 69 1073741824 (I+1) (I.heap.size+2) (.inl rfl) (.inr rfl)) ?_;rintro aew ⟨L5,-⟩;have V2:=z L5;clear L5;go_wp2_with fail;refine ak (cu.iI V2.o (b:=I.heap.size+1) (.inl rfl)) ?_;rintro auZ ⟨L8,-⟩;have V4:=z L8;clear L8;go_wp2_with fail;refine ak (cu.lZ V4.o dU 2147483648) ?_;rintro au0 ⟨L9,-⟩;have V5:=z L9;clear L9;go_wp2_with fail;refine ak (cu.iI V5.o (b:=I.heap.size+2) ⟨.inr rfl,aE⟩) ?_;rintro au1 ⟨L',-⟩;have V6:=z L';clear L';go_wp2_with fail;refine ak (cu.lZ V6.o dU 2147418112) ?_;rintro au2 ⟨Ma,-⟩;have V7:=z Ma;clear Ma;go_wp2_with fail;refine(cu.mK V7.o dU (λb V=>by rcases V.1.1 with h|h;exact V.1.2 h;exact V.2 h)).mono ?_;rintro e au3 ⟨v,rfl,BR,cX⟩;have bO:=BS.o.2;rw[aex (chain m 6) (I+1) (I.heap.size+2) wr tk aE (λe=>bO (.inr e.symm)) (λe=>bO (.inl e.symm)) 0 Y yf.o (gy 69 1073741824 (.lb (I+1)) (.lb (I+2))) (au Y).symm qf _ _ vq.o rfl rfl,<-L4.o]at cX;exact aeo
    ·have bE:=λW=>L6 2 W
     rw[show uK 2=(iK 2,0)from rfl]at bE;dsimp only at bE;have fi:iK 2=iK (Int.toNat 2):=rfl;generalize iK 2=tk at bE fi;rw[ie]at tS⊢;have L4:=z tS;have Qt:=z ie;clear tS ie;have hl:=z bE;have yf:=z fi;clear bE fi;go_wp2_with fail;have BS:=z (DU.o.label (H 0));refine ak (hl.o _) ?_;intro dy en;have oA:=z (BS.o.1.ext en);clear en;go_wp2_with fail;refine ak (cu.j5 oA.o (by rw[vL];omega) 21 tk wr (I+1) (.inr rfl) (.inl (.inl rfl))) ?_;rintro hz ⟨mz,-⟩;have sn:=z mz;clear mz;go_wp2_with fail;refine ak (cu.iI sn.o (b:=wr.heap.size) (.inr rfl)) ?_;rintro gn ⟨ic,-⟩;obtain⟨qf,w3⟩:∃qf,qf=(hS (.lb (I+2)) (chain m 6)++[Ga tk wr (I+1)]).map (bB.mp (dF.res wr (hS (.lb (I+2)) (chain m 6)++[Ga tk wr (I+1)]).length)):=⟨_,rfl⟩;have tB:qf.length<=10:=by rw[w3];simp[vL];omega
     have mA:cu I I (IC (I+1) (I.heap.size+2)) qf gn:=aep
     have yk:=z mA;have vq:=z w3;clear ic mA w3;go_wp2_with fail;refine ak (cu.nC yk.o aE 0) ?_;rintro DW ⟨mA,-⟩;have F':=z mA;clear mA;go_wp2_with fail;refine ak (cu.j5 F'.o dU 69 1073741824 (I+2) (I.heap.size+1) (.inr rfl) (.inl rfl)) ?_;rintro aew ⟨L5,-⟩;have V2:=z L5;clear L5;go_wp2_with fail;refine ak (cu.iI V2.o (b:=I.heap.size+1) (.inl rfl)) ?_;rintro auZ ⟨L8,-⟩;have V4:=z L8;clear L8;go_wp2_with fail;refine ak (cu.lZ V4.o dU 2147483648) ?_;rintro au0 ⟨L9,-⟩;have V5:=z L9;clear L9;go_wp2_with fail;refine ak (cu.iI V5.o (b:=I.heap.size+2) ⟨.inr rfl,aE⟩) ?_;rintro au1 ⟨L',-⟩;have V6:=z L';clear L';go_wp2_with fail;refine ak (cu.lZ V6.o dU 2147418112) ?_;rintro au2 ⟨Ma,-⟩;have V7:=z Ma;clear Ma;go_wp2_with fail;refine(cu.mK V7.o dU (λb V=>by rcases V.1.1 with h|h;exact V.1.2 h;exact V.2 h)).mono ?_;rintro e au3 ⟨v,rfl,BR,cX⟩;have bO:=BS.o.2;rw[aex (chain m 6) (I+1) (I.heap.size+2) wr tk aE (λe=>bO (.inr e.symm)) (λe=>bO (.inl e.symm)) 2 Y yf.o (gy 69 1073741824 (.lb (I+2)) (.lb (I+1))) (aF rfl).symm qf _ _ vq.o rfl rfl,<-L4.o]at cX;exact aeo
end e2
open Go.ChangeShapes Go.WideShapes Go.ChangeAt
namespace e2
open jG
open d5 (uV)
def aey(s:aD):Bool:=decide (s.c<65536)&&decide (s.k<4294967296)&&decide (0<=s.th)&&decide (s.th<=1000)&&decide (0<=s.el)&&decide (s.el<=1000)
def au4(m:Nat->Bool):(qw m).all aey=true:=by rw[aez];exact V8
def abR(m:Nat->Bool):∀s∈qw m,sP s:=λs ab=>by have h:=List.all_eq_true.1 (au4 m) s ab;simp only[aey,dV,iM]at h;obtain⟨⟨⟨⟨⟨h1,h2⟩,T⟩,af⟩,aQ⟩,a9⟩:=h;exact⟨h1,h2,aE,aE,aE,aE⟩
end e2
namespace bM
def n6(w:G)(p:PF):Prop:=Good w p/\p.nm.length<=maxLen/\p.bs.length<=maxLen
def wf_u8{x:Int}(h:(Lit.int .u8 x).wf=true):∃c:aL,x=(c.toNat:Int):=by simp[Lit.wf,IntKind.min,IntKind.max,IntKind.signed,IntKind.bits]at h;refine⟨UInt8.ofNat x.toNat,?_⟩;rw[UInt8.toNat_ofNat'];omega
section
variable {bC:Type} {enc:dD×K->bC} {W:G}
theorem au5(fuel:Nat)(U:List K)(y:DataW bC×List MemPlace)(h:DataW.trod enc prog W 0 (λ_=>true) true fuel 5 U=some y):∃n:aL,U=pU n/\True:=by obtain⟨a,cG,_,V9⟩:=DataW.trod_int underlying5 h;obtain⟨c,rfl⟩:=wf_u8 V9;exact⟨c,cG,trivial⟩
theorem afK(fuel:Nat)(U:List K)(y:DataW bC×List MemPlace)(h:DataW.trod enc prog W 0 (λ_=>true) true fuel 24 U=some y)(X:Light prog 24 y.1)(hn:U.length=3):∃p:PF,U=qJ p/\n6 W p:=by
 match U,hn with
 | [c0,c1,c2],_=>
 obtain⟨n0,y0,ae,-⟩:=IE (i:=0) underlying24 rfl rfl aj h rfl X;obtain⟨n1,y1,h1,-⟩:=IE (i:=1) underlying24 rfl rfl aj h rfl X;obtain⟨n2,y2,h2,l2⟩:=IE (i:=2) underlying24 rfl rfl aj h rfl X;obtain⟨fn,cG,-,w0⟩:=DataW.trod_string underlying9 ae;obtain⟨a1,aK,-,I⟩:=DataW.trod_int underlying3 h1;simp only[List.cons.injEq,and_true]at cG aK;subst cG aK;obtain⟨bs,bd,m5,-⟩:=aeA (n:=1) (λU x=>U=pU x/\True) 0 underlying22 aj Y (λfuel U y bN Gb aeB=>au5 fuel U y bN) h2 l2;obtain⟨cX,-⟩:=bd.rd;obtain⟨a,c,rfl,T,af⟩:=cX;refine⟨⟨bytes fn,a1,bs,a,c⟩,?_,⟨a,c,rfl,T,af⟩,?_,m5⟩
 ·unfold qJ PF.v;rw[Dt]
 ·show(bytes fn).length<=maxLen;rw[jS];exact w0
theorem afJ{base:Nat}{v:K}{d:DataW bC}{p:List MemPlace}(hv:Value.okWide prog W .any base 24 v)(h:DataW.Trod enc prog W 0 (λ_=>true) true 24 v d p)(X:Light prog 24 d):∃q:PF,v=iU q/\n6 W q:=by obtain⟨U,rfl,ci⟩:=okWide_struct underlying24 hv;rw[show Tryz.prog.cellsOf 24=3 from aj]at ci;obtain⟨fuel,h⟩:=h;simp only[Value.cells]at h;obtain⟨l⟩:=U;simp only[ku]at ci h;obtain⟨q,rfl,aW⟩:=afK fuel l (d,p) h X ci;exact⟨q,rfl,aW⟩
end
end bM
end Go.Proofs.YtopfefhenfineaaGreat
