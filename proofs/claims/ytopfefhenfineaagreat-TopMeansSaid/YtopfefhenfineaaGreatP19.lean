import Derived.Test.YtopfefhenfineaaGreatP12
import Derived.BigCall
import Derived.BigGuard
set_option linter.all false
set_option maxRecDepth 100000
set_option maxHeartbeats 16000000
namespace Go.Proofs.YtopfefhenfineaaGreat
open Go.Proofs.Tryz Go.RowKit Go.Shelf bh
attribute[local go_sem] Oper.semAt_some
namespace LT
variable{C:Array K}{n:Nat}{v:K}{w w0 I:G}
def encStr(s:List aL):List K:= [N (str s)]
def q8(s:List aL):(encStr s).length=1:=rfl
structure AQ where
 nm:List aL
 hv:K
 has:List (List aL)
def GK(g:AQ):List K:= [N (str g.nm),g.hv]
def axD(g:AQ):(GK g).length=2:=rfl
def axE{A:List AQ}(h:aS w 2 GK v A):∃a c,v=E a A c/\A.length<=c/\∀i,(hi:i<A.length)->∃b o,a=some ⟨b,o,none⟩/\w.cell? ⟨b,o+i*2,none⟩=some (N (str A[i].nm))/\w.cell? ⟨b,o+i*2+1,none⟩=some A[i].hv:=by obtain⟨a,c,h1,h2,T,af⟩:=h;refine⟨a,c,h1,h2,λi hi=> ?_⟩;obtain⟨b,o,e,k⟩:=af i hi;exact⟨b,o,e,k 0 (by simp[GK]),k 1 (by simp[GK])⟩
def Rc{A:List (List aL)}(h:aS w 1 encStr v A):∃a c,v=E a A c/\A.length<=c/\∀i,(hi:i<A.length)->∃b o,a=some ⟨b,o,none⟩/\w.cell? ⟨b,o+i,none⟩=some (N (str A[i])):=by obtain⟨a,c,h1,h2,T,af⟩:=h;refine⟨a,c,h1,h2,λi hi=> ?_⟩;obtain⟨b,o,e,k⟩:=af i hi;have eK:=k 0 (by simp[encStr]);exact⟨b,o,e,by simpa[encStr]using eK⟩
theorem axF(s:bn)(a:Option Addr)(n c:Nat)(w:G):aM 422 #[N s,E a n c] w (bg #[N s,E a n c]):=by unfold aM;go_in;go_wp2_with(refine wpList_store_rowTo rfl 511 _ _ rfl rfl w.heap.size #[N s,E a n c] jU jU 511 _ (bA w _) aj aj aj ?_;rw[World.setRow_alloc_new]);exact cO (lQ results422 _ _ w 511 #[N s,E a n c] (0,0) _ rfl (bA w _) underlying511 rfl aj) rfl ⟨rfl,(O w).alloc _⟩
def axG(k:Nat):List aL:=(wO.getD k ([],[])).1
def ME(k:Nat):List (List aL):=(wO.getD k ([],[])).2
def axH(w:G)(k:Nat):AQ:=⟨axG k,E (some w) (ME k).length (ME k).length,ME k⟩
structure Et(w0:G)(n:Nat)(ht:List AQ)(w:G):Prop where
 x:Ext w0 w
 g:∀g∈ht,aS w 1 encStr g.hv g.has/\∃b,g.hv=E (some ⟨b,0,none⟩) g.has.length g.has.length/\w0.heap.size<=b
def Et.step{ht:List AQ}(h:Et w0 n ht w)(D:Ext (w.alloc (J C 9)) I)(cq:((ME n).flatMap encStr).toArray=C):Et w0 (n+1) (ht++[axH w n]) I:=by
 have Q:=((O w).alloc (J C 9)).trans D;refine⟨h.x.trans Q,λg hg=> ?_⟩;rcases iZ.1 hg with hg|hg
 ·exact⟨(h.g g hg).1.ext Q,(h.g g hg).2⟩
 ·rw[pI.1 hg];have hr:=jh q8 w (ME n) 9 _ rfl;rw[cq]at hr;exact⟨hr.ext D,_,rfl,h.x.size⟩
def Et.fin{ht:List AQ}(h:Et w0 n ht w)(R:ht.map (λg=>(g.nm,g.has))=wO)(cq:(ht.flatMap GK).toArray=C)(X:ht.length=18):(∃v ht,Ending.returned (E (some w) 18 18)=aI v/\aS (w.alloc (J C 511)) 2 GK v ht/\ht.map (λg=>(g.nm,g.has))=wO/\∀g∈ht,aS (w.alloc (J C 511)) 1 encStr g.hv g.has/\∃b,g.hv=E (some ⟨b,0,none⟩) g.has.length g.has.length/\w0.heap.size<=b)/\Ext w0 (w.alloc (J C 511)):=by have D:=(O w).alloc (J C 511);have hr:=jh axD w ht 511 _ rfl;rw[cq,X]at hr;exact⟨⟨_,ht,rfl,hr,R,λg hg=>⟨(h.g g hg).1.ext D,(h.g g hg).2⟩⟩,h.x.trans D⟩
theorem axI(w:G):Calls prog 416 #[] w λe F=>(∃v ht,e=aI v/\aS F 2 GK v ht/\ht.map (λg=>(g.nm,g.has))=wO/\∀g∈ht,aS F 1 encStr g.hv g.has/\∃b,g.hv=E (some ⟨b,0,none⟩) g.has.length g.has.length/\w.heap.size<=b)/\Ext w F:=by
 have bC:Hid (Et w 0 [] w):=z ⟨O _,λ_ h=>by cases h⟩;go_in
 iterate 18
  go_wp2_with fail;refine ak (axF _ _ _ _ _) ?_;intro I Q;replace bC:=z (Et.step bC.o Q aj)
 go_wp2_with fail;go_ret;exact Et.fin bC.o aj aj aj
end LT
variable{S:Prop}
def agZ(h:S:=by have axJ:=z R;go_wp2_with fail;go_ret;exact⟨by rw[axJ.o];rfl,Q⟩):S:=h
def ag0(h:S:=by
 cases R:rU (bytes s)with
 |none=>rfl
 |some l=>have:=acR _ (PY R);simp only at this;omega):S:=h
def ag1(h:S:=by rw[show(λg:AQ=>g.nm==bytes s)=(λx=>x.1==bytes s)∘(λg:AQ=>(g.nm,g.has))from rfl]at h;rw[h];rfl):S:=h
def ag2(h:S:=by rw[R]at am;have hr:=acS R;rw[hr];have nf:=z am;unfold aM;go_in;go_wp2_with fail;refine ak nf.o ?_;intro I Q;go_wp2_with fail;exact K7):S:=h
namespace LT
variable{B:Nat}{W w F:G}{a b v:K}
def Rf(B:Nat)(w:G)(v:K):Option (List (List aL))->Prop
 |some l=>(∃b c,v=E (some ⟨b,0,none⟩) l c/\B<=b)/\aS w 1 encStr v l
 |none=>v=E none 0 0
def Rf.ext{o:Option (List (List aL))}(h:Rf B w v o)(D:Ext w F):Rf B F v o:=by
 cases o with
 |none=>exact h
 |some l=>exact⟨h.1,h.2.ext D⟩
def oU{t:dD}(V:W.heap[B]?=some (J #[a,b] t (0,0))):W.cell? B=some a/\W.cell? ⟨B,1,none⟩=some b:=
 ⟨by simp[World.cell?,V],by simp[World.cell?,V]⟩
theorem Rh(s:bn)(w:G):Calls prog 406 #[N s] w λe F=>Ext w F/\∃v,e=aI v/\Rf w F v (rU (bytes s)):=by
 go_in;go_wp2_with fail;refine(axI _).mono ?_;rintro e I ⟨⟨v,ht,rfl,hr,Au,fX⟩,Q⟩;have em:rU (bytes s)=(ht.find? (λg=>g.nm==bytes s)).map (·.has):=by
  unfold rU;rw[<-Au,List.find?_map];cases h:ht.find? (λg=>g.nm==bytes s)with
  |none=>exact ag1
  |some g=>exact ag1
 obtain⟨a,c,rfl,ep,bV⟩:=axE hr;have X:ht.length=18:=by rw[show ht.length=wO by rw[<-Au,dL]];rfl
 have cW:=z em;have Vc:=z fX;have aM0:ht.length<=1000:=aE;have ec:=z X;have bF:=z Q;have dt:=z bV;clear fX X Q bV hr Au em ep;go_wp2_with fail;go_loopw [7] (λi wr=>∃k:Nat,k<=ht/\i=H k/\Ext I wr/\∀(j:Nat) (Z:j<ht),j<k->(ht[j].nm==bytes s)=false) (λi _=>ht.length-(intOf i).toNat)
 case atStart=>exact⟨0,aE,rfl,O _,λj _ h=>aE⟩
 case round=>
  obtain⟨k,hk,rfl,D,hp⟩:=hrel;have aT:=z D;have nF:=z hp;clear hp;by_cases ad:k<ht
  ·obtain⟨b,o,rfl,ae,h1⟩:=dt.o k ad;replace ae:=D.cell ae;replace h1:=D.cell h1;have aW:=FP (str ht[k].nm) s;rw[nP]at aW;have b8:(ht[k].nm==bytes s)=true->ht.find? (λg=>g.nm==bytes s)=some ht[k]:=λh=>xO (p:=λg:AQ=>g.nm==bytes s) ad nF.o h
   have dT:(ht[k].nm==bytes s)=false->∀(j:Nat) (Z:j<ht.length),j<k+1->(ht[j].nm==bytes s)=false:=λai j Z h=>by
    by_cases e:j=k
    ·subst e;exact ai
    ·exact nF.o j Z aE
   have Eu:=Vc.o ht[k] (eB ad);generalize ht[k]=g at *;obtain⟨nm,hv,has⟩:=g;dsimp only at *;generalize(nm==bytes s)=sY at *;have Md:=z b8;have V':=z dT;obtain⟨Eu,b0,rfl,fN⟩:=Eu;have MF:=z (ah Eu fN);cases sY
   ·go_wp2_with fail;go_roundw
    case rel=>exact⟨k+1,aE,cZ,aT.o.alloc _,V'.o (by trivial)⟩
    case measure=>exact eO
   ·go_wp2_with fail;go_ret;refine⟨bF.o.trans (aT.o.alloc _),_,rfl,?_⟩;rw[cW.o,Md.o (by trivial)];exact⟨⟨b0,_,rfl,MF.o.2⟩,MF.o.1.ext (aT.o.alloc _)⟩
  ·have sq:k=ht.length:=aE;have It:ht.find? (λg=>g.nm==bytes s)=none:=FR (λj Z=>nF.o j Z aE);have cD:=z It;go_wp2_with fail;go_ret;exact⟨bF.o.trans aT.o,_,rfl,by rw[cW.o,cD.o];rfl⟩
theorem Xb(s:bn)(w:G):aM 403 #[N s] w (av (rU (bytes s)).isSome):=by
 have em:=Rh s w;have pf:=z em;unfold aM;go_in;go_wp2_with fail;refine pf.o.mono ?_;rintro e I ⟨Q,v,rfl,hv⟩;cases R:rU (bytes s)with
 |none=>
  rw[R]at hv;have vA:v=E none 0 0:=hv;subst vA;have aW:∀W,(binOp .neq 293 (E none 0 0) (E none 0 0)).run prog W= .ok (av false) W:=λW=>rfl
  exact agZ
 |some l=>
  rw[R]at hv;obtain⟨⟨b,c,rfl,-⟩,-⟩:=hv;have aW:∀W,(binOp .neq 293 (E (some b) l c) (E none 0 0)).run prog W= .ok (av true) W:=λW=>rfl
  exact agZ
def Jd(l:List (List aL))(n:Nat):Nat:=l.foldl (λn m=>max n (nQ m)) n
theorem axK(k:Nat):∀(s:bn)(w:G),nQ (bytes s)<=k->aM 404 #[N s] w (H (nQ (bytes s):Int)):=by
 induction k with
 |zero=>
  intro s w h;have R:rU (bytes s)=none:=ag0
  have am:=Xb s w;exact ag2
 |succ k b9=>
  intro s w h;have am:=Xb s w;have em:=λW=>Rh s W
  cases R:rU (bytes s)with
  |none=>exact ag2
  |some l=>
   rw[R]at am em;have hg:=PY R;have hr:nQ (bytes s)=Jd l 0+1:=acR _ hg;have gd:∀m∈l,nQ m<=k:=λm h2=>by have:=Vd _ hg m h2;simp only at this;omega
   have ag3:l.length<=8:=(DC _ hg).2.1;have a9:nQ (bytes s)<=6:=(DC _ hg).1;rw[hr];have aM1:Jd l 0<=5:=aE;have axL:∀m∈l,nQ m<=6:=λm h2=>by have:=Vd _ hg m h2;simp only at this;omega
   have cg:=z (ah b9 (ah gd axL));have nf:=z am;have pf:=z em;generalize cE:Jd l 0=ax at *;have fj:=z cE;unfold aM;go_in;go_wp2_with fail;refine ak nf.o ?_;intro I Q;have bF:=z Q;go_wp2_with fail;refine(pf.o _).mono ?_;rintro e aO ⟨ag,v,rfl,⟨b0,c0,rfl,-⟩,cQ⟩;obtain⟨a,c,aV,-,bV⟩:=Rc cQ;simp only[eZ]at aV;obtain⟨rfl,-,rfl⟩:=aV;have ca:=z (bF.o.trans ag);have dt:=z bV;go_wp2_with fail;go_loopw [3,12] (λn i wr=>∃(j m:Nat),j<=l/\i=H j/\n=H m/\m<=6/\Jd (l.drop j) m=ax/\Ext aO wr) (λ_ i _=>l.length-(intOf i).toNat)
   case atStart=>exact⟨0,0,aE,rfl,rfl,aE,fj.o,O _⟩
   case round=>
    obtain⟨j,m,Z,rfl,rfl,GF,Gw,D⟩:=hrel;by_cases ad:j<l
    ·obtain⟨b,o,cC,ae⟩:=dt.o j ad;cases cC
     replace ae:=D.cell ae;rw[gF]at ae;rw[kQ ad]at Gw;have gd:=cg.o.2.1 l[j] (eB ad);have v0:=cg.o.2.2 l[j] (eB ad);have bU:Jd (l[j]::l.drop (j+1)) m=Jd (l.drop (j+1)) (max m (nQ l[j])):=rfl;rw[bU]at Gw;have Rd:=λW=>cg.o.1 (str l[j]) W (by rw[nP];exact gd)
     simp only[nP]at Rd;have aT:=z D;have axM:=z Gw;generalize nQ l[j]=q at *;generalize str l[j]=aM2 at *;have Xc:=z Rd;go_wp2_with fail;refine ak (Xc.o _) ?_;intro dC cN;go_wp2_with fail;refine⟨⟨j+1,max m q,aE,cZ,?_,aE,axM.o,aT.o.trans cN⟩,by simp[intOf];omega⟩
     congr 1
     omega
    ·have Re:j=l.length:=aE;rw[Re,qy]at Gw;have axN:m=ax:=Gw;subst axN;have aT:=z D;go_wp2_with fail;go_ret;exact⟨rfl,ca.o.trans aT.o⟩
end LT
def Xd(h:S:=by have ag4:=z sz;clear sz GG t1 lL;exact ag5):S:=h
def Xe(h:S:=by have ag4:=z sz;clear sz GG t1 lL Cc p7;exact ag5):S:=h
def ag5(h:S:=by
 refine⟨?_,by simp[intOf];omega⟩
 repeat apply Exists.intro
 exact⟨ag4.o,rfl⟩):S:=h
def Xf(h:S:=by
 refine⟨_,dk,cap,rfl,p7.o,cF,by rw[<-a9,e'],.inr ⟨_,cap,_,rfl,hH,Cc.o.1,Je,mv,?_,?_⟩⟩
 ·rw[ku,length_splice _ _ _ (by rw[FF,aQ];omega),aQ]
 ·unfold splice;rw[<-a9]
  first
   |exact List.take_left' e'
   |(simp only[qA]at e'⊢;exact List.take_left' e')):S:=h
def Xg(h:S:=by obtain⟨a,c,rfl⟩:=dP ho;have cx:=z ho;have cg:=z bS;have t6:=z aW;clear ho bS f2 aW;go_in;go_wp2_with fail;refine ak cg.o ?_;intro I Q;go_wp2_with fail;go_ret;rw[t6.o];exact⟨a,_,c,rfl,Q.mono hB,rfl,qB cx.o (Keep.of_below Q (λ_ hk=>hk)) (λb e=>(cx.o.lt b e).2)⟩):S:=h
def ag6(h:S:=by
 have oB:=z f2;have gt:=z bV;clear f2 bV;unfold aM;go_in;go_wp2_with fail;go_loopw [5,8] (λ_ i wr=>∃k:Nat,k<=A/\i=H k/\Ext w wr/\gM p A 0=gM p (A.drop k) k) (λ_ i _=>A.length-(intOf i).toNat)
 case atStart=>exact⟨0,aE,rfl,O _,rfl⟩
 case round=>
  obtain⟨k,hk,rfl,D,b4⟩:=hrel;have aT:=z D;have cI:=z b4;clear b4;by_cases ad:k<A
  ·obtain⟨b,o,rfl,ae⟩:=gt.o k ad;replace ae:=D.cell ae;have gg:=z (kQ ad);have ve:=z (oB.o A[k] (eB ad));clear D;generalize A[k]=x at *;go_wp2_with fail;refine ak (ve.o _ aT.o) ?_;intro I Q;have bF:=z (aT.o.trans Q);clear Q ae;exact Wd
  ·obtain rfl:k=A.length:=aE;have bY:Hid (gM p A 0= -1):=z Qw;clear D;go_wp2_with fail;go_ret;rw[bY.o];exact⟨rfl,aT.o⟩):S:=h
def ag7(h:S:=by have:=pF 1 (show t+1<=A.length from an);omega):S:=h
def Xh(h:S:=by first|exact Cc.o.1|(rw[qA];exact Cc.o.1)):S:=h
def Rj(h:S:=by rw[vh];rfl):S:=h
def Xi(h:S:=by intro u a6;revert u;simp[Value.cells,Value.oneCell']):S:=h
namespace LT
variable{B cap g i j k:Nat}{W aa w:G}{el:dD}{α:Type}{enc:α->List K}{p:α->Bool}{A:List α}
def Jf(x:Int):K:=H x
def Jg(x:Nat):K:=M x
def mD(B:Nat)(w:G)(g cap k:Nat)(A:List α)(p:α->Bool)(enc:α->List K)(el:dD)(i j:Nat)(W:G):Prop:=
 ∃L:List K,i<j/\j<=A/\Below B w W/\W.heap[g]?=some (J L.toArray el (0,0))/\L.length=cap*k/\L.take (i*k)=((A.take j).filter (λx=> !p x)).flatMap enc/\i=((A.take j).filter (λx=> !p x)).length/\
  ∀t,(an:t<A.length)->j<=t->∀q,q<k->L[t*k+q]?=(enc A[t])[q]?
def mD.ext(h:mD B w g cap k A p enc el i j W)(hg:g<W.heap.size)(V:Below B W aa)(D:Ext W aa):mD B w g cap k A p enc el i j aa:=by obtain⟨L,h1,h2,T,af,aQ⟩:=h;exact⟨L,h1,h2,T.trans V,(D.block hg).trans af,aQ⟩
def mD.skip(h:mD B w g cap k A p enc el i j W)(Z:j<A)(ac:p A[j]=true):mD B w g cap k A p enc el i (j+1) W:=by
 obtain⟨L,h1,h2,T,af,aQ,a9,cF,eA⟩:=h;have ai:(A.take (j+1)).filter (λx=> !p x)=(A.take j).filter (λx=> !p x):=by rw[List.take_add_one,dK Z,yZ];simp[ac]
 exact⟨L,aE,aE,T,af,aQ,by rw[ai];exact a9,by rw[ai];exact cF,λt an ag8=>eA t an aE⟩
def mD.keep{L:List K}(cp:∀x,(enc x).length=k)(h1:i<j)(Z:j<A)(ao:A.length<=cap)(ac:p A[j]=false)(T:Below B w aa)(aQ:L.length=cap*k)(a9:L.take (i*k)=((A.take j).filter (λx=> !p x)).flatMap enc)(cF:i=((A.take j).filter (λx=> !p x)).length)(eA:∀t,(an:t<A.length)->j<=t->∀q,q<k->L[t*k+q]?=(enc A[t])[q]?)(af:aa.heap[g]?=some (J (splice L (i*k) (enc A[j])).toArray el (0,0))):mD B w g cap k A p enc el (i+1) (j+1) aa:=by
 have ai:(A.take (j+1)).filter (λx=> !p x)=(A.take j).filter (λx=> !p x)++[A[j]]:=by rw[List.take_add_one,dK Z,yZ];simp[ac]
 have kz:(i+1)*k<=cap*k:=pF _ aE;have dp:(i+1)*k=i*k+k:=Nat.succ_mul _ _;have iu:i*k+(enc A[j]).length<=L.length:=by rw[cp,aQ];omega
 have e':(L.take (i*k)).length=i*k:=by rw[gV,aQ];omega
 refine⟨_,aE,aE,T,af,by rw[length_splice _ _ _ iu,aQ],?_,by rw[ai,dA,<-cF];rfl,?_⟩
 ·unfold splice;rw[ai,FD,<-a9,<-gJ,List.take_left' (by rw[dA,e',cp,dp])];simp
 ·intro t an ag8 q aW;have eS:(i+1)*k<=t*k:=pF _ aE;rw[<-eA t an aE q aW];unfold splice;rw[Dl (by rw[e'];omega),Dl (by rw[e',cp];omega),List.getElem?_drop,e',cp]
  congr 1
  omega
def Rk{α:Type}(p:α->Bool):∀(l:List α)(k:Nat),(gM p l k= -1/\l.filter (λx=> !p x)=l)\/∃i,i<l.length/\gM p l k=((k+i:Nat):Int)/\(l.take (i+1)).filter (λx=> !p x)=l.take i
 | [],_=> .inl ⟨rfl,rfl⟩
 |x::r,k=>by
  unfold gM;cases ac:p x
  ·rw[au ay];rcases Rk p r (k+1)with⟨h1,h2⟩|⟨i,hi,h1,h2⟩
   ·exact .inl ⟨h1,by simp only[List.filter_cons,ac];simp;rw[List.filter_eq_self]at h2;exactλa bT=>by simpa using h2 a bT⟩
   ·exact .inr ⟨i+1,by simp;omega,by rw[h1];congr 1;omega,by rw[List.take_succ_cons,List.filter_cons,ac,h2,List.take_succ_cons];rfl⟩
  ·rw[aF rfl];exact .inr ⟨0,ay,rfl,by simp[ac]⟩
theorem axO(g:Nat)(yl:K)(g1:∀args w,(callFunc g args).run prog w= .ok (.enter g args) w)(p:dQ->Bool)(v:K)(A:List dQ)(X:A.length<=1000000)(w:G)(hv:aS w 2 dY v A)(f2:∀x∈A,∀W,Ext w W->Calls prog g #[vO x,yl] W λr F=>r=aI (av (p x))/\Ext W F):aM 96 #[v,.func (.func g) #[] #[yl]] w (H (gM p A 0)):=by
 obtain⟨a,c,rfl,ep,bV⟩:=Aq hv;clear hv;unfold vO at f2;have oB:=z f2;have gt:=z bV;clear f2 bV;unfold aM;go_in;go_wp2_with fail;go_loopw [5,8] (λ_ i wr=>∃k:Nat,k<=A/\i=H k/\Ext w wr/\gM p A 0=gM p (A.drop k) k) (λ_ i _=>A.length-(intOf i).toNat)
 case atStart=>exact qO
 case round=>
  obtain⟨k,hk,rfl,D,b4⟩:=hrel;have aT:=z D;have cI:=z b4;clear b4;by_cases ad:k<A
  ·obtain⟨b,o,rfl,ae,h1⟩:=gt.o k ad;replace ae:=D.cell ae;replace h1:=D.cell h1;have gg:=z (kQ ad);have ve:=z (oB.o A[k] (eB ad));clear D;generalize A[k]=x at *;go_wp2_with fail;refine ak (ve.o _ aT.o) ?_;intro I Q;have bF:=z (aT.o.trans Q);clear Q ae h1;exact Wd
  ·obtain rfl:k=A.length:=aE;have bY:Hid (gM p A 0= -1):=z Qw;clear D;go_wp2_with fail;go_ret;rw[bY.o];exact wL
theorem axP(B:Nat)(gf:Nat)(k8:K)(g1:∀args w,(callFunc gf args).run prog w= .ok (.enter gf args) w)(p:dQ->Bool)(v:K)(A:List dQ)(X:A.length<=1000000)(w:G)(ho:w.ownsRow B 121 2 v A (A.flatMap dY))(hB:B<=w.heap.size)(f2:∀x∈A,∀W,Below B w W->Calls prog gf #[vO x,k8] W λr F=>r=aI (av (p x))/\Ext W F):Calls prog 384 #[v,.func (.func gf) #[] #[k8]] w λe F=>∃bv m bp,e=aI (E bv m bp)/\Below B w F/\m=(A.filter (λx=> !p x)).length/\F.ownsRow B 121 2 (E bv m bp) m ((A.filter (λx=> !p x)).flatMap dY):=by
 obtain⟨hh,kw,nv,hQ,MG⟩:=sJ Me;have bS:=axO gf k8 g1 p v A X w (eD oN ho) (λx D W cJ=>f2 x D W (cJ.mono hB));have kf:=Rk p A 0;generalize gM p A 0=q at *;rcases kf with⟨rfl,aW⟩|⟨i,hi,rfl,aW⟩
 ·exact Xg
 ·rcases ho.2 with⟨-,ae⟩|⟨g,cap,bm,rfl,hH,hg,yp,mv,ci,hc⟩
  ·omega
  have GL:g<w.heap.size:=(dG.1 hg).1;have Ev:mD B w g cap 2 A p dY 121 i (i+1) w:=by
   refine⟨bm.toList,aE,aE,Below.refl _ _,by simpa using hg,by simpa using ci,?_,?_,?_⟩
   ·rw[aW,<-FT oN,<-hc,y7,mQ aE]
   ·rw[aW,gV];omega
   ·intro t an _ q lA;rw[<-flat_get oN A t q an lA,<-hc,FC,aF (by have:=pF 2 (show t+1<=A.length from an);omega)]
  have cg:=z bS;have fj:=z Ev;have oB:=z f2;have vh:(Tryz.prog.info? 121).map (·.size)=some 2:=by rw[kw];simp[hQ]
  clear ho bS f2 aW Ev hc hg ci;go_in;go_wp2_with fail;refine ak cg.o ?_;intro I Q;have tf:=z (fj.o.ext GL (Q.mono hB) Q);clear Q;go_wp2_with fail;go_loopw [5,6,7] (λv1 qq _ wr=>∃dk j:Nat,v1=H dk/\qq=H j/\mD B w g cap 2 A p dY 121 dk j wr) (λ_ qq _ _=>A.length-(intOf qq).toNat)
  case atStart=>exact⟨i,i+1,rfl,cZ,tf.o⟩
  case round=>
   obtain⟨dk,j,rfl,rfl,hd⟩:=hrel;clear cg fj tf;have ox:=hd.choose_spec.1;have so:=hd.choose_spec.2.1;have mT:g<wr.heap.size:=(dG.1 hd.choose_spec.2.2.2.1).1;by_cases ad:j<A
   ·obtain⟨n8,h1,h2,T,af,aQ,a9,cF,eA⟩:=id hd;have c0:wr.cell? ⟨g,j*2,none⟩=some (N (str A[j].nm)):=by have:=eA j ad (aZ _) 0 aE;simpa[World.cell?,af,dY]using this
    have c1:wr.cell? ⟨g,j*2+1,none⟩=some (M (A[j].act:Int)):=by have:=eA j ad (aZ _) 1 aE;simpa[World.cell?,af,dY]using this
    have lL:=z hd;have Je:dk<A:=aE;have ve:=z (oB.o A[j] (eB ad));have t1:=z (λac W h=>mD.skip (B:=B) (w:=w) (g:=g) (cap:=cap) (k:=2) (p:=p) (enc:=dY) (el:=121) (i:=dk) (W:=W) h ad ac);have GG:=z (λac aa V MH=>mD.keep (B:=B) (w:=w) (g:=g) (cap:=cap) (k:=2) (p:=p) (enc:=dY) (el:=121) (i:=dk) (aa:=aa) (L:=n8) oN ox ad yp ac V aQ a9 cF eA MH);have nh:=z (ah T (ah af aQ));clear hd T af aQ a9 cF eA h1 h2;generalize A[j]=x at *;go_wp2_with(first
     |(refine wpList_store_rowTo rfl 121 (.tmp 7) (.tmp 25) rfl rfl wr.heap.size (dY x).toArray rfl rfl 121 _ (by show(wr.heap.push _)[wr.heap.size]?=_;simp;rfl) Rj rfl rfl ?_;simp only[World.setRow_alloc_new]))
    refine ak (ve.o _ (nh.o.1.alloc aE _)) ?_;intro aO ag;have ca:=z (((O wr).alloc _).trans ag);have js:=z ((nh.o.1.alloc (show B<=wr.heap.size from aE) _).trans (ag.mono Ir));have c2:aO.cell? wr=some (N (str x.nm)):=ag.cell (World.cell?_alloc_at (w:=wr) _ _ _ 0 rfl);have c3:aO.cell? ⟨wr,1,none⟩=some (M x.act):=ag.cell (World.cell?_alloc_at (w:=wr) _ _ _ 1 rfl);clear ag;have bK:=z ((ca.o.block mT).trans nh.o.2.1);have iu:(dk*2)+(dY x).length<=n8.length:=by rw[oN,nh.o.2.2];omega
    cases R:p x
    ·go_wp2_with(refine PS rfl 121 (.tmp 33) (.tmp 32) rfl rfl g (dk*2) (vO x) (dY x) rfl rfl 121 n8 bK.o Rj rfl iu (IG x) B w js.o hH ?_;intro bj Cc rS;have p7:=z rS;clear rS);have sz:∃a b:Nat,(Value.int .i64 ((dk:Int)+1))=H a/\(Value.int .i64 ((j:Int)+1))=H b/\mD B w g cap 2 A p dY 121 a b bj:=⟨dk+1,j+1,cZ,cZ,GG.o R _ p7.o Xh⟩;exact Xe
    ·go_wp2_with fail;have sz:∃a b:Nat,(Value.int .i64 dk)=H a/\(Value.int .i64 ((j:Int)+1))=H b/\mD B w g cap 2 A p dY 121 a b aO:=⟨dk,j+1,rfl,cZ,t1.o R _ (lL.o.ext mT (ca.o.mono aE) ca.o)⟩;exact Xd
   ·obtain⟨n8,h1,h2,T,af,aQ,a9,cF,eA⟩:=hd;obtain rfl:j=A.length:=aE;rw[iR]at a9 cF;have gb:=z (ah a9 (ah cF aQ));have Ew:=z (ah T af);have iu:(dk*2)+(A.length-dk)*(bg #[N ⟨#[]⟩,M 0]:K).cells.size<=n8.length:=by rw[show(bg #[N ⟨#[]⟩,M 0]:K).cells.size=2 from rfl,aQ];omega
    have p3:0<A.length-dk:=aE;have Rg:¬(cap=dk):=aE;have Je:dk<=cap:=aE;have rn:dk<=A:=aE;clear T af aQ a9 cF eA;go_wp2_with(refine U4 rfl (.tmp 38) 29 rfl 121 hh _ underlying29 kw nv g (dk*2) (A.length-dk) (cap-dk) p3 rfl 121 n8 Ew.o.2 iu Xi B w Ew.o.1 hH ?_;intro bj Cc rS;have p7:=z rS;clear rS);go_ret;obtain⟨a9,cF,aQ⟩:=gb.o;have e':(n8.take (dk*2)).length=dk*2:=by rw[gV,aQ];omega
    have FF:(Builtin.zeroCells (bg #[N ⟨#[]⟩,M 0]:K).cells (A.length-dk)).toList.length=(A.length-dk)*2:=by simp[Builtin.zeroCells,Value.cells]
    exact Xf
theorem axQ(g:Nat)(yl:K)(g1:∀args w,(callFunc g args).run prog w= .ok (.enter g args) w)(p:Int->Bool)(v:K)(A:List Int)(X:A.length<=1000000)(w:G)(hv:aS w 1 iB v A)(f2:∀x∈A,∀W,Ext w W->Calls prog g #[Jf x,yl] W λr F=>r=aI (av (p x))/\Ext W F):aM 280 #[v,.func (.func g) #[] #[yl]] w (H (gM p A 0)):=by obtain⟨a,c,rfl,ep,bV⟩:=Gf hv;clear hv;unfold Jf at f2;exact ag6
theorem axR(B:Nat)(gf:Nat)(k8:K)(g1:∀args w,(callFunc gf args).run prog w= .ok (.enter gf args) w)(p:Int->Bool)(v:K)(A:List Int)(X:A.length<=1000000)(w:G)(ho:w.ownsRow B 3 1 v A (A.flatMap iB))(hB:B<=w.heap.size)(f2:∀x∈A,∀W,Below B w W->Calls prog gf #[Jf x,k8] W λr F=>r=aI (av (p x))/\Ext W F):Calls prog 345 #[v,.func (.func gf) #[] #[k8]] w λe F=>∃bv m bp,e=aI (E bv m bp)/\Below B w F/\m=(A.filter (λx=> !p x)).length/\F.ownsRow B 3 1 (E bv m bp) m ((A.filter (λx=> !p x)).flatMap iB):=by
 obtain⟨hh,kw,nv,hQ,MG⟩:=sJ DY;have bS:=axQ gf k8 g1 p v A X w (eD vP ho) (λx D W cJ=>f2 x D W (cJ.mono hB));have kf:=Rk p A 0;generalize gM p A 0=q at *;rcases kf with⟨rfl,aW⟩|⟨i,hi,rfl,aW⟩
 ·exact Xg
 ·rcases ho.2 with⟨-,ae⟩|⟨g,cap,bm,rfl,hH,hg,yp,mv,ci,hc⟩
  ·omega
  have GL:g<w.heap.size:=(dG.1 hg).1;have Ev:mD B w g cap 1 A p iB 3 i (i+1) w:=by
   refine⟨bm.toList,aE,aE,Below.refl _ _,by simpa using hg,by simpa using ci,?_,?_,?_⟩
   ·rw[aW,<-FT vP,<-hc,y7,mQ aE]
   ·rw[aW,gV];omega
   ·intro t an _ q lA;rw[<-flat_get vP A t q an lA,<-hc,FC,aF ag7]
  have cg:=z bS;have fj:=z Ev;have oB:=z f2;have vh:(Tryz.prog.info? 3).map (·.size)=some 1:=by rw[kw];simp[hQ]
  clear ho bS f2 aW Ev hc hg ci;go_in;go_wp2_with fail;refine ak cg.o ?_;intro I Q;have tf:=z (fj.o.ext GL (Q.mono hB) Q);clear Q;go_wp2_with fail;go_loopw [5,6,7] (λv1 qq _ wr=>∃dk j:Nat,v1=H dk/\qq=H j/\mD B w g cap 1 A p iB 3 dk j wr) (λ_ qq _ _=>A.length-(intOf qq).toNat)
  case atStart=>exact⟨i,i+1,rfl,cZ,tf.o⟩
  case round=>
   obtain⟨dk,j,rfl,rfl,hd⟩:=hrel;clear cg fj tf;have ox:=hd.choose_spec.1;have so:=hd.choose_spec.2.1;have mT:g<wr.heap.size:=(dG.1 hd.choose_spec.2.2.2.1).1;by_cases ad:j<A
   ·obtain⟨n8,h1,h2,T,af,aQ,a9,cF,eA⟩:=id hd;have c0:wr.cell? ⟨g,j,none⟩=some (H A[j]):=by have:=eA j ad (aZ _) 0 aE;simpa[World.cell?,af,iB]using this
    have lL:=z hd;have Je:dk<A:=aE;have ve:=z (oB.o A[j] (eB ad));have t1:=z (λac W h=>mD.skip (B:=B) (w:=w) (g:=g) (cap:=cap) (k:=1) (p:=p) (enc:=iB) (el:=3) (i:=dk) (W:=W) h ad ac);have GG:=z (λac aa V MH=>mD.keep (B:=B) (w:=w) (g:=g) (cap:=cap) (k:=1) (p:=p) (enc:=iB) (el:=3) (i:=dk) (aa:=aa) (L:=n8) vP ox ad yp ac V aQ a9 cF eA MH);have nh:=z (ah T (ah af aQ));clear hd T af aQ a9 cF eA h1 h2;generalize A[j]=x at *;go_wp2_with fail;refine ak (ve.o _ nh.o.1) ?_;intro aO ag;have ca:=z ag;have js:=z (nh.o.1.trans (ag.mono aE))
    skip
    clear ag;have bK:=z ((ca.o.block mT).trans nh.o.2.1);have iu:dk+(iB x).length<=n8.length:=by rw[vP,nh.o.2.2];omega
    cases R:p x
    ·go_wp2_with(refine PS rfl 3 (.tmp 33) (.tmp 32) rfl rfl g dk (Jf x) (iB x) rfl rfl 3 n8 bK.o Rj rfl iu (II x) B w js.o hH ?_;intro bj Cc rS;have p7:=z rS;clear rS);have sz:∃a b:Nat,(Value.int .i64 ((dk:Int)+1))=H a/\(Value.int .i64 ((j:Int)+1))=H b/\mD B w g cap 1 A p iB 3 a b bj:=⟨dk+1,j+1,cZ,cZ,GG.o R _ p7.o Xh⟩;exact Xe
    ·go_wp2_with fail;have sz:∃a b:Nat,(Value.int .i64 dk)=H a/\(Value.int .i64 ((j:Int)+1))=H b/\mD B w g cap 1 A p iB 3 a b aO:=⟨dk,j+1,rfl,cZ,t1.o R _ (lL.o.ext mT (ca.o.mono aE) ca.o)⟩;exact Xd
   ·obtain⟨n8,h1,h2,T,af,aQ,a9,cF,eA⟩:=hd;obtain rfl:j=A.length:=aE;rw[iR]at a9 cF;have gb:=z (ah a9 (ah cF aQ));have Ew:=z (ah T af);have iu:dk+(A.length-dk)*(H 0:K).cells.size<=n8.length:=by rw[show(H 0:K).cells.size=1 from rfl,aQ];omega
    have p3:0<A.length-dk:=aE;have Rg:¬(cap=dk):=aE;have Je:dk<=cap:=aE;have rn:dk<=A:=aE;clear T af aQ a9 cF eA;go_wp2_with(refine U4 rfl (.tmp 38) 28 rfl 3 hh _ underlying28 kw nv g dk (A.length-dk) (cap-dk) p3 rfl 3 n8 Ew.o.2 iu Xi B w Ew.o.1 hH ?_;intro bj Cc rS;have p7:=z rS;clear rS);go_ret;obtain⟨a9,cF,aQ⟩:=gb.o;have e':(n8.take (dk*1)).length=dk*1:=by rw[gV,aQ];omega
    have FF:(Builtin.zeroCells (H 0:K).cells (A.length-dk)).toList.length=(A.length-dk)*1:=by simp[Builtin.zeroCells,Value.cells]
    exact Xf
theorem axS(g:Nat)(yl:K)(g1:∀args w,(callFunc g args).run prog w= .ok (.enter g args) w)(p:Nat->Bool)(v:K)(A:List Nat)(X:A.length<=1000000)(w:G)(hv:aS w 1 iC v A)(f2:∀x∈A,∀W,Ext w W->Calls prog g #[Jg x,yl] W λr F=>r=aI (av (p x))/\Ext W F):aM 390 #[v,.func (.func g) #[] #[yl]] w (H (gM p A 0)):=by obtain⟨a,c,rfl,ep,bV⟩:=IJ hv;clear hv;unfold Jg at f2;exact ag6
theorem axT(B:Nat)(gf:Nat)(k8:K)(g1:∀args w,(callFunc gf args).run prog w= .ok (.enter gf args) w)(p:Nat->Bool)(v:K)(A:List Nat)(X:A.length<=1000000)(w:G)(ho:w.ownsRow B 32 1 v A (A.flatMap iC))(hB:B<=w.heap.size)(f2:∀x∈A,∀W,Below B w W->Calls prog gf #[Jg x,k8] W λr F=>r=aI (av (p x))/\Ext W F):Calls prog 349 #[v,.func (.func gf) #[] #[k8]] w λe F=>∃bv m bp,e=aI (E bv m bp)/\Below B w F/\m=(A.filter (λx=> !p x)).length/\F.ownsRow B 32 1 (E bv m bp) m ((A.filter (λx=> !p x)).flatMap iC):=by
 obtain⟨hh,kw,nv,hQ,MG⟩:=sJ D5;have bS:=axS gf k8 g1 p v A X w (eD sQ ho) (λx D W cJ=>f2 x D W (cJ.mono hB));have kf:=Rk p A 0;generalize gM p A 0=q at *;rcases kf with⟨rfl,aW⟩|⟨i,hi,rfl,aW⟩
 ·exact Xg
 ·rcases ho.2 with⟨-,ae⟩|⟨g,cap,bm,rfl,hH,hg,yp,mv,ci,hc⟩
  ·omega
  have GL:g<w.heap.size:=(dG.1 hg).1;have Ev:mD B w g cap 1 A p iC 32 i (i+1) w:=by
   refine⟨bm.toList,aE,aE,Below.refl _ _,by simpa using hg,by simpa using ci,?_,?_,?_⟩
   ·rw[aW,<-FT sQ,<-hc,y7,mQ aE]
   ·rw[aW,gV];omega
   ·intro t an _ q lA;rw[<-flat_get sQ A t q an lA,<-hc,FC,aF ag7]
  have cg:=z bS;have fj:=z Ev;have oB:=z f2;have vh:(Tryz.prog.info? 32).map (·.size)=some 1:=by rw[kw];simp[hQ]
  clear ho bS f2 aW Ev hc hg ci;go_in;go_wp2_with fail;refine ak cg.o ?_;intro I Q;have tf:=z (fj.o.ext GL (Q.mono hB) Q);clear Q;go_wp2_with fail;go_loopw [5,6,7] (λv1 qq _ wr=>∃dk j:Nat,v1=H dk/\qq=H j/\mD B w g cap 1 A p iC 32 dk j wr) (λ_ qq _ _=>A.length-(intOf qq).toNat)
  case atStart=>exact⟨i,i+1,rfl,cZ,tf.o⟩
  case round=>
   obtain⟨dk,j,rfl,rfl,hd⟩:=hrel;clear cg fj tf;have ox:=hd.choose_spec.1;have so:=hd.choose_spec.2.1;have mT:g<wr.heap.size:=(dG.1 hd.choose_spec.2.2.2.1).1;by_cases ad:j<A
   ·obtain⟨n8,h1,h2,T,af,aQ,a9,cF,eA⟩:=id hd;have c0:wr.cell? ⟨g,j,none⟩=some (M (A[j]:Int)):=by have:=eA j ad (aZ _) 0 aE;simpa[World.cell?,af,iC]using this
    have lL:=z hd;have Je:dk<A:=aE;have ve:=z (oB.o A[j] (eB ad));have t1:=z (λac W h=>mD.skip (B:=B) (w:=w) (g:=g) (cap:=cap) (k:=1) (p:=p) (enc:=iC) (el:=32) (i:=dk) (W:=W) h ad ac);have GG:=z (λac aa V MH=>mD.keep (B:=B) (w:=w) (g:=g) (cap:=cap) (k:=1) (p:=p) (enc:=iC) (el:=32) (i:=dk) (aa:=aa) (L:=n8) sQ ox ad yp ac V aQ a9 cF eA MH);have nh:=z (ah T (ah af aQ));clear hd T af aQ a9 cF eA h1 h2;generalize A[j]=x at *;go_wp2_with fail;refine ak (ve.o _ nh.o.1) ?_;intro aO ag;have ca:=z ag;have js:=z (nh.o.1.trans (ag.mono aE))
    skip
    clear ag;have bK:=z ((ca.o.block mT).trans nh.o.2.1);have iu:dk+(iC x).length<=n8.length:=by rw[sQ,nh.o.2.2];omega
    cases R:p x
    ·go_wp2_with(refine PS rfl 32 (.tmp 33) (.tmp 32) rfl rfl g dk (Jg x) (iC x) rfl rfl 32 n8 bK.o Rj rfl iu (DZ x) B w js.o hH ?_;intro bj Cc rS;have p7:=z rS;clear rS);have sz:∃a b:Nat,(Value.int .i64 ((dk:Int)+1))=H a/\(Value.int .i64 ((j:Int)+1))=H b/\mD B w g cap 1 A p iC 32 a b bj:=⟨dk+1,j+1,cZ,cZ,GG.o R _ p7.o Xh⟩;exact Xe
    ·go_wp2_with fail;have sz:∃a b:Nat,(Value.int .i64 dk)=H a/\(Value.int .i64 ((j:Int)+1))=H b/\mD B w g cap 1 A p iC 32 a b aO:=⟨dk,j+1,rfl,cZ,t1.o R _ (lL.o.ext mT (ca.o.mono aE) ca.o)⟩;exact Xd
   ·obtain⟨n8,h1,h2,T,af,aQ,a9,cF,eA⟩:=hd;obtain rfl:j=A.length:=aE;rw[iR]at a9 cF;have gb:=z (ah a9 (ah cF aQ));have Ew:=z (ah T af);have iu:dk+(A.length-dk)*(M 0:K).cells.size<=n8.length:=by rw[show(M 0:K).cells.size=1 from rfl,aQ];omega
    have p3:0<A.length-dk:=aE;have Rg:¬(cap=dk):=aE;have Je:dk<=cap:=aE;have rn:dk<=A:=aE;clear T af aQ a9 cF eA;go_wp2_with(refine U4 rfl (.tmp 38) 33 rfl 32 hh _ underlying33 kw nv g dk (A.length-dk) (cap-dk) p3 rfl 32 n8 Ew.o.2 iu Xi B w Ew.o.1 hH ?_;intro bj Cc rS;have p7:=z rS;clear rS);go_ret;obtain⟨a9,cF,aQ⟩:=gb.o;have e':(n8.take (dk*1)).length=dk*1:=by rw[gV,aQ];omega
    have FF:(Builtin.zeroCells (M 0:K).cells (A.length-dk)).toList.length=(A.length-dk)*1:=by simp[Builtin.zeroCells,Value.cells]
    exact Xf
abbrev Xj(a b:List aL):Bool:=Op.bytesLess a b
def GN(c:dQ):Bool:=oJ c.nm&&wP c.act
def MI:Option (List aL)->List aL->Bool
 |none,_=>true
 |some q,n=>Xj q n
def vS:Option (List aL)->List dQ->Bool
 |_,[]=>true
 |p,c::r=>GN c&&(MI p c.nm&&vS (some c.nm) r)
def iE(m:Nat)(U:List dQ):Bool:=decide (m<=2)&&((!(m==0)||U.isEmpty)&&vS none U)
def MJ(U:List dQ)(k:Nat):Option (List aL):=match k with
 |0=>none
 |j+1=>(U[j]?).map (·.nm)
def q9(m:Nat)(v:K):K:=bg #[aC m,v]
theorem MK(m:Nat)(v:K)(U:List dQ)(X:U.length<=1000000)(w:G)(hv:aS w 2 dY v U):Calls prog 59 #[q9 m v] w λr F=>r=aI (av (iE m U))/\Ext w F:=by
 obtain⟨a,c,rfl,-,bV⟩:=Aq hv;have R:iE m U=(decide (m<=2)&&((!(m==0)||U.isEmpty)&&vS none U)):=rfl;have ef:decide ((2:Int)<m)=decide (2<m):=by rw[dW];simp;omega
 have cY:((m:Int)==0)=(m==0):=by rw[dW];simp
 have eh:decide ((0:Int)<U)= !U.isEmpty:=by rw[dW];cases U<;>simp<;>omega
 have hL:decide (0<U.length)= !U.isEmpty:=by rw[dW];cases U<;>simp
 generalize iE m U=aH at *;have cW:=z R;have dt:=z bV;clear R hv bV;unfold q9;by_cases h2:2<m
 ·have cs:decide (2<m)=true:=dH h2;have bd:aH=false:=by rw[cW.o,dM aE];rfl
  subst bd;rw[cs]at ef;go_in;go_wp2_with fail;go_ret;exact Dn
 have cs:decide (2<m)=false:=dM h2;rw[cs]at ef;obtain⟨bX,gh⟩:∃bX,w.alloc (J #[aC m,E a U c] 31)=bX:=⟨_,rfl⟩;have fN:bX.heap[w.heap.size]?=some (J #[aC m,E a U c] 31 (0,0)):=by rw[<-gh];exact bA _ _
 have d6:Ext w bX:=by rw[<-gh];exact(O _).alloc _
 obtain⟨b0,b1⟩:=oU fN;have Bi:=z fN;have tg:=z d6;clear fN d6;by_cases ae:(!(m==0)||U.isEmpty)=true
 ·have bd:aH=vS none U:=by rw[cW.o,dH aE,ae];rfl
  have cD:=z bd;clear bd;have WU:∀(aq:Prop),True:=λ_=>trivial
  have key:Calls prog 59 #[bg #[aC m,E a U c]] w λr F=>r=aI (av aH)/\Ext w F:=by
   have kf:(m==0)=false\/((m==0)=true/\U.isEmpty=true):=by
    cases jx:(m==0)
    ·exact xI
    ·rw[jx]at ae;exact .inr ⟨rfl,by simpa using ae⟩
   clear ae WU;rcases kf with jx|⟨jx,Jh⟩
   all_goals
    rw[jx]at cY
    try rw[Jh]at eh hL
    try simp only[Bool.not_true]at eh hL
    go_in;go_wp2_with fail;go_loopw [22] (λi wr=>∃k:Nat,k<=U/\i=H k/\Ext bX wr/\vS none U=vS (MJ U k) (U.drop k)) (λi _=>U.length-(intOf i).toNat)
    case atStart=>exact⟨0,aE,rfl,O _,rfl⟩
    case round=>
     obtain⟨k,hk,rfl,D,b4⟩:=hrel;have aT:=z D;have cI:=z b4;clear b4;by_cases ad:k<U
     ·obtain⟨b,o,rfl,ae,h1⟩:=dt.o k ad;replace ae:=D.cell (tg.o.cell ae);replace h1:=D.cell (tg.o.cell h1);have dc:=D.cell b1;have gg:=z (kQ ad);have Xk:=λW=>Wh (str U[k].nm) W
      simp only[nP]at Xk;have ag9:∀W,Calls prog 100 #[M (U[k].act:Int)] W λr F=>r=aI (av (wP U[k].act))/\Ext W F:=λW=>(avu _ W).mono λ_ _ ⟨h,e⟩=>⟨h,by rw[e];exact O _⟩
      clear D;generalize aha:U[k]=axU at *;obtain⟨nm,act⟩:=axU;dsimp only at *;have axV:=z aha;have t9:=z Xk;have t':=z ag9;clear Xk ag9 aha
      try clear cY
      try clear eh
      try clear hL
      clear ef;have ph:vS (MJ U k) (⟨nm,act⟩::U.drop (k+1))=((oJ nm&&wP act)&&(MI (MJ U k) nm&&vS (some nm) (U.drop (k+1)))):=rfl;have IN:MJ U (k+1)=some nm:=by show(U[k]?).map (·.nm)=_;rw[dK ad,axV.o];rfl
      have pB:=z ph;have Mu:=z IN;clear ph IN;go_upto_region 6 with fail;obtain⟨q7,t3⟩:∃q7,wr.alloc (J #[N (str nm),M act] 121)=q7:=⟨_,rfl⟩;have s7:q7.heap[wr.heap.size]?=some (J #[N (str nm),M act] 121 (0,0)):=by rw[<-t3];exact bA _ _
      have dX:Ext wr q7:=by rw[<-t3];exact(O _).alloc _
      rw[t3];clear t3;obtain⟨cG,aK⟩:=oU s7;have ly:=dh cG;have g2:=dh aK;have ov:=dh (dX.cell dc);have f':=z (tg.o.trans (aT.o.trans dX));have ahb:=z (aT.o.trans dX);have yq:=λj (Z:j<U.length)=>dt.o j Z
      clear cG aK s7 dc ae h1;generalize g0:str nm=Ge at *;have Al:=z g0;clear g0;generalize pj:oJ nm=kc at *;generalize ep:wP act=cP at *;have Rl:=z (ah pj ep);clear pj ep;cases k with
      |zero=>
       clear yq dX;cases kc
       ·cases cP
        all_goals
         refine qR aj aj ?_
         repeat(any_goals(first|go_big_quiet_step ((first|(go_at_call 99;with_reducible exact fA (t9.o _))|(go_at_call 100;with_reducible exact fA (t'.o _))))|quiet_step ((first|(go_at_call 99;with_reducible exact fA (t9.o _))|(go_at_call 100;with_reducible exact fA (t'.o _))))))
         all_goals(refine qN ?_;intro _ jb;obtain⟨he,ii⟩:=jb;subst ii)
         go_wp2_with fail;go_ret;exact⟨by rw[cD.o,cI.o,gg.o,pB.o];rfl,f'.o.trans he.h⟩
       ·cases cP
        ·skip
         refine qR aj aj ?_
         repeat(any_goals(first|go_big_quiet_step ((first|(go_at_call 99;with_reducible exact fA (t9.o _))|(go_at_call 100;with_reducible exact fA (t'.o _))))|quiet_step ((first|(go_at_call 99;with_reducible exact fA (t9.o _))|(go_at_call 100;with_reducible exact fA (t'.o _))))))
         all_goals(refine qN ?_;intro _ jb;obtain⟨he,ii⟩:=jb;subst ii)
         go_wp2_with fail;go_ret;exact⟨by rw[cD.o,cI.o,gg.o,pB.o];rfl,f'.o.trans he.h⟩
        ·skip
         refine qR aj aj ?_
         repeat(any_goals(first|go_big_quiet_step ((first|(go_at_call 99;with_reducible exact fA (t9.o _))|(go_at_call 100;with_reducible exact fA (t'.o _))))|quiet_step ((first|(go_at_call 99;with_reducible exact fA (t9.o _))|(go_at_call 100;with_reducible exact fA (t'.o _))))))
         all_goals(refine qN ?_;intro _ jb;obtain⟨he,ii⟩:=jb;subst ii)
         go_wp2_with fail;go_roundw
         case rel=>exact⟨0+1,aE,cZ,ahb.o.trans he.h,by rw[cI.o,gg.o,pB.o,Mu.o];rfl⟩
         case measure=>simp[intOf];omega
      |succ j=>
       obtain⟨e4,fe,cU,e9,-⟩:=yq j aE;simp only[jB,pJ,and_true]at cU;obtain⟨rfl,rfl⟩:=cU;have mf:=dh (f'.o.cell e9);have gd:MI (MJ U (j+1)) nm=Op.bytesLess U[j].nm nm:=by show MI ((U[j]?).map (·.nm)) nm=_;rw[dK aE];rfl
       have bJ:IntKind.i64.wrap ((j:Int)+1-1)=(j:Int):=by rw[show(j:Int)+1-1=(j:Int)from aE];exact IntWalk.i64_in _ aE
       have lr:(j:Int)<U:=aE;have dZ:Ge.toList=nm:=by rw[<-Al.o];exact acj nm
       have ahc:=acj U[j].nm;generalize U[j].nm=w' at *;generalize str w'=sp at *;have ra:decide ((0:Int)<j+1)=true:=dH aE;have Ji:=z gd;clear gd yq e9 dX;cases kc
       ·clear dZ ahc;cases cP
        all_goals
         refine qR aj aj ?_
         repeat(any_goals(first|go_big_quiet_step ((first|(go_at_call 99;with_reducible exact fA (t9.o _))|(go_at_call 100;with_reducible exact fA (t'.o _))))|quiet_step ((first|(go_at_call 99;with_reducible exact fA (t9.o _))|(go_at_call 100;with_reducible exact fA (t'.o _))))))
         all_goals(refine qN ?_;intro _ jb;obtain⟨he,ii⟩:=jb;subst ii)
         go_wp2_with fail;go_ret;exact⟨by rw[cD.o,cI.o,gg.o,pB.o];rfl,f'.o.trans he.h⟩
       ·cases cP
        ·clear dZ ahc;refine qR aj aj ?_
         repeat(any_goals(first|go_big_quiet_step ((first|(go_at_call 99;with_reducible exact fA (t9.o _))|(go_at_call 100;with_reducible exact fA (t'.o _))))|quiet_step ((first|(go_at_call 99;with_reducible exact fA (t9.o _))|(go_at_call 100;with_reducible exact fA (t'.o _))))))
         all_goals(refine qN ?_;intro _ jb;obtain⟨he,ii⟩:=jb;subst ii)
         go_wp2_with fail;go_ret;exact⟨by rw[cD.o,cI.o,gg.o,pB.o];rfl,f'.o.trans he.h⟩
        ·cases ID:Op.bytesLess w' nm
         ·have ec:=z ID;refine qR aj aj ?_
          repeat(any_goals(first|go_big_quiet_step ((first|(go_at_call 99;with_reducible exact fA (t9.o _))|(go_at_call 100;with_reducible exact fA (t'.o _))))|quiet_step ((first|(go_at_call 99;with_reducible exact fA (t9.o _))|(go_at_call 100;with_reducible exact fA (t'.o _))))))
          all_goals(refine qN ?_;intro _ jb;obtain⟨he,ii⟩:=jb;subst ii)
          go_wp2_with fail;go_ret;exact⟨by rw[cD.o,cI.o,gg.o,pB.o,Ji.o,ec.o];rfl,f'.o.trans he.h⟩
         ·have ec:=z ID;refine qR aj aj ?_
          repeat(any_goals(first|go_big_quiet_step ((first|(go_at_call 99;with_reducible exact fA (t9.o _))|(go_at_call 100;with_reducible exact fA (t'.o _))))|quiet_step ((first|(go_at_call 99;with_reducible exact fA (t9.o _))|(go_at_call 100;with_reducible exact fA (t'.o _))))))
          all_goals(refine qN ?_;intro _ jb;obtain⟨he,ii⟩:=jb;subst ii)
          go_wp2_with fail;go_roundw
          case rel=>exact⟨j+1+1,aE,cZ,ahb.o.trans he.h,by rw[cI.o,gg.o,pB.o,Mu.o,Ji.o,ec.o];rfl⟩
          case measure=>simp[intOf];omega
     ·have sq:k=U.length:=aE;have bY:Hid (aH=true):=z (by rw[cD.o,cI.o,sq,qy];rfl);clear D sq;go_wp2_with fail;go_ret;exact⟨by rw[bY.o];rfl,tg.o.trans aT.o⟩
  exact key
 ·have bd:aH=false:=by rw[cW.o,show(!(m==0)||U.isEmpty)=false from Bool.eq_false_iff.2 ae];simp
  subst bd;have jx:(m==0)=true:=by
   cases h:(m==0)
   ·rw[h]at ae;simp at ae
   ·rfl
  have Jh:U.isEmpty=false:=by rw[jx]at ae;simpa using ae
  rw[jx]at cY;rw[Jh]at eh hL;simp only[Bool.not_false]at eh hL;clear ae jx Jh;go_in;go_wp2_with fail;go_ret;exact⟨rfl,tg.o⟩
end LT
end Go.Proofs.YtopfefhenfineaaGreat
