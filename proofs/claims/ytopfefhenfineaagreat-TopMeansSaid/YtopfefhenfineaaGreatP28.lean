import Derived.Test.YtopfefhenfineaaGreatP25
set_option linter.all false
set_option maxRecDepth 100000
set_option maxHeartbeats 8000000
namespace Go.Proofs.YtopfefhenfineaaGreat
open Go.Proofs.Tryz Go.RowKit Go.Shelf bh
attribute[local go_sem] Oper.semAt_some
variable{S:Prop}
def aly(h:S:=by
 have ac:=((N7 f7).1 h).filter λx=> !(x==n)
 have R:∀x∈l.filter (λx=> !(x==n)),x∈l/\x≠n:=λx D=>by simpa using List.mem_filter.1 D
 unfold om;generalize l.filter (λx=> !(x==n))=m at *;cases b
 ·exact⟨(N7 f7).2 ac,λx D=> .inl (R x D).1⟩
 ·obtain⟨bk,bW⟩:=alz (· < ·) f7 n ac;refine⟨(N7 f7).2 (aCn f7 ac bk λb V=> ?_),λx D=> ?_⟩
  ·have:=(R b (List.mem_of_mem_drop V)).2;have:=bW b V;omega
  ·rcases iZ.1 D with h1|h1
   ·exact .inl (R x (zT h1)).1
   ·rcases iA.1 h1 with h1|h1
    ·exact .inr h1
    ·exact .inl (R x (List.mem_of_mem_drop h1)).1):S:=h
namespace LT
variable{α:Type}{aH:α->α->Prop}{l:List α}
def zD(A:List Nat)(n:Nat):Nat:=pV (λh=>decide (A.getD h 0<n)) A 0 A.length
theorem aCo(a:Nat)(w:G):Calls prog 392 #[M a] w λe F=>e=aI (av false)/\F=w:=by go_in;go_wp;exact FM
theorem aCp(a b:Nat)(w:G):Calls prog 391 #[M a,M b] w λe F=>e=aI (av (decide (a<b)))/\F=w:=by have ev:=z (λa W=>P8 a W);exact Sn
theorem aCq(v:K)(A:List Nat)(n:Nat)(X:A.length<=1000000)(w:G)(hv:aS w 1 iC v A):Calls prog 351 #[v,M n] w λe F=>(∃b,e=aI (bH #[H (zD A n:Int),av b]))/\Ext w F:=by
 obtain⟨a,c,rfl,-,bV⟩:=IJ hv;have ge:zD A n<=A.length:=MU _ _ _ _ aE;have lE:zD A n=pV (λh=>decide (A.getD h 0<n)) A 0 A.length:=rfl;generalize zD A n=bz at *;obtain⟨lt,Ab⟩:∃lt:Nat->Bool,lt=λh=>decide (A.getD h 0<n):=⟨_,rfl⟩
 have ad:∀h (be:h<A.length),lt h=decide (A[h]<n):=λh be=>by rw[Ab];dsimp only;rw[kR,dK be];rfl
 rw[<-Ab]at lE;clear Ab;have gt:=z bV;have ec:=z (λa b W=>aCp a b W);have ev:=z (λa W=>aCo a W);have XO:=z (ah lE ge);clear bV hv lE ge;have yz:=z ad;clear ad;go_in;go_wp2_with fail;go_loopw [7,8,9] (λv1 qq _ wr=>∃i j f:Nat,v1=H i/\qq=H j/\i<=j/\j<=A/\j-i<=f/\bz=pV lt f i j/\wr=w) (λv1 qq _ _=>(intOf qq).toNat-(intOf v1).toNat)
 case atStart=>exact⟨0,A.length,A.length,rfl,rfl,aE,aE,aE,XO.o.1,rfl⟩
 case round=>
  obtain⟨i,j,f,rfl,rfl,ox,so,ahz,bE,rfl⟩:=hrel;have gz:=z bE;clear bE;by_cases ad:i<j
  ·have MV:(i+j)/2<A.length:=aE;obtain⟨b,o,rfl,ae⟩:=gt.o ((i+j)/2) MV;have p1:IntKind.i64.wrap ((i:Int)+j)=(i:Int)+j:=by rw[IntKind.wrap_i64];omega
   have da:=yz.o ((i+j)/2) MV;have GR:=λW=>ec.o A[(i+j)/2] n W
   generalize decide (A[(i+j)/2]<n)=q at *;generalize A[(i+j)/2]=x at *;have YW:=z da;have xb:=z GR;clear da GR;go_wp2_with fail;refine ak (xb.o _) ?_;rintro aO rfl;have hd:(i+j)/2<j/\i<=(i+j)/2:=aE;obtain⟨f,rfl⟩:∃PB,f=PB+1:=⟨f-1,aE⟩;have v3:bz=if lt ((i+j)/2)=true then pV lt f ((i+j)/2+1) j else pV lt f i ((i+j)/2):=by rw[gz.o];conv=>lhs;unfold pV;rw[aF ad]
   rw[YW.o]at v3;cases q
   ·rw[au ay]at v3;have kx:=z v3;clear v3 gz YW;go_wp2_with fail;go_roundw
    case rel=>exact⟨i,(i+j)/2,f,rfl,cZ,aE,aE,aE,kx.o,trivial⟩
    case measure=>exact eO
   ·rw[aF rfl]at v3;have kx:=z v3;clear v3 gz YW;go_wp2_with fail;go_roundw
    case rel=>exact⟨(i+j)/2+1,j,f,cZ,rfl,aE,so,aE,kx.o,trivial⟩
    case measure=>exact eO
  ·obtain rfl:bz=i:=by
    rw[gz.o];cases f with
    |zero=>rfl
    |succ f=>unfold pV;rw[au ad]
   clear gz;by_cases h:bz<A.length
   ·obtain⟨b,o,rfl,ae⟩:=gt.o bz h;have aCr:(bz:Int)<A:=aE;generalize A[bz]=x at *;cases aW:((x:Int)==(n:Int))
    all_goals
     go_wp2_with(refine ak (ev.o _ _) ?_;rintro aO rfl);go_ret2
     first|exact⟨⟨_,rfl⟩,O _⟩|exact⟨.inl rfl,O _⟩|exact⟨.inr rfl,O _⟩
   ·have aCr:¬(bz:Int)<A:=aE;go_wp2_with fail;go_ret2
    first|exact⟨⟨_,rfl⟩,O _⟩|exact⟨.inl rfl,O _⟩|exact⟨.inr rfl,O _⟩
def om[DecidableEq α][LT α][DecidableRel (α:=α) (· < ·)](l:List α)(n:α)(b:Bool):List α:=
 let m:=l.filter λx=> !(x==n)
 if b=true then m.take (m.countP λx=>decide (x<n))++n::m.drop (m.countP λx=>decide (x<n))else m
def N7(f7:∀a b c,aH a b->aH b c->aH a c):tF aH l↔l.Pairwise aH:=by
 constructor
 ·intro h;rw[zS];intro i j hi Z ox;obtain⟨k,rfl⟩:∃k,j=i+1+k:=⟨j-(i+1),aE⟩
  induction k with
  |zero=>exact h i Z
  |succ k b9=>exact f7 _ _ _ (b9 aE aE) (h (i+1+k) Z)
 ·intro h i hi;exact zS.1 h i (i+1) aE hi aE
def aCn(f7:∀a b c,aH a b->aH b c->aH a c){n:α}{k:Nat}(h:l.Pairwise aH)(h1:∀a∈l.take k,aH a n)(h2:∀b∈l.drop k,aH n b):(l.take k++n::l.drop k).Pairwise aH:=by
 rw[List.pairwise_append,List.pairwise_cons];refine⟨h.sublist (List.take_sublist _ _),⟨h2,h.sublist (List.drop_sublist _ _)⟩,λa bT b V=> ?_⟩;rcases iA.1 V with rfl|V
 ·exact h1 a bT
 ·exact f7 _ _ _ (h1 a bT) (h2 b V)
def alz{α:Type}(lt:α->α->Prop)[DecidableRel lt](f7:∀a b c,lt a b->lt b c->lt a c)(n:α):∀ {l:List α},l.Pairwise lt->(∀a∈l.take (l.countP λx=>decide (lt x n)),lt a n)/\∀b∈l.drop (l.countP λx=>decide (lt x n)),¬lt b n
 | [],_=>⟨λ_ h=>absurd h ay,λ_ h=>absurd h ay⟩
 |x::r,h=>by
  obtain⟨h1,h2⟩:=List.pairwise_cons.1 h;by_cases D:lt x n
  ·rw[List.countP_cons_of_pos (by simpa using D),List.take_succ_cons,List.drop_succ_cons];obtain⟨bk,bW⟩:=alz lt f7 n h2;exact⟨λa bT=>(iA.1 bT).elim (λe=>e▸D) (bk a),bW⟩
  ·have ae:(x::r).countP (λx=>decide (lt x n))=0:=List.countP_eq_zero.2 λy bN=>by
    rcases iA.1 bN with rfl|bN
    ·simpa using D
    ·have:=h1 y bN;simp only[iM];exactλk=>D (f7 _ _ _ this k)
   rw[ae];exact⟨λ_ h=>absurd h ay,λb V=>by simpa using List.countP_eq_zero.1 ae b V⟩
def aCs{l:List Int}(n:Int)(b:Bool)(h:tF (· < ·) l):tF (· < ·) (om l n b)/\∀x∈om l n b,x∈l\/x=n:=by
 have f7:∀a b c:Int,a<b->b<c->a<c:=λ_ _ _=>Int.lt_trans
 exact aly
def adc{l:List Nat}(n:Nat)(b:Bool)(h:tF (· < ·) l):tF (· < ·) (om l n b)/\∀x∈om l n b,x∈l\/x=n:=by
 have f7:∀a b c:Nat,a<b->b<c->a<c:=λ_ _ _=>Nat.lt_trans
 exact aly
def aCt{m:List Nat}(h:m.Pairwise (· < ·))(n:Nat):zD m n=m.countP λx=>decide (x<n):=by
 have hg:∀i (hi:i<m.length),m.getD i 0=m[i]:=λi hi=>by rw[kR,dK hi];rfl
 have ge:zD m n<=m.length:=MU _ _ _ _ aE;obtain⟨bk,bW⟩:=Rz (lt:=λh=>decide (m.getD h 0<n)) (n:=m.length) (λa b iv V ad=>by
  simp only[iM]at ad⊢;rw[hg b V]at ad;rw[hg a aE];by_cases e:a=b
  ·subst e;exact ad
  ·have:=zS.1 h a b aE V aE;omega) m 0 m aE (aZ _) aE (λh be=>aE) (λh h1 h2=>aE)
 have e:m.countP (λx=>decide (x<n))=(m.take (zD m n)).countP (λx=>decide (x<n))+(m.drop (zD m n)).countP (λx=>decide (x<n)):=by rw[<-List.countP_append,List.take_append_drop]
 rw[e,List.countP_eq_length.2,List.countP_eq_zero.2,gV]
 ·show _=min _ _+0;omega
 ·intro x D;obtain⟨i,hi,rfl⟩:=uD D;rw[mP]at hi;have:=bW (zD m n+i) (by show zD m n<=_;omega) aE;rw[hg _ aE]at this;rw[List.getElem_drop];exact wK
 ·intro x D;obtain⟨i,hi,rfl⟩:=uD D;rw[gV]at hi;have:=bk i (by show i<zD m n;omega);rw[hg _ aE]at this;rw[List.getElem_take];exact wK
end LT
def alA(h:S:=by
 have bd:aH=m:=by rw[cW.o.2.1];rfl
 subst bd;go_wp2_with fail;go_ret;exact⟨a2,c2,rfl,bK.o.1,bK.o.2.1.mono aE⟩):S:=h
def alB(h:S:=by go_ret;refine⟨a4,c4,by rw[cD.o.2];rfl,Below.trans ((bK.o.1.trans cL.o).alloc _) (dE.o.1.mono aE),?_⟩;rw[cD.o.2,cD.o.1];exact dE.o.2.mono aE):S:=h
def alC(h:S:=by have:=H1.o.1.size;rw[dR]at this;exact this):S:=h
namespace LT
theorem aCu(x n:Int)(b:Nat)(w:G)(h:w.cell? b=some (H n)):Calls prog 346 #[Jf x,aB (some b)] w λr F=>r=aI (av (x==n))/\Ext w F:=by unfold Jf;go_in;go_wp;exact PD
theorem aCv(x n:Nat)(b:Nat)(w:G)(h:w.cell? b=some (M n)):Calls prog 350 #[Jg x,aB (some b)] w λr F=>r=aI (av (x==n))/\Ext w F:=by
 unfold Jg;have aR:((x:Int)==(n:Int))=(x==n):=by rw[dW];simp;omega
 go_in;go_wp;go_ret;exact⟨ay,O _⟩
def mF{W aa:G}{base e n k:Nat}{v:K}{b3:List K}(h:W.ownsRow base e n v k b3)(D:Ext W aa):aa.ownsRow base e n v k b3:=(bq.ext (n0:=0) (bz:=λ_=>false) D).own h rfl
theorem aCw(v:K)(A:List Int)(n:Int)(X:A.length<=1000000)(ab:A.Pairwise (· < ·))(w:G)(hv:aS w 1 iB v A):Calls prog 347 #[v,H n] w λe F=>(∃b,e=aI (bH #[H ((A.countP λx=>decide (x<n):Nat):Int),av b]))/\Ext w F:=by
 obtain⟨a,c,rfl,-,bV⟩:=Gf hv;by_cases ae:A.length=0
 ·obtain rfl:=nN ae;refine ak (Tryz.slices_BinarySearch_int_empty a c n w) ?_;rintro F rfl;exact⟨⟨_,rfl⟩,O _⟩
 ·obtain⟨b,o,rfl,-⟩:=bV 0 aE;refine(Tryz.slices_BinarySearch_int b o A c A n w (aZ _) aE (λj Z=> ?_) ?_).mono ?_
  ·obtain⟨e4,fe,e,h⟩:=bV j Z;cases e
   rw[h,kR,dK Z];rfl
  ·rw[iR];exact ab.imp λh=>Int.le_of_lt h
  ·rintro e F ⟨rfl,q,rfl⟩;rw[iR];exact⟨⟨_,rfl⟩,(O _).drewN q⟩
theorem aCx(v:K)(A:List Int)(n:Int)(b:Bool)(X:A.length<=1000)(gd:tF (· < ·) A)(w:G)(hv:aS w 1 iB v A):Calls prog 273 #[v,H n,av b] w λe F=>∃a c,e=aI (E a (om A n b).length c)/\Ext w F/\F.ownsRow w 3 1 (E a (om A n b).length c) (om A n b).length ((om A n b).flatMap iB):=by
 have fN:=bA w (J #[H n] 3);have c0:=aG fN 0
 change World.cell? _ w=_ at c0
 have dt:=z (aeM v A aE (w.alloc (J #[H n] 3)) (hv.ext ((O _).alloc _)));obtain⟨a0,eK,rfl,-,-⟩:=Gf hv;obtain⟨m,R⟩:∃m,m=A.filter λx=> !(x==n):=⟨_,rfl⟩
 have cJ:om A n b=if b=true then m.take (m.countP λx=>decide (x<n))++n::m.drop (m.countP λx=>decide (x<n))else m:=by rw[R];rfl
 have pk:m.length<=1000:=by rw[R];exact cB (BH _ _) X
 have s6:m.Pairwise (· < ·):=by rw[R];exact((N7 (aH:=λa b:Int=>a<b) (λ_ _ _ h k=>Int.lt_trans h k)).1 gd).filter _
 generalize om A n b=aH at *;have cW:=z (ah R (ah cJ s6));clear R cJ s6 hv gd;go_in;go_upto_region 2 with(first
  |(go_at_call 219;refine dt.o.mono ?_;rintro e I ⟨a1,c1,rfl,Q,d4⟩;rw[dR]at d4;have H1:=z (ah Q (ah d4 (aJ fN Q)));clear Q d4)
  |(go_at_call 345
    refine(axR (w+1) 346 _ (enters_of func346 aj rfl) (λx=>x==n) _ A aE I H1.o.2.1 alC (λx _ W V=>aCu x n w W ?_)).mono ?_
    ·rw[aG ((V.block _ LG).trans H1.o.2.2)];rfl
    rintro e aO ⟨a2,fS,c2,rfl,ck,eS,fv⟩;rw[<-cW.o.1]at fv eS;subst eS;have ag:Ext w aO:=Below.trans (((O w).alloc _).trans H1.o.1) (ck.mono aE);have N2:=(ck.block _ LG).trans H1.o.2.2;have dm:aO.cell? w=some (H n):=aG N2 0;have bK:=z (ah ag (ah fv ck.size));clear ck fv ag N2))
 cases b
 ·exact alA
 ·have hB:=aCw _ m n aE cW.o.2.2 aO (eD vP bK.o.2.1);have bd:=cW.o.2.1;rw[aF rfl]at bd;have xc:m.countP (λx=>decide (x<n))<=m.length:=List.countP_le_length;generalize m.countP (λx=>decide (x<n))=k at *;have tj:aH.length=m+1:=by rw[bd,dA,dJ,gV,mP];omega
  have ce:=z hB;have cD:=z (ah bd tj);have eC:=bK.o.2.2;have tB:=H1.o.1.size;rw[dR]at tB;clear hB bd tj;go_wp2_with(first
   |(go_at_call 347;refine ce.o.mono ?_;rintro e bj ⟨⟨sY,rfl⟩,a'⟩;have h6:=a'.cell dm;have cL:=z a';have pa:=a'.size;clear a')
   |(go_at_call 348
     refine(ayc (w+1) _ m n k xc aE _ bj (pG (mF bK.o.2.1 cL.o) _) Ir (bA bj _) (λe=> ?_)).mono ?_
     ·have:=(mF bK.o.2.1 cL.o).lt _ e;omega
     rintro e dC ⟨a4,c4,rfl,f5,fY⟩;have dE:=z (ah f5 fY);clear f5 fY))
  exact alB
theorem aCy(v:K)(A:List Nat)(n:Nat)(b:Bool)(X:A.length<=1000)(gd:tF (· < ·) A)(w:G)(hv:aS w 1 iC v A):Calls prog 276 #[v,M n,av b] w λe F=>∃a c,e=aI (E a (om A n b).length c)/\Ext w F/\F.ownsRow w 32 1 (E a (om A n b).length c) (om A n b).length ((om A n b).flatMap iC):=by
 have fN:=bA w (J #[M n] 32);have c0:=aG fN 0
 change World.cell? _ w=_ at c0
 have dt:=z (aeN v A aE (w.alloc (J #[M n] 32)) (hv.ext ((O _).alloc _)));obtain⟨a0,eK,rfl,-,-⟩:=IJ hv;obtain⟨m,R⟩:∃m,m=A.filter λx=> !(x==n):=⟨_,rfl⟩
 have cJ:om A n b=if b=true then m.take (m.countP λx=>decide (x<n))++n::m.drop (m.countP λx=>decide (x<n))else m:=by rw[R];rfl
 have pk:m.length<=1000:=by rw[R];exact cB (BH _ _) X
 have s6:m.Pairwise (· < ·):=by rw[R];exact((N7 (aH:=λa b:Nat=>a<b) (λ_ _ _ h k=>Nat.lt_trans h k)).1 gd).filter _
 generalize om A n b=aH at *;have cW:=z (ah R (ah cJ s6));clear R cJ s6 hv gd;go_in;go_upto_region 2 with(first
  |(go_at_call 220;refine dt.o.mono ?_;rintro e I ⟨a1,c1,rfl,Q,d4⟩;rw[dR]at d4;have H1:=z (ah Q (ah d4 (aJ fN Q)));clear Q d4)
  |(go_at_call 349
    refine(axT (w+1) 350 _ (enters_of func350 aj rfl) (λx=>x==n) _ A aE I H1.o.2.1 alC (λx _ W V=>aCv x n w W ?_)).mono ?_
    ·rw[aG ((V.block _ LG).trans H1.o.2.2)];rfl
    rintro e aO ⟨a2,fS,c2,rfl,ck,eS,fv⟩;rw[<-cW.o.1]at fv eS;subst eS;have ag:Ext w aO:=Below.trans (((O w).alloc _).trans H1.o.1) (ck.mono aE);have N2:=(ck.block _ LG).trans H1.o.2.2;have dm:aO.cell? w=some (M n):=aG N2 0;have bK:=z (ah ag (ah fv ck.size));clear ck fv ag N2))
 cases b
 ·exact alA
 ·have hB:=aCq _ m n aE aO (eD sQ bK.o.2.1);rw[aCt cW.o.2.2]at hB;have bd:=cW.o.2.1;rw[aF rfl]at bd;have xc:m.countP (λx=>decide (x<n))<=m.length:=List.countP_le_length;generalize m.countP (λx=>decide (x<n))=k at *;have tj:aH.length=m+1:=by rw[bd,dA,dJ,gV,mP];omega
  have ce:=z hB;have cD:=z (ah bd tj);have eC:=bK.o.2.2;have tB:=H1.o.1.size;rw[dR]at tB;clear hB bd tj;go_wp2_with(first
   |(go_at_call 351;refine ce.o.mono ?_;rintro e bj ⟨⟨sY,rfl⟩,a'⟩;have h6:=a'.cell dm;have cL:=z a';have pa:=a'.size;clear a')
   |(go_at_call 352
     refine(ayg (w+1) _ m n k xc aE _ bj (pG (mF bK.o.2.1 cL.o) _) Ir (bA bj _) (λe=> ?_)).mono ?_
     ·have:=(mF bK.o.2.1 cL.o).lt _ e;omega
     rintro e dC ⟨a4,c4,rfl,f5,fY⟩;have dE:=z (ah f5 fY);clear f5 fY))
  exact alB
end LT
end Go.Proofs.YtopfefhenfineaaGreat
namespace Go.Proofs.YtopfefhenfineaaGreat
open Go.Proofs.Tryz Go.RowKit Go.Shelf bh
attribute[local go_sem] Oper.semAt_some bh.Oper.idle bh.Oper.lV bh.Oper.jF
namespace LT
open bM (dN)
structure lI(W:G)(p:bP)(s:dS):Prop where
 ar:W.ownsRow 0 3 1 (E s.a p.ar s.c) p.ar (p.ar.flatMap iB)
 fc:W.ownsRow 0 121 2 (E s.fa p.fc s.fc) p.fc (p.fc.flatMap dY)
 lc:W.ownsRow 0 121 2 (E s.la p.lc s.lc) p.lc (p.lc.flatMap dY)
 fa:W.ownsRow 0 32 1 (E s.ga p.fa s.gc) p.fa (p.fa.flatMap iC)
def lI.rd{W:G}{p:bP}{s:dS}(h:lI W p s):rD W p s:=⟨eD vP h.ar,eD oN h.fc,eD oN h.lc,eD sQ h.fa⟩
def lI.tk{W aa:G}{p:bP}{s:dS}(h:lI W p s){n0:Nat}{bz:Nat->Bool}(an:bq n0 bz W aa)(h1:bz 3=false)(h2:bz 121=false)(T:bz 32=false):lI aa p s:=⟨an.own h.ar h1,an.own h.fc h2,an.own h.lc h2,an.own h.fa T⟩
def lI.ext{W aa:G}{p:bP}{s:dS}(h:lI W p s)(D:Ext W aa):lI aa p s:=h.tk (bq.ext (n0:=0) (bz:=λ_=>false) D) rfl rfl rfl
def JV(p:bP)(s:dS)(u:K)(a:dN):Array K:= #[E s.a p.ar s.c,aC p.fm,E s.fa p.fc s.fc,M p.dn,aC p.lm,E s.la p.lc s.lc,E s.ga p.fa s.gc,aC p.fd,aA (p.sp:Int),av p.we,av p.pe,av p.rt,av p.np,u,N (str a.1),H a.2.1,N (str a.2.2.1),N (str a.2.2.2.1),N (str a.2.2.2.2)]
def aCz(p:bP)(s:dS)(u v:K)(a:dN):(JV p s u a).setIfInBounds 13 v=JV p s v a:=by unfold JV;rfl
def ug(t:Nat):Bool:=t==45||t==284
structure jr(n0 bb:Nat)(p:bP)(s:dS)(u:K)(ns:List dB)(a:dN)(W:G):Prop where
 hB:n0<=bb
 b:W.heap[bb]?=some (J (JV p s u a) 284 (0,0))
 own:W.ownsRow n0 45 4 u ns (ns.flatMap iP)
 po:lI W p s
section
variable {n0 bb:Nat} {p:bP} {s:dS} {u:K} {ns:List dB} {a:dN} {W aa:G}
def jr.ext'(h:jr n0 bb p s u ns a W)(D:Ext W aa):jr n0 bb p s u ns a aa:=⟨h.hB,aJ h.b D,mF h.own D,h.po.ext D⟩
def jr.lt(h:jr n0 bb p s u ns a W):bb<W.heap.size:=(dG.1 h.b).1
def jr.put(h:jr n0 bb p s u ns a W)(k:Nat)(v:K){p':bP}{s':dS}(bx:(JV p s u a).setIfInBounds k v=JV p' s' u a)(ac:lI W p' s'):jr n0 bb p' s' u ns a (W.setCell ⟨bb,k,none⟩ v)/\bq n0 ug W (W.setCell ⟨bb,k,none⟩ v):=by have f3:bq n0 (λx=>x==284) W (W.setCell ⟨bb,k,none⟩ v):=bq.set (p:=⟨bb,k,none⟩) h.b rfl h.hB v;refine⟨⟨h.hB,by rw[<-bx];exact fH h.b k v,f3.own h.own rfl,ac.tk f3 rfl rfl rfl⟩,f3.mono (aZ _) λt an=> ?_⟩;unfold ug at an;simp at an⊢;exact an.2
end
theorem SA{n0 bb:Nat}{p:bP}{s:dS}{u:K}{ns:List dB}{a:dN}{W:G}(h:jr n0 bb p s u ns a W)(gs:n0<=W)(X:ns.length<=1000000)(t:bn)(an:t.size<=1000000)(e:Nat):Calls prog 272 #[aB (some bb),H e,N t] W λr F=>r=aI (bH #[])/\∃d1,jr n0 bb p s d1 (ns++[⟨a.1,a.2.1,e,(bytes t).take 60⟩]) a F/\bq n0 ug W F:=by
 obtain⟨bv,bp,rfl⟩:=dP h.own;have wv:W.cell? ⟨bb,13,none⟩=some (E bv ns bp):=aG h.b 13;have z5:W.cell? ⟨bb,14,none⟩=some (N (str a.1)):=aG h.b 14;have LB:W.cell? ⟨bb,15,none⟩=some (H a.2.1):=aG h.b 15;obtain⟨k,hk⟩:∃k,k=min t.size 60:=⟨_,rfl⟩;have RC:min (t:Int) 60=(k:Int):=aE;have xc:k<=t.size:=aE;have EE:(k:Int)<=t:=aE;have LZ:t.extract 0 k=str ((bytes t).take 60):=by
  rw[RG]
  congr 1
  by_cases be:t.size<=60
  ·rw[hk,mQ be,rJ zX,rJ zX]
  ·rw[hk,Nat.min_eq_right aE]
 obtain⟨x,D⟩:∃x:dB,x=⟨a.1,a.2.1,e,(bytes t).take 60⟩:=⟨_,rfl⟩;have f1:iP x=[N (str a.1),H a.2.1,H e,N (str ((bytes t).take 60))]:=by rw[D];rfl
 rw[<-D];clear D;generalize(bytes t).take 60=tx at *;have nj:=z h;have d2:=z (ah hk f1);have afI:=h.lt;have mt:ns.length+[x].length=ns.length+1:=rfl;clear h hk f1;generalize str a.1=fl at *;generalize a.2.1=ln at *;have Eo:∀aa:G,aS (aa.alloc (J #[N fl,H ln,H e,N (str tx)] 45)) 4 iP (E (some ⟨aa.heap.size,0,none⟩) 1 1) [x]:=λaa=>by have:=jh pW aa [x] 45 _ rfl;rw[show [x].flatMap iP=iP x from ay,d2.o.2]at this;exact this
 have aCA:=z Eo;clear Eo;go_in;go_upto_region 0 with fail;refine Ms (n:=1) [23,24,25,26] (λaP=>∃x:fG W,aP=x.w) aj ?_;have eQ:∃x:fG W,W.drew=x.w:=⟨⟨W.drew,(O W).drew⟩,rfl⟩;have aNP:=dh wv;have aBp:=dh z5;have aNQ:=dh LB;refine mq 0 rfl ?_;refine mq 1 rfl ?_;refine mq 2 rfl ?_;refine mq 3 rfl ?_;refine vY 4 rfl eQ ?_;refine mq 5 rfl ?_;refine mq 6 rfl ?_;refine mq 7 rfl ?_;refine mq 8 rfl ?_;refine vY 9 rfl eQ ?_;refine mq 10 rfl ?_;refine mq 11 rfl ?_;refine mq 12 rfl ?_;refine jK 13 rfl (λaX am=> ?_);go_simp;refine am _ ?_;refine Sg 14 rfl eQ (λaX am=> ?_);go_simp;refine am _ ?_;refine jK 15 rfl (λaX am=> ?_);go_simp;refine am _ ?_;refine jK 16 rfl (λaX am=> ?_);go_simp;refine am _ ?_;refine jK 17 rfl (λaX am=> ?_);go_simp;refine am _ ?_;refine jK 18 rfl (λaX am=> ?_);go_simp;refine am _ ?_;refine jK 19 rfl (λaX am=> ?_);go_simp;refine am _ ?_;refine jK 20 rfl (λaX am=> ?_);go_simp;refine am _ ?_;refine jK 21 rfl (λaX am=> ?_);go_simp;refine am _ ?_;refine wY 22 aj rfl (λaX am=> ?_);go_simp;refine am _ _ (λ_=>⟨⟨_,(O W).drew.alloc _⟩,rfl⟩) ?_;have bl:=nj.o.ext' ((O W).alloc (J #[N fl,H ln,H e,N (str tx)] 45)).drew;have YX:bq n0 ug W (W.alloc (J #[N fl,H ln,H e,N (str tx)] 45)).drew:= .ext ((O W).alloc _).drew;have aCB:=(aCA.o W).ext (O _).drew;have ci:n0<=(W.alloc (J #[N fl,H ln,H e,N (str tx)] 45)).drew.heap.size:=by show n0<=(W.alloc _).heap.size;rw[dR];exact Nat.le_succ_of_le gs
 generalize World.drew (W.alloc _)=cd at *;refine nZ 23 aj rfl aj (λaX am=> ?_);refine Lj rfl (.tmp 10) (.tmp 28) 38 rfl underlying38 RD rfl Y pW RB n0 (E bv ns bp) _ ns [x] (by rfl) (by rfl) bl.own aCB dU Y ci ?_;intro y3 y4 dC fY r6;refine am _ _ ?_;rw[mt]at fY⊢;have h0:bq n0 (wW 45) cd dC:=bq.grown bl.own r6 rfl (aZ _);have f5:=h0.blk bl.b (.inr rfl);have ayW:dC.cell? ⟨bb,13,none⟩=some (E bv ns bp):=aG f5 13;have ayX:=dw f5 13;have dE:=z (ah f5 (ah h0 (ah fY (ah bl.po YX))));refine nZ 24 aj rfl aj (λaX am=> ?_);go_simp;refine am _ _ ?_;refine nZ 25 aj rfl aj (λaX am=> ?_);go_simp;refine am _ _ ?_;refine nZ 26 aj rfl aj (λaX am=> ?_);go_simp;refine am _ _ ?_;refine AJ aj ?_;dsimp only[bh.Calm,Exit.then];go_wp;go_end0;obtain⟨f5,h0,fY,lj,YX⟩:=dE.o;have vy:bq n0 (wW 284) dC (dC.setCell ⟨bb,13,none⟩ (E y3 (ns+1) y4)):=bq.set (p:=⟨bb,13,none⟩) f5 rfl nj.o.hB _;have lE:=fH f5 13 (E y3 (ns+1) y4);rw[aCz]at lE;refine⟨rfl,_,⟨nj.o.hB,lE,?_,(lj.tk h0 rfl rfl rfl).tk vy rfl rfl rfl⟩,?_⟩
 ·rw[dA];exact vy.own fY rfl
 ·exact(YX.trans (h0.mono (aZ _) (λt an=>by unfold ug at an;unfold wW;simp at an⊢;exact an.1))).trans (vy.mono (aZ _) (λt an=>by unfold ug at an;unfold wW;simp at an⊢;exact an.2))
end LT
end Go.Proofs.YtopfefhenfineaaGreat
namespace Go.Proofs.YtopfefhenfineaaGreat
open Go.Proofs.Tryz Go.RowKit Go.Shelf bh
attribute[local go_sem] Oper.semAt_some
variable{S:Prop}
def YZ(h:S:=by
 split
 ·exact Nat.le_succ _
 ·simp):S:=h
def alD(h:S:=by
 go_roundw
 case rel=>exact⟨k+1,_,dl,ui,cZ,aE,rfl,by rw[gg.o];exact gb.o.1,gb.o.2.own (mF cg.o.2.1 c9.o) rfl,(cg.o.2.2.1.trans (.ext c9.o)).trans gb.o.2,cg.o.2.2.2.2.2.1,by have:=cg.o.2.2.2.2;omega⟩
 case measure=>exact eO):S:=h
def alE(h:S:=by
 go_roundw
 case rel=>exact⟨k+1,_,_,ej,cZ,aE,rfl,by rw[gg.o];exact cz.o.1,cz.o.2.own (mF cg.o.2.1 gb.o.1) rfl,(cg.o.2.2.1.trans (.ext gb.o.1)).trans cz.o.2,cg.o.2.2.2.2.2.1,by have:=cg.o.2.2.2.2;omega⟩
 case measure=>exact eO):S:=h
namespace LT
open bM (dN)
open oh (eF)
variable{W:G}{a:dN}{k bb n0:Nat}{u v:K}{x:List Int×List dB}
def stA(a:dN)(x:List Int×List dB)(w:bn):List Int×List dB:=
 if (d5.mG w.toList).2=0 then(om x.1 (d5.mG w.toList).1 true,x.2)else(x.1,x.2++[⟨a.1,a.2.1,(d5.mG w.toList).2.toNat,(bytes w).take 60⟩])
def CO(a:dN)(v:bn)(ar:List Int)(ns:List dB):List Int×List dB:=
 (Lib.goFieldsP eF v).foldl (stA a) (if (Lib.goFieldsP eF v).length=0 then []else ar,ns)
def yB(l:List Int):Prop:=(∀a∈l,0<=a/\a<6)/\tF (· < ·) l
def yB.len{l:List Int}(h:yB l):l.length<=6:=by
 have a6:tF (· < ·) (l.map Int.toNat):=λi hi=>by rw[dL]at hi;have h1:=h.2 i hi;have h2:=h.1 _ (eB (show i<l.length from aE));simp only[rQ];show Int.toNat _<Int.toNat _;have T:l[i]<l[i+1]:=h1;omega
 have:=Sv a6 (n:=6) (λx D=>by obtain⟨y,bN,rfl⟩:=iJ.1 D;have:=h.1 y bN;omega)
 rwa [dL]at this
def Y0(s:List aL):((d5.mG s).2=0/\0<=(d5.mG s).1/\(d5.mG s).1<6)\/(d5.mG s).2=80:=by
 unfold d5.mG;split
 ·exact .inl ⟨rfl,Y,Y⟩
 split
 ·exact .inr rfl
 ·rename_i h;have:=(d5.A6 (d5.uo s));exact .inl ⟨rfl,aE,aE⟩
def alF(w:bn)(h:yB x.1):yB (stA a x w).1:=by
 unfold stA;split
 ·rename_i ae;obtain⟨bk,bW⟩:=aCs (d5.mG w.toList).1 true h.2;refine⟨λy bN=> ?_,bk⟩;rcases bW y bN with k|rfl
  ·exact h.1 y k
  ·rcases Y0 w.toList with⟨-,k⟩|k
   ·exact k
   ·rw[k]at ae;cases ae
 ·exact h
def aCC(w:bn):(stA a x w).2.length<=x.2.length+1:=by unfold stA;exact YZ
def wo(n0 bb:Nat)(p:bP)(ns:List dB)(a:dN)(W:G)(r:Ending)(F:G):Prop:=r=aI (bH #[])/\(∃s u,jr n0 bb p s u ns a F)/\bq n0 ug W F
def SB{L:List bn}(h:W.ownsRow 0 9 1 v L (L.flatMap oh.A8))(hk:k<L):∃b o c,v=E (some ⟨b,o,none⟩) L c/\W.cell? ⟨b,o+k,none⟩=some (N L[k]):=by obtain⟨bu,c',cU,-,-,af⟩:=eD (show∀x,(oh.A8 x).length=1 fromλ_=>rfl) h;obtain⟨b,o,rfl,b8⟩:=af k hk;have r0:=b8 0 (Nat.succ_pos _);rw[qA,nO]at r0;exact⟨b,o,c',cU,r0⟩
theorem aCD{p:bP}{s:dS}{ns:List dB}(h:jr n0 bb p s u ns a W)(gs:n0<=W)(cv:yB p.ar)(X:ns.length<=500000)(v:bn)(hv:v.size<=100000):Calls prog 222 #[aB (some bb),N v] W (wo n0 bb {p with ar:=(CO a v p.ar ns).1} (CO a v p.ar ns).2 a W):=by
 have ma:=Ba eF v;have aCE:=R9 eF v;have eo:=z (λW=>oh.oM v aE W);obtain⟨aH,bd⟩:∃aH,aH=CO a v p.ar ns:=⟨_,rfl⟩;have gw:aH=(Lib.goFieldsP eF v).foldl (stA a) (if (Lib.goFieldsP eF v).length=0 then []else p.ar,ns):=bd;rw[<-bd];generalize Lib.goFieldsP eF v=L at *;obtain⟨CI,YY⟩:∃CI,CI=if L.length=0 then []else p.ar:=⟨_,rfl⟩
 rw[<-YY]at gw;have aCF:yB CI:=by
  rw[YY];split
  ·exact⟨λ_ h=>absurd h ay,λ_ hi=>absurd hi ay⟩
  ·exact cv
 have cD:=z (ah gw (ah aCF YY));have c0:W.cell? bb=some (E s.a p.ar s.c):=aG h.b 0;have bC:=z h;have bY:=z aCE;unfold wo;go_in;go_upto_if 13 with(refine(eo.o _).mono ?_;rintro e I ⟨AG,rfl,Q,d4⟩;obtain⟨br,wd,rfl⟩:=dP d4;have H1:=z (ah Q (d4.mono (eG _))));go_cut [] (λwx=>∃(cd:G) (nW:dS),cd=wx/\jr n0 bb {p with ar:=CI} nW u ns a cd/\cd.ownsRow 0 9 1 (E br L wd) L (L.flatMap oh.A8)/\bq n0 ug W cd)
 case first=>
  have awy:=H1.o.1.cell c0;have f0:=dw (bC.o.ext' H1.o.1).b 0;by_cases bL:L.length=0
  ·have fR:((L:Int)==0)=true:=by rw[bL];rfl
   have ac:=(bC.o.ext' H1.o.1).put 0 (E none 0 0) (p':= {p with ar:= []}) (s':= {s with a:=none,c:=0}) rfl ⟨⟨rfl,.inl ay⟩,(bC.o.ext' H1.o.1).po.fc,(bC.o.ext' H1.o.1).po.lc,(bC.o.ext' H1.o.1).po.fa⟩;have bT:CI=[]:=by rw[cD.o.2.2,aF bL]
   have cz:=z (ah ac bT);go_wp;go_meet;exact⟨_,_,rfl,by rw[cz.o.2];exact cz.o.1.1,cz.o.1.2.own H1.o.2 rfl,(bq.ext H1.o.1).trans cz.o.1.2⟩
  ·have fR:((L:Int)==0)=false:=iH.2 aE;have bT:CI=p.ar:=by rw[cD.o.2.2,au bL]
   have nj:=z bT;go_wp;go_meet;exact⟨_,s,rfl,by rw[nj.o];exact bC.o.ext' H1.o.1,H1.o.2,.ext H1.o.1⟩
 case rest=>
  obtain⟨cd,nW,rfl,sB,g6,qt⟩:=hcut;have es:=z (ah sB (ah g6 qt));go_wp;go_loopw [20] (λi wr=>∃(k:Nat) (g2:List Int×List dB) (dl:dS) (ej:K),i=H k/\k<=L/\g2=(L.take k).foldl (stA a) (CI,ns)/\jr n0 bb {p with ar:=g2.1} dl ej g2.2 a wr/\wr.ownsRow 0 9 1 (E br L wd) L (L.flatMap oh.A8)/\bq n0 ug W wr/\yB g2.1/\g2.2.length<=ns.length+k) (λi _=>L.length-(intOf i).toNat)
  case atStart=>exact⟨0,(CI,ns),nW,u,rfl,aE,rfl,es.o.1,es.o.2.1,es.o.2.2,cD.o.2.1,ay⟩
  case round=>
   obtain⟨k,⟨CL,gR⟩,dl,ej,rfl,hk,gp,sB,g6,fi,uk,hy⟩:=hrel;dsimp only at sB uk hy;by_cases ad:k<L
   ·obtain⟨b,o,c',cU,r0⟩:=SB g6 ad;simp only[eZ,true_and]at cU;obtain⟨rfl,rfl⟩:=cU;have ci:=bY.o _ (eB ad);have bU:(L.take (k+1)).foldl (stA a) (CI,ns)=stA a (CL,gR) L[k]:=by rw[mh ad,uF,<-gp];rfl
    generalize L[k]=g7 at *;have e1:=λW=>d5.Br g7 W
    have lj:=Y0 g7.toList;have dT:yB (stA a (CL,gR) g7).1:=alF g7 uk;have q4:=aCC (a:=a) (x:=(CL,gR)) g7;have n9:stA a (CL,gR) g7=if (d5.mG g7.toList).2=0 then(om CL (d5.mG g7.toList).1 true,gR)else(CL,gR++[⟨a.1,a.2.1,(d5.mG g7.toList).2.toNat,(bytes g7).take 60⟩]):=rfl
    rw[<-bU]at dT q4 n9;generalize d5.mG g7.toList=q at *;obtain⟨ry,er⟩:=q;dsimp only at e1 lj n9 q4;have nc:(k:Int)<L:=aE;have E6:=z e1;have cg:=z (ah sB (ah g6 (ah fi (ah uk (ah hy (ah dT q4))))));have ya:=uk.len;have jm:n0<=wr:=cB gs fi.size;rcases lj with⟨rfl,rs,lA⟩|rfl
    ·rw[aF rfl]at n9;have gg:=z n9;have dm:wr.cell? bb=some (E dl.a CL dl.c):=aG cg.o.1.b 0;have JT:=z (λaa (D:Ext wr aa)=>aCx _ CL ry true aE cg.o.2.2.2.1.2 aa (cg.o.1.ext' D).po.rd.ar);dsimp only at JT;generalize om CL ry true=alG at *;go_wp2_with(first
      |(go_at_call 271;refine ak (E6.o _) ?_;intro bQ bR;have ra:=bR.cell dm;have c9:=z bR)
      |(go_at_call 273;refine(JT.o _ c9.o).mono ?_;rintro e cT ⟨jJ,c6,rfl,dX,gC⟩;have Cp:=dX.cell ra;have r7:=dw (cg.o.1.ext' (c9.o.trans dX)).b 0;have gb:=z (ah (c9.o.trans dX) (gC.mono (eG _)))))
     have kt:=cg.o.1.ext' gb.o.1;have ac:=kt.put 0 (E jJ alG c6) (p':= {p with ar:=alG}) (s':= {dl with a:=jJ,c:=c6}) rfl ⟨gb.o.2,kt.po.fc,kt.po.lc,kt.po.fa⟩;have cz:=z ac;exact alE
    ·rw[au Y]at n9;have gg:=z n9;go_wp2_with(first
      |(go_at_call 271;refine ak (E6.o _) ?_;intro bQ bR;have c9:=z bR)
      |(refine ak (SA (cg.o.1.ext' c9.o) (cB jm c9.o.size) (by have:=cg.o.2.2.2.2.1;omega) g7 aE 80) ?_;rintro cT ⟨ui,ks,n7⟩;have gb:=z (ah ks n7)))
     exact alD
   ·obtain rfl:k=L.length:=aE;rw[iR,<-cD.o.1]at gp;subst gp;have cg:=z (ah sB fi);go_wp
    first|go_end0|refine cO (gq rfl _ _ _) rfl ?_
    exact⟨rfl,⟨_,_,cg.o.1⟩,cg.o.2⟩
end LT
end Go.Proofs.YtopfefhenfineaaGreat
