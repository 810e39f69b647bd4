import Derived.Test.YtopfefhenfineaaGreatP29
set_option linter.all false
set_option maxRecDepth 100000
set_option maxHeartbeats 8000000
namespace Go.Proofs.YtopfefhenfineaaGreat
open Go.Proofs.Tryz Go.RowKit Go.Shelf V
attribute[local go_sem] Oper.semAt_some
variable{zP:Prop}
def ia(h:zP:=by
 have hp:=((E8 htr).1 h).filter λx=> !(x==n)
 have hm:∀x∈l.filter (λx=> !(x==n)),x∈l/\x≠n:=λx hx=>by simpa using List.mem_filter.1 hx
 unfold ng;generalize l.filter (λx=> !(x==n))=m at *;cases b
 ·exact⟨(E8 htr).2 hp,λx hx=> .inl (hm x hx).1⟩
 ·obtain⟨k1,k2⟩:=EK (· < ·) htr n hp;refine⟨(E8 htr).2 (acJ htr hp k1 λb hb=> ?_),λx hx=> ?_⟩
  ·have:=(hm b (List.mem_of_mem_drop hb)).2;have:=k2 b hb;omega
  ·rcases dJ.1 hx with h1|h1
   ·exact .inl (hm x (iU h1)).1
   ·rcases dF.1 h1 with h1|h1
    ·exact .inr h1
    ·exact .inl (hm x (List.mem_of_mem_drop h1)).1):zP:=h
namespace LT
variable{α:Type}{R:α->α->Prop}{l:List α}
def bsU(xs:List Nat)(n:Nat):Nat:=KD (λh=>decide (xs.getD h 0<n)) xs 0 xs.length
theorem Nh(a:Nat)(w:ay):Calls prog 392 #[.int .u32 a] w λe w'=>e= .returned (.bool false)/\w'=w:=lr
theorem RQ(a b:Nat)(w:ay):Calls prog 391 #[.int .u32 a,.int .u32 b] w λe w'=>e= .returned (.bool (decide (a<b)))/\w'=w:=by have HN:=ah (λa W=>uY a W);exact uu
theorem VO(v:aA)(xs:List Nat)(n:Nat)(hl:xs.length<=1000000)(w:ay)(hv:Rd w 1 i8 v xs):Calls prog 351 #[v,.int .u32 n] w λe w'=>(∃b,e= .returned (.tuple #[.int .i64 (bsU xs n:Int),.bool b]))/\Ext w w':=by
 obtain⟨a,c,rfl,-,hca⟩:=tJ hv;have hle:bsU xs n<=xs.length:=Jj _ _ _ _ aq;have hbs:bsU xs n=KD (λh=>decide (xs.getD h 0<n)) xs 0 xs.length:=rfl;generalize bsU xs n=T at *;obtain⟨lt,hl0⟩:∃lt:Nat->Bool,lt=λh=>decide (xs.getD h 0<n):=⟨_,rfl⟩
 have hlt:∀h (hh:h<xs.length),lt h=decide (xs[h]<n):=λh hh=>by rw[hl0];dsimp only;rw[bQ,aJ hh];rfl
 rw[<-hl0]at hbs;clear hl0;have tO:=ah hca;have HL:=ah (λa b W=>RQ a b W);have HN:=ah (λa W=>Nh a W);have HBS:=ah (ak hbs hle);clear hca hv hbs hle;have HLT:=ah hlt;clear hlt;go_in;go_wp2_with fail;go_loopw [7,8,9] (λiV jV _ wr=>∃i j f:Nat,iV= .int .i64 i/\jV= .int .i64 j/\i<=j/\j<=xs/\j-i<=f/\T=KD lt f i j/\wr=w) (λiV jV _ _=>(intOf jV).toNat-(intOf iV).toNat)
 case atStart=>exact⟨0,xs.length,xs.length,rfl,rfl,aq,aq,aq,HBS.o.1,rfl⟩
 case round=>
  obtain⟨i,j,f,rfl,rfl,hij,hjn,hjf,hT,rfl⟩:=hrel;have HT:=ah hT;clear hT;by_cases hlt:i<j
  ·have hhx:(i+j)/2<xs.length:=aq;obtain⟨b,o,rfl,h0⟩:=tO.o ((i+j)/2) hhx;have hw1:IntKind.i64.wrap ((i:Int)+j)=(i:Int)+j:=by rw[IntKind.wrap_i64];omega
   have hL:=HLT.o ((i+j)/2) hhx;have hCM:=λW=>HL.o xs[(i+j)/2] n W
   generalize decide (xs[(i+j)/2]<n)=q at *;generalize xs[(i+j)/2]=x at *;have HLX:=ah hL;have HC2:=ah hCM;clear hL hCM;go_wp2_with fail;refine ap (HC2.o _) ?_;rintro w2 rfl;have hd:(i+j)/2<j/\i<=(i+j)/2:=aq;obtain⟨f,rfl⟩:∃f',f=f'+1:=⟨f-1,aq⟩;have UK:T=if lt ((i+j)/2)=true then KD lt f ((i+j)/2+1) j else KD lt f i ((i+j)/2):=by rw[HT.o];conv=>lhs;unfold KD;rw[aV hlt]
   rw[HLX.o]at UK;cases q
   ·rw[aN aE]at UK;have HT2:=ah UK;clear UK HT HLX;go_wp2_with fail;go_roundw
    case rel=>exact⟨i,(i+j)/2,f,rfl,bm,aq,aq,aq,HT2.o,trivial⟩
    case measure=>exact gO
   ·rw[aV rfl]at UK;have HT2:=ah UK;clear UK HT HLX;go_wp2_with fail;go_roundw
    case rel=>exact⟨(i+j)/2+1,j,f,bm,rfl,aq,hjn,aq,HT2.o,trivial⟩
    case measure=>exact gO
  ·obtain rfl:T=i:=by
    rw[HT.o];cases f with
    |zero=>rfl
    |succ f=>unfold KD;rw[aN hlt]
   clear HT;by_cases h:T<xs.length
   ·obtain⟨b,o,rfl,h0⟩:=tO.o T h;have zT:(T:Int)<xs:=aq;generalize xs[T]=x at *;cases hq:((x:Int)==(n:Int))
    all_goals
     go_wp2_with(refine ap (HN.o _ _) ?_;rintro w2 rfl);go_ret2
     first|exact⟨⟨_,rfl⟩,aj _⟩|exact⟨.inl rfl,aj _⟩|exact⟨.inr rfl,aj _⟩
   ·have zT:¬(T:Int)<xs:=aq;go_wp2_with fail;go_ret2
    first|exact⟨⟨_,rfl⟩,aj _⟩|exact⟨.inl rfl,aj _⟩|exact⟨.inr rfl,aj _⟩
def ng[DecidableEq α][LT α][DecidableRel (α:=α) (· < ·)](l:List α)(n:α)(b:Bool):List α:=
 let m:=l.filter λx=> !(x==n)
 if b=true then m.take (m.countP λx=>decide (x<n))++n::m.drop (m.countP λx=>decide (x<n))else m
def E8(htr:∀a b c,R a b->R b c->R a c):OD R l↔l.Pairwise R:=by
 constructor
 ·intro h;rw[i9];intro i j hi hj hij;obtain⟨k,rfl⟩:∃k,j=i+1+k:=⟨j-(i+1),aq⟩
  induction k with
  |zero=>exact h i hj
  |succ k ih=>exact htr _ _ _ (ih aq aq) (h (i+1+k) hj)
 ·intro h i hi;exact i9.1 h i (i+1) aq hi aq
def acJ(htr:∀a b c,R a b->R b c->R a c){n:α}{k:Nat}(h:l.Pairwise R)(h1:∀a∈l.take k,R a n)(h2:∀b∈l.drop k,R n b):(l.take k++n::l.drop k).Pairwise R:=by
 rw[List.pairwise_append,List.pairwise_cons];refine⟨h.sublist (List.take_sublist _ _),⟨h2,h.sublist (List.drop_sublist _ _)⟩,λa ha b hb=> ?_⟩;rcases dF.1 hb with rfl|hb
 ·exact h1 a ha
 ·exact htr _ _ _ (h1 a ha) (h2 b hb)
def EK{α:Type}(lt:α->α->Prop)[DecidableRel lt](htr:∀a b c,lt a b->lt b c->lt a c)(n:α):∀ {l:List α},l.Pairwise lt->(∀a∈l.take (l.countP λx=>decide (lt x n)),lt a n)/\∀b∈l.drop (l.countP λx=>decide (lt x n)),¬lt b n
 | [],_=>⟨λ_ h=>absurd h aE,λ_ h=>absurd h aE⟩
 |x::r,h=>by
  obtain⟨h1,h2⟩:=List.pairwise_cons.1 h;by_cases hx:lt x n
  ·rw[List.countP_cons_of_pos (by simpa using hx),List.take_succ_cons,List.drop_succ_cons];obtain⟨k1,k2⟩:=EK lt htr n h2;exact⟨λa ha=>(dF.1 ha).elim (λe=>e▸hx) (k1 a),k2⟩
  ·have h0:(x::r).countP (λx=>decide (lt x n))=0:=List.countP_eq_zero.2 λy hy=>by
    rcases dF.1 hy with rfl|hy
    ·simpa using hx
    ·have:=h1 y hy;simp only[dK];exactλk=>hx (htr _ _ _ this k)
   rw[h0];exact⟨λ_ h=>absurd h aE,λb hb=>by simpa using List.countP_eq_zero.1 h0 b hb⟩
def aba{l:List Int}(n:Int)(b:Bool)(h:OD (· < ·) l):OD (· < ·) (ng l n b)/\∀x∈ng l n b,x∈l\/x=n:=by
 have htr:∀a b c:Int,a<b->b<c->a<c:=λ_ _ _=>Int.lt_trans
 exact ia
def aa9{l:List Nat}(n:Nat)(b:Bool)(h:OD (· < ·) l):OD (· < ·) (ng l n b)/\∀x∈ng l n b,x∈l\/x=n:=by
 have htr:∀a b c:Nat,a<b->b<c->a<c:=λ_ _ _=>Nat.lt_trans
 exact ia
def agN{m:List Nat}(h:m.Pairwise (· < ·))(n:Nat):bsU m n=m.countP λx=>decide (x<n):=by
 have hg:∀i (hi:i<m.length),m.getD i 0=m[i]:=λi hi=>by rw[bQ,aJ hi];rfl
 have hle:bsU m n<=m.length:=Jj _ _ _ _ aq;obtain⟨k1,k2⟩:=NP (lt:=λh=>decide (m.getD h 0<n)) (n:=m.length) (λa b hab hb hlt=>by
  simp only[dK]at hlt⊢;rw[hg b hb]at hlt;rw[hg a aq];by_cases e:a=b
  ·subst e;exact hlt
  ·have:=i9.1 h a b aq hb aq;omega) m 0 m aq (aD _) aq (λh hh=>aq) (λh h1 h2=>aq)
 have e:m.countP (λx=>decide (x<n))=(m.take (bsU m n)).countP (λx=>decide (x<n))+(m.drop (bsU m n)).countP (λx=>decide (x<n)):=by rw[<-List.countP_append,List.take_append_drop]
 rw[e,List.countP_eq_length.2,List.countP_eq_zero.2,bC]
 ·show _=min _ _+0;omega
 ·intro x hx;obtain⟨i,hi,rfl⟩:=fZ hx;rw[cZ]at hi;have:=k2 (bsU m n+i) (by show bsU m n<=_;omega) aq;rw[hg _ aq]at this;rw[List.getElem_drop];exact sd
 ·intro x hx;obtain⟨i,hi,rfl⟩:=fZ hx;rw[bC]at hi;have:=k1 i (by show i<bsU m n;omega);rw[hg _ aq]at this;rw[List.getElem_take];exact sd
end LT
def pL(h:zP:=by
 have hR:R=m:=by rw[HM.o.2.1];rfl
 subst hR;go_wp2_with fail;go_ret;exact⟨a2,c2,rfl,H2.o.1,H2.o.2.1.mono aq⟩):zP:=h
def oS(h:zP:=by go_ret;refine⟨a4,c4,by rw[HR.o.2];rfl,Below.trans ((H2.o.1.trans kg.o).alloc _) (H4.o.1.mono aq),?_⟩;rw[HR.o.2,HR.o.1];exact H4.o.2.mono aq):zP:=h
def fY(h:zP:=by have:=H1.o.1.size;rw[aR]at this;exact this):zP:=h
namespace LT
theorem Oz(x n:Int)(b:Nat)(w:ay)(h:w.cell? b=some (.int .i64 n)):Calls prog 346 #[erV x,.pointer (some b)] w λr w'=>r= .returned (.bool (x==n))/\Ext w w':=by unfold erV;go_in;exact oc
theorem Oy(x n:Nat)(b:Nat)(w:ay)(h:w.cell? b=some (.int .u32 n)):Calls prog 350 #[u3V x,.pointer (some b)] w λr w'=>r= .returned (.bool (x==n))/\Ext w w':=by
 unfold u3V;have z:((x:Int)==(n:Int))=(x==n):=by rw[bB];simp;omega
 go_in;go_wp2_with fail;go_ret;exact⟨aE,aj _⟩
def jR{W W':ay}{base e n k:Nat}{v:aA}{zs:List aA}(h:W.ownsRow base e n v k zs)(hx:Ext W W'):W'.ownsRow base e n v k zs:=(TK.ext (n0:=0) (T:=λ_=>false) hx).own h rfl
theorem VP(v:aA)(xs:List Int)(n:Int)(hl:xs.length<=1000000)(hs:xs.Pairwise (· < ·))(w:ay)(hv:Rd w 1 i3 v xs):Calls prog 347 #[v,.int .i64 n] w λe w'=>(∃b,e= .returned (.tuple #[.int .i64 ((xs.countP λx=>decide (x<n):Nat):Int),.bool b]))/\Ext w w':=by
 obtain⟨a,c,rfl,-,hca⟩:=qQ hv;by_cases h0:xs.length=0
 ·obtain rfl:=bG h0;refine ap (Tryz.slices_BinarySearch_int_empty a c n w) ?_;rintro w' rfl;exact⟨⟨_,rfl⟩,aj _⟩
 ·obtain⟨b,o,rfl,-⟩:=hca 0 aq;refine(Tryz.slices_BinarySearch_int b o xs c xs n w (aD _) aq (λj hj=> ?_) ?_).mono ?_
  ·obtain⟨b',o',e,h⟩:=hca j hj;cases e
   rw[h,bQ,aJ hj];rfl
  ·rw[bZ];exact hs.imp λh=>Int.le_of_lt h
  ·rintro e w' ⟨rfl,q,rfl⟩;rw[bZ];exact⟨⟨_,rfl⟩,(aj _).drewN q⟩
theorem Ox(v:aA)(xs:List Int)(n:Int)(b:Bool)(hl:xs.length<=1000)(hup:OD (· < ·) xs)(w:ay)(hv:Rd w 1 i3 v xs):Calls prog 273 #[v,.int .i64 n,.bool b] w λe w'=>∃a c,e= .returned (.slice a (ng xs n b).length c)/\Ext w w'/\w'.ownsRow w 3 1 (.slice a (ng xs n b).length c) (ng xs n b).length ((ng xs n b).flatMap i3):=by
 have hb0:=aC w (.cells #[.int .i64 n] 3);have c0:=aG hb0 0
 change World.cell? _ w=_ at c0
 have HC:=ah (D4 v xs aq (w.alloc (.cells #[.int .i64 n] 3)) (hv.ext ((aj _).alloc _)));obtain⟨a0,k0,rfl,-,-⟩:=qQ hv;obtain⟨m,hm⟩:∃m,m=xs.filter λx=> !(x==n):=⟨_,rfl⟩
 have hW:ng xs n b=if b=true then m.take (m.countP λx=>decide (x<n))++n::m.drop (m.countP λx=>decide (x<n))else m:=by rw[hm];rfl
 have hml:m.length<=1000:=by rw[hm];exact aL (ji _ _) hl
 have hmp:m.Pairwise (· < ·):=by rw[hm];exact((E8 (R:=λa b:Int=>a<b) (λ_ _ _ h k=>Int.lt_trans h k)).1 hup).filter _
 generalize ng xs n b=R at *;have HM:=ah (ak hm (ak hW hmp));clear hm hW hmp hv hup;go_in;go_upto_region 2 with(first
  |(go_at_call 219;refine HC.o.mono ?_;rintro e w1 ⟨a1,c1,rfl,hx1,ho1⟩;rw[aR]at ho1;have H1:=ah (ak hx1 (ak ho1 (aI hb0 hx1)));clear hx1 ho1)
  |(go_at_call 345
    refine(VL (w+1) 346 _ (enters_of func346 ax rfl) (λx=>x==n) _ xs aq w1 H1.o.2.1 fY (λx _ W hb=>Oz x n w W ?_)).mono ?_
    ·rw[aG ((hb.block _ dC).trans H1.o.2.2)];rfl
    rintro e w2 ⟨a2,m2,c2,rfl,hb2,hm2,ho2⟩;rw[<-HM.o.1]at ho2 hm2;subst hm2;have hx2:Ext w w2:=Below.trans (((aj w).alloc _).trans H1.o.1) (hb2.mono aq);have ac5:=(hb2.block _ dC).trans H1.o.2.2;have d0:w2.cell? w=some (.int .i64 n):=aG ac5 0;have H2:=ah (ak hx2 (ak ho2 hb2.size));clear hb2 ho2 hx2 ac5))
 cases b
 ·exact pL
 ·have hB:=VP _ m n aq HM.o.2.2 w2 (bY iD H2.o.2.1);have hR:=HM.o.2.1;rw[aV rfl]at hR;have hkl:m.countP (λx=>decide (x<n))<=m.length:=List.countP_le_length;generalize m.countP (λx=>decide (x<n))=k at *;have hRl:R.length=m+1:=by rw[hR,aH,aO,bC,cZ];omega
  have HB:=ah hB;have HR:=ah (ak hR hRl);have hs2:=H2.o.2.2;have hl1:=H1.o.1.size;rw[aR]at hl1;clear hB hR hRl;go_wp2_with(first
   |(go_at_call 347;refine HB.o.mono ?_;rintro e w3 ⟨⟨bb,rfl⟩,hx3⟩;have d3:=hx3.cell d0;have kg:=ah hx3;have hl3:=hx3.size;clear hx3)
   |(go_at_call 348
     refine(Vy (w+1) _ m n k hkl aq _ w3 (dM (jR H2.o.2.1 kg.o) _) ev (aC w3 _) (λe=> ?_)).mono ?_
     ·have:=(jR H2.o.2.1 kg.o).lt _ e;omega
     rintro e w4 ⟨a4,c4,rfl,hb4,rY⟩;have H4:=ah (ak hb4 rY);clear hb4 rY))
  exact oS
theorem Ow(v:aA)(xs:List Nat)(n:Nat)(b:Bool)(hl:xs.length<=1000)(hup:OD (· < ·) xs)(w:ay)(hv:Rd w 1 i8 v xs):Calls prog 276 #[v,.int .u32 n,.bool b] w λe w'=>∃a c,e= .returned (.slice a (ng xs n b).length c)/\Ext w w'/\w'.ownsRow w 32 1 (.slice a (ng xs n b).length c) (ng xs n b).length ((ng xs n b).flatMap i8):=by
 have hb0:=aC w (.cells #[.int .u32 n] 32);have c0:=aG hb0 0
 change World.cell? _ w=_ at c0
 have HC:=ah (D3 v xs aq (w.alloc (.cells #[.int .u32 n] 32)) (hv.ext ((aj _).alloc _)));obtain⟨a0,k0,rfl,-,-⟩:=tJ hv;obtain⟨m,hm⟩:∃m,m=xs.filter λx=> !(x==n):=⟨_,rfl⟩
 have hW:ng xs n b=if b=true then m.take (m.countP λx=>decide (x<n))++n::m.drop (m.countP λx=>decide (x<n))else m:=by rw[hm];rfl
 have hml:m.length<=1000:=by rw[hm];exact aL (ji _ _) hl
 have hmp:m.Pairwise (· < ·):=by rw[hm];exact((E8 (R:=λa b:Nat=>a<b) (λ_ _ _ h k=>Nat.lt_trans h k)).1 hup).filter _
 generalize ng xs n b=R at *;have HM:=ah (ak hm (ak hW hmp));clear hm hW hmp hv hup;go_in;go_upto_region 2 with(first
  |(go_at_call 220;refine HC.o.mono ?_;rintro e w1 ⟨a1,c1,rfl,hx1,ho1⟩;rw[aR]at ho1;have H1:=ah (ak hx1 (ak ho1 (aI hb0 hx1)));clear hx1 ho1)
  |(go_at_call 349
    refine(VK (w+1) 350 _ (enters_of func350 ax rfl) (λx=>x==n) _ xs aq w1 H1.o.2.1 fY (λx _ W hb=>Oy x n w W ?_)).mono ?_
    ·rw[aG ((hb.block _ dC).trans H1.o.2.2)];rfl
    rintro e w2 ⟨a2,m2,c2,rfl,hb2,hm2,ho2⟩;rw[<-HM.o.1]at ho2 hm2;subst hm2;have hx2:Ext w w2:=Below.trans (((aj w).alloc _).trans H1.o.1) (hb2.mono aq);have ac5:=(hb2.block _ dC).trans H1.o.2.2;have d0:w2.cell? w=some (.int .u32 n):=aG ac5 0;have H2:=ah (ak hx2 (ak ho2 hb2.size));clear hb2 ho2 hx2 ac5))
 cases b
 ·exact pL
 ·have hB:=VO _ m n aq w2 (bY iK H2.o.2.1);rw[agN HM.o.2.2]at hB;have hR:=HM.o.2.1;rw[aV rfl]at hR;have hkl:m.countP (λx=>decide (x<n))<=m.length:=List.countP_le_length;generalize m.countP (λx=>decide (x<n))=k at *;have hRl:R.length=m+1:=by rw[hR,aH,aO,bC,cZ];omega
  have HB:=ah hB;have HR:=ah (ak hR hRl);have hs2:=H2.o.2.2;have hl1:=H1.o.1.size;rw[aR]at hl1;clear hB hR hRl;go_wp2_with(first
   |(go_at_call 351;refine HB.o.mono ?_;rintro e w3 ⟨⟨bb,rfl⟩,hx3⟩;have d3:=hx3.cell d0;have kg:=ah hx3;have hl3:=hx3.size;clear hx3)
   |(go_at_call 352
     refine(Vw (w+1) _ m n k hkl aq _ w3 (dM (jR H2.o.2.1 kg.o) _) ev (aC w3 _) (λe=> ?_)).mono ?_
     ·have:=(jR H2.o.2.1 kg.o).lt _ e;omega
     rintro e w4 ⟨a4,c4,rfl,hb4,rY⟩;have H4:=ah (ak hb4 rY);clear hb4 rY))
  exact oS
end LT
end Go.Proofs.YtopfefhenfineaaGreat
namespace Go.Proofs.YtopfefhenfineaaGreat
open Go.Proofs.Tryz Go.RowKit Go.Shelf V
attribute[local go_sem] Oper.semAt_some V.Oper.idle V.Oper.mE V.Oper.jM
namespace LT
open gZ (AF)
structure qH(W:ay)(p:iZ)(s:iF):Prop where
 ar:W.ownsRow 0 3 1 (.slice s.a p.ar s.c) p.ar (p.ar.flatMap i3)
 fc:W.ownsRow 0 121 2 (.slice s.fa p.fc s.fc) p.fc (p.fc.flatMap fD)
 lc:W.ownsRow 0 121 2 (.slice s.la p.lc s.lc) p.lc (p.lc.flatMap fD)
 fa:W.ownsRow 0 32 1 (.slice s.ga p.fa s.gc) p.fa (p.fa.flatMap i8)
def qH.rd{W:ay}{p:iZ}{s:iF}(h:qH W p s):yt W p s:=⟨bY iD h.ar,bY fM h.fc,bY fM h.lc,bY iK h.fa⟩
def qH.tk{W W':ay}{p:iZ}{s:iF}(h:qH W p s){n0:Nat}{T:Nat->Bool}(ht:TK n0 T W W')(h1:T 3=false)(h2:T 121=false)(h3:T 32=false):qH W' p s:=⟨ht.own h.ar h1,ht.own h.fc h2,ht.own h.lc h2,ht.own h.fa h3⟩
def qH.ext{W W':ay}{p:iZ}{s:iF}(h:qH W p s)(hx:Ext W W'):qH W' p s:=h.tk (TK.ext (n0:=0) (T:=λ_=>false) hx) rfl rfl rfl
def Yw(p:iZ)(s:iF)(u:aA)(a:AF):Array aA:= #[.slice s.a p.ar s.c,.int .u8 p.fm,.slice s.fa p.fc s.fc,.int .u32 p.dn,.int .u8 p.lm,.slice s.la p.lc s.lc,.slice s.ga p.fa s.gc,.int .u8 p.fd,.int .u64 (p.sp:Int),.bool p.we,.bool p.pe,.bool p.rt,.bool p.np,u,.string (str a.1),.int .i64 a.2.1,.string (str a.2.2.1),.string (str a.2.2.2.1),.string (str a.2.2.2.2)]
def aiO(p:iZ)(s:iF)(u v:aA)(a:AF):(Yw p s u a).setIfInBounds 13 v=Yw p s v a:=by unfold Yw;rfl
def SK(t:Nat):Bool:=t==45||t==284
structure SX(n0 mb:Nat)(p:iZ)(s:iF)(u:aA)(ns:List Nn)(a:AF)(W:ay):Prop where
 hB:n0<=mb
 b:W.heap[mb]?=some (.cells (Yw p s u a) 284 (0,0))
 own:W.ownsRow n0 45 4 u ns (ns.flatMap jF)
 po:qH W p s
section
variable {n0 mb:Nat} {p:iZ} {s:iF} {u:aA} {ns:List Nn} {a:AF} {W W':ay}
def SX.ext'(h:SX n0 mb p s u ns a W)(hx:Ext W W'):SX n0 mb p s u ns a W':=⟨h.hB,aI h.b hx,jR h.own hx,h.po.ext hx⟩
def SX.lt(h:SX n0 mb p s u ns a W):mb<W.heap.size:=(aB.1 h.b).1
def SX.put(h:SX n0 mb p s u ns a W)(k:Nat)(v:aA){p':iZ}{s':iF}(he:(Yw p s u a).setIfInBounds k v=Yw p' s' u a)(hp:qH W p' s'):SX n0 mb p' s' u ns a (W.setCell ⟨mb,k,none⟩ v)/\TK n0 SK W (W.setCell ⟨mb,k,none⟩ v):=by have t1:TK n0 (λx=>x==284) W (W.setCell ⟨mb,k,none⟩ v):=TK.set (p:=⟨mb,k,none⟩) h.b rfl h.hB v;refine⟨⟨h.hB,by rw[<-he];exact eX h.b k v,t1.own h.own rfl,hp.tk t1 rfl rfl rfl⟩,t1.mono (aD _) λt ht=> ?_⟩;unfold SK at ht;simp at ht⊢;exact ht.2
end
theorem uS{n0 mb:Nat}{p:iZ}{s:iF}{u:aA}{ns:List Nn}{a:AF}{W:ay}(h:SX n0 mb p s u ns a W)(hn0:n0<=W)(hl:ns.length<=1000000)(t:aK)(ht:t.size<=1000000)(e:Nat):Calls prog 272 #[.pointer (some mb),.int .i64 e,.string t] W λr w'=>r= .returned (.tuple #[])/\∃u',SX n0 mb p s u' (ns++[⟨a.1,a.2.1,e,(bytes t).take 60⟩]) a w'/\TK n0 SK W w':=by
 obtain⟨au,cu,rfl⟩:=bU h.own;have c13:W.cell? ⟨mb,13,none⟩=some (.slice au ns cu):=aG h.b 13;have c14:W.cell? ⟨mb,14,none⟩=some (.string (str a.1)):=aG h.b 14;have c15:W.cell? ⟨mb,15,none⟩=some (.int .i64 a.2.1):=aG h.b 15;obtain⟨k,hk⟩:∃k,k=min t.size 60:=⟨_,rfl⟩;have hmz:min (t:Int) 60=(k:Int):=aq;have hkl:k<=t.size:=aq;have hkz:(k:Int)<=t:=aq;have hex:t.extract 0 k=str ((bytes t).take 60):=by
  rw[qo]
  congr 1
  by_cases hh:t.size<=60
  ·rw[hk,dI hh,dY dc,dY dc]
  ·rw[hk,Nat.min_eq_right aq]
 obtain⟨x,hx⟩:∃x:Nn,x=⟨a.1,a.2.1,e,(bytes t).take 60⟩:=⟨_,rfl⟩;have wI:jF x=[.string (str a.1),.int .i64 a.2.1,.int .i64 e,.string (str ((bytes t).take 60))]:=by rw[hx];rfl
 rw[<-hx];clear hx;generalize(bytes t).take 60=tx at *;have HA:=ah h;have HK:=ah (ak hk wI);have hBl:=h.lt;have hel:ns.length+[x].length=ns.length+1:=rfl;clear h hk wI;generalize str a.1=fl at *;generalize a.2.1=ln at *;have hlit:∀W':ay,Rd (W'.alloc (.cells #[.string fl,.int .i64 ln,.int .i64 e,.string (str tx)] 45)) 4 jF (.slice (some ⟨W'.heap.size,0,none⟩) 1 1) [x]:=λW'=>by have:=gI iC W' [x] 45 _ rfl;rw[show [x].flatMap jF=jF x from aE,HK.o.2]at this;exact this
 have aur:=ah hlit;clear hlit;go_in;go_upto_region 0 with fail;refine rQ (n:=1) [23,24,25,26] (λX=>∃x:XW W,X=x.w) ax ?_;have hS0:∃x:XW W,W.drew=x.w:=⟨⟨W.drew,(aj W).drew⟩,rfl⟩;have asM:=nV c13;have aoX:=nV c14;have asL:=nV c15;refine af 0 rfl ?_;refine af 1 rfl ?_;refine af 2 rfl ?_;refine af 3 rfl ?_;refine am 4 rfl hS0 ?_;refine af 5 rfl ?_;refine af 6 rfl ?_;refine af 7 rfl ?_;refine af 8 rfl ?_;refine am 9 rfl hS0 ?_;refine af 10 rfl ?_;refine af 11 rfl ?_;refine af 12 rfl ?_;refine af 13 rfl ?_;refine am 14 rfl hS0 ?_;refine af 15 rfl ?_;refine af 16 rfl ?_;refine af 17 rfl ?_;refine af 18 rfl ?_;refine af 19 rfl ?_;refine af 20 rfl ?_;refine af 21 rfl ?_;refine jI 22 ax rfl (λK hK=> ?_);go_simp;refine hK _ _ (λ_=>⟨⟨_,(aj W).drew.alloc _⟩,rfl⟩) ?_;clear hK K;have hA:=HA.o.ext' ((aj W).alloc (.cells #[.string fl,.int .i64 ln,.int .i64 e,.string (str tx)] 45)).drew;have hTA:TK n0 SK W (W.alloc (.cells #[.string fl,.int .i64 ln,.int .i64 e,.string (str tx)] 45)).drew:= .ext ((aj W).alloc _).drew;have hLT:=(aur.o W).ext (aj _).drew;have hsz:n0<=(W.alloc (.cells #[.string fl,.int .i64 ln,.int .i64 e,.string (str tx)] 45)).drew.heap.size:=by show n0<=(W.alloc _).heap.size;rw[aR];exact Nat.le_succ_of_le hn0
 generalize World.drew (W.alloc _)=W3 at *;clear asM aoX asL hS0;refine gP 23 ax rfl ax (λK hK=> ?_);refine xB rfl (.tmp 10) (.tmp 28) 38 rfl underlying38 Ni rfl az iC AR n0 (.slice au ns cu) _ ns [x] (by rfl) (by rfl) hA.own hLT bp az hsz ?_;intro au4 cu4 w4 rY hg4;refine hK _ _ ?_;clear hK K;rw[hel]at rY⊢;have hk4:TK n0 (Tf 45) W3 w4:=TK.grown hA.own hg4 rfl (aD _);have hb4:=hk4.blk hA.b (.inr rfl);have cb4:w4.cell? ⟨mb,13,none⟩=some (.slice au ns cu):=aG hb4 13;have fb4:=aP hb4 13;have H4:=ah (ak hb4 (ak hk4 (ak rY (ak hA.po hTA))));clear hb4 hk4 rY hg4 hA hTA hLT;refine gP 24 ax rfl ax (λK hK=> ?_);go_simp;refine hK _ _ ?_;clear hK K;refine gP 25 ax rfl ax (λK hK=> ?_);go_simp;refine hK _ _ ?_;clear hK K;refine gP 26 ax rfl ax (λK hK=> ?_);go_simp;refine hK _ _ ?_;clear hK K;refine lG ax ?_;dsimp only[V.Calm,Exit.then];go_wp2_with fail;go_end0;obtain⟨hb4,hk4,rY,hpo,hTA⟩:=H4.o;have t5:TK n0 (Tf 284) w4 (w4.setCell ⟨mb,13,none⟩ (.slice au4 (ns+1) cu4)):=TK.set (p:=⟨mb,13,none⟩) hb4 rfl HA.o.hB _;have hbs:=eX hb4 13 (.slice au4 (ns+1) cu4);rw[aiO]at hbs;refine⟨rfl,_,⟨HA.o.hB,hbs,?_,(hpo.tk hk4 rfl rfl rfl).tk t5 rfl rfl rfl⟩,?_⟩
 ·rw[aH];exact t5.own rY rfl
 ·exact(hTA.trans (hk4.mono (aD _) (λt ht=>by unfold SK at ht;unfold Tf;simp at ht⊢;exact ht.1))).trans (t5.mono (aD _) (λt ht=>by unfold SK at ht;unfold Tf;simp at ht⊢;exact ht.2))
end LT
end Go.Proofs.YtopfefhenfineaaGreat
namespace Go.Proofs.YtopfefhenfineaaGreat
open Go.Proofs.Tryz Go.RowKit Go.Shelf V
attribute[local go_sem] Oper.semAt_some
variable{zP:Prop}
def tE(h:zP:=by
 split
 ·exact Nat.le_succ _
 ·simp):zP:=h
def ly(h:zP:=by
 go_roundw
 case rel=>exact⟨k+1,_,s1,u6,bm,aq,rfl,by rw[HST.o];exact H6.o.1,H6.o.2.own (jR HI.o.2.1 kM.o) rfl,(HI.o.2.2.1.trans (.ext kM.o)).trans H6.o.2,HI.o.2.2.2.2.2.1,by have:=HI.o.2.2.2.2;omega⟩
 case measure=>exact gO):zP:=h
def lw(h:zP:=by
 go_roundw
 case rel=>exact⟨k+1,_,_,u1,bm,aq,rfl,by rw[HST.o];exact HP.o.1,HP.o.2.own (jR HI.o.2.1 H6.o.1) rfl,(HI.o.2.2.1.trans (.ext H6.o.1)).trans HP.o.2,HI.o.2.2.2.2.2.1,by have:=HI.o.2.2.2.2;omega⟩
 case measure=>exact gO):zP:=h
namespace LT
open gZ (AF)
open nG (eZ)
variable{W:ay}{a:AF}{k mb n0:Nat}{u v:aA}{x:List Int×List Nn}
def stA(a:AF)(x:List Int×List Nn)(w:aK):List Int×List Nn:=
 if (vR.lS w.toList).2=0 then(ng x.1 (vR.lS w.toList).1 true,x.2)else(x.1,x.2++[⟨a.1,a.2.1,(vR.lS w.toList).2.toNat,(bytes w).take 60⟩])
def DJ(a:AF)(v:aK)(ar:List Int)(ns:List Nn):List Int×List Nn:=
 (Lib.goFieldsP eZ v).foldl (stA a) (if (Lib.goFieldsP eZ v).length=0 then []else ar,ns)
def Gj(l:List Int):Prop:=(∀a∈l,0<=a/\a<6)/\OD (· < ·) l
def Gj.len{l:List Int}(h:Gj l):l.length<=6:=by
 have hu:OD (· < ·) (l.map Int.toNat):=λi hi=>by rw[aS]at hi;have h1:=h.2 i hi;have h2:=h.1 _ (aW (show i<l.length from aq));simp only[gQ];show Int.toNat _<Int.toNat _;have h3:l[i]<l[i+1]:=h1;omega
 have:=Gn hu (n:=6) (λx hx=>by obtain⟨y,hy,rfl⟩:=dW.1 hx;have:=h.1 y hy;omega)
 rwa [aS]at this
def Er(s:List aZ):((vR.lS s).2=0/\0<=(vR.lS s).1/\(vR.lS s).1<6)\/(vR.lS s).2=80:=by
 unfold vR.lS;split
 ·exact .inl ⟨rfl,az,az⟩
 split
 ·exact .inr rfl
 ·rename_i h;have:=(vR.FJ (vR.sM s));exact .inl ⟨rfl,aq,aq⟩
def abA(w:aK)(h:Gj x.1):Gj (stA a x w).1:=by
 unfold stA;split
 ·rename_i h0;obtain⟨k1,k2⟩:=aba (vR.lS w.toList).1 true h.2;refine⟨λy hy=> ?_,k1⟩;rcases k2 y hy with k|rfl
  ·exact h.1 y k
  ·rcases Er w.toList with⟨-,k⟩|k
   ·exact k
   ·rw[k]at h0;cases h0
 ·exact h
def afl(w:aK):(stA a x w).2.length<=x.2.length+1:=by unfold stA;exact tE
def DT(n0 mb:Nat)(p:iZ)(ns:List Nn)(a:AF)(W:ay)(r:Ending)(w':ay):Prop:=r= .returned (.tuple #[])/\(∃s u,SX n0 mb p s u ns a w')/\TK n0 SK W w'
def Gm{L:List aK}(h:W.ownsRow 0 9 1 v L (L.flatMap nG.zY))(hk:k<L):∃b o c,v= .slice (some ⟨b,o,none⟩) L c/\W.cell? ⟨b,o+k,none⟩=some (.string L[k]):=by obtain⟨a',c',e',-,-,h4⟩:=bY (show∀x,(nG.zY x).length=1 fromλ_=>rfl) h;obtain⟨b,o,rfl,hat⟩:=h4 k hk;have r0:=hat 0 (Nat.succ_pos _);rw[eO,iB]at r0;exact⟨b,o,c',e',r0⟩
theorem NU{p:iZ}{s:iF}{ns:List Nn}(h:SX n0 mb p s u ns a W)(hn0:n0<=W)(hok:Gj p.ar)(hl:ns.length<=500000)(v:aK)(hv:v.size<=100000):Calls prog 222 #[.pointer (some mb),.string v] W (DT n0 mb {p with ar:=(DJ a v p.ar ns).1} (DJ a v p.ar ns).2 a W):=by
 have hfl:=lV eZ v;have hfs:=vk eZ v;have HW:=ah (λW=>nG.nU v aq W);obtain⟨R,hR⟩:∃R,R=DJ a v p.ar ns:=⟨_,rfl⟩;have hR2:R=(Lib.goFieldsP eZ v).foldl (stA a) (if (Lib.goFieldsP eZ v).length=0 then []else p.ar,ns):=hR;rw[<-hR];clear hR;generalize Lib.goFieldsP eZ v=L at *;obtain⟨ar0,har⟩:∃ar0,ar0=if L.length=0 then []else p.ar:=⟨_,rfl⟩
 rw[<-har]at hR2;have hok0:Gj ar0:=by
  rw[har];split
  ·exact⟨λ_ h=>absurd h aE,λ_ hi=>absurd hi aE⟩
  ·exact hok
 have HR:=ah (ak hR2 (ak hok0 har));have c0:W.cell? mb=some (.slice s.a p.ar s.c):=aG h.b 0;have H:=ah h;have HS:=ah hfs;clear hR2 hok0 har h hok hfs;unfold DT;go_in;go_upto_if 13 with(refine(HW.o _).mono ?_;rintro e w1 ⟨wv,rfl,hx1,ho1⟩;obtain⟨wb,wd,rfl⟩:=bU ho1;have H1:=ah (ak hx1 (ho1.mono (bP _)));clear hx1 ho1);go_cut [] (λwx=>∃(W3:ay) (s3:iF),W3=wx/\SX n0 mb {p with ar:=ar0} s3 u ns a W3/\W3.ownsRow 0 9 1 (.slice wb L wd) L (L.flatMap nG.zY)/\TK n0 SK W W3)
 case first=>
  have c0':=H1.o.1.cell c0;have f0:=aP (H.o.ext' H1.o.1).b 0;by_cases hz:L.length=0
  ·have z0:((L:Int)==0)=true:=by rw[hz];rfl
   have hp:=(H.o.ext' H1.o.1).put 0 (.slice none 0 0) (p':= {p with ar:= []}) (s':= {s with a:=none,c:=0}) rfl ⟨⟨rfl,.inl aE⟩,(H.o.ext' H1.o.1).po.fc,(H.o.ext' H1.o.1).po.lc,(H.o.ext' H1.o.1).po.fa⟩;have ha:ar0=[]:=by rw[HR.o.2.2,aV hz]
   have HP:=ah (ak hp ha);clear hp ha hz;go_wp2_with fail;go_meet;exact⟨_,_,rfl,by rw[HP.o.2];exact HP.o.1.1,HP.o.1.2.own H1.o.2 rfl,(TK.ext H1.o.1).trans HP.o.1.2⟩
  ·have z0:((L:Int)==0)=false:=bK.2 aq;have ha:ar0=p.ar:=by rw[HR.o.2.2,aN hz]
   have HA:=ah ha;clear ha hz;go_wp2_with fail;go_meet;exact⟨_,s,rfl,by rw[HA.o];exact H.o.ext' H1.o.1,H1.o.2,.ext H1.o.1⟩
 case rest=>
  obtain⟨W3,s3,rfl,hsx,how,ht3⟩:=hcut;have H3:=ah (ak hsx (ak how ht3));clear hsx how ht3 c0;go_wp2_with fail;go_loopw [20] (λi wr=>∃(k:Nat) (x1:List Int×List Nn) (s1:iF) (u1:aA),i= .int .i64 k/\k<=L/\x1=(L.take k).foldl (stA a) (ar0,ns)/\SX n0 mb {p with ar:=x1.1} s1 u1 x1.2 a wr/\wr.ownsRow 0 9 1 (.slice wb L wd) L (L.flatMap nG.zY)/\TK n0 SK W wr/\Gj x1.1/\x1.2.length<=ns.length+k) (λi _=>L.length-(intOf i).toNat)
  case atStart=>exact⟨0,(ar0,ns),s3,u,rfl,aq,rfl,H3.o.1,H3.o.2.1,H3.o.2.2,HR.o.2.1,aE⟩
  case round=>
   obtain⟨k,⟨ar1,yQ⟩,s1,u1,rfl,hk,hfo,hsx,how,htk,hao,hnl⟩:=hrel;dsimp only at hsx hao hnl;by_cases hlt:k<L
   ·obtain⟨b,o,c',e',r0⟩:=Gm how hlt;simp only[aU,true_and]at e';obtain⟨rfl,rfl⟩:=e';have hsz:=HS.o _ (aW hlt);have hst:(L.take (k+1)).foldl (stA a) (ar0,ns)=stA a (ar1,yQ) L[k]:=by rw[bE hlt,gU,<-hfo];rfl
    generalize L[k]=uM at *;have hP:=λW=>vR.Ac uM W
    have hpo:=Er uM.toList;have hnx:Gj (stA a (ar1,yQ) uM).1:=abA uM hao;have hln:=afl (a:=a) (x:=(ar1,yQ)) uM;have qE:stA a (ar1,yQ) uM=if (vR.lS uM.toList).2=0 then(ng ar1 (vR.lS uM.toList).1 true,yQ)else(ar1,yQ++[⟨a.1,a.2.1,(vR.lS uM.toList).2.toNat,(bytes uM).take 60⟩]):=rfl
    rw[<-hst]at hnx hln qE;generalize vR.lS uM.toList=q at *;obtain⟨an,er⟩:=q;dsimp only at hP hpo qE hln;have zk:(k:Int)<L:=aq;have HPa:=ah hP;have HI:=ah (ak hsx (ak how (ak htk (ak hao (ak hnl (ak hnx hln))))));have hal:=hao.len;have hns:n0<=wr:=aL hn0 htk.size;clear hP hsx how htk hao hnx hln hst hfo;rcases hpo with⟨rfl,hq1,hq2⟩|rfl
    ·rw[aV rfl]at qE;have HST:=ah qE;clear qE;have d0:wr.cell? mb=some (.slice s1.a ar1 s1.c):=aG HI.o.1.b 0;have HWi:=ah (λW' (hx:Ext wr W')=>Ox _ ar1 an true aq HI.o.2.2.2.1.2 W' (HI.o.1.ext' hx).po.rd.ar);dsimp only at HWi;generalize ng ar1 an true=ar2 at *;go_wp2_with(first
      |(go_at_call 271;refine ap (HPa.o _) ?_;intro w5 hx5;have d5:=hx5.cell d0;have kM:=ah hx5;clear hx5)
      |(go_at_call 273;refine(HWi.o _ kM.o).mono ?_;rintro e w6 ⟨a6,c6,rfl,hx6,uF⟩;have d6:=hx6.cell d5;have f6:=aP (HI.o.1.ext' (kM.o.trans hx6)).b 0;have H6:=ah (ak (kM.o.trans hx6) (uF.mono (bP _)));clear hx6 uF))
     have hsp:=HI.o.1.ext' H6.o.1;have hp:=hsp.put 0 (.slice a6 ar2 c6) (p':= {p with ar:=ar2}) (s':= {s1 with a:=a6,c:=c6}) rfl ⟨H6.o.2,hsp.po.fc,hsp.po.lc,hsp.po.fa⟩;have HP:=ah hp;clear hp hsp;exact lw
    ·rw[aN az]at qE;have HST:=ah qE;clear qE;go_wp2_with(first
      |(go_at_call 271;refine ap (HPa.o _) ?_;intro w5 hx5;have kM:=ah hx5;clear hx5)
      |(refine ap (uS (HI.o.1.ext' kM.o) (aL hns kM.o.size) (by have:=HI.o.2.2.2.2.1;omega) uM aq 80) ?_;rintro w6 ⟨u6,hs6,Da⟩;have H6:=ah (ak hs6 Da);clear hs6 Da))
     exact ly
   ·obtain rfl:k=L.length:=aq;rw[bZ,<-HR.o.1]at hfo;subst hfo;have HI:=ah (ak hsx htk);clear hsx how htk hao;go_wp2_with fail
    first|go_end0|refine aM (bH rfl _ _ _) rfl ?_
    exact⟨rfl,⟨_,_,HI.o.1⟩,HI.o.2⟩
end LT
variable{zP:Prop}
def iS(h:zP:=by
 go_in;go_wp2_with(refine ap HK.o ?_;intro w1 h1;have H1:=ah h1;clear h1)
 first|go_end0|refine aM (bH rfl _ _ _) rfl ?_
 exact⟨rfl,H1.o⟩):zP:=h
namespace LT
open gZ (AF)
variable{W:ay}{a:AF}{mb n0:Nat}{ns:List Nn}{p:iZ}{s:iF}{u:aA}
def J7(p:iZ)(k:Nat)(b:Bool):iZ:=match k with
 |9=> {p with we:=b}
 |10=> {p with pe:=b}
 |11=> {p with rt:=b}
 |_=> {p with np:=b}
def SX.amY(h:SX n0 mb p s u ns a W)(k:Nat)(hk:9<=k/\k<=12)(b:Bool):SX n0 mb (J7 p k b) s u ns a (W.setCell ⟨mb,k,none⟩ (.bool b))/\TK n0 SK W (W.setCell ⟨mb,k,none⟩ (.bool b)):=by have hk4:k=9\/k=10\/k=11\/k=12:=aq;rcases hk4 with rfl|rfl|rfl|rfl<;>exact h.put _ (.bool b) (s':=s) rfl ⟨h.po.ar,h.po.fc,h.po.lc,h.po.fa⟩
def vJ(a:AF)(v:aK)(k:Nat)(p:iZ)(ns:List Nn):iZ×List Nn:=
 if bytes v=[]then(J7 p k false,ns)else if (nG.sw v).2=0 then(J7 p k (nG.sw v).1,ns)else(p,ns++[⟨a.1,a.2.1,150,(bytes v).take 60⟩])
def Ro(v:aK):(nG.sw v).2=0\/(nG.sw v).2=150:=by unfold nG.sw;exact ri
theorem BR(h:SX n0 mb p s u ns a W)(hn0:n0<=W)(hl:ns.length<=500000)(v:aK)(hv:v.size<=100000)(k:Nat)(hk:9<=k/\k<=12):Calls prog 279 #[.pointer (some mb),.string v,.pointer (some ⟨mb,k,none⟩)] W (DT n0 mb (vJ a v k p ns).1 (vJ a v k p ns).2 a W):=by
 have HB:=ah (λW=>nG.JF v W);have hc:∃b,W.cell? ⟨mb,k,none⟩=some (.bool b):=by rw[aG h.b];have hk4:k=9\/k=10\/k=11\/k=12:=aq;rcases hk4 with rfl|rfl|rfl|rfl<;>exact⟨_,rfl⟩
 obtain⟨b0,c0⟩:=hc;have f0:=aP h.b k;have H:=ah h;have hR:vJ a v k p ns=if bytes v=[]then(J7 p k false,ns)else if (nG.sw v).2=0 then(J7 p k (nG.sw v).1,ns)else(p,ns++[⟨a.1,a.2.1,150,(bytes v).take 60⟩]):=rfl
 have JK:=Ro v;generalize vJ a v k p ns=R at *;generalize nG.sw v=q at *;obtain⟨bv,er⟩:=q;dsimp only at JK;clear h;unfold DT;by_cases he:bytes v=[]
 ·rw[aV he]at hR;have HR:=ah hR;obtain rfl:v=⟨#[]⟩:=bytes_inj he;have HP:=ah (H.o.amY k hk false);clear hR he JK;go_in;go_wp2_with fail
  first|go_end0|refine aM (bH rfl _ _ _) rfl ?_
  exact⟨rfl,⟨_,_,by rw[HR.o];exact HP.o.1⟩,HP.o.2⟩
 rw[aN he]at hR;have ze:v.toList.isEmpty=false:=by rw[Lib.toList_data,List.isEmpty_eq_false_iff];exact he
 rcases JK with rfl|rfl
 ·have hR2:R=(J7 p k bv,ns):=hR;have HR:=ah hR2;clear hR hR2 he;go_in;go_wp2_with(go_at_call 277;refine ap (HB.o _) ?_;intro w1 hx1;have c1:=hx1.cell c0;have f1:=aP (H.o.ext' hx1).b k;have HX:=ah hx1;clear hx1);have HP:=ah ((H.o.ext' HX.o).amY k hk bv)
  first|go_end0|refine aM (bH rfl _ _ _) rfl ?_
  exact⟨rfl,⟨_,_,by rw[HR.o];exact HP.o.1⟩,(TK.ext HX.o).trans HP.o.2⟩
 ·have hR2:R=(p,ns++[⟨a.1,a.2.1,150,(bytes v).take 60⟩]):=hR;have HR:=ah hR2;clear hR hR2 he;go_in;go_wp2_with(first
   |(go_at_call 277;refine ap (HB.o _) ?_;intro w1 hx1;have HX:=ah hx1;clear hx1)
   |(refine ap (uS (H.o.ext' HX.o) (aL hn0 HX.o.size) aq v aq 150) ?_;rintro w6 ⟨u6,hs6,Da⟩;have H6:=ah (ak hs6 Da);clear hs6 Da))
  first|go_end0|refine aM (bH rfl _ _ _) rfl ?_
  exact⟨rfl,⟨_,_,by rw[HR.o];exact H6.o.1⟩,(TK.ext HX.o).trans H6.o.2⟩
theorem uR(h:SX n0 mb p s u ns a W)(hn0:n0<=W)(hl:ns.length<=500000)(v:aK)(hv:v.size<=100000):Calls prog 225 #[.pointer (some mb),.string v] W (DT n0 mb (vJ a v 9 p ns).1 (vJ a v 9 p ns).2 a W)/\Calls prog 226 #[.pointer (some mb),.string v] W (DT n0 mb (vJ a v 10 p ns).1 (vJ a v 10 p ns).2 a W)/\Calls prog 227 #[.pointer (some mb),.string v] W (DT n0 mb (vJ a v 11 p ns).1 (vJ a v 11 p ns).2 a W)/\Calls prog 228 #[.pointer (some mb),.string v] W (DT n0 mb (vJ a v 12 p ns).1 (vJ a v 12 p ns).2 a W):=by
 have HS:=ah (λk hk=>BR h hn0 hl v hv k hk);unfold DT at *;clear h;refine⟨?_,?_,?_,?_⟩
 ·have HK:=ah (HS.o 9 az);exact iS
 ·have HK:=ah (HS.o 10 az);exact iS
 ·have HK:=ah (HS.o 11 az);exact iS
 ·have HK:=ah (HS.o 12 az);exact iS
end LT
end Go.Proofs.YtopfefhenfineaaGreat
namespace Go.Proofs.YtopfefhenfineaaGreat
open Go.Proofs.Tryz Go.RowKit Go.Shelf V
attribute[local go_sem] Oper.semAt_some V.Oper.idle V.Oper.mE V.Oper.jM
variable{zP:Prop}
def pu(h:zP:=by
 first|go_end0|refine aM (bH rfl _ _ _) rfl ?_
 exact⟨rfl,⟨_,_,by rw[HR.o];exact HP.o.1⟩,(TK.ext H1.o.1).trans HP.o.2⟩):zP:=h
namespace LT
open gZ (AF)
open nG (eZ)
variable{W:ay}{a:AF}{mb n0:Nat}{ns:List Nn}{p:iZ}{s:iF}{u:aA}{x:List Nat×List Nn}
def Dn(w:aK):Nat×Int:=qJ.j7 qJ.uI (bytes w) 180
def SN(a:AF)(fl:Bool)(x:List Nat×List Nn)(w:aK):List Nat×List Nn:=
 if (Dn w).2=0 then(ng x.1 (Dn w).1 fl,x.2)else(x.1,x.2++[⟨a.1,a.2.1,(Dn w).2.toNat,(bytes w).take 60⟩])
def Gi(l:List Nat):Prop:=(∀n∈l,∃x∈qJ.uI,x.2=n)/\OD (· < ·) l
def Gi.len{l:List Nat}(h:Gi l):l.length<=100:=Gn h.2 λx hx=>by obtain⟨y,hy,rfl⟩:=h.1 x hx;have:∀y∈qJ.uI,y.2<100:=az;exact this y hy
def Nw(w:aK):((Dn w).2=0/\∃x∈qJ.uI,x.2=(Dn w).1)\/(Dn w).2=180:=by
 unfold Dn qJ.j7;split
 ·rename_i x hx;exact .inl ⟨rfl,x,List.mem_of_find?_eq_some hx,rfl⟩
 ·exact .inr rfl
def abz{fl:Bool}(w:aK)(h:Gi x.1):Gi (SN a fl x w).1:=by
 unfold SN;split
 ·rename_i h0;obtain⟨k1,k2⟩:=aa9 (Dn w).1 fl h.2;refine⟨λy hy=> ?_,k1⟩;rcases k2 y hy with k|rfl
  ·exact h.1 y k
  ·rcases Nw w with⟨-,k⟩|k
   ·exact k
   ·rw[k]at h0;cases h0
 ·exact h
def afk{fl:Bool}(w:aK):(SN a fl x w).2.length<=x.2.length+1:=by unfold SN;exact tE
def A4(v:aK):Bool:=Lib.hasPrefix (bytes v) [126]
def rT(v:aK):aK:=str (Lib.trimPrefix (bytes v) [126])
def Ej(v:aK):(rT v).size<=v.size:=by unfold rT;rw[kI,<-eD];exact od
def SX.fam(h:SX n0 mb p s u ns a W)(fa:List Nat)(ga:Option Addr)(gc fd:Nat)(ho:W.ownsRow 0 32 1 (.slice ga fa gc) fa (fa.flatMap i8)):SX n0 mb {p with fd:=fd,fa:=fa} {s with ga:=ga,gc:=gc} u ns a ((W.setCell ⟨mb,6,none⟩ (.slice ga fa gc)).setCell ⟨mb,7,none⟩ (.int .u8 fd))/\TK n0 SK W ((W.setCell ⟨mb,6,none⟩ (.slice ga fa gc)).setCell ⟨mb,7,none⟩ (.int .u8 fd)):=by have h1:=h.put 6 (.slice ga fa gc) (p':= {p with fa:=fa}) (s':= {s with ga:=ga,gc:=gc}) rfl ⟨h.po.ar,h.po.fc,h.po.lc,ho⟩;have h2:=h1.1.put 7 (.int .u8 fd) (p':= {p with fd:=fd,fa:=fa}) (s':= {s with ga:=ga,gc:=gc}) rfl ⟨h1.1.po.ar,h1.1.po.fc,h1.1.po.lc,h1.1.po.fa⟩;exact⟨h2.1,h1.2.trans h2.2⟩
def Dm(a:AF)(v:aK)(fd:Nat)(fa:List Nat)(ns:List Nn):Nat×List Nat×List Nn:=
 if (Lib.goFieldsP eZ v).length=0 then(0,[],ns)
 else if Lib.goFieldsP eZ v=[⟨#[110,111,110,101]⟩]then(1,[],ns)
 else(if fd=0 then(if A4 v=true then 2 else 1)else fd,(Lib.goFieldsP eZ (rT v)).foldl (SN a (A4 v==((if fd=0 then(if A4 v=true then 2 else 1)else fd)==2))) (fa,ns))
theorem RB(v:aK)(W:ay):Calls prog 274 #[.string v] W λe w'=>e= .returned (.tuple #[.string (rT v),.bool (A4 v)])/\W=w':=(show Calls prog 274 #[.string v] W λe w'=>e= .returned (.tuple #[.string (rT v),.bool (A4 v)])/\w'=W from nG.DN v W).mono λ_ _ h=>⟨h.1,h.2.symm⟩
theorem qm(h:SX n0 mb p s u ns a W)(hn0:n0<=W)(hok:Gi p.fa)(hl:ns.length<=500000)(v:aK)(hv:v.size<=100000):Calls prog 223 #[.pointer (some mb),.string v] W (DT n0 mb {p with fd:=(Dm a v p.fd p.fa ns).1,fa:=(Dm a v p.fd p.fa ns).2.1} (Dm a v p.fd p.fa ns).2.2 a W):=by
 have hrs:=Ej v;have hfl:=lV eZ (rT v);have HS:=ah (vk eZ (rT v));have HW:=ah (λW=>nG.nU v aq W);have HW2:=ah (λW=>nG.nU (rT v) aq W);have HT:=ah (λW=>RB v W);obtain⟨R,hR⟩:∃R,R=Dm a v p.fd p.fa ns:=⟨_,rfl⟩;have hR2:R=if (Lib.goFieldsP eZ v).length=0 then(0,[],ns)else if Lib.goFieldsP eZ v=[⟨#[110,111,110,101]⟩]then(1,[],ns)else(if p.fd=0 then(if A4 v=true then 2 else 1)else p.fd,(Lib.goFieldsP eZ (rT v)).foldl (SN a (A4 v==((if p.fd=0 then(if A4 v=true then 2 else 1)else p.fd)==2))) (p.fa,ns)):=hR
 rw[<-hR];clear hR;have hL1:=lV eZ v;generalize Lib.goFieldsP eZ v=L1 at *;generalize Lib.goFieldsP eZ (rT v)=L at *;generalize A4 v=tn at *;generalize rT v=rv at *;have c7:W.cell? ⟨mb,7,none⟩=some (.int .u8 p.fd):=aG h.b 7;have H:=ah h;unfold DT;by_cases hz:L1.length=0
 ·rw[aV hz]at hR2;have z0:((L1:Int)==0)=true:=by rw[hz];rfl
  have HR:=ah hR2;clear hR2 h hok hz;go_in;go_wp2_with(first
   |(go_at_call 274;refine ap (HT.o _) ?_;rintro w4 rfl)
   |(go_at_call 270;refine(HW.o _).mono ?_;rintro e w1 ⟨wv,rfl,hx1,ho1⟩;obtain⟨wb,wd,rfl⟩:=bU ho1;have hs1:=H.o.ext' hx1;have c6':w1.cell? ⟨mb,6,none⟩=some (.slice s.ga p.fa s.gc):=aG hs1.b 6;have f6:=aP hs1.b 6;have c7':=hx1.cell c7;have f7:=aP hs1.b 7;have H1:=ah (ak hx1 hs1);clear hx1 ho1 hs1))
  have hp:=H1.o.2.fam [] none 0 0 ⟨rfl,.inl aE⟩;have HP:=ah hp;clear hp
  exact pu
 rw[aN hz]at hR2;have z0:((L1:Int)==0)=false:=bK.2 aq;have HR:=ah hR2;have HOK:=ah hok;clear hR2 h hok hz;go_in;go_upto_region 4 with(first
  |(go_at_call 274;refine ap (HT.o _) ?_;rintro w4 rfl)
  |(go_at_call 270;refine(HW.o _).mono ?_;rintro e w1 ⟨wv,rfl,hx1,ho1⟩;obtain⟨wb,wd,rfl⟩:=bU ho1;have H1:=ah (ak hx1 (ak (H.o.ext' hx1) (ho1.mono (bP _))));clear hx1 ho1))
 go_cut [30] (λs30 wx=>s30= .bool (decide (L1=[⟨#[110,111,110,101]⟩]))/\w1=wx)
 case first=>
  by_cases h1:L1.length=1
  ·obtain⟨x,rfl⟩:∃x,L1=[x]:=List.length_eq_one_iff.1 h1;obtain⟨b,o,c',e',r0⟩:=Gm H1.o.2.2 (show 0<[x].length from aE);simp only[aU,true_and]at e';obtain⟨rfl,rfl⟩:=e';have zx:(x.toList==[110,111,110,101])=decide ([x]=[(⟨#[110,111,110,101]⟩:aK)]):=by rw[show([110,111,110,101]:List aZ)=(⟨#[110,111,110,101]⟩:aK).toList by rw[Lib.toList_data],bB];simp[ByteArray.toList_eq];exact⟨λh=>bytes_inj h,λh=>by rw[h]⟩
   replace r0:w1.cell? ⟨b,o,none⟩=some (.string x):=r0;obtain⟨bq,hbq⟩:∃bq,bq=decide ([x]=[(⟨#[110,111,110,101]⟩:aK)]):=⟨_,rfl⟩;rw[<-hbq]at zx;have HB:=ah hbq;clear h1 hbq;go_wp2_with fail;go_meet;exact⟨by rw[<-HB.o],rfl⟩
  ·have z1:((L1:Int)==1)=false:=bK.2 aq;have hq:decide (L1=[(⟨#[110,111,110,101]⟩:aK)])=false:=aT λh=>h1 (by rw[h];rfl)
   have HQ:=ah hq;clear hq;go_wp2_with fail;go_meet;exact⟨by rw[HQ.o],rfl⟩
 case rest=>
  obtain⟨rfl,rfl⟩:=hcut;have hs1:=H1.o.2.1;have c7':w1.cell? ⟨mb,7,none⟩=some (.int .u8 p.fd):=aG hs1.b 7;have f7:=aP hs1.b 7;by_cases hq:L1=[⟨#[110,111,110,101]⟩]
  ·have hR2:=HR.o;rw[aV hq]at hR2;have HR2:=ah hR2;have hd:decide (L1=[(⟨#[110,111,110,101]⟩:aK)])=true:=aQ hq;rw[hd];have c6':w1.cell? ⟨mb,6,none⟩=some (.slice s.ga p.fa s.gc):=aG hs1.b 6;have f6:=aP hs1.b 6;clear hR2 hq hd;go_wp2_with fail;have hp:=H1.o.2.1.fam [] none 0 1 ⟨rfl,.inl aE⟩;have HP:=ah hp;clear hp
   first|go_end0|refine aM (bH rfl _ _ _) rfl ?_
   exact⟨rfl,⟨_,_,by rw[HR2.o];exact HP.o.1⟩,(TK.ext H1.o.1).trans HP.o.2⟩
  have hR2:=HR.o;rw[aN hq]at hR2;have hd:decide (L1=[(⟨#[110,111,110,101]⟩:aK)])=false:=aT hq;rw[hd];obtain⟨fd,ajW⟩:∃fd,fd=if p.fd=0 then(if tn=true then 2 else 1)else p.fd:=⟨_,rfl⟩
  rw[<-ajW]at hR2;obtain⟨fl,ajV⟩:∃fl,fl=(tn==(fd==2)):=⟨_,rfl⟩;rw[<-ajV]at hR2;have HR2:=ah (ak hR2 (ak ajW ajV));clear hR2 hq hd ajW ajV hs1;go_upto_if 53 with fail;go_cut [] (λwx=>∃W3,W3=wx/\SX n0 mb {p with fd:=fd} s u ns a W3/\TK n0 SK W W3)
  case first=>
   by_cases h0:p.fd=0
   ·have hf:=HR2.o.2.1;rw[aV h0]at hf;have z2:((p.fd:Int)==0)=true:=by rw[h0];rfl
    have hp1:=H1.o.2.1.put 7 (.int .u8 1) (p':= {p with fd:=1}) (s':=s) rfl ⟨H1.o.2.1.po.ar,H1.o.2.1.po.fc,H1.o.2.1.po.lc,H1.o.2.1.po.fa⟩;have hp2:=hp1.1.put 7 (.int .u8 2) (p':= {p with fd:=2}) (s':=s) rfl ⟨hp1.1.po.ar,hp1.1.po.fc,hp1.1.po.lc,hp1.1.po.fa⟩;have HP:=ah (ak hp1 hp2);clear hp1 hp2 h0;cases tn
    ·have hf1:fd=1:=hf;subst hf1;clear hf;go_wp2_with fail;go_meet;exact⟨_,rfl,HP.o.1.1,(TK.ext H1.o.1).trans HP.o.1.2⟩
    ·have hf1:fd=2:=hf;subst hf1;clear hf;go_wp2_with fail;go_meet;exact⟨_,rfl,HP.o.2.1,((TK.ext H1.o.1).trans HP.o.1.2).trans HP.o.2.2⟩
   ·have hf:=HR2.o.2.1;rw[aN h0]at hf;have z2:((p.fd:Int)==0)=false:=bK.2 aq;subst hf;clear h0;go_wp2_with fail;go_meet;exact⟨_,rfl,H1.o.2.1,.ext H1.o.1⟩
  case rest=>
   obtain⟨W3,rfl,anA,ht3⟩:=hcut;have H3:=ah (ak anA ht3);have FE:n0<=W3:=aL hn0 ht3.size;clear anA ht3 c7' f7;go_wp2_with(go_at_call 270;refine(HW2.o _).mono ?_;rintro e w2 ⟨wv2,rfl,hx2,ho2⟩;obtain⟨wb2,wd2,rfl⟩:=bU ho2;have H2:=ah (ak hx2 (ho2.mono (bP _)));clear hx2 ho2);go_loopw [66] (λi wr=>∃(k:Nat) (x1:List Nat×List Nn) (s1:iF) (u1:aA),i= .int .i64 k/\k<=L/\x1=(L.take k).foldl (SN a fl) (p.fa,ns)/\SX n0 mb {p with fd:=fd,fa:=x1.1} s1 u1 x1.2 a wr/\wr.ownsRow 0 9 1 (.slice wb2 L wd2) L (L.flatMap nG.zY)/\TK n0 SK W wr/\Gi x1.1/\x1.2.length<=ns.length+k) (λi _=>L.length-(intOf i).toNat)
   case atStart=>exact⟨0,(p.fa,ns),s,u,rfl,aq,rfl,H3.o.1.ext' H2.o.1,H2.o.2,H3.o.2.trans (.ext H2.o.1),HOK.o,aE⟩
   case round=>
    obtain⟨k,⟨fa1,yQ⟩,s1,u1,rfl,hk,hfo,hsx,how,htk,hao,hnl⟩:=hrel;dsimp only at hsx hao hnl;by_cases hlt:k<L
    ·obtain⟨b,o,c',e',r0⟩:=Gm how hlt;simp only[aU,true_and]at e';obtain⟨rfl,rfl⟩:=e';have hsz:=HS.o _ (aW hlt);have hst:(L.take (k+1)).foldl (SN a fl) (p.fa,ns)=SN a fl (fa1,yQ) L[k]:=by rw[bE hlt,gU,<-hfo];rfl
     generalize L[k]=uM at *;have hP:∀W,Calls prog 275 #[.string uM] W λe w'=>e= .returned (.tuple #[.int .u32 ((Dn uM).1:Int),.int .i64 (Dn uM).2])/\Ext W w':=λW=>qJ.N8 uM W
     have hpo:=Nw uM;have hnx:Gi (SN a fl (fa1,yQ) uM).1:=abz uM hao;have hln:=afk (a:=a) (fl:=fl) (x:=(fa1,yQ)) uM;have qE:SN a fl (fa1,yQ) uM=if (Dn uM).2=0 then(ng fa1 (Dn uM).1 fl,yQ)else(fa1,yQ++[⟨a.1,a.2.1,(Dn uM).2.toNat,(bytes uM).take 60⟩]):=rfl
     rw[<-hst]at hnx hln qE;generalize Dn uM=q at *;obtain⟨an,er⟩:=q;dsimp only at hP hpo qE hln;have zk:(k:Int)<L:=aq;have HPa:=ah hP;have HI:=ah (ak hsx (ak how (ak htk (ak hao (ak hnl (ak hnx hln))))));have hal:=hao.len;have hns:n0<=wr:=aL hn0 htk.size;clear hP hsx how htk hao hnx hln hst hfo;rcases hpo with⟨rfl,-⟩|rfl
     ·rw[aV rfl]at qE;have HST:=ah qE;clear qE;have d6:wr.cell? ⟨mb,6,none⟩=some (.slice s1.ga fa1 s1.gc):=aG HI.o.1.b 6;have d7:wr.cell? ⟨mb,7,none⟩=some (.int .u8 fd):=aG HI.o.1.b 7;have HWi:=ah (λW' (hx:Ext wr W')=>Ow _ fa1 an fl aq HI.o.2.2.2.1.2 W' (HI.o.1.ext' hx).po.rd.fa);dsimp only at HWi;generalize ng fa1 an fl=fa2 at *;have zd:((fd:Int)==2)=(fd==2):=by rw[bB];simp;omega
      have ar3:=HR2.o.2.2;go_upto_region 16 with(go_at_call 275;refine ap (HPa.o _) ?_;intro w5 hx5;have kM:=ah hx5;have d6x:=nV (hx5.cell d6);have d7x:=nV (hx5.cell d7);clear hx5);refine rQ (n:=1) [15,16,17,18,19] (λX=>∃x:XW w5,X=x.w) ax ?_;have hS0:∃x:XW w5,w5.drew=x.w:=⟨⟨w5.drew,(aj w5).drew⟩,rfl⟩;refine af 0 rfl ?_;refine af 1 rfl ?_;refine af 2 rfl ?_;refine af 3 rfl ?_;refine af 4 rfl ?_;refine am 5 rfl hS0 ?_;refine af 6 rfl ?_;refine af 7 rfl ?_;refine af 8 rfl ?_;refine af 9 rfl ?_;refine af 10 rfl ?_;refine af 11 rfl ?_;refine am 12 rfl hS0 ?_;refine af 13 rfl ?_;refine af 14 rfl ?_;rw[ar3]at HWi;refine gP 15 ax rfl ax (λK hK=> ?_);go_simp;refine⟨trivial,?_⟩;refine(bM.2 (HWi.o _ (kM.o.trans (aj w5).drew))).mono ?_;rintro e w6 ⟨a6,c6,rfl,hx6,uF⟩;have agm:Ext wr w6:=(kM.o.trans (aj w5).drew).trans hx6;have e6:w6.cell? ⟨mb,6,none⟩=some (.slice s1.ga fa1 s1.gc):=agm.cell d6;have f6:=aP (HI.o.1.ext' agm).b 6;have H6:=ah (ak agm (uF.mono (bP _)));refine hK _ _ ?_;clear hK K hx6 uF agm hS0 d6x d7x;refine gP 16 ax rfl ax (λK hK=> ?_);go_simp;refine hK _ _ ?_;clear hK K;refine gP 17 ax rfl ax (λK hK=> ?_);go_simp;refine hK _ _ ?_;clear hK K;refine gP 18 ax rfl ax (λK hK=> ?_);go_simp;refine hK _ _ ?_;clear hK K;refine gP 19 ax rfl ax (λK hK=> ?_);go_simp;refine hK _ _ ?_;clear hK K;refine lG ax ?_;dsimp only[V.Calm,Exit.then];have hsp:=HI.o.1.ext' H6.o.1;have hp:=hsp.put 6 (.slice a6 fa2 c6) (p':= {p with fd:=fd,fa:=fa2}) (s':= {s1 with ga:=a6,gc:=c6}) rfl ⟨hsp.po.ar,hsp.po.fc,hsp.po.lc,H6.o.2⟩;have HP:=ah hp;clear hp hsp;go_wp2_with fail;exact lw
     ·rw[aN az]at qE;have HST:=ah qE;clear qE;go_wp2_with(first
       |(go_at_call 275;refine ap (HPa.o _) ?_;intro w5 hx5;have kM:=ah hx5;clear hx5)
       |(refine ap (uS (HI.o.1.ext' kM.o) (aL hns kM.o.size) (by have:=HI.o.2.2.2.2.1;omega) uM aq 180) ?_;rintro w6 ⟨u6,hs6,Da⟩;have H6:=ah (ak hs6 Da);clear hs6 Da))
      exact ly
    ·obtain rfl:k=L.length:=aq;rw[bZ]at hfo;have HI:=ah (ak hsx (ak htk hfo));clear hsx how htk hao hfo;go_wp2_with fail
     first|go_end0|refine aM (bH rfl _ _ _) rfl ?_
     exact⟨rfl,⟨_,_,by rw[HR2.o.1,<-HI.o.2.2];exact HI.o.1⟩,HI.o.2.1⟩
end LT
end Go.Proofs.YtopfefhenfineaaGreat
