import Derived.Test.YtopfefhenfineaaGreatP23
import Derived.Test.YtopfefhenfineaaGreatP24
import Derived.Sort.Walk0
import Derived.Lib.OwnBridge
import Derived.Lib.OthersKept
set_option linter.all false
set_option maxRecDepth 100000
set_option maxHeartbeats 8000000
namespace Go.Proofs.YtopfefhenfineaaGreat
open Go.Proofs.Tryz Go.RowKit Go.Shelf V
variable{zP:Prop}
def rq(h:zP:=by rw[h];exact⟨λe=>absurd e az,λe=>by subst e;exact absurd k (List.lt_irrefl _)⟩):zP:=h
namespace LT
variable{a i j m:Nat}{cs:List Cl}{s:List aZ}
def xZ:∀(a b:List aZ),(Lib.compareBytes a b= -1/\a<b)\/(Lib.compareBytes a b=0/\a=b)\/(Lib.compareBytes a b=1/\b<a)
 | [],[]=> .inr (.inl ⟨rfl,rfl⟩)
 | [],_::_=> .inl ⟨rfl,List.nil_lt_cons _ _⟩
 |_::_,[]=> .inr (.inr ⟨rfl,List.nil_lt_cons _ _⟩)
 |x::a,y::b=>by
  unfold Lib.compareBytes;by_cases h1:x<y
  ·rw[aV h1];exact .inl ⟨rfl,List.cons_lt_cons_iff.2 (.inl h1)⟩
  rw[aN h1];by_cases h2:y<x
  ·rw[aV h2];exact .inr (.inr ⟨rfl,List.cons_lt_cons_iff.2 (.inl h2)⟩)
  rw[aN h2];have e:x=y:=UInt8.le_antisymm (UInt8.not_lt.1 h2) (UInt8.not_lt.1 h1);subst e;rcases xZ a b with⟨h,k⟩|⟨h,k⟩|⟨h,k⟩
  ·exact .inl ⟨h,List.cons_lt_cons_iff.2 (.inr ⟨rfl,k⟩)⟩
  ·exact .inr (.inl ⟨h,by rw[k]⟩)
  ·exact .inr (.inr ⟨h,List.cons_lt_cons_iff.2 (.inr ⟨rfl,k⟩)⟩)
def agK(a b:List aZ):Lib.compareBytes a b<0↔a<b:=by
 rcases xZ a b with⟨h,k⟩|⟨h,k⟩|⟨h,k⟩
 ·simp[h,k]
 ·subst k;simp[h,List.lt_irrefl]
 ·simp[h];exact List.not_lt.1 (λh2=>List.lt_irrefl _ (List.lt_trans h2 k))
def XA(a b:List aZ):Lib.compareBytes a b=0↔a=b:=by
 rcases xZ a b with⟨h,k⟩|⟨h,k⟩|⟨h,k⟩
 ·exact rq
 ·exact⟨λ_=>k,λ_=>h⟩
 ·exact rq
def NP{lt:Nat->Bool}{n:Nat}(hmono:∀a b,a<=b->b<n->lt b=true->lt a=true):∀(f i j:Nat),i<=j->j<=n->j-i<=f->(∀h,h<i->lt h=true)->(∀h,j<=h->h<n->lt h=false)->(∀h,h<KD lt f i j->lt h=true)/\(∀h,KD lt f i j<=h->h<n->lt h=false)
 |0,i,j,hij,hj,hf,h1,h2=>by obtain rfl:i=j:=aq;exact⟨h1,h2⟩
 |f+1,i,j,hij,hj,hf,h1,h2=>by
  unfold KD;split
  ·rename_i hlt;split
   ·rename_i hm;exact NP hmono f _ _ aq hj aq (λh hh=>hmono h _ aq aq hm) h2
   ·rename_i hm;refine NP hmono f _ _ aq aq aq h1 (λh hh hn=> ?_);cases hl:lt h
    ·rfl
    ·exact absurd (hmono _ h hh hn hl) hm
  ·obtain rfl:i=j:=aq;exact⟨h1,h2⟩
def C2(a b:List aZ):ltB a b=true↔a<b:=by unfold ltB;rw[bytesLess_eq,iH]
def Fp:∀(cs:List Cl)(p:Option (List aZ)),ny p cs=true↔(∀c∈cs,okC c=true)/\(∀c∈cs,upC p c.nm=true)/\cs.Pairwise (λa b=>a.nm<b.nm)
 | [],p=>by simp[ny]
 |c::r,p=>by
  simp only[ny,bA,Fp r (some c.nm),dF,forall_eq_or_imp,List.pairwise_cons];constructor
  ·rintro⟨h1,h2,h3,h4,h5⟩;refine⟨⟨h1,h3⟩,⟨h2,λx hx=> ?_⟩,λx hx=>(C2 _ _).1 (h4 x hx),h5⟩;cases p with
   |none=>rfl
   |some q=>exact(C2 _ _).2 (List.lt_trans ((C2 _ _).1 h2) ((C2 _ _).1 (h4 x hx)))
  ·rintro⟨⟨h1,h3⟩,⟨h2,-⟩,h4,h5⟩;exact⟨h1,h2,h3,λx hx=>(C2 _ _).2 (h4 x hx),h5⟩
def zL(cs:List Cl):ny none cs=true↔(∀c∈cs,okC c=true)/\cs.Pairwise (λa b=>a.nm<b.nm):=by rw[Fp];exact⟨λh=>⟨h.1,h.2.2⟩,λh=>⟨h.1,λ_ _=>rfl,h.2⟩⟩
def TJ(h:cs.Pairwise (λa b=>a.nm<b.nm))(hi:i<cs)(hj:j<cs)(hij:i<j):cs[i].nm<cs[j].nm:=i9.1 h i j hi hj hij
def amX(h:cs.Pairwise (λa b=>a.nm<b.nm))(hj:j<cs)(hij:i<=j):∀s,cs[j].nm<s->(cs[i]' aq).nm<s:=λs hs=>by
 by_cases e:i=j
 ·subst e;exact hs
 ·exact List.lt_trans (TJ h aq hj aq) hs
def akF(h:cs.Pairwise (λa b=>a.nm<b.nm))(s:List aZ):(∀i (hi:i<cs.length),i<NQ cs s->cs[i].nm<s)/\(∀i (hi:i<cs.length),NQ cs s<=i->¬cs[i].nm<s):=by
 have hl:∀i (hi:i<cs.length),ltC cs s i=true↔cs[i].nm<s:=λi hi=>by unfold ltC;rw[aJ hi];simp[agK]
 obtain⟨h1,h2⟩:=NP (lt:=ltC cs s) (n:=cs.length) (λa b hab hb ht=>(hl a aq).2 (amX h hb hab s ((hl b hb).1 ht))) cs 0 cs (bP _) (aD _) aq (λ_ hh=>aq) (λ_ a b=>aq);exact⟨λi hi hlt=>(hl i hi).1 (h1 i hlt),λi hi hge hlt=>by have:=h2 i hge hi;rw[(hl i hi).2 hlt]at this;cases this⟩
def abS{c:Cl}(h:ny none cs=true)(hc:okC c=true):ny none (YK cs c)=true:=by
 obtain⟨h1,h2⟩:=(zL cs).1 h;obtain⟨b1,b2⟩:=akF h2 c.nm;have hle:=adO cs c.nm;rw[zL];unfold YK;generalize NQ cs c.nm=i at *;split
 ·rename_i he;have hi:i<cs:=by
   unfold Xw at he;split at he
   ·rename_i x hx;exact(List.getElem?_eq_some_iff.1 hx).1
   ·cases he
  have hn:cs[i].nm=c.nm:=by unfold Xw at he;rw[aJ hi]at he;exact(XA _ _).1 (by simpa using he)
  refine⟨λx hx=> ?_,?_⟩
  ·rcases List.mem_or_eq_of_mem_set hx with h3|h3
   ·exact h1 x h3
   ·rw[h3];exact hc
  ·rw[i9];intro a b ha hb hab;rw[dO]at ha hb;have g:∀k (hk:k<cs.length),((cs.set i c)[k]'(by rw[dO];exact hk)).nm=cs[k].nm:=λk hk=>by
    rw[List.getElem_set];split
    ·rename_i e;subst e;exact hn.symm
    ·rfl
   rw[g a ha,g b hb];exact TJ h2 ha hb hab
 ·rename_i he;refine⟨λx hx=> ?_,?_⟩
  ·rcases dJ.1 hx with h3|h3
   ·exact h1 x (iU h3)
   ·rcases dF.1 h3 with h3|h3
    ·rw[h3];exact hc
    ·exact h1 x (List.mem_of_mem_drop h3)
  ·rw[List.pairwise_append,List.pairwise_cons];have hd:∀x∈cs.drop i,c.nm<x.nm:=λx hx=>by
    obtain⟨k,hk,rfl⟩:=fZ hx;rw[cZ]at hk;rw[List.getElem_drop];have h5:=b2 (i+k) aq aq;rcases xZ cs[i+k].nm c.nm with⟨-,h6⟩|⟨-,h6⟩|⟨-,h6⟩
    ·exact absurd h6 h5
    ·exfalso;by_cases e0:k=0
     ·subst e0;apply he;unfold Xw;rw[aJ (show i<cs.length from aq)];simpa using(XA _ _).2 h6
     ·have h7:=TJ h2 (i:=i) (j:=i+k) aq aq aq;rw[h6]at h7;exact b2 i aq (aD _) h7
    ·exact h6
   have ht:∀x∈cs.take i,x.nm<c.nm:=λx hx=>by obtain⟨k,hk,rfl⟩:=fZ hx;rw[bC]at hk;rw[List.getElem_take];exact b1 k aq aq
   refine⟨h2.sublist (List.take_sublist _ _),⟨hd,h2.sublist (List.drop_sublist _ _)⟩,λx hx y hy=> ?_⟩;rcases dF.1 hy with h3|h3
   ·rw[h3];exact ht x hx
   ·exact List.lt_trans (ht x hx) (hd y h3)
def abR(h:iq m cs=true)(hs:lu s=true)(ha:wV a=true)(hm:m≠0):iq m (Ke m cs s a)=true:=by unfold Ke;rw[aV h];unfold iq at h⊢;simp only[bA,dK]at h⊢;exact⟨h.1,by simp[hm],abS h.2.2 (by unfold okC;rw[hs,ha];rfl)⟩
def Yl(h:iq m cs=true):iq m (Br m cs s)=true:=by
 unfold Br;rw[aV h];unfold iq at h⊢;simp only[bA,dK,gq,Bool.not_eq_true',List.isEmpty_iff]at h⊢;obtain⟨h1,h2,h3⟩:=h;refine⟨h1,?_,?_⟩
 ·rcases h2 with h2|h2
  ·exact .inl h2
  ·subst h2;exact .inr rfl
 ·rw[zL]at h3⊢;exact⟨λc hc=>h3.1 c (List.mem_filter.1 hc).1,h3.2.sublist List.filter_sublist⟩
def Zt(h:lu s=true):s∈kZ.map (·.nm):=by unfold lu at h;rw[List.find?_isSome]at h;obtain⟨x,hx,he⟩:=h;exact dW.2 ⟨x,hx,by simpa using he⟩
def aam:kZ.length=40:=az
def Ll{α:Type}[DecidableEq α]:∀ {l m:List α},l.Nodup->(∀x∈l,x∈m)->l.length<=m
 | [],_,_,_=>bP _
 |x::l,m,hn,hm=>by
  rw[List.nodup_cons]at hn;have hx:=hm x aE;have ih:=Ll (l:=l) (m:=m.erase x) hn.2 (λy hy=>by
   have hne:y≠x:=λe=>hn.1 (e▸hy)
   exact(List.mem_erase_of_ne hne).2 (hm y (by simp[hy])))
  rw[List.length_erase_of_mem hx]at ih;have:=List.length_pos_of_mem hx;rw[aO];omega
def pF(h:iq m cs=true):cs.length<=40:=by
 unfold iq at h;simp only[bA]at h;obtain⟨h1,h2⟩:=(zL cs).1 h.2.2;have hn:(cs.map (·.nm)).Nodup:=by rw[List.Nodup,List.pairwise_map];exact h2.imp (λ{a b} hab e=>by rw[e]at hab;exact List.lt_irrefl _ hab)
 have:=Ll hn (m:=kZ.map (·.nm)) (λx hx=>by obtain⟨c,hc,rfl⟩:=dW.1 hx;have:=h1 c hc;unfold okC at this;simp only[bA]at this;exact Zt this.1)
 simpa[aam]using this
end LT
end Go.Proofs.YtopfefhenfineaaGreat
namespace Go.Proofs.YtopfefhenfineaaGreat
open Go.Proofs.Tryz Go.RowKit Go.Shelf V
attribute[local go_sem] Oper.semAt_some
variable{zP:Prop}
def sy(h:zP:=by rintro w' rfl;exact⟨Below.refl _ _,_,[],rfl,aD _,(λ_ h=>by cases h),h⟩):zP:=h
def pj(h:zP:=by
 rcases h.2 with⟨-,h2⟩|⟨g,cap,cur,e,-⟩
 ·exact bG h2
 ·cases e):zP:=h
def ud(h:zP:=by
 have Jz:=ah hM;clear hM hm h hE;go_in;go_wp2_with fail;refine Jz.o.mono ?_;rintro e w1 ⟨hx1,v,rfl,hv⟩;have hv2:v= .slice none 0 0:=hv;subst hv2;have gK:=ah hx1;clear hx1 hv;go_wp2_with fail;go_loopw [9] (λi wr=>i= .int .i64 0/\wr=w1) (λ_ _=>0)
 case atStart=>exact⟨rfl,rfl⟩
 case round=>obtain⟨rfl,rfl⟩:=hrel;go_wp2_with fail;go_end0;exact⟨rfl,l,u,HE.o.ext' gK.o,fI _ _,KK.lU gK.o⟩):zP:=h
namespace LT
variable{B k n0:Nat}{W W' W5 W9 X w:ay}{l zs:List (List aZ)}{u u' u5 v:aA}{x:List aZ}
theorem agk:(Tryz.prog.info? 9).map (λi=>(i.zero,i.size,i.bytes))=some (some (.string ⟨#[]⟩),1,16):=ax
def U3(s:List aZ):∀u∈encStr s,u.oneCell'=true:=by intro u hu;simp[encStr]at hu;subst hu;rfl
abbrev Qy(w:ay):aA:= .func (.func 405) #[] #[.pointer (some ⟨w+1,0,none⟩),.pointer (some w)]
structure EX(w:ay)(l:List (List aZ))(u:aA)(W:ay):Prop where
 ext:Ext w W
 bi:W.heap[w.heap.size+1]?=some (.cells #[Qy w] 332 (0,0))
 bo:Boxed W w 293 u
 own:W.ownsRow (w+2) 9 1 u l (l.flatMap encStr)
 kn:∀n∈l,lu n=true
def EX.ext'(h:EX w l u W)(hx:Ext W W'):EX w l u W':=
 ⟨h.ext.trans hx,aI h.bi hx,(hx.block h.bo.lt).trans h.bo,fO h.own (Keep.of_below hx (λ_ hk=>hk)) (λb e=>(h.own.lt b e).2),h.kn⟩
def EX.appended(h:EX w l u W)(hg:W.grownBy W5 u.ownBlock)(hk:k=l.length+1)(hx:lu x=true)(ho:W5.ownsRow (w+2) 9 1 u5 k ((l++[x]).flatMap encStr)):EX w (l++[x]) u5 (W5.setCell w u5):=by
 subst hk;have hn:∀k,k<w.heap.size+2->some k≠u.ownBlock:=λk hk e=>by have:=(h.own.lt k e.symm).1;omega
 refine⟨(h.ext.grown hg (λk e=>by have:=(h.own.lt k e).1;omega)).setCell (by show w.heap.size<=w;omega) _,?_,(h.bo.kept hg (hn _ aq)).set _,?_,?_⟩
 ·exact(aX _ _ _ _ (by show w.heap.size+1≠w.heap.size;omega)).trans ((hg.block _ (aB.1 h.bi).1 (hn _ aq)).trans h.bi)
 ·rw[aH];exact fO (S:=λk=>k≠w.heap.size) ho (Keep.setCell W5 (λe=>e rfl) _) (λb e e2=>by have:=(ho.lt b e).1;omega)
 ·intro n hn2;rcases dJ.1 hn2 with h2|h2
  ·exact h.kn n h2
  ·rw[e8.1 h2];exact hx
def abU(l:List aZ):Lib.hasPrefix l [64]=(l.head?==some 64):=by
 cases l with
 |nil=>rfl
 |cons c r=>show([64].isPrefixOf (c::r))=_;rw[bB];simp[List.isPrefixOf];exact eq_comm
structure KK(w W W':ay)(u u':aA):Prop where
 size:W.heap.size<=W'
 blk:∀k,k<W.heap.size->k≠w.heap.size->some k≠u.ownBlock->W'.heap[k]?=W.heap[k]?
 own:∀b,u'.ownBlock=some b->u.ownBlock=some b\/W.heap.size<=b
def KK.lU(h:Ext W W'):KK w W W' u u:=⟨h.size,λ_ hk _ _=>h.block hk,λ_ e=> .inl e⟩
def KK.trans{w A B C:ay}{a b c:aA}(h:KK w A B a b)(k:KK w B C b c):KK w A C a c:=
 ⟨aL h.size k.size,λi hi h1 h2=>(k.blk i (gY hi h.size) h1 (λe=>by
  rcases h.own i e.symm with e2|e2
  ·exact h2 e2.symm
  ·omega)).trans (h.blk i hi h1 h2),λi e=>by
  rcases k.own i e with e2|e2
  ·exact h.own i e2
  ·exact .inr (aL h.size e2)⟩
def KK.ai7(hx:Ext W X)(hg:X.grownBy W9 u.ownBlock)(hs:∀b,u'.ownBlock=some b->u.ownBlock=some b\/X.heap.size<=b):KK w W (W9.setCell w v) u u':=
 ⟨by have h1:=hx.size;have h2:=hg.size;simpa[World.setCell]using aL h1 h2,
  λk hk h1 h2=>(aX _ _ _ _ h1).trans ((hg.block k (gY hk hx.size) h2).trans (hx.block hk)),
  λb e=>(hs b e).imp id (λh=>aL hx.size h)⟩
theorem Kv(w:ay)(k:Nat):∀(s:aK)(W:ay)(l:List (List aZ)) (u:aA),nL (bytes s)<=k->k<=6->l.length+8^k<=10000000->EX w l u W->Calls prog 405 #[.string s,.pointer (some ⟨w+1,0,none⟩),.pointer (some w)] W λe w'=>e= .returned (.tuple #[])/\∃l' u',EX w l' u' w'/\l'.length<=l.length+8^k/\KK w W w' u u':=by
 induction k with
 |zero=>
  intro s W l u h _ _ hE;have hm:xI (bytes s)=none:=vf
  have hM:=rP s W;rw[hm]at hM;have HE:=ah hE;exact ud
 |succ k ih=>
  intro s W l u h UF hl hE;have hM:=rP s W;have HE:=ah hE;cases hm:xI (bytes s)with
  |none=>rw[hm]at hM;exact ud
  |some ms=>
   rw[hm]at hM;have hg:=wD hm;have hup:∀m∈ms,nL m<=k:=λm h2=>by have:=MO _ hg m h2;simp only at this;omega
   have hl8:ms.length<=8:=(uT _ hg).2.1;have hkn:∀m∈ms,m.head?≠some 64->lu m=true:=Zg _ hg;have hp8:8^k<=262144:=by have:8^k<=8^6:=Nat.pow_le_pow_right aq aq;omega
   have HI:=ah (ak ih (ak hup hkn));have Jz:=ah hM;clear hM hm h hg hup ih hE hkn;go_in;go_wp2_with fail;refine Jz.o.mono ?_;rintro e w1 ⟨hx1,v,rfl,⟨b0,c0,rfl,hb0⟩,hr1⟩;obtain⟨a,c,e2,-,hca⟩:=xE hr1;simp only[aU]at e2;obtain⟨rfl,-,rfl⟩:=e2;have HE1:=ah (HE.o.ext' hx1);have HK1:Hid (KK w W w1 u u):=ah (KK.lU hx1);have hcell:∀j (hj:j<ms.length),w1.cell? ⟨b0,j,none⟩=some (.string (str ms[j])):=λj hj=>by
    obtain⟨b,o,e,h⟩:=hca j hj;cases e
    rw[cO]at h;exact h
   have hbw:ms≠[]->b0<w1.heap.size:=λhne=>aY _ _ (hcell 0 (List.length_pos_iff.2 hne))
   have anV:some b0≠u.ownBlock:=λe=>by have:=(HE.o.own.lt b0 e.symm).2;omega
   have hb2:b0≠w.heap.size:=by have:=HE.o.bo.lt;omega
   have HC:=ah (ak hcell (ak hbw (ak anV hb2)));clear hx1 hr1 hca hcell hbw anV hb2 hb0;go_wp2_with fail;go_loopw [9] (λi wr=>∃(j:Nat) (l':List (List aZ)) (u':aA),j<=ms/\i= .int .i64 j/\EX w l' u' wr/\KK w w1 wr u u'/\l'.length<=l+j*8^k) (λi _=>ms.length-(intOf i).toNat)
   case atStart=>exact⟨0,l,u,aq,rfl,HE1.o,KK.lU (aj _),aq⟩
   case round=>
    obtain⟨j,l',u',hj,rfl,hEr,hKr,hln⟩:=hrel;have hjp:j*8^k<=8*8^k:=eY _ aq;by_cases hlt:j<ms
    ·have hne:ms≠[]:=λe=>by rw[e]at hlt;cases hlt
     have h0:wr.cell? ⟨b0,j,none⟩=some (.string (str ms[j])):=(eG (w:=w1) (hKr.blk b0 (HC.o.2.1 hne) HC.o.2.2.2 HC.o.2.2.1)).trans (HC.o.1 j hlt);have hmem:=aW hlt;have hrk:=HI.o.2.1 ms[j] hmem;have hkc:=HI.o.2.2 ms[j] hmem;have hpr:=λW=>Tryz.strings_HasPrefix (str ms[j]) ⟨#[64]⟩ W
     have hbt:(str ms[j]).data.toList=ms[j]:=iE _;rw[hbt]at hpr
     change∀W,Calls prog 213 #[.string (str ms[j]),.string ⟨#[64]⟩] W λe w'=>e= .returned (.bool (Lib.hasPrefix ms[j] [64]))/\w'=W at hpr
     rw[abU]at hpr;have hj1:(j+1)*8^k=j*8^k+8^k:=Nat.succ_mul _ _;have hj2:(j+1)*8^k<=8*8^k:=eY _ aq;have hE8:8^(k+1)=8*8^k:=by rw[Nat.pow_succ];omega
     rw[hE8]at hl;have hIH:=HI.o.1 (str ms[j]) wr l' u' (by rw[iE];exact hrk) aq aq hEr;have hKc:=λW=>yg (str ms[j]) W
     simp only[iE]at hKc;have cB:=hEr.bo.cell;have cI:wr.cell? ⟨w+1,0,none⟩=some (Qy w):=by simp[World.cell?,hEr.bi]
     have hp1:0<8^k:=Nat.pow_pos aq;clear hE8;generalize 8^k=E at *;have HEr:=ah hEr;have HKr:=ah hKr;have HLN:=ah hln;have HKK:=ah hKc;generalize ms[j]=mm at *;have ale:=ah hIH;clear hIH;have HKC:=ah hkc;have HPR:=ah hpr;clear hmem hrk hpr hKc hEr hKr hln hne hkc;cases h64:(mm.head?==some 64)
     ·have hpr:=HPR.o;rw[h64]at hpr;have hkn:=HKC.o (by intro e;rw[e]at h64;exact absurd h64 az);have hKc:=HKK.o;rw[hkn]at hKc;have HKc:=ah hKc;have HPr:=ah hpr;have HKn:=ah hkn;have hbd:l'.length+[mm].length<=100000000:=by have:=HLN.o;simp;omega
      clear hKc hpr h64 HPR HKK HKC hkn cI;go_wp2_with(first
       |(go_at_call 213;refine ap (HPr.o _) ?_;rintro w2 rfl)
       |(go_at_call 99;refine ap (HKc.o _) ?_;intro w3 hx3;have cb3:=hx3.cell cB;have HE3:=ah ((HEr.o.ext' hx3).ext' ((aj _).alloc (.cells #[.string (str mm)] 9)));have kg:=ah (hx3.alloc (.cells #[.string (str mm)] 9));clear hx3)
       |(at_builtin;refine sQ rfl (.tmp 20) (.tmp 22) 293 rfl underlying293 agk rfl az eT U3 (w+2) u' _ l' [mm] rfl rfl HE3.o.own (gI eT w3 [mm] 9 _ rfl) hbd az (by have:=HE3.o.bi;have:=(aB.1 this).1;omega) ?_;intro au cu w9 Lx ZF vU;have HO9:=ah (ak Lx (ak ZF vU));have SY:=HE3.o.bo.kept ZF (λe=>by have:=(HE3.o.own.lt _ e.symm).1;omega);have c9:=SY.cell;have f9:=SY.frozen;clear Lx ZF vU SY))
      refine⟨⟨j+1,l'++[mm],_,aq,bm,EX.appended HE3.o HO9.o.2.1 rfl HKn.o HO9.o.1,HKr.o.trans (KK.ai7 kg.o HO9.o.2.1 HO9.o.2.2),?_⟩,by simp[intOf];omega⟩;have:=HLN.o;rw[aH,iN,hj1];omega
     ·have hpr:=HPR.o;rw[h64]at hpr;have HPr:=ah hpr;clear hpr h64 HPR HKK HKC cB;go_wp2_with(first
       |(go_at_call 213;refine ap (HPr.o _) ?_;rintro w2 rfl)
       |(go_at_call 405;refine ap ale.o ?_;rintro w3 ⟨l3,u3,hE3,hl3,hK3⟩;have H3:=ah (ak hE3 (ak hl3 hK3));clear hE3 hl3 hK3))
      refine⟨⟨j+1,l3,u3,aq,bm,H3.o.1,HKr.o.trans H3.o.2.2,?_⟩,by simp[intOf];omega⟩;have:=HLN.o;have:=H3.o.2.1;rw[hj1];omega
    ·have hjj:j=ms.length:=aq;have hfin:l'.length<=l+8^(k+1):=by
      have:8^(k+1)=8*8^k:=by rw[Nat.pow_succ];omega
      omega
     have HF:=ah (ak hEr (ak hfin (HK1.o.trans hKr)));clear hEr hKr hln hjp hfin hjj;go_wp2_with fail;go_end0;exact⟨rfl,l',u',HF.o.1,HF.o.2⟩
def yI(d:Array (List aZ)):∀m,m<=d.size->∀x∈Lib.compactUpTo d m,x∈d.toList
 |0,_,x,h=>by simp[Lib.compactUpTo]at h
 |m+1,hm,x,h=>by
  rw[Lib.compactUpTo_succ]at h;rcases dJ.1 h with h2|h2
  ·exact yI d m aq x h2
  ·split at h2
   ·rw[e8.1 h2,getElem!_pos d m aq];simp
   ·cases h2
def Rc(h:x∈Lib.compact zs):x∈zs:=by have:=yI zs.toArray zs aE x h;exact sd
def Dk(l:List (List aZ)):l.flatMap encStr=l.map Go.Proofs.encStr:=by
 induction l with
 |nil=>rfl
 |cons x r ih=>rw[eP,bS,ih];rfl
def Q1(w:ay)(os:Array Obj):Ext w (Go.Sort.grow w os):=
 ⟨rfl,rfl,rfl,by simp[Go.Sort.grow],λi hi=>by show(w.heap++os)[i]?=_;rw[Array.getElem?_append_left hi]⟩
theorem Tx(W0:Nat)(w:ay)(v:aA)(l:List (List aZ))(hl:l.length<=10000000)(h:w.ownsRow W0 9 1 v l (l.flatMap encStr)):Calls prog 407 #[v] w λe w'=>e= .returned (.tuple #[])/\Below W0 w w'/\∃l':List (List aZ),l'.length=l/\(∀n∈l',n∈l)/\w'.ownsRow W0 9 1 v l' (l'.flatMap encStr):=by
 by_cases hv:v= .slice none 0 0
 ·subst hv;have hn:l=[]:=pj
  subst hn;refine ap (Tryz.slices_Sort_string_none none 0 w) ?_;rintro w' rfl;exact⟨rfl,Below.refl _ _,[],rfl,(λ_ h=>by cases h),h⟩
 ·rw[Dk]at h;obtain⟨g,cap,rfl,hg,hlt,hn,hm,hlen,hH⟩:=Lib.holds_of_ownsRow h hv;refine ap (Tryz.slices_Sort_string g 0 cap l w hH hlt aq) ?_;rintro w' ⟨n,os,rfl⟩;have hlm:(l.mergeSort λx y=>decide (x<=y)).length=l.length:=List.length_mergeSort _;have ho:=Lib.ownsRow_putRow (q:=n) h hlm (aD _);rw[<-hlm,bZ,hlm]at ho;have hb:=Lib.below_putRow (q:=n) (d:=(l.mergeSort λx y=>decide (x<=y)).toArray) (enc:=Go.Proofs.encStr) (Below.refl W0 w) hg;refine⟨rfl,hb.trans ((Q1 _ os).mono (aL (Nat.le_of_lt (Nat.lt_of_le_of_lt hg hlt)) hb.size)),_,hlm,(λx hx=>(List.mem_mergeSort).1 hx),?_⟩;rw[Dk,hlm];exact fO ho (Keep.of_below (Q1 _ os) (λ_ hk=>hk)) (λb e=>(ho.lt b e).2)
theorem Ky(W0:Nat)(w:ay)(v:aA)(l:List (List aZ))(hl:l.length<=10000000)(h:w.ownsRow W0 9 1 v l (l.flatMap encStr)):Calls prog 408 #[v] w λe w'=>Below W0 w w'/\∃(v':aA)(l':List (List aZ)),e= .returned v'/\l'.length<=l/\(∀n∈l',n∈l)/\w'.ownsRow W0 9 1 v' l' (l'.flatMap encStr):=by
 by_cases hv:v= .slice none 0 0
 ·subst hv;have hn:l=[]:=pj
  subst hn;refine ap (Tryz.slices_Compact_string_empty none 0 w) ?_;exact sy
 ·rw[Dk]at h;obtain⟨g,cap,rfl,hg,hlt,hn,hm,hlen,hH⟩:=Lib.holds_of_ownsRow h hv;refine ap (Tryz.slices_Compact_string g 0 cap l w hH aq hn) ?_;rintro w' ⟨n,rfl⟩;have hle:=Lib.compact_length_le l;have ho:=Lib.ownsRow_putRow (q:=n) (ys:=Lib.compact l++List.replicate (l.length-(Lib.compact l).length) []) h (by rw[aH,gV];omega) hle;rw[List.take_left]at ho;refine⟨Lib.below_putRow (Below.refl W0 w) hg,_,Lib.compact l,rfl,hle,(λx hx=>Rc hx),?_⟩;rw[Dk];exact ho
def Q2(s:List aZ):Int:=if (xI s).isSome=false then 110 else if 4<nL s then 111 else 0
def Pb(s:List aZ):nL s<=6:=by
 cases h:xI s with
 |none=>rw[Ep h];omega
 |some l=>exact(uT _ (wD h)).1
theorem N9(s:aK)(w:ay):Calls prog 379 #[.string s] w λe w'=>Ext w w'/\∃v l,e= .returned (.tuple #[v,.int .i64 (Q2 (bytes s))])/\w'.ownsRow 0 9 1 v l.length (l.flatMap encStr)/\(∀n∈l,lu n=true)/\(Q2 (bytes s)≠0->l=[])/\l.length<=300000:=by
 have hK:=xV s w;have hD:=λW=>VN 6 s W (Pb _)
 have h6:=Pb (bytes s);have he:Q2 (bytes s)=if (xI (bytes s)).isSome=false then 110 else if 4<nL (bytes s)then 111 else 0:=rfl
 generalize Q2 (bytes s)=E at *;cases hm:(xI (bytes s)).isSome
 ·rw[hm,aV rfl]at he;rw[hm]at hK;subst he;have Gh:=ah hK;clear hK hD h6 hm;go_in;go_wp2_with fail;refine ap Gh.o ?_;intro w1 hx1;go_wp2_with fail;go_ret2;exact⟨hx1,_,[],rfl,⟨rfl,.inl aE⟩,(λ_ h=>by cases h),(λ_=>rfl),aE⟩
 rw[hm,aN aE]at he;rw[hm]at hK;by_cases h4:4<nL (bytes s)
 ·rw[aV h4]at he;subst he;generalize nL (bytes s)=q at *;have d1:decide (4<q)=true:=aQ h4;have d2:decide ((4:Int)<q)=true:=aQ aq;have Gh:=ah hK;have HhD:=ah hD;clear hK hD h6 hm;go_in;go_wp2_with fail;refine ap Gh.o ?_;intro w1 hx1;go_wp2_with fail;refine ap (HhD.o _) ?_;intro w2 hx2;go_wp2_with fail;go_ret2;exact⟨hx1.trans hx2,_,[],rfl,⟨rfl,.inl aE⟩,(λ_ h=>by cases h),(λ_=>rfl),aE⟩
 ·rw[aN h4]at he;subst he;have hEx:=λw W hE=>Kv w 6 s W [] (.slice none 0 0) h6 (aD _) az hE
  generalize nL (bytes s)=q at *;have d1:decide (4<q)=false:=aT h4;have d2:decide ((4:Int)<q)=false:=aT aq;have Gh:=ah hK;have HhD:=ah hD;have atU:=ah hEx;clear hK hD hEx h6 hm;go_in;go_wp2_with fail;refine ap Gh.o ?_;intro w1 hx1;go_wp2_with fail;refine ap (HhD.o _) ?_;intro w2 hx2;have jm:=ah (hx1.trans hx2);clear hx1 hx2;go_wp2_with fail;have hE0:EX w2 [] (.slice none 0 0) ((w2.alloc (.cells #[.slice none 0 0] 293)).alloc (.cells #[Qy w2] 332)):=by have g1:=(Boxed.new w2 293 (.slice none 0 0)).alloc (.cells #[Qy w2] 332);have g2:=aC (w2.alloc (.cells #[.slice none 0 0] 293)) (.cells #[Qy w2] 332);rw[aR]at g2;exact⟨((aj w2).alloc _).alloc _,g2,g1,⟨rfl,.inl ⟨rfl,rfl⟩⟩,λ_ h=>by cases h⟩
  refine ap (atU.o w2 _ hE0) ?_;rintro w3 ⟨l,u,hE3,hl3,-⟩;obtain⟨a,c,rfl⟩:=bU hE3.own;have cB:=hE3.bo.cell
  have hlb:l.length<=262144:=by have h8:8^6=262144:=az
                                rw[h8]at hl3;simpa using hl3
  have HE3:=ah hE3;have HLB:=ah hlb;have hS:=λW h=>Tx (w2+2) W (.slice a l c) l aq h
  have HhS:=ah hS;clear hS hE3 hE0 hl3 hlb;go_wp2_with fail;refine ap (HhS.o _ HE3.o.own) ?_;rintro w4 ⟨hb4,l4,hl4,hm4,rY⟩;have cB4:w4.cell? w2=some (.slice a l c):=(eG (w:=w3) (hb4.block _ (by show w2.heap.size<_;omega))).trans cB;have hC:=Ky (w2+2) w4 (.slice a l c) l4 (by have:=HLB.o;omega) (by rw[hl4]at rY⊢;exact rY);have H4:=ah (ak hb4 (ak hl4 hm4));have yN:=ah hC;clear hC hb4 hl4 hm4 rY cB;go_wp2_with fail;refine yN.o.mono ?_;rintro e w5 ⟨hb5,v5,l5,rfl,hl5,hm5,lM⟩;have H5:=ah (ak hb5 (ak hl5 hm5));have ZC:=lM.mono (bP _);obtain⟨a5,c5,rfl⟩:=bU lM;clear hb5 hl5 hm5 lM;go_wp2_with fail;go_ret2;refine⟨Below.trans (jm.o.trans HE3.o.ext) ((H4.o.1.trans H5.o.1).mono (by have:=jm.o.size;omega)),_,l5,rfl,ZC,λn hn=>HE3.o.kn n (H4.o.2.2 n (H5.o.2.2 n hn)),λh=>absurd rfl h,?_⟩;have:=HLB.o;have:=H4.o.2.1;have:=H5.o.2.1;omega
def BU(s:List aZ):Int:=if s.head?=some 64 then Q2 s else if lu s=true then 0 else 90
theorem Kj(s:aK)(w:ay):Calls prog 336 #[.string s] w λe w'=>Ext w w'/\∃v l,e= .returned (.tuple #[v,.int .i64 (BU (bytes s))])/\w'.ownsRow 0 9 1 v l.length (l.flatMap encStr)/\(∀n∈l,lu n=true)/\(BU (bytes s)≠0->l=[])/\l.length<=300000/\((bytes s).head?≠some 64->BU (bytes s)=0->l=[bytes s]):=by
 have hpr:=λW=>Tryz.strings_HasPrefix s ⟨#[64]⟩ W
 change∀W,Calls prog 213 #[.string s,.string ⟨#[64]⟩] W λe w'=>e= .returned (.bool (Lib.hasPrefix (bytes s) [64]))/\w'=W at hpr
 rw[abU]at hpr;have hE:=λW=>N9 s W
 have hK:=λW=>yg s W
 have hm:BU (bytes s)=if (bytes s).head?=some 64 then Q2 (bytes s)else if lu (bytes s)=true then 0 else 90:=rfl
 have hkn:lu (bytes s)=lu (bytes s):=rfl;generalize BU (bytes s)=M at *;cases h64:((bytes s).head?==some 64)
 ·have h6:¬(bytes s).head?=some 64:=by simpa using h64
  rw[aN h6]at hm;rw[h64]at hpr;cases hk:lu (bytes s)
  ·rw[hk,aN aE]at hm;simp only[hk]at hK;subst hm;have Jv:=ah hpr;have Gh:=ah hK;clear hpr hK hE h64 h6 hk hkn;go_in;go_wp2_with(first
    |(go_at_call 213;refine ap (Jv.o _) ?_;rintro w2 rfl)
    |(go_at_call 99;refine ap (Gh.o _) ?_;intro w3 hx3))
   go_ret2;exact⟨hx3,_,[],rfl,⟨rfl,.inl aE⟩,(λ_ h=>by cases h),(λ_=>rfl),aE,λ_ h=>by cases h⟩
  ·rw[hk,aV rfl]at hm;have hkt:=hk;simp only[hk]at hK;subst hm;have HKT:=ah hkt;have Jv:=ah hpr;have Gh:=ah hK;clear hpr hK hE h64 h6 hk hkn hkt;go_in;go_wp2_with(first
    |(go_at_call 213;refine ap (Jv.o _) ?_;rintro w2 rfl)
    |(go_at_call 99;refine ap (Gh.o _) ?_;intro w3 hx3))
   go_ret2;refine⟨aag hx3 ((aj _).alloc _),_,[bytes s],rfl,?_,(λn h=>by rw[e8.1 h];exact HKT.o),(λh=>absurd rfl h),aE,λ_ _=>rfl⟩;have:=jJ eT w3 [bytes s] 9 _ 0 rfl (bP _) (by simp[maxLen]);simpa[encStr,nY]using this
 ·have h6:(bytes s).head?=some 64:=by simpa using h64
  rw[aV h6]at hm;rw[h64]at hpr;subst hm;have H6:=ah h6;have Jv:=ah hpr;have HhE:=ah hE;clear hpr hE hK h64 h6 hkn;generalize Q2 (bytes s)=M at *;go_in;go_wp2_with(first
   |(go_at_call 213;refine ap (Jv.o _) ?_;rintro w2 rfl)
   |(go_at_call 379;refine(HhE.o _).mono ?_;rintro e w3 ⟨hx3,v3,l3,rfl,hr3⟩;have HR3:=ah hr3;clear hr3))
  go_ret2;exact⟨hx3,v3,l3,rfl,HR3.o.1,HR3.o.2.1,HR3.o.2.2.1,HR3.o.2.2.2,λh=>absurd H6.o h⟩
theorem Zu(w:ay):Rt 337 #[] w (.agg #[.bool true,.bool false,.bool false,.bool true]):=by unfold Rt;go_in;go_wp2_with(refine wpList_store_rowTo rfl 448 (.tmp 0) (.tmp 3) rfl rfl w.heap.size #[.bool true,.bool false,.bool false,.bool true] rfl rfl 448 _ (aC w _) ax rfl rfl ?_;rw[World.setRow_alloc_new]);exact aM (v:= .agg #[.bool true,.bool false,.bool false,.bool true]) (dV results337 _ _ _ _ _ _ _ rfl (aC w _) underlying448 rfl ax) rfl ⟨rfl,(aj _).alloc _⟩
structure Nn where
 fl:List aZ
 ln:Nat
 er:Nat
 tx:List aZ
def jF(n:Nn):List aA:= [.string (str n.fl),.int .i64 n.ln,.int .i64 n.er,.string (str n.tx)]
def iC(n:Nn):(jF n).length=4:=rfl
def AR(n:Nn):∀u∈jF n,u.oneCell'=true:=by intro u hu;simp[jF]at hu;rcases hu with rfl|rfl|rfl|rfl<;>rfl
theorem Ni:(Tryz.prog.info? 45).map (λi=>(i.zero,i.size,i.bytes))=some (some (.agg #[.string ⟨#[]⟩,.int .i64 0,.int .i64 0,.string ⟨#[]⟩]),4,48):=ax
def qo(s:aK)(k:Nat):s.extract 0 k=str ((bytes s).take k):=bytes_inj (by rw[iE];unfold bytes;rw[ByteArray.data_extract,Array.toList_extract];simp)
def Tf(a:Nat)(t:Nat):Bool:=t==a
def tyN(t:Nat):Bool:=t==45||t==38
structure NB(n0 B:Nat)(u:aA)(ns:List Nn)(W:ay):Prop where
 hB:n0<=B
 bo:Boxed W B 38 u
 own:W.ownsRow n0 45 4 u ns (ns.flatMap jF)
def NB.kept{ns:List Nn}{T:Nat->Bool}(h:NB n0 B u ns W)(hk:TK n0 T W W')(h1:T 45=false)(h2:T 38=false):NB n0 B u ns W':=⟨h.hB,hk.boxed h.bo h2,hk.own h.own h1⟩
def NB.ext{ns:List Nn}(h:NB n0 B u ns W)(hx:Ext W W'):NB n0 B u ns W':=h.kept (T:=λ_=>false) (.ext hx) rfl rfl
theorem T7(n0 B Bw:Nat)(u:aA)(ns:List Nn)(s:aK)(hs:s.size<=1000000)(e:Nat)(W:ay)(h:NB n0 B u ns W)(hn0:n0<=W)(hl:ns.length<=1000000)(hw:Boxed W Bw 9 (.string s)):Calls prog 334 #[.int .i64 e,.pointer (some B),.pointer (some Bw)] W λr w'=>r= .returned (.tuple #[])/\∃u',NB n0 B u' (ns++[⟨[],0,e,(bytes s).take 60⟩]) w'/\TK n0 tyN W w':=by
 obtain⟨au,cu,rfl⟩:=bU h.own;have c1:=h.bo.cell;have w1:=hw.cell;obtain⟨k,hk⟩:∃k,k=min s.size 60:=⟨_,rfl⟩;have hmz:min (s:Int) 60=(k:Int):=aq;have hkl:k<=s.size:=aq;have hkz:(k:Int)<=s:=aq;have hex:s.extract 0 k=str ((bytes s).take 60):=by
  rw[qo]
  congr 1
  by_cases hh:s.size<=60
  ·rw[hk,dI hh,dY dc,dY dc]
  ·rw[hk,Nat.min_eq_right aq]
 generalize(bytes s).take 60=tx at *;have c1o:=λo=>((aj W).alloc o).cell c1
 have w1o:=λo=>((aj W).alloc o).cell w1
 have HA:=ah h;have HK:=ah hk;have hBl:=h.bo.lt;have hel:ns.length+[(⟨[],0,e,tx⟩:Nn)].length=ns.length+1:=rfl;clear h hw hk;go_in
 (go_region_law((refine pI rfl (.tmp 4) (.tmp 12) _ rfl underlying38 Ni rfl az iC AR n0 _ _ ns [⟨[],0,e,tx⟩] (by rfl) (by rfl) (by exact dM HA.o.own _) (Rd.ext ((aj _).drew) (gI iC W [⟨[],0,e,tx⟩] _ _ rfl)) bp az bp ?_;intro au4 cu4 w4 rY hg4;rw[hel]at rY⊢
                 have hA:NB n0 B (.slice au ns cu) ns ((W.alloc (.cells #[.string ⟨#[]⟩,.int .i64 0,.int .i64 e,.string (str tx)] 45)).drew):=HA.o.ext ((aj _).alloc _).drew;have hk4:TK n0 (Tf 45) _ w4:=TK.grown hA.own hg4 rfl (aD _);have hb4:=hk4.boxed hA.bo rfl;have cb4:=hb4.cell;have fb4:=hb4.frozen;have H4:=ah (ak hb4 (ak hk4 rY));clear hb4 hk4 rY hg4 hA)))
 all_goals
  go_wp2_with fail;go_end0;obtain⟨hb4,hk4,rY⟩:=H4.o;have hs4:=TK.set (n0:=n0) (T:=Tf 38) (p:=⟨B,0,none⟩) hb4 rfl HA.o.hB (.slice au4 (ns+1) cu4);refine⟨rfl,_,⟨HA.o.hB,hb4.set _,?_⟩,?_⟩
  ·rw[aH];exact hs4.own rY rfl
  ·exact(((TK.alloc W _).trans (TK.drew _)).trans (hk4.mono (aD _) (λt ht=>by unfold tyN at ht;unfold Tf;simp at ht⊢;exact ht.1))).trans (hs4.mono (aD _) (λt ht=>by unfold tyN at ht;unfold Tf;simp at ht⊢;exact ht.2))
end LT
end Go.Proofs.YtopfefhenfineaaGreat
namespace Go.Proofs.YtopfefhenfineaaGreat
open Go.Proofs.Tryz Go.RowKit V
namespace LT
open nG (kJ eZ wN)
variable{a i m m':Nat}{b suf tn:Bool}{cs cs':List Cl}{v w:aK}{α σ:Type}{R:α->σ->σ->Prop}
def Fo{α σ:Type}(R:α->σ->σ->Prop):List α->σ->σ->Prop
 | [],s,t=>t=s
 |x::l,s,u=>∃t,R x s t/\Fo R l t u
def Fo.snoc:∀ {l:List α} {x:α} {s t u:σ},Fo R l s t->R x t u->Fo R (l++[x]) s u
 | [],_,_,_,_,h,k=>by cases h;exact⟨_,k,rfl⟩
 |_::_,_,_,_,_,⟨t',h1,h2⟩,k=>⟨t',h1,h2.snoc k⟩
def Fo.inv{P:σ->Prop}(hP:∀x s t,R x s t->P s->P t):∀ {l:List α} {s t:σ},Fo R l s t->P s->P t
 | [],_,_,h,k=>by cases h;exact k
 |_::_,_,_,⟨_,h1,h2⟩,k=>h2.inv hP (hP _ _ _ h1 k)
def Fo.take{l:List α}(hi:i<l){s t u:σ}(h:Fo R (l.take i) s t)(k:R l[i] t u):Fo R (l.take (i+1)) s u:=by rw[bE hi];exact h.snoc k
abbrev St:=List Cl×List Nn
def Wy(e:Int)(w:List aZ):Nn:=⟨[],0,e.toNat,w.take 60⟩
def upd(m:Nat)(b:Bool)(a:Nat)(cs:List Cl)(n:List aZ):List Cl:=if b=true then Ke m cs n a else Br m cs n
def V7(suf tn:Bool)(m:Nat)(w:aK)(s t:St):Prop:=
 if (kJ (bytes w)).2≠0 then t=(s.1,s.2++[Wy (kJ (bytes w)).2 (bytes w)])
 else if BU (kJ (bytes w)).1.1≠0 then t=(s.1,s.2++[Wy (BU (kJ (bytes w)).1.1) (bytes w)])
 else∃l:List (List aZ),(∀n∈l,lu n=true)/\((kJ (bytes w)).1.1.head?≠some 64->l=[(kJ (bytes w)).1.1])/\
  t=if (kJ (bytes w)).1.2.2=true then(if (suf&&tn)=true then(l.foldl (upd m true (kJ (bytes w)).1.2.1) s.1,s.2)else(l.foldl (upd m ((m==2)==tn) 0) s.1,s.2++[Wy 161 (bytes w)]))
   else(l.foldl (upd m ((m==2)==tn) (kJ (bytes w)).1.2.1) s.1,s.2)
def oV(suf:Bool)(m:Nat)(cs:List Cl)(v:aK)(m':Nat)(cs':List Cl)(ns:List Nn):Prop:=
 if iq m cs=false then m'=m/\cs'=cs/\ns=[]
 else if Lib.goFieldsP eZ v=[]then m'=0/\cs'=[]/\ns=[]
 else m'=(if m=0 then(if Lib.hasPrefix (bytes v) [126]=true then 2 else 1)else m)/\
  Fo (V7 suf (Lib.hasPrefix (bytes v) [126]) m') (Lib.goFieldsP eZ (str (Lib.trimPrefix (bytes v) [126]))) (cs,[]) (cs',ns)
def Eo(s:List aZ):wV (kJ s).1.2.1=true:=by
 unfold kJ;rcases wN (nG.tl1 58 s)with⟨h,k⟩|h
 ·have e:327680|||(nG.mG (nG.tl1 58 s)).1=327680+(nG.mG (nG.tl1 58 s)).1:=(Nat.two_pow_add_eq_or_of_lt (i:=12) aq 80).symm
  (repeat' split)<;>try rfl
  unfold wV;simp only[e,gq,bA,dK];right;right;omega
 · (repeat' split)<;>first|rfl|(rename_i h0;rw[h]at h0;cases h0)
def ae4{n:List aZ}(h:iq m cs=true)(hn:lu n=true)(ha:wV a=true)(hm:m≠0):iq m (upd m b a cs n)=true:=by
 unfold upd;split
 ·exact abR h hn ha hm
 ·exact Yl h
def yZ{m:Nat}{b:Bool}{a:Nat}(ha:wV a=true)(hm:m≠0):∀(l:List (List aZ)) {cs:List Cl},iq m cs=true->(∀n∈l,lu n=true)->iq m (l.foldl (upd m b a) cs)=true
 | [],_,h,_=>h
 |n::l,_,h,hl=>yZ ha hm l (ae4 h (hl n aE) ha hm) (λx hx=>hl x ft)
def erW(e:Nat):Bool:=e==160||e==161||e==90||e==110||e==111
def O9(s:List aZ):(kJ s).2=0\/(kJ s).2=160\/(kJ s).2=161:=by unfold kJ;exact ri
def WL(s:List aZ):BU s=0\/BU s=90\/BU s=110\/BU s=111:=by unfold BU Q2;exact ri
def afi(hm:m≠0)(w:aK)(s t:St)(h:V7 suf tn m w s t)(hs:iq m s.1=true/\∀n∈s.2,erW n.er=true):iq m t.1=true/\(∀n∈t.2,erW n.er=true):=by
 unfold V7 at h;have key:∀(e:Int) (x:List aZ),erW e.toNat=true->∀n∈s.2++[Wy e x],erW n.er=true:=λe x he n hn=>by
  rcases dJ.1 hn with h1|h1
  ·exact hs.2 n h1
  ·rw[e8.1 h1];exact he
 split at h
 ·rename_i h1;subst h;refine⟨hs.1,key _ _ ?_⟩;rcases O9 (bytes w)with h|h|h
  ·exact absurd h h1
  ·rw[h];rfl
  ·rw[h];rfl
 split at h
 ·rename_i h1 h2;subst h;refine⟨hs.1,key _ _ ?_⟩;rcases WL (kJ (bytes w)).1.1 with h|h|h|h
  ·exact absurd h h2
  ·rw[h];rfl
  ·rw[h];rfl
  ·rw[h];rfl
 obtain⟨l,hl,-,rfl⟩:=h;(repeat' split)
 ·exact⟨yZ (Eo _) hm l hs.1 hl,hs.2⟩
 ·exact⟨yZ rfl hm l hs.1 hl,key _ _ rfl⟩
 ·exact⟨yZ (Eo _) hm l hs.1 hl,hs.2⟩
def oV.inv{ns:List Nn}(h:oV suf m cs v m' cs' ns)(hm:iq m cs=true):iq m' cs'=true/\∀n∈ns,erW n.er=true:=by
 unfold oV at h;rw[aN (by rw[hm];decide)]at h;split at h
 ·obtain⟨rfl,rfl,rfl⟩:=h;exact⟨rfl,λ_ h=>by cases h⟩
 obtain⟨h1,h2⟩:=h;have h0:m'≠0/\iq m' cs=true:=by
  rw[h1];by_cases e:m=0
  ·rw[aV e];subst e;have e2:cs=[]:=by unfold iq at hm;simpa using(by simpa using hm:_/\_).1
   subst e2;split<;>exact⟨az,rfl⟩
  ·rw[aN e];exact⟨e,hm⟩
 exact h2.inv (P:=λs:St=>iq m' s.1=true/\∀n∈s.2,erW n.er=true) (afi h0.1) ⟨h0.2,λ_ h=>by cases h⟩
def afh{s t:St}(h:V7 suf tn m w s t):t.2.length<=s.2.length+1:=by
 unfold V7 at h;split at h
 ·subst h;simp
 split at h
 ·subst h;simp
 obtain⟨l,-,-,rfl⟩:=h;exact ri
end LT
end Go.Proofs.YtopfefhenfineaaGreat
