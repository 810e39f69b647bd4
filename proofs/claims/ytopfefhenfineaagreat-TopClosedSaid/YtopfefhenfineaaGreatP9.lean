import Derived.Test.YtopfefhenfineaaGreatP2
set_option linter.all false
namespace Go.Proofs.YtopfefhenfineaaGreat
open Go.Proofs.Tryz Go.RowKit V
variable{zP:Prop}
def fh(h:zP:=by simp[uH,h1]):zP:=h
namespace LT
open jO
variable{a c i i' j k left len n t:Nat}{b out:List Bool}{d:Dat}{f g:Nat->Nat}
def C1(len:Nat):∀(r:List Sy)(i:Nat),(∀j,(h:j<r.length)->jk len (i+j) r[j]=true)->iq len r i=true
 | [],_,_=>rfl
 |x::r,i,h=>by
  have h0:=h 0 aE;have hr:=C1 len r (i+1) (λj hj=>by have:=h (j+1) (by simpa using hj);simpa[Nat.add_assoc,Nat.add_comm 1 j]using this)
  simp only[iq,bA];exact⟨by simpa using h0,hr⟩
def M5{l:List Sy}(h0:0<l.length)(hl:l.length<=131072)(hc:∀h:l.length-1<l.length,(l[l.length-1]).c=6)(hm:∀j,(h:j<l.length)->jk l j l[j]=true):iw l=true:=by unfold iw;simp only[bA,dK,fU];exact⟨h0,hl,by rw[EA h0];exact hc _,C1 _ _ _ (λj hj=>by rw[cO];exact hm j hj)⟩
def uj{l:List Sy}(h:iw l=true):l.length<=131072:=by unfold iw at h;simp at h;exact h.2.1
def uH(c:Nat):Bool:=(c==5)||gF c
def uX(h:c=32\/c=84\/c=6):uH c=false:=by rcases h with rfl|rfl|rfl<;>rfl
def jg{s:Sy}(h:jk len i s=true):(s.c=32/\s.th=0/\s.el=0/\okW s.k=true)\/((s.c=84\/s.c=6)/\s.th=0/\s.el=0)\/(s.c=5/\s.k=0/\s.el=0/\(i:Int)<s.th/\s.th<(len:Int))\/(gF s.c=true/\s.c≠32/\s.c≠84/\s.c≠6/\s.c≠5/\((i:Int)<s.th/\s.th<(len:Int))/\(i:Int)<s.el/\s.el<(len:Int)):=by
 unfold jk at h;split at h
 ·rename_i hc;simp only[none_,bA,fU]at h;exact .inl ⟨hc,h.1.1,h.1.2,h.2⟩
 split at h
 ·rename_i hc;simp only[none_,bA,fU]at h;exact .inr (.inl ⟨hc,h.1,h.2⟩)
 split at h
 ·rename_i hc;simp only[there,bA,fU,dK]at h;exact .inr (.inr (.inl ⟨hc,h.1,h.2.1,h.2.2⟩))
 ·simp only[there,bA,dK]at h;exact .inr (.inr (.inr ⟨h.1,aq,aq,aq,aq,h.2.1,h.2.2⟩))
def WQ{s:Sy}(h1:s.c=32)(h2:s.th=0)(h3:s.el=0)(h4:okW s.k=true):jk len i s=true:=by unfold jk;rw[aV h1];simp[none_,h2,h3,h4]
def WO{s:Sy}(h1:s.c=84\/s.c=6)(h2:s.th=0)(h3:s.el=0):jk len i s=true:=by unfold jk;rw[aN aq,aV h1];simp[none_,h2,h3]
def Gt{s:Sy}(h1:s.c=5)(h2:s.k=0)(h3:s.el=0)(h4:(i:Int)<s.th)(h5:s.th<(len:Int)):jk len i s=true:=by unfold jk;rw[aN aq,aN aq,aV h1];simp[there,h2,h3,h4,h5]
def WR{s:Sy}(h1:gF s.c=true)(h2:s.c≠32/\s.c≠84/\s.c≠6/\s.c≠5)(h4:(i:Int)<s.th)(h5:s.th<(len:Int))(h6:(i:Int)<s.el)(h7:s.el<(len:Int)):jk len i s=true:=by unfold jk;rw[aN aq,aN aq,aN aq];simp[there,h1,h4,h5,h6,h7]
def pG(h:gF c=true):c≠32/\c≠84/\c≠6/\c≠5:=by simp only[gF,gq,fU]at h;omega
def yG(f:Nat->Nat)(s:Sy):Sy:=if s.c=5 then⟨s.c,s.k,(f s.th.toNat:Int),s.el⟩else if gF s.c=true then⟨s.c,s.k,(f s.th.toNat:Int),(f s.el.toNat:Int)⟩else s
def M3(f:Nat->Nat)(s:Sy):(yG f s).c=s.c:=by unfold yG;split<;>(try split)<;>rfl
def aje(f:Nat->Nat)(s:Sy):(yG f s).k=s.k:=by unfold yG;split<;>(try split)<;>rfl
def zI{s:Sy}(h:s.c=32\/s.c=84\/s.c=6):yG f s=s:=by unfold yG;rw[aN aq,aN];rcases h with h|h|h<;>rw[h]<;>decide
def P4{s:Sy}(h:s.c=5):yG f s=⟨s.c,s.k,(f s.th.toNat:Int),s.el⟩:=by unfold yG;rw[aV h]
def P5{s:Sy}(h:gF s.c=true):yG f s=⟨s.c,s.k,(f s.th.toNat:Int),(f s.el.toNat:Int)⟩:=by unfold yG;rw[aN (pG h).2.2.2,aV h]
def Ue{len':Nat}{s:Sy}(h:jk len i s=true)(hf:∀t,i<t->t<len->i'<f t/\f t<len'):jk len' i' (yG f s)=true:=by
 rcases jg h with⟨h1,h2,h3,h4⟩|⟨h1,h2,h3⟩|⟨h1,h2,h3,h4,h5⟩|⟨h1,n1,n2,n3,n4,⟨h4,h5⟩,h6,h7⟩
 ·rw[zI (.inl h1)];exact WQ h1 h2 h3 h4
 ·rw[zI (.inr h1)];exact WO h1 h2 h3
 ·rw[P4 h1];have:=hf s.th.toNat aq aq;exact Gt h1 h2 h3 cG cG
 ·rw[P5 h1];have a1:=hf s.th.toNat aq aq;have a2:=hf s.el.toNat aq aq;exact WR h1 ⟨n1,n2,n3,n4⟩ cG cG cG cG
def Lh{s:Sy}(h:s.c=32\/s.c=84)(i a:Nat):nx s i a=i+1:=by unfold nx;rw[aV h]
def ajN{s:Sy}(h:s.c=5)(a:Nat):hld s a=true:=by unfold hld;rw[aN aq,aN aq,aN aq,aN aq]
def ahr{s:Sy}(h:s.c=5)(i a:Nat):nx s i a=s.th.toNat:=by unfold nx;rw[aN aq,aV (ajN h a)]
def am6{s:Sy}(h:gF s.c=true)(i a:Nat):nx s i a=if hld s a=true then s.th.toNat else s.el.toNat:=by have:=pG h;unfold nx;rw[aN aq]
def aci{s:Sy}(h:jk len i s=true)(h6:s.c≠6):s.c=32\/s.c=84\/uH s.c=true:=by
 rcases jg h with⟨h1,-⟩|⟨h1,-⟩|⟨h1,-⟩|⟨h1,-⟩
 ·exact .inl h1
 ·rcases h1 with h1|h1
  ·exact .inr (.inl h1)
  ·exact absurd h1 h6
 ·exact .inr (.inr fh)
 ·exact .inr (.inr fh)
def wC(f:Nat->Nat)(l:List Sy):List Sy:=l.map (yG f)
def lI(f:Nat->Nat)(l:List Sy):(wC f l).length=l.length:=aS ..
def Ib(f:Nat->Nat)(l:List Sy)(i:Nat)(h:i<(wC f l).length):(wC f l)[i]=yG f (l[i]'(by rwa [lI]at h)):=gQ ..
def Zb{l:List Sy}(h:iw l=true)(hf:∀j,j<l.length->j<=f j/\f j<l.length):iw (wC f l)=true:=by
 refine M5 (by rw[lI];exact qd h) (by rw[lI];exact uj h) (λhh=> ?_) (λj hj=> ?_)
 ·rw[Ib,M3];have:=AA h;simpa[lI]using this
 ·rw[Ib];exact Ue (jZ h _) (λt h1 h2=>by have:=hf t h2;rw[lI];omega)
def mD(l:List Sy)(k:Nat):Nat->Nat
 |0=>0
 |n+1=>match l[n]? with
  |some s=>if s.c=6/\s.k=k then n else mD l k n
  |none=>mD l k n
def Ls{l:List Sy}{k:Nat}:∀(n:Nat) {j:Nat} (hj:j<l),j<n->l[j].c=6->l[j].k=k->j<=mD l k n/\∃h:mD l k n<l.length,(l[mD l k n]'h).c=6/\(l[mD l k n]'h).k=k
 |0,j,hj,hn,_,_=>aq
 |n+1,j,hj,hn,h6,hk=>by
  have e:mD l k (n+1)=if (∃h:n<l,l[n].c=6/\l[n].k=k)then n else mD l k n:=by
   show(match l[n]? with|some s=>if s.c=6/\s.k=k then n else mD l k n|none=>mD l k n)=_;by_cases hl:n<l
   ·rw[aJ hl];dsimp only;by_cases hc:l[n].c=6/\l[n].k=k
    ·rw[aV hc,aV ⟨hl,hc⟩]
    ·rw[aN hc,aN (λ⟨_,h⟩=>hc h)]
   ·rw[List.getElem?_eq_none aq,aN (λ⟨h,_⟩=>hl h)]
  have ih:=λ(h:j<n)=>Ls n hj h h6 hk
  generalize mD l k (n+1)=q at e⊢;by_cases hc:∃h:n<l,l[n].c=6/\l[n].k=k
  ·rw[aV hc]at e;subst e;obtain⟨hl,h1,h2⟩:=hc;exact⟨aq,hl,h1,h2⟩
  ·rw[aN hc]at e;subst e;have hne:j≠n:=λe=>by subst e;exact hc ⟨hj,h6,hk⟩
   exact ih aq
def Tz(l:List Sy)(j:Nat):Nat:=match l[j]? with
 |some s=>if s.c=6 then mD l s.k l else j
 |none=>j
def mM(l:List Sy):List Sy:=wC (Tz l) l
def aiK{l:List Sy}(hj:j<l):(l[j].c≠6/\Tz l j=j)\/(l[j].c=6/\j<=Tz l j/\∃h:Tz l j<l.length,(l[Tz l j]'h).c=6/\(l[Tz l j]'h).k=l[j].k):=by
 have e:Tz l j=if l[j].c=6 then mD l l[j].k l else j:=by unfold Tz;rw[aJ hj]
 by_cases h6:l[j].c=6
 ·rw[aV h6]at e;obtain⟨a,b,c⟩:=Ls l hj hj h6 rfl;refine .inr ⟨h6,aq,aq,?_⟩;simp only[e];exact c
 ·rw[aN h6]at e;exact .inl ⟨h6,e⟩
def aiL{l:List Sy}:∀j,j<l.length->j<=Tz l j/\Tz l j<l.length:=λj hj=>by rcases aiK hj with⟨-,e⟩|⟨-,h1,h2,-⟩<;>omega
def nK{l:List Sy}(h:iw l=true):iw (mM l)=true:=Zb h aiL
def KU(out:List Sy)(j:Nat):Nat:=match out[j]? with
 |some t=>if t.c=5 then t.th.toNat else j
 |none=>j
def D6(out:List Sy)(s:Sy):Sy:=if (gF s.c&&((yG (KU out) s).th==(yG (KU out) s).el))=true then⟨5,0,(yG (KU out) s).th,0⟩else yG (KU out) s
def Eb(l:List Sy):Nat->List Sy->List Sy
 |0,out=>out
 |n+1,out=>match l[n]? with
  |some s=>Eb l n (out.set n (D6 out s))
  |none=>Eb l n out
def vY(l:List Sy):List Sy:=Eb l l l
def acb{s:Sy}(h:jk len i s=true)(hfg:∀t,i<t->t<len->f t=g t):yG f s=yG g s:=by
 rcases jg h with⟨h1,h2,h3,h4⟩|⟨h1,h2,h3⟩|⟨h1,h2,h3,h4,h5⟩|⟨h1,n1,n2,n3,n4,⟨h4,h5⟩,h6,h7⟩
 ·rw[zI (.inl h1),zI (.inl h1)]
 ·rw[zI (.inr h1),zI (.inr h1)]
 ·rw[P4 h1,P4 h1,hfg _ aq aq]
 ·rw[P5 h1,P5 h1,hfg s.th.toNat aq aq,hfg s.el.toNat aq aq]
def Yj{o o':List Sy}{s:Sy}(h:jk len i s=true)(ho:∀t,i<t->o[t]?=o'[t]?):D6 o s=D6 o' s:=by unfold D6;rw[acb h (g:=KU o') (λt h1 _=>by unfold KU;rw[ho t h1])]
def OJ{l:List Sy}(h:iw l=true):∀(n:Nat)(out:List Sy),n<=l->out.length=l->(∀i (hi:i<l.length),n<=i->out[i]?=some (D6 out l[i]))->(Eb l n out).length=l.length/\∀i (hi:i<l.length),(Eb l n out)[i]?=some (D6 (Eb l n out) l[i])
 |0,out,_,hl,hi=>⟨hl,λi h1=>hi i h1 (bP _)⟩
 |n+1,out,hn,hl,hi=>by
  have hn':n<l:=aq;have e:Eb l (n+1) out=Eb l n (out.set n (D6 out l[n])):=by show(match l[n]? with|some s=>Eb l n (out.set n (D6 out s))|none=>Eb l n out)=_;rw[aJ hn']
  rw[e];refine OJ h n _ aq (by rw[dO];exact hl) (λi h1 h2=> ?_);have hc:D6 (out.set n (D6 out l[n])) l[i]=D6 out l[i]:=Yj (jZ h h1) (λt ht=>by rw[List.getElem?_set_ne aq]);rw[hc];by_cases hin:i=n
  ·subst hin;rw[List.getElem?_set_self aq]
  ·rw[List.getElem?_set_ne aq];exact hi i h1 aq
def uP{l:List Sy}(h:iw l=true):(vY l).length=l.length/\∀i (hi:i<l.length),(vY l)[i]?=some (D6 (vY l) l[i]):=
 OJ h _ _ (aD _) rfl (λi h1 h2=>aq)
def Tn{o:List Sy}(ht:t<o):KU o t=if o[t].c=5 then o[t].th.toNat else t:=by unfold KU;rw[aJ ht]
def Tm{l:List Sy}(h:iw l=true)(hi:i<l)(ho:i<(vY l).length):(vY l)[i]=D6 (vY l) l[i]:=by have:=(uP h).2 i hi;rw[aJ ho]at this;exact bV this
def OH{l:List Sy}(h:iw l=true):∀(n i:Nat)(_:i<l)(ho:i<(vY l).length),l.length-i<=n->jk l i (vY l)[i]=true
 |0,i,hi,_,hn=>aq
 |n+1,i,hi,ho,hn=>by
  have hl:=(uP h).1;rw[Tm h hi ho];have hmv:jk l i (yG (KU (vY l)) l[i])=true:=Ue (jZ h hi) (λt h1 h2=>by
   have hot:t<(vY l).length:=aq;have hit:=OH h n t h2 hot aq;rw[Tn hot];split
   ·rename_i h5;rcases jg hit with⟨k1,-⟩|⟨k1,-⟩|⟨-,-,-,k4,k5⟩|⟨-,-,-,-,k1,-⟩<;>omega
   ·omega)
  unfold D6;split
  ·rename_i hb;simp only[bA]at hb;rcases jg hmv with⟨k1,-⟩|⟨k1,-⟩|⟨k1,-⟩|⟨-,-,-,-,-,⟨k4,k5⟩,-⟩
   ·rw[M3]at k1;exact absurd k1 (pG hb.1).1
   ·rw[M3]at k1;have:=pG hb.1;omega
   ·rw[M3]at k1;have:=pG hb.1;omega
   ·exact Gt rfl rfl rfl k4 k5
  ·exact hmv
def aix{o:List Sy}{s:Sy}(h:s.c=32\/s.c=84\/s.c=6):D6 o s=s:=by unfold D6;rw[zI h,aN];rcases h with h|h|h<;>rw[h]<;>simp[gF]
def VX{l:List Sy}(h:iw l=true):iw (vY l)=true:=by
 have hl:=(uP h).1;have hp:=qd h;refine M5 aq (by rw[hl];exact uj h) (λhh=> ?_) (λj hj=> ?_)
 ·have h6:=AA h;rw[Tm h aq hh];have e:l[(vY l).length-1]' aq=l[l.length-1]' aq:=by congr 1;omega
  rw[e,aix (.inr (.inr h6))];exact h6
 ·rw[hl];exact OH h _ j aq hj (aD _)
def Oj(l:List Sy)(n:Nat)(out:List Bool):List Bool:=match l[n]? with
 |none=>out
 |some s=>if (!out.getD n false||s.c==6)=true then out
  else if uH s.c=false then out.set (n+1) true
  else if gF s.c=true then(out.set s.th.toNat true).set s.el.toNat true else out.set s.th.toNat true
def al0(l:List Sy):List Bool:=(List.replicate l false).set 0 true
def GH(l:List Sy):Nat->List Bool
 |0=>al0 l
 |n+1=>Oj l n (GH l n)
def gG(l:List Sy):List Bool:=GH l l.length
def agU(l:List Sy)(n:Nat)(out:List Bool):(Oj l n out).length=out.length:=by
 unfold Oj;split
 ·rfl
 · (repeat' split)<;>simp
def DL(l:List Sy):∀n,(GH l n).length=l.length
 |0=>by simp[GH,al0]
 |n+1=>by rw[GH,agU,DL l n]
def qj(v:Bool)(hi:i<b):(b.set i v).getD j false=if i=j then v else b.getD j false:=by
 rw[bQ,bQ,List.getElem?_set];by_cases h:i=j
 ·subst h;simp[hi]
 ·simp[h]
def qZ(h:b.getD j false=true):(b.set i true).getD j false=true:=by
 by_cases hi:i<b
 ·rw[qj _ hi];split<;>simp_all
 ·rw[List.set_eq_of_length_le aq];exact h
def getD_set_ne(v:Bool)(h:i≠j):(b.set i v).getD j false=b.getD j false:=by rw[bQ,bQ,List.getElem?_set_ne h]
def ad0{l:List Sy}(h:out.getD j false=true):(Oj l n out).getD j false=true:=by
 unfold Oj;split
 ·exact h
 ·split
  ·exact h
  split
  ·exact qZ h
  split
  ·exact qZ (qZ h)
  ·exact qZ h
def adZ{l:List Sy}(h:iw l=true)(hj:j<=n):(Oj l n out).getD j false=out.getD j false:=by
 unfold Oj;by_cases hn:n<l
 ·rw[aJ hn];dsimp only;have hm:=jZ h hn;split
  ·rfl
  split
  ·exact getD_set_ne _ aq
  rename_i hj2;rcases jg hm with⟨h1,-⟩|⟨h1,-⟩|⟨h1,h2,h3,h4,h5⟩|⟨h1,n1,n2,n3,n4,⟨h4,h5⟩,h6,h7⟩
  ·exact absurd (uX (.inl h1)) hj2
  ·exact absurd (uX (.inr h1)) hj2
  ·rw[aN (by rw[h1];decide)];exact getD_set_ne _ aq
  ·rw[aV h1,getD_set_ne _ aq,getD_set_ne _ aq]
 ·rw[List.getElem?_eq_none aq]
def DK{l:List Sy}:∀ {n m:Nat},n<=m->(GH l n).getD j false=true->(GH l m).getD j false=true:=by
 intro n m hnm h
 induction m with
 |zero=>obtain rfl:n=0:=aq
        exact h
 |succ m ih=>
  by_cases e:n=m+1
  ·subst e;exact h
  ·exact ad0 (ih aq)
def Ry{l:List Sy}(h:iw l=true):∀ {n m:Nat},n<=m->j<=n->(GH l m).getD j false=(GH l n).getD j false:=by
 intro n m hnm hj
 induction m with
 |zero=>obtain rfl:n=0:=aq
        rfl
 |succ m ih=>
  by_cases e:n=m+1
  ·subst e;rfl
  ·rw[GH,adZ h aq,ih aq]
def Zo(l:List Sy)(i:Nat):Bool:=(gG l).getD i false
def acz{l:List Sy}(h:iw l=true):Zo l 0=true:=by unfold Zo gG;refine DK (bP _) ?_;unfold GH al0;rw[qj _ (by simpa using qd h)];simp
def Qm{l:List Sy}(h:iw l=true)(hi:i<l)(hv:Zo l i=true)(h6:l[i].c≠6)(a:Nat):Zo l (nx l[i] i a)=true:=by
 unfold Zo gG at *;rw[Ry h (n:=i) aq (aD _)]at hv;refine DK (n:=i+1) aq ?_;obtain⟨n1,n2⟩:=ab8 h hi h6 a;have hm:=jZ h hi;rw[GH];unfold Oj;rw[aJ hi];dsimp only;rw[aN (by rw[hv];simp[h6])];have hlen:=DL l i;rcases jg hm with⟨h1,-⟩|⟨h1,-⟩|⟨h1,h2,h3,h4,h5⟩|⟨h1,m1,m2,m3,m4,⟨h4,h5⟩,h6,h7⟩
 ·rw[aV (uX (.inl h1)),Lh (.inl h1)];rw[Lh (.inl h1)]at n2;rw[qj _ aq];simp
 ·have h8:l[i].c=84:=aq;rw[aV (uX (.inr (.inl h8))),Lh (.inr h8)];rw[Lh (.inr h8)]at n2;rw[qj _ aq];simp
 ·rw[aN fh,aN (by rw[h1];decide),ahr h1,qj _ aq];simp
 ·rw[aN fh,aV h1,am6 h1];split
  ·exact qZ (by rw[qj _ aq];simp)
  ·rw[qj _ (by rw[dO];omega)];simp
def vL(b:List Bool)(i:Nat):Nat:=((b.take i).filter id).length
def pick:List Sy->List Bool->List Sy
 |x::xs,b::bs=>if b=true then x::pick xs bs else pick xs bs
 |_,_=>[]
def lK(l:List Sy):List Sy:=pick (wC (vL (gG l)) l) (gG l)
def Pm(b:List Bool):vL b 0=0:=rfl
def CU(hi:i<b):vL b (i+1)=vL b i+if b.getD i false=true then 1 else 0:=by unfold vL;rw[bE hi,jy,aH,bQ,aJ hi];cases h:b[i]<;>simp[List.filter]
def abW:∀ {i j:Nat},i<=j->j<=b->vL b i<=vL b j:=by
 intro i j h hj
 induction j with
 |zero=>obtain rfl:i=0:=aq
        exact aD _
 |succ j ih=>
  by_cases e:i=j+1
  ·subst e;exact aD _
  ·rw[CU aq];have:=ih aq aq;omega
def Hr(h:b.getD i false=true)(hij:i<j)(hj:j<=b):vL b i<vL b j:=by have h1:=CU (b:=b) (i:=i) aq;rw[aV h]at h1;have:=abW (b:=b) (i:=i+1) (j:=j) aq hj;omega
def TM(b:List Bool)(i:Nat):vL b i<=i:=by unfold vL;exact aL (ji _ _) (List.length_take_le _ _)
def Pn(x:Bool)(b:List Bool)(i:Nat):vL (x::b) (i+1)=(if x=true then 1 else 0)+vL b i:=by unfold vL;rw[List.take_succ_cons,List.filter_cons];cases x<;>simp<;>omega
def Po:∀(xs:List Sy)(b:List Bool),xs.length=b->(pick xs b).length=vL b b.length
 | [],[],_=>rfl
 | [],_::_,h=>by simp at h
 |_::_,[],h=>by simp at h
 |x::xs,y::b,h=>by
  have ih:=Po xs b cT;rw[show(y::b).length=b.length+1 from rfl,Pn];unfold pick;cases y
  ·rw[aN aE,aN aE,ih];omega
  ·rw[aV rfl,aV rfl,aO,ih];omega
def Pp:∀(xs:List Sy)(b:List Bool)(i:Nat)(hi:i<xs),b.getD i false=true->(pick xs b)[vL b i]?=some xs[i]
 | [],_,i,hi,_=>by simp at hi
 |x::xs,[],i,hi,h=>by simp at h
 |x::xs,y::b,0,hi,h=>by
  have hy:y=true:=by simpa using h
  subst hy;rw[Pm];unfold pick;rw[aV rfl];rfl
 |x::xs,y::b,i+1,hi,h=>by
  have ih:=Pp xs b i eJ cT;rw[Pn];unfold pick;cases y
  ·rw[aN aE,aN aE,cO];simpa using ih
  ·rw[aV rfl,aV rfl,Nat.add_comm 1,List.getElem?_cons_succ];simpa using ih
def Ws{b:List Bool}:∀ {n j:Nat},n<=b->j<vL b n->∃i,i<n/\b.getD i false=true/\vL b i=j
 |0,j,_,h=>by rw[Pm]at h;omega
 |n+1,j,hn,h=>by
  rw[CU aq]at h;by_cases hj:j<vL b n
  ·obtain⟨i,h1,h2,h3⟩:=Ws aq hj;exact⟨i,aq,h2,h3⟩
  ·cases hb:b.getD n false
   ·rw[hb,aN aE]at h;omega
   ·rw[hb,aV rfl]at h;exact⟨n,aq,hb,aq⟩
def tL(l:List Sy):(gG l).length=l.length:=DL l _
def xL(l:List Sy):(lK l).length=vL (gG l) l.length:=by unfold lK;rw[Po _ _ (by rw[lI,tL]),tL]
def Zn{l:List Sy}(hi:i<l)(hv:Zo l i=true):(lK l)[vL (gG l) i]?=some (yG (vL (gG l)) l[i]):=by
 have:=Pp (wC (vL (gG l)) l) (gG l) i (by rw[lI];exact hi) hv
 rwa [Ib]at this
def wF{l:List Sy}(hi:i<l)(hv:Zo l i=true):vL (gG l) i<(lK l).length:=by rw[xL];exact Hr hv hi (by rw[tL];exact aD _)
def Uq{l:List Sy}(hj:j<(lK l).length):∃i,i<l.length/\Zo l i=true/\vL (gG l) i=j:=by rw[xL]at hj;exact Ws (by rw[tL];exact aD _) hj
def Ey{l:List Sy}(hj:j<(lK l).length):∃i,∃h:i<l.length,Zo l i=true/\vL (gG l) i=j/\(lK l)[j]=yG (vL (gG l)) l[i]:=by obtain⟨i,h1,h2,h3⟩:=Uq hj;have:=Zn h1 h2;rw[h3,aJ hj]at this;exact⟨i,h1,h2,h3,bV this⟩
def acA{l:List Sy}(h:iw l=true)(hi:i<l)(hv:Zo l i=true)(h1:gF l[i].c=true):Zo l l[i].th.toNat=true/\Zo l l[i].el.toNat=true:=by
 unfold Zo gG at *;rw[Ry h (n:=i) aq (aD _)]at hv;have hne:=pG h1;have hm:=jZ h hi;rcases jg hm with⟨k1,-⟩|⟨k1,-⟩|⟨k1,-⟩|⟨-,m1,m2,m3,m4,⟨h4,h5⟩,h6,h7⟩
 ·omega
 ·omega
 ·omega
 have hlen:=DL l i;have key:GH l (i+1)=((GH l i).set l[i].th.toNat true).set l[i].el.toNat true:=by rw[GH];unfold Oj;rw[aJ hi];dsimp only;rw[aN (by rw[hv];simp[m3]),aN fh,aV h1]
 constructor
 ·refine DK (n:=i+1) aq ?_;rw[key];exact qZ (by rw[qj _ aq];simp)
 ·refine DK (n:=i+1) aq ?_;rw[key,qj _ (by rw[dO];omega)];simp
def Ur{l:List Sy}(h:iw l=true):iw (lK l)=true:=by
 have hlen:=tL l;have h0:0<(lK l).length:=by have:=wF (qd h) (acz h);omega
 have hle:(lK l).length<=l.length:=by rw[xL];exact TM _ _
 refine M5 h0 (aL hle (uj h)) (λhh=> ?_) (λj hj=> ?_)
 ·obtain⟨i,hi,hv,hp,hg⟩:=Ey hh;rw[hg,M3];by_cases h6:l[i].c=6
  ·exact h6
  ·obtain⟨n1,n2⟩:=ab8 h hi h6 0;have hs:=Qm h hi hv h6 0;have a1:=Hr hv n1 aq;have a2:=wF n2 hs;omega
 ·obtain⟨i,hi,hv,hp,hg⟩:=Ey hj;rw[hg];rcases jg (jZ h hi)with⟨h1,h2,h3,h4⟩|⟨h1,h2,h3⟩|⟨h1,h2,h3,h4,h5⟩|⟨h1,n1,n2,n3,n4,⟨h4,h5⟩,h6,h7⟩
  ·rw[zI (.inl h1)];exact WQ h1 h2 h3 h4
  ·rw[zI (.inr h1)];exact WO h1 h2 h3
  ·have hs:=Qm h hi hv aq 0;rw[ahr h1]at hs;have a1:=Hr hv (j:=l[i].th.toNat) aq aq;have a2:=wF (i:=l[i].th.toNat) aq hs;rw[P4 h1];exact Gt h1 h2 h3 cG cG
  ·obtain⟨s1,s2⟩:=acA h hi hv h1;have a1:=Hr hv (j:=l[i].th.toNat) aq aq;have a2:=wF (i:=l[i].th.toNat) aq s1;have b1:=Hr hv (j:=l[i].el.toNat) aq aq;have b2:=wF (i:=l[i].el.toNat) aq s2;rw[P5 h1];exact WR h1 ⟨n1,n2,n3,n4⟩ cG cG cG cG
def vM(l:List Sy):List Sy:=lK (vY (mM l))
def afK{l:List Sy}(h:iw l=true):iw (vM l)=true:=Ur (VX (nK h))
def Wv{l:List Sy}(h:iw l=true):(vM l).length<=l.length:=by have h1:=nK h;unfold vM;rw[xL];refine aL (TM _ _) ?_;rw[(uP h1).1];unfold mM;rw[lI];exact aD _
def afY{l:List Sy}(hk:∀s∈l,s.k<4294967296):∀s∈wC f l,s.k<4294967296:=λs hs=>by obtain⟨t,ht,rfl⟩:=dW.1 hs;rw[aje];exact hk t ht
def amO{l:List Sy}(h:iw l=true)(hk:∀s∈l,s.k<4294967296):∀s∈vY l,s.k<4294967296:=λs hs=>by
 obtain⟨i,hi,rfl⟩:=fZ hs;have hl:=(uP h).1;rw[Tm h aq hi];unfold D6;split
 ·show 0<4294967296;decide
 ·rw[aje];exact hk _ (aW _)
def acy{l:List Sy}(hk:∀s∈l,s.k<4294967296):∀s∈lK l,s.k<4294967296:=λs hs=>by obtain⟨j,hj,rfl⟩:=fZ hs;obtain⟨i,hi,-,-,hg⟩:=Ey hj;rw[hg,aje];exact hk _ (aW _)
def am3{l:List Sy}(h:iw l=true)(hk:∀s∈l,s.k<4294967296):∀s∈vM l,s.k<4294967296:=acy (amO (nK h) (afY hk))
structure Ix where
 c:Nat
 jt:Nat
 jf:Nat
 k:Nat
def jS(i:Ix):List aA:= [.int .u16 i.c,.int .u8 i.jt,.int .u8 i.jf,.int .u32 i.k]
def rZ(i:Ix):(jS i).length=4:=rfl
def adu(s:Ix):∀u∈jS s,u.oneCell'=true:=by intro u hu;simp[jS]at hu;exact tD
def hlX(x:Ix)(a:Nat):Bool:=hld ⟨x.c,x.k,0,0⟩ a
def vr(d:Dat):Nat->List Ix->Nat->Nat
 |0,_,_=>0
 |_+1,[],_=>0
 |f+1,x::r,a=>if x.c=6 then x.k else if x.c=32 then vr d f r (wd d x.k)else if x.c=84 then vr d f r (a&&&x.k)else if x.c=5 then vr d f (r.drop x.k) a
  else vr d f (r.drop (if hlX x a=true then x.jt else x.jf)) a
def F5(x:Ix)(left:Nat):Bool:=decide (x.c<65536/\x.jt<256/\x.jf<256/\x.k<4294967296)&&
 ((x.c==32&&okW x.k)||x.c==84||x.c==6||(x.c==5&&decide (x.k<left))||(gF x.c&&decide (x.jt<left)&&decide (x.jf<left)))
def JH:List Ix->Bool
 | []=>true
 |x::r=>F5 x r.length&&JH r
def TW(p:List Ix):Bool:=JH p&&(match p.getLast? with|some x=>x.c==6|none=>false)
def lJ(dist:Nat->Nat)(s:Sy):List Ix:=
 if s.c=5 then [⟨5,0,0,dist s.th.toNat⟩]
 else if gF s.c=false then [⟨s.c,0,0,s.k⟩]
 else if max (dist s.th.toNat) (dist s.el.toNat)<=255 then [⟨s.c,dist s.th.toNat,dist s.el.toNat,s.k⟩]
 else [⟨s.c,0,1,s.k⟩,⟨5,0,0,dist s.th.toNat+1⟩,⟨5,0,0,dist s.el.toNat⟩]
def lkR:List Sy->Nat->List Ix×List Nat
 | [],_=>([],[])
 |s::r,i=>
  let R:=lkR r (i+1)
  let Q:=lJ (λt=>R.1.length-R.2.getD (t-(i+1)) 0) s++R.1
  (Q,Q.length::R.2)
def D8(l:List Sy)(i:Nat):List Ix:=(lkR (l.drop i) i).1
def Zm(l:List Sy)(i:Nat):List Nat:=(lkR (l.drop i) i).2
def mq(l:List Sy):List Ix:=D8 l 0
def WV:∀(r:List Sy)(i j:Nat),j<r->(lkR r i).2.getD j 0=(lkR (r.drop j) (i+j)).1.length
 | [],_,_,h=>by simp at h
 |s::r,i,0,_=>by simp[lkR]
 |s::r,i,j+1,h=>by have:=WV r (i+1) j cT;rw[List.drop_succ_cons,show i+(j+1)=i+1+j from aq,<-this];simp[lkR]
def M8(l:List Sy):D8 l l.length=[]:=by unfold D8;rw[dQ];rfl
def agd(l:List Sy):Zm l l.length=[]:=by unfold Zm;rw[dQ];rfl
def Qi(l:List Sy)(hi:i<l):lkR (l.drop i) i=(lJ (λt=>(D8 l (i+1)).length-(Zm l (i+1)).getD (t-(i+1)) 0) l[i]++D8 l (i+1),(lJ (λt=>(D8 l (i+1)).length-(Zm l (i+1)).getD (t-(i+1)) 0) l[i]++D8 l (i+1)).length::Zm l (i+1)):=by rw[bJ hi];rfl
def Gu(f:Nat->Nat){s:Sy}(h:s.c=32\/s.c=84\/s.c=6):lJ f s=[⟨s.c,0,0,s.k⟩]:=by unfold lJ;rw[aN aq,aV];rcases h with h|h|h<;>rw[h]<;>rfl
def Im{s:Sy}(h:jk len i s=true)(hfg:∀t,i<t->t<len->f t=g t):lJ f s=lJ g s:=by
 rcases jg h with⟨h1,h2,h3,h4⟩|⟨h1,h2,h3⟩|⟨h1,h2,h3,h4,h5⟩|⟨h1,n1,n2,n3,n4,⟨h4,h5⟩,h6,h7⟩
 ·rw[Gu f (.inl h1),Gu g (.inl h1)]
 ·rw[Gu f (.inr h1),Gu g (.inr h1)]
 ·unfold lJ;rw[aV h1,aV h1,hfg _ aq aq]
 ·unfold lJ;rw[aN n4,aN n4,hfg s.th.toNat aq aq,hfg s.el.toNat aq aq]
def WW(l:List Sy)(hi:i<=t)(ht:t<l):(Zm l i).getD (t-i) 0=(D8 l t).length:=by unfold Zm D8;rw[WV _ _ _ dt,List.drop_drop,show i+(t-i)=t from aq]
def dst(l:List Sy)(i t:Nat):Nat:=(D8 l i).length-(D8 l t).length
def C3{l:List Sy}(h:iw l=true)(hi:i<l):D8 l i=lJ (dst l (i+1)) l[i]++D8 l (i+1):=by
 conv=>lhs;unfold D8
 rw[Qi l hi];dsimp only;rw[Im (jZ h hi) (g:=dst l (i+1)) (λt h1 h2=>by rw[WW l aq h2];rfl)]
def acx{l:List Sy}(hi:i<l):Zm l i=(D8 l i).length::Zm l (i+1):=by
 unfold Zm D8;rw[Qi l hi]
 rfl
def Il(f:Nat->Nat)(s:Sy):0<(lJ f s).length/\(lJ f s).length<=3:=by unfold lJ;exact ri
def acu{l:List Sy}(h:iw l=true)(hi:i<l):(D8 l (i+1)).length<(D8 l i).length/\(D8 l i).length<=(D8 l (i+1)).length+3:=by rw[C3 h hi,aH];have:=Il (dst l (i+1)) l[i];omega
def Uo{l:List Sy}(h:iw l=true):∀(n i:Nat),i+n=l.length->(D8 l i).length<=3*n
 |0,i,e=>by have:i=l.length:=aq;subst this;rw[M8];simp
 |n+1,i,e=>by have:=Uo h n (i+1) aq;have:=(acu h (i:=i) aq).2;omega
def Qn{l:List Sy}(h:iw l=true):(mq l).length<=3*l.length:=Uo h _ 0 aq
def Un{l:List Sy}(h:iw l=true){t:Nat}(ht:t<=l):∀(n i:Nat),i<=t->t-i<=n->∃pre,D8 l i=pre++D8 l t
 |0,i,hi,hn=>by obtain rfl:i=t:=aq;exact⟨[],rfl⟩
 |n+1,i,hi,hn=>by
  by_cases e:i=t
  ·subst e;exact⟨[],rfl⟩
  ·obtain⟨pre,hp⟩:=Un h ht n (i+1) aq aq;exact⟨lJ (dst l (i+1)) l[i]++pre,by rw[C3 h aq,hp,bI]⟩
def acw{l:List Sy}(h:iw l=true)(hi:i<=t)(ht:t<l):dst l i t<(D8 l i).length:=by obtain⟨pre,hp⟩:=Un h (Nat.le_of_lt ht) _ i hi (aD _);have:=(acu h ht).1;unfold dst;rw[hp,aH];omega
def air{f:Nat}{x:Ix}{r:List Ix}(h:x.c=6):vr d (f+1) (x::r) a=x.k:=by simp only[vr];rw[aV h]
def amG{f:Nat}{x:Ix}{r:List Ix}(h:x.c=5):vr d (f+1) (x::r) a=vr d f (r.drop x.k) a:=by simp only[vr];rw[aN aq,aN aq,aN aq,aV h]
def amF{f:Nat}{x:Ix}{r:List Ix}(h:x.c=32):vr d (f+1) (x::r) a=vr d f r (wd d x.k):=by simp only[vr];rw[aN aq,aV h]
def amI{f:Nat}{x:Ix}{r:List Ix}(h:x.c=84):vr d (f+1) (x::r) a=vr d f r (a&&&x.k):=by simp only[vr];rw[aN aq,aN aq,aV h]
def amH{f:Nat}{x:Ix}{r:List Ix}(h:gF x.c=true):vr d (f+1) (x::r) a=vr d f (r.drop (if hlX x a=true then x.jt else x.jf)) a:=by have:=pG h;simp only[vr];rw[aN this.2.2.1,aN this.1,aN this.2.1,aN this.2.2.2]
def qK(d:Dat)(p:List Ix):Nat:=vr d p p 0
def ai4(h:c=84\/c=6)(hk:k<4294967296):F5 ⟨c,0,0,k⟩ left=true:=by unfold F5;rcases h with rfl|rfl<;>simp[hk]
def ai5(h:c=32)(hw:okW k=true)(hk:k<4294967296):F5 ⟨c,0,0,k⟩ left=true:=by unfold F5;subst h;simp[hk,hw]
def TY(h:k<left)(hk:k<4294967296):F5 ⟨5,0,0,k⟩ left=true:=by unfold F5;simp[hk,h]
def ab5{b:Nat}(hc:gF c=true)(h1:a<left)(h2:b<left)(h3:a<256)(h4:b<256)(hk:k<4294967296):F5 ⟨c,a,b,k⟩ left=true:=by
 have hc':c<65536:=by simp only[gF,gq,fU]at hc;omega
 unfold F5;simp[hc,h1,h2,h3,h4,hk,hc']
def acv{l:List Sy}(h:iw l=true)(hk:∀s∈l,s.k<4294967296):∀(n i:Nat),i+n=l.length->JH (D8 l i)=true
 |0,i,e=>by have:i=l.length:=aq;subst this;rw[M8];rfl
 |n+1,i,e=>by
  have ih:=acv h hk n (i+1) aq;have hi:i<l:=aq;have hki:=hk _ (aW hi);have hbig:(D8 l (i+1)).length<=400000:=by have:=Uo h n (i+1) aq;have:=uj h;omega
  rw[C3 h hi];rcases jg (jZ h hi)with⟨h1,h2,h3,h4⟩|⟨h1,h2,h3⟩|⟨h1,h2,h3,h4,h5⟩|⟨h1,m1,m2,m3,m4,⟨h4,h5⟩,h7,h8⟩
  ·have e1:lJ (dst l (i+1)) l[i]=[⟨l[i].c,0,0,l[i].k⟩]:=by unfold lJ;rw[aN aq,aV (by rw[h1];rfl)]
   rw[e1,List.singleton_append];simp only[JH,bA];exact⟨ai5 h1 h4 hki,ih⟩
  ·have e1:lJ (dst l (i+1)) l[i]=[⟨l[i].c,0,0,l[i].k⟩]:=by unfold lJ;rw[aN aq,aV];rcases h1 with h1|h1<;>rw[h1]<;>rfl
   rw[e1,List.singleton_append];simp only[JH,bA];exact⟨ai4 h1 hki,ih⟩
  ·have e1:lJ (dst l (i+1)) l[i]=[⟨5,0,0,dst l (i+1) l[i].th.toNat⟩]:=by unfold lJ;rw[aV h1]
   have hd:=acw h (i:=i+1) (t:=l[i].th.toNat) aq aq;rw[e1,List.singleton_append];simp only[JH,bA];exact⟨TY hd aq,ih⟩
  ·have hd1:=acw h (i:=i+1) (t:=l[i].th.toNat) aq aq;have hd2:=acw h (i:=i+1) (t:=l[i].el.toNat) aq aq;by_cases QD:max (dst l (i+1) l[i].th.toNat) (dst l (i+1) l[i].el.toNat)<=255
   ·have e1:lJ (dst l (i+1)) l[i]=[⟨l[i].c,dst l (i+1) l[i].th.toNat,dst l (i+1) l[i].el.toNat,l[i].k⟩]:=by unfold lJ;rw[aN m4,aN (by rw[h1];simp),aV QD]
    rw[e1,List.singleton_append];simp only[JH,bA];exact⟨ab5 h1 hd1 hd2 aq aq hki,ih⟩
   ·have e1:lJ (dst l (i+1)) l[i]=[⟨l[i].c,0,1,l[i].k⟩,⟨5,0,0,dst l (i+1) l[i].th.toNat+1⟩,⟨5,0,0,dst l (i+1) l[i].el.toNat⟩]:=by unfold lJ;rw[aN m4,aN (by rw[h1];simp),aN QD]
    rw[e1];simp only[dh,dA,JH,bA,aO];exact⟨ab5 h1 aq aq aq aq hki,TY aq aq,TY hd2 aq,ih⟩
def agc{l:List Sy}(h:iw l=true):∃x,(mq l).getLast?=some x/\x.c=6:=by
 have hp:=qd h;have h6:=AA h;obtain⟨pre,hpre⟩:=Un h (t:=l.length-1) aq _ 0 (bP _) (aD _);have hi1:l.length-1<l.length:=aq;have hs:=C3 h hi1;have e:l.length-1+1=l.length:=aq;rw[e,M8,fH]at hs;have e1:lJ (dst l l) (l[l.length-1]' aq)=[⟨6,0,0,(l[l.length-1]' aq).k⟩]:=by unfold lJ;rw[aN aq,aV (by rw[h6];rfl),h6]
 rw[e1]at hs;unfold mq;rw[hpre,hs];exact⟨_,List.getLast?_concat ..,rfl⟩
def agf{l:List Sy}(h:iw l=true)(hk:∀s∈l,s.k<4294967296):TW (mq l)=true:=by unfold TW;obtain⟨x,hx,hc⟩:=agc h;rw[hx];simp only[bA,fU];exact⟨acv h hk l 0 (cO _),hc⟩
def PV:∀ {p:List Ix} (i:Nat),JH p=true->JH (p.drop i)=true
 |p,0,h=>h
 | [],_+1,_=>rfl
 |x::r,i+1,h=>by simp only[JH,bA]at h;exact PV i h.2
def Aw{p:List Ix}(h:JH p=true)(hi:i<p):F5 p[i] (p-1-i)=true:=by have:=PV i h;rw[bJ hi]at this;simp only[JH,bA,cZ]at this;rw[show p.length-1-i=p.length-(i+1)from aq];exact this.1
end LT
end Go.Proofs.YtopfefhenfineaaGreat
