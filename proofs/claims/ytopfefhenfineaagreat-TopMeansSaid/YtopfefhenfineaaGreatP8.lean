import Derived.Test.YtopfefhenfineaaGreatP7
import Derived.Test.YtopfefhenfineaaGreatP6
import Derived.Laws.Slices
import Derived.Sort.Walk0
import Derived.Deep.RegionLaw
import Derived.Laws.Runes
import Derived.Laws.RangeAny
import Derived.Deep.LoopGhost
import Derived.WalkMore
import Derived.Lib.OthersKept
import Derived.Lib.DecodeN
import Derived.StillTailTactics
set_option linter.all false
set_option maxRecDepth 100000
set_option maxHeartbeats 4000000
namespace Go.Proofs.YtopfefhenfineaaGreat
open Go.Proofs.Tryz Go.RowKit bh
namespace bM
variable{v:K}{w:G}
theorem Vj(w:G)(s:bn):(convert 9 22 (N s)).run prog w= .ok (E (some w) s.size (grownCap w s.size 0 5)) (w.drew.alloc (J (bytesRow s (grownCap w s.size 0 5)) 5 ((bytesRow s (grownCap w s.size 0 5)).size,(bytesRow s (grownCap w s.size 0 5)).size+1))):=
 run_bytes_of_string w _ _ _ s underlying9 underlying22 underlying5
def Vk(w:G)(s:bn)(cap:Nat)(ao:s.size<=cap)(fr:Nat×Nat):aS (w.alloc (J (bytesRow s cap) 5 fr)) 1 pU (E (some w) s.size cap) (bytes s):=ab5
def Fu{A:List LN}(h:aS w 2 oI v A):∃a c,v=E a A c/\A.length<=c/\∀i,(hi:i<A.length)->∃b o,a=some ⟨b,o,none⟩/\w.cell? ⟨b,o+i*2,none⟩=some (H ((A[i]).1:Int))/\w.cell? ⟨b,o+i*2+1,none⟩=some (N (str (A[i]).2)):=by obtain⟨a,c,h1,h2,T,af⟩:=h;refine⟨a,c,h1,h2,λi hi=> ?_⟩;obtain⟨b,o,e,k⟩:=af i hi;have eK:=k 0 FK;have bk:=k 1 FK;exact⟨b,o,e,by simpa[oI]using eK,by simpa[oI]using bk⟩
def aI0(l:List aL):(jk l).2=0\/(jk l).2=3\/(jk l).2=4:=by
 unfold jk;split
 ·exact .inr (.inl rfl)
 split
 ·exact .inr (.inr rfl)
 ·exact xI
def apD:∀(pre:List LN)(aw:qH),(pre.foldl jO aw).1.length<=aw.1.length+pre.length
 | [],_=>aZ _
 |x::r,aw=>by
  rw[xH];have h:=apD r (jO aw x);have h2:(jO aw x).1.length<=aw.1.length+1:=by
   unfold jO;split
   ·omega
   split
   ·dsimp only;omega
   ·exact aaz _ _ _
  rw[dJ];omega
def ad1(l:List aL):(jk l).1.length<=1001:=by
 unfold jk;split
 ·simp
 split
 ·simp
 ·dsimp only;unfold Ki;have:=apD (jP 1 (gU l)) ([],0,[]);rw[CY]at this;have h2:=aaz (lM (jP 1 (gU l))).2.1 (lM (jP 1 (gU l))).2.2 (lM (jP 1 (gU l))).1;unfold lM at *;simp only[fu]at this;omega
def P7{A:List aL}(h:aS w 1 pU v A):∃a c,v=E a A c/\A.length<=c/\∀i,(hi:i<A.length)->∃b o,a=some ⟨b,o,none⟩/\w.cell? ⟨b,o+i,none⟩=some (aC ((A[i]).toNat:Int)):=by obtain⟨a,c,h1,h2,T,af⟩:=h;refine⟨a,c,h1,h2,λi hi=> ?_⟩;obtain⟨b,o,e,k⟩:=af i hi;have:=k 0 (by simp[pU]);rw[qA,nO]at this;exact⟨b,o,e,this⟩
end bM
variable{S:Prop}
def DL(h:S:=by cases h):S:=h
namespace bM
variable{a b:List aL}{i j k:Nat}
abbrev dz:=List aL×Int×List aL
def lt(a b:List aL):Bool:=Op.bytesLess a b
def lt_iff(a b:List aL):lt a b=true↔a<b:=by unfold lt;rw[bytesLess_eq,wJ]
def LK(a:List aL):lt a a=false:=by
 cases h:lt a a
 ·rfl
 ·exact absurd ((lt_iff a a).1 h) (List.lt_irrefl a)
def lt_trans{c:List aL}(h:lt a b=true)(k:lt b c=true):lt a c=true:=(lt_iff a c).2 (List.lt_trans ((lt_iff a b).1 h) ((lt_iff b c).1 k))
def aid(h:lt a b=true):lt b a=false:=by
 cases k:lt b a
 ·rfl
 ·have:=lt_trans h k;rw[LK]at this;cases this
def adr(h:lt a b=false)(k:lt b a=false):a=b:=by
 have h1:¬a<b:=λx=>by rw[(lt_iff a b).2 x]at h;cases h
 have h2:¬b<a:=λx=>by rw[(lt_iff b a).2 x]at k;cases k
 exact List.le_antisymm (List.not_lt.1 h2) (List.not_lt.1 h1)
def Vz(h:lt a b=false)(bO:a≠b):lt b a=true:=by
 cases k:lt b a
 ·exact absurd (adr h k) bO
 ·rfl
def xS(c:aL):Bool:=decide (33<=c.toNat)&&decide (c.toNat<=126)&& !(c==47)
def nk(l:List aL):Bool:=decide (6<=l.length)&&decide (l.length<=60)&&Lib.hasSuffix l [46,99,111,110,102]&&l.all xS
def O7(fs:List dz)(k i:Nat)(f:dz):Prop:=i<k/\fs[i]?=some f/\∀j g,j<k->fs[j]?=some g->g.1=f.1->f.2.1<g.2.1\/f.2.1=g.2.1/\i<=j
abbrev KN(fs:List dz):=O7 fs fs.length
abbrev F3(L:List dz):Prop:=L.Pairwise (λa b=>lt a.1 b.1=true)
def yP(fs:List dz)(i:Nat)(L:List dz):Prop:=F3 L/\∀f,f∈L↔∃j,j<i/\KN fs j f
abbrev aaE(fs L:List dz):Prop:=yP fs fs L
def apE:∀ {L f8:List dz},F3 L->F3 f8->(∀f,f∈L↔f∈f8)->L=f8
 | [],[],_,_,_=>rfl
 | [],b::f8,_,_,h=>by have:=(h b).2 ay;cases this
 |a::L,[],_,_,h=>by have:=(h a).1 ay;cases this
 |a::L,b::f8,h1,h2,h=>by
  obtain⟨et,ef⟩:=List.pairwise_cons.1 h1;obtain⟨fp,cY⟩:=List.pairwise_cons.1 h2;have iv:a=b:=by
   rcases iA.1 ((h a).1 ay)with e|e
   ·exact e
   ·rcases iA.1 ((h b).2 ay)with cU|cU
    ·exact cU.symm
    ·have x:=fp a e;rw[aid (et b cU)]at x;cases x
  subst iv;rw[apE ef cY (λf=>⟨λai=>by
   rcases iA.1 ((h f).1 (vv _ ai))with e|e
   ·subst e;have:=et f ai;rw[LK]at this;cases this
   ·exact e,λai=>by
   rcases iA.1 ((h f).2 (vv _ ai))with e|e
   ·subst e;have:=fp f ai;rw[LK]at this;cases this
   ·exact e⟩)]
def aI1{fs L f8:List dz}(h:yP fs i L)(k:yP fs i f8):L=f8:=apE h.1 k.1 (λf=>(h.2 f).trans (k.2 f).symm)
def apF{fs:List dz}{f g:dz}(h:O7 fs k i f)(l:O7 fs k j g)(e:f.1=g.1):i=j/\f=g:=by obtain⟨h1,h2,T⟩:=h;obtain⟨l1,l2,l3⟩:=l;have a:=T j g l1 l2 e.symm;have b:=l3 i f h1 h2 e;have:i=j:=aE;subst this;rw[h2]at l2;exact⟨rfl,gL l2⟩
def aI2{fs L:List dz}(h:yP fs i L)(hn:∀f,¬KN fs i f):yP fs (i+1) L:=
 ⟨h.1,λf=>(h.2 f).trans ⟨λ⟨j,a,b⟩=>⟨j,aE,b⟩,λ⟨j,a,b⟩=>by
  by_cases e:j=i
  ·subst e;exact absurd b (hn f)
  ·exact⟨j,aE,b⟩⟩⟩
def aI3{fs L:List dz}(h:yP fs i L){f:dz}(bJ:KN fs i f):∀g∈L,g.1≠f.1:=λg hg e=>by obtain⟨j,a,b⟩:=(h.2 g).1 hg;have:=(apF b bJ e).1;omega
def aI4{fs aq B:List dz}{f:dz}(h:yP fs i (aq++B))(bJ:KN fs i f)(hB:∀b∈B,lt f.1 b.1=true)(bl:∀a,aq.getLast?=some a->lt f.1 a.1=false):yP fs (i+1) (aq++f::B):=by
 have bO:=aI3 h bJ;obtain⟨et,fp,k5⟩:=List.pairwise_append.1 h.1;refine⟨List.pairwise_append.2 ⟨et,List.pairwise_cons.2 ⟨hB,fp⟩,?_⟩,λg=> ?_⟩
 ·have aI5:∀a∈aq,lt a.1 f.1=true:=by
   intro a bT;rcases List.eq_nil_or_concat aq with e|⟨RM,aR,e⟩
   ·subst e;cases bT
   ·subst e;have bL:lt aR.1 f.1=true:=Vz (bl aR ay) (λe=>bO aR ay e.symm);rcases iZ.1 (by simpa using bT:a∈RM++[aR])with q|q
    ·simp only[List.concat_eq_append]at et;exact lt_trans ((List.pairwise_append.1 et).2.2 a q aR ay) bL
    ·simp at q;subst q;exact bL
  intro a bT b V;rcases iA.1 V with e|e
  ·subst e;exact aI5 a bT
  ·exact k5 a bT b e
 ·constructor
  ·intro hg;rcases iZ.1 hg with q|q
   ·obtain⟨j,a,b⟩:=(h.2 g).1 (List.mem_append_left _ q);exact⟨j,aE,b⟩
   ·rcases iA.1 q with e|e
    ·subst e;exact⟨i,aE,bJ⟩
    ·obtain⟨j,a,b⟩:=(h.2 g).1 (List.mem_append_right _ e);exact⟨j,aE,b⟩
  ·rintro⟨j,a,b⟩;by_cases e:j=i
   ·subst e;obtain⟨-,ef,-⟩:=b;obtain⟨-,cY,-⟩:=bJ;rw[ef]at cY;obtain rfl:=gL cY;simp
   ·rcases iZ.1 ((h.2 g).2 ⟨j,aE,b⟩)with q|q<;>simp[q]
def aI6(fs:List dz):yP fs 0 []:=⟨List.Pairwise.nil,λf=>⟨λh=>DL,λ⟨j,a,_⟩=>aE⟩⟩
def O8(fs:List dz)(i:Nat)(f:dz):Bool:=(List.range fs).all λj=>match fs[j]? with|none=>true|some g=> !(g.1==f.1)||decide (f.2.1<g.2.1)||(decide (f.2.1=g.2.1)&&decide (i<=j))
def apG{fs:List dz}{f:dz}(ai:fs[i]?=some f):O8 fs i f=true↔KN fs i f:=by
 have hi:i<fs:=(List.getElem?_eq_some_iff.1 ai).1;unfold O8 KN O7;rw[List.all_eq_true];constructor
 ·intro h;refine⟨hi,ai,λj g Z hg e=> ?_⟩;have:=h j (List.mem_range.2 Z);rw[hg]at this;simpa[e]using this
 ·rintro⟨-,-,h⟩ j Z;have C':=List.mem_range.1 Z;have hg:fs[j]?=some fs[j]:=dK C';have:=h j _ C' hg;rw[hg];by_cases e:fs[j].1=f.1
  ·simpa[e]using this e
  ·simp[e]
def Ig(f:dz):List dz->List dz
 | []=>[f]
 |g::l=>if lt f.1 g.1=true then f::g::l else g::Ig f l
def apH(f:dz):∀L:List dz,F3 L->∃aq B,L=aq++B/\Ig f L=aq++f::B/\(∀b∈B,lt f.1 b.1=true)/\∀a,aq.getLast?=some a->lt f.1 a.1=false
 | [],_=>⟨[],[],rfl,rfl,ay,ay⟩
 |g::l,h=>by
  obtain⟨h1,h2⟩:=List.pairwise_cons.1 h;unfold Ig;by_cases e:lt f.1 g.1=true
  ·rw[aF e];refine⟨[],g::l,rfl,rfl,λb V=> ?_,ay⟩;rcases iA.1 V with q|q
   ·subst q;exact e
   ·exact lt_trans e (h1 b q)
  ·rw[au e];obtain⟨aq,B,ef,cY,eh,hL⟩:=apH f l h2;refine⟨g::aq,B,by rw[ef];rfl,by rw[cY];rfl,eh,λa bT=> ?_⟩;rw[List.getLast?_cons]at bT;cases bl:aq.getLast? with
   |none=>rw[bl]at bT;simp at bT;subst bT;simpa using e
   |some aR=>rw[bl]at bT;simp at bT;subst bT;exact hL aR bl
def Df(fs L:List dz)(i:Nat):List dz:=match fs[i]? with|none=>L|some f=>if O8 fs i f=true then Ig f L else L
def nR(fs:List dz):List dz:=(List.range fs).foldl (Df fs) []
def apI(fs:List dz):∀i,i<=fs.length->yP fs i ((List.range i).foldl (Df fs) [])
 |0,_=>aI6 fs
 |i+1,hi=>by
  have b9:=apI fs i aE;rw[List.range_succ,uF];generalize(List.range i).foldl (Df fs) []=L at *;have ai:fs[i]?=some fs[i]:=dK aE;show yP fs (i+1) (Df fs L i);unfold Df;rw[ai];show yP fs (i+1) (if O8 fs i fs[i]=true then Ig fs[i] L else L);by_cases bJ:O8 fs i fs[i]=true
  ·rw[aF bJ];obtain⟨aq,B,rfl,cY,eh,hL⟩:=apH fs[i] L b9.1;rw[cY];exact aI4 b9 ((apG ai).1 bJ) eh hL
  ·rw[au bJ];refine aI2 b9 (λf cJ=> ?_);have:=cJ.2.1;rw[ai]at this;obtain rfl:=gL this;exact bJ ((apG ai).2 cJ)
def OJ(fs:List dz):aaE fs (nR fs):=apI fs fs (aZ _)
def atS{fs L:List dz}(h:aaE fs L):L=nR fs:=aI1 h (OJ fs)
def Jt(fs:List dz):(nR fs).length<=fs.length:=by
 have:∀i,((List.range i).foldl (Df fs) []).length<=i:=by
  intro i
  induction i with
  |zero=>simp
  |succ i b9=>
   rw[List.range_succ,uF];generalize(List.range i).foldl (Df fs) []=L at *;show(Df fs L i).length<=i+1;have ih:∀(f:dz) (L:List dz),(Ig f L).length=L.length+1:=by
    intro f L
    induction L with
    |nil=>rfl
    |cons g l b9=>unfold Ig;split<;>simp[b9]
   unfold Df;split
   ·omega
   ·split
    ·rw[ih];omega
    ·omega
 exact this _
def Ae(fs:List dz)(k:Nat)(m:List aL->Option dz):Prop:=
 ∀x,match m x with
  |none=>∀i f,i<k->fs[i]?=some f->f.1≠x
  |some f=>f.1=x/\∃i,O7 fs k i f
def at7(fs:List dz):Ae fs 0 (λ_=>none):=λx i f h=>aE
def atO{fs:List dz}{m:List aL->Option dz}{f:dz}(h:Ae fs k m)(ai:fs[k]?=some f)(hd:∀g,m f.1=some g->f.2.1<g.2.1):Ae fs (k+1) (λx=>if x=f.1 then some f else m x):=by
 intro x;have D:=h x;by_cases e:x=f.1
 ·subst e;simp only[if_true];refine⟨trivial,k,aE,ai,λj g Z hg e=> ?_⟩;by_cases O9:j=k
  ·subst O9;rw[ai]at hg;obtain rfl:=gL hg;exact .inr ⟨rfl,aZ _⟩
  ·left;cases R:m f.1 with
   |none=>rw[R]at D;exact absurd e (D j g aE hg)
   |some aR=>rw[R]at D;obtain⟨ed,i,I,aO,bj⟩:=D;have a:=hd aR R;have b:=bj j g aE hg (e.trans ed.symm);omega
 ·simp only[au e];cases R:m x with
  |none=>
   rw[R]at D;intro i g hi hg;by_cases HJ:i=k
   ·subst HJ;rw[ai]at hg;obtain rfl:=gL hg;exactλq=>e q.symm
   ·exact D i g aE hg
  |some aR=>
   rw[R]at D;obtain⟨ed,i,I,aO,bj⟩:=D;refine⟨ed,i,aE,aO,λj g Z hg g1=> ?_⟩;by_cases O9:j=k
   ·subst O9;rw[ai]at hg;obtain rfl:=gL hg;exact absurd (g1.trans ed) (λq=>e q.symm)
   ·exact bj j g aE hg g1
def aub{fs:List dz}{m:List aL->Option dz}{f g:dz}(h:Ae fs k m)(ai:fs[k]?=some f)(hg:m f.1=some g)(hd:¬f.2.1<g.2.1):Ae fs (k+1) m:=by
 intro x;have D:=h x;cases R:m x with
 |none=>
  rw[R]at D;intro i aR hi bL;by_cases HJ:i=k
  ·subst HJ;rw[ai]at bL;obtain rfl:=gL bL;intro q;rw[<-q,hg]at R;cases R
  ·exact D i aR aE bL
 |some aR=>
  rw[R]at D;obtain⟨ed,i,I,aO,bj⟩:=D;refine⟨ed,i,aE,aO,λj y Z bN apJ=> ?_⟩;by_cases O9:j=k
  ·subst O9;rw[ai]at bN;obtain rfl:=gL bN;have:m f.1=some aR:=by rw[apJ,ed];exact R
   rw[hg]at this;obtain rfl:=gL this;omega
  ·exact bj j y aE bN apJ
def atT{fs L:List dz}{m:List aL->Option dz}(h:Ae fs fs m)(ab:F3 L)(R:∀f,f∈L↔m f.1=some f):aaE fs L:=by
 refine⟨ab,λf=>(R f).trans ⟨λe=> ?_,λ⟨i,hi,bJ⟩=> ?_⟩⟩
 ·have:=h f.1;rw[e]at this;obtain⟨-,i,bJ⟩:=this;exact⟨i,bJ.1,bJ⟩
 ·have:=h f.1;cases e:m f.1 with
  |none=>rw[e]at this;exact absurd rfl (this i f hi bJ.2.1)
  |some aR=>rw[e]at this;obtain⟨ed,j,bL⟩:=this;rw[(apF bL bJ ed).2]
end bM
namespace Co
variable{a b m n next:Nat}{o:Int}{out r A ys:List Span}{s y:Span}
def aaF:∀(A ys:List Span)(n:Nat),chain (A++ys) n=(chain A n).bind (chain ys)
 | [],ys,n=>rfl
 |s::r,ys,n=>by
  simp only[gZ,chain];split
  ·exact aaF r ys _
  ·rfl
def mM(h:chain (s::r) n=some m):s.lo=n/\s.lo<=s.hi/\chain r (s.hi+1)=some m:=by
 unfold chain at h;split at h
 ·rename_i ao;exact⟨ao.1,ao.2,h⟩
 ·cases h
def aaG(h1:s.lo=n)(h2:s.lo<=s.hi)(h:chain r (s.hi+1)=some m):chain (s::r) n=some m:=by unfold chain;rw[aF ⟨h1,h2⟩,h]
def aaH(h:chain (A++ys) n=some m):∃b,chain A n=some b/\chain ys b=some m:=by
 rw[aaF]at h;cases D:chain A n with
 |none=>rw[D]at h;cases h
 |some b=>rw[D]at h;exact⟨b,rfl,h⟩
def apK(h:chain A n=some b):chain (A++ys) n=chain ys b:=by rw[aaF,h];rfl
def KO:∀(A ys:List Span)(n:Nat),way (A++ys) n=if (way A n).2=true then way A n else way ys n
 | [],ys,n=>rfl
 |s::r,ys,n=>by
  simp only[gZ,way];split
  ·rfl
  ·exact KO r ys n
def Jk(i:List Span)(l s:Span):put (i++[l]) s=if l.way=s.way then i++[⟨l.lo,s.hi,l.way⟩]else i++[l,s]:=by
 unfold put;rw[List.getLast?_append,List.getLast?_singleton];simp only[Option.some_or];split
 ·rw[dA,xG,yX,List.set_append_right _ _ (aZ _),Nat.sub_self];rfl
 ·simp
def Az(out:List Span):out=[]\/∃i l,out=i++[l]:=by
 rcases List.eq_nil_or_concat out with h|⟨i,l,h⟩
 ·exact .inl h
 ·exact .inr ⟨i,l,by simpa using h⟩
def apL(h:chain (out++y::ys) a=some m):chain (put out y++ys) a=some m:=by
 rcases Az out with rfl|⟨i,l,rfl⟩
 ·exact h
 ·rw[Jk];split
  ·rw[gJ]at h⊢;obtain⟨b,h1,h2⟩:=aaH h;obtain⟨aK,aV,T⟩:=mM h2;obtain⟨cC,gA,af⟩:=mM T;rw[apK h1];exact aaG aK uG af
  ·simpa using h
def aI7(h:chain (out++y::ys) a=some m)(n:Nat):way (put out y++ys) n=way (out++y::ys) n:=by
 rcases Az out with rfl|⟨i,l,rfl⟩
 ·rfl
 ·rw[Jk];split
  ·rename_i bJ;rw[gJ]at h⊢;obtain⟨b,h1,h2⟩:=aaH h;obtain⟨aK,aV,T⟩:=mM h2;obtain⟨cC,gA,af⟩:=mM T;rw[gJ,KO i,KO i];split
   ·rfl
   ·simp only[gZ,iq,way];by_cases c1:l.lo<=n/\n<=l.hi
    ·rw[aF ⟨c1.1,aE⟩,aF c1]
    ·by_cases c2:y.lo<=n/\n<=y.hi
     ·rw[aF ⟨aE,c2.2⟩,au c1,aF c2,bJ]
     ·rw[au aE,au c1,au c2]
  ·simp
def aI8:∀ {out:List Span} {a m:Nat},chain (out++ys) a=some m->chain (ys.foldl put out) a=some m:=by
 induction ys with
 |nil=>intro out a m h;simpa using h
 |cons y ys b9=>intro out a m h;exact b9 (apL h)
def aI9:∀ {out:List Span} {a m:Nat},chain (out++ys) a=some m->∀n,way (ys.foldl put out) n=way (out++ys) n:=by
 induction ys with
 |nil=>intro out a m _ n;simp
 |cons y ys b9=>intro out a m h n;rw[<-aI7 h n];exact b9 (apL h) n
def uR(A:List Span):whole A=true↔chain A 0=some 4294967296:=by unfold whole;simp
def Qy(h:whole A=true):whole (merge A)=true:=(uR _).2 (aI8 (out:= []) ((uR _).1 h))
def aaq(h:whole A=true)(n:Nat):way (merge A) n=way A n:=aI9 (out:= []) ((uR _).1 h) n
def apM:∀ {A:List Span} {a m n:Nat},chain A a=some m->a<=n->n<m->(way A n).2=true
 | [],a,m,n,h,h1,h2=>by simp[chain]at h;omega
 |s::r,a,m,n,h,h1,h2=>by
  obtain⟨aK,aV,T⟩:=mM h;simp only[way];split
  ·rfl
  ·exact apM T aE h2
def TW(A:List Span):List Int:=A.map (·.way)
def nd:List Int->Prop
 |a::b::r=>a≠b/\nd (b::r)
 |_=>True
def look:List Nat->List Int->Int->Nat->Int
 |n::r,w::q,o,m=>if n=m then w else look r q o m
 |_,_,o,_=>o
def apN:∀ {ns:List Nat} {d3:List Int} {o:Int} {next m:Nat},nJ ns next=true->m<next->look ns d3 o m=o
 | [],_,_,_,_,_,_=>by unfold look;rfl
 |_::_,[],_,_,_,_,_=>by unfold look;rfl
 |n::r,w::q,o,next,m,h,R=>by simp only[nJ,dV,iM]at h;unfold look;rw[au aE];exact apN h.2 aE
def IB:∀ {ns:List Nat} {d3:List Int} {o:Int} {next k:Nat} (h:k<ns) (gm:k<d3),nJ ns next=true->look ns d3 o ns[k]=d3[k]
 |n::r,w::q,o,next,0,_,_,_=>by simp[look]
 |n::r,w::q,o,next,k+1,h,gm,a6=>by
  simp only[nJ,dV,iM]at a6;have hk:k<r:=by simpa using h
  have ED:∀ {l:List Nat} {nx i:Nat} (hi:i<l),nJ l nx=true->nx<=l[i]:=by
   intro l
   induction l with
   |nil=>intro nx i hi;simp at hi
   |cons a l b9=>
    intro nx i hi a6;simp only[nJ,dV,iM]at a6;cases i with
    |zero=>exact a6.1
    |succ i=>have:=b9 (i:=i) Im a6.2;simp;omega
  have h1:=ED hk a6.2;simp only[yV];unfold look;rw[au aE];exact IB hk (by simpa using gm) a6.2
def Nf:∀ {ns:List Nat} {d3:List Int} {o:Int} {m:Nat},(∀k (h:k<ns.length),ns[k]≠m)->look ns d3 o m=o
 | [],_,_,_,_=>by unfold look;rfl
 |_::_,[],_,_,_=>by unfold look;rfl
 |n::r,w::q,o,m,h=>by unfold look;rw[au (by have:=h 0 ay;simpa using this)];exact Nf (λk hk=>by have:=h (k+1) K6;simpa using this)
def apO(h:next<=n):chain (gap o next n) next=some n:=by
 unfold gap;split
 ·exact aaG rfl uG (by simp only[chain];congr 1;omega)
 ·simp only[chain];congr 1;omega
def apP(h:next<=m):way (gap o next n) m=if m<n then(o,true)else(0,false):=by
 unfold gap;split
 ·simp only[way];by_cases R:m<n
  ·rw[aF ⟨h,aE⟩,aF R]
  ·rw[au aE,au R]
 ·rw[au aE];rfl
def apQ(o:Int):∀(ns:List Nat)(d3:List Int)(next:Nat),ns.length=d3->nJ ns next=true->(∀n∈ns,n<4294967296)->next<=4294967296->chain (pc o ns d3 next) next=some 4294967296
 |n::r,w::q,next,X,a6,hn,D=>by simp only[nJ,dV,iM]at a6;have gs:=hn n ay;unfold pc;rw[apK (apO a6.1)];exact aaG rfl (aZ _) (apQ o r q (n+1) Dq a6.2 (λx D=>hn x Ip) aE)
 | [],d3,next,_,_,_,D=>by unfold pc;exact apO D
 |_::_,[],_,X,_,_,_=>by simp at X
def aea(o:Int):∀(ns:List Nat)(d3:List Int)(next m:Nat),ns.length=d3->nJ ns next=true->next<=m->m<4294967296->way (pc o ns d3 next) m=(look ns d3 o m,true)
 |n::r,w::q,next,m,X,a6,R,D=>by
  simp only[nJ,dV,iM]at a6;unfold pc;rw[KO,apP R];by_cases x0:m<n
  ·rw[aF x0,aF rfl];unfold look;rw[au aE,apN a6.2 aE]
  ·rw[au x0,au ay];unfold way look;by_cases e:n=m
   ·rw[aF ⟨by dsimp only;omega,by dsimp only;omega⟩,aF e]
   ·rw[au uG,au e];exact aea o r q (n+1) m Dq a6.2 aE D
 | [],d3,next,m,_,_,R,D=>by unfold pc look;rw[apP R,aF D]
 |_::_,[],_,_,X,_,_,_=>by simp at X
def Ri{ns:List Nat}{d3:List Int}(X:ns.length=d3)(a6:nJ ns 0=true)(hn:∀n∈ns,n<4294967296):whole (pc o ns d3 0)=true:=
 (uR _).2 (apQ o ns d3 0 X a6 hn aE)
end Co
def apR(h:S:=by
 rcases this with h|⟨h1,h2,T⟩
 ·exact .inl h
 ·right;omega):S:=h
namespace vZ
open Co
variable{B a CN i j m n q s t:Nat}{W w F dC:G}{l A:List Span}{u v:K}
structure Node where
 leaf:Bool
 way:Int
 at_:Nat
 less:Int
 more:Int
def oI(n:Node):List K:= [av n.leaf,H n.way,M n.at_,H n.less,H n.more]
def yL(n:Node):(oI n).length=5:=rfl
def TR(s:Node):∀u∈oI s,u.oneCell'=true:=by intro u a6;simp[oI]at a6;rcases a6 with rfl|rfl|rfl|rfl|rfl<;>rfl
def Fu{A:List Node}(h:aS w 5 oI v A):∃a c,v=E a A c/\A.length<=c/\∀i,(hi:i<A.length)->∃b o,a=some ⟨b,o,none⟩/\w.cell? ⟨b,o+i*5,none⟩=some (av A[i].leaf)/\w.cell? ⟨b,o+i*5+1,none⟩=some (H A[i].way)/\w.cell? ⟨b,o+i*5+2,none⟩=some (M (A[i].at_:Int))/\w.cell? ⟨b,o+i*5+3,none⟩=some (H A[i].less)/\w.cell? ⟨b,o+i*5+4,none⟩=some (H A[i].more):=by obtain⟨a,c,h1,h2,T,af⟩:=h;refine⟨a,c,h1,h2,λi hi=> ?_⟩;obtain⟨b,o,e,k⟩:=af i hi;exact⟨b,o,e,k 0 FK,k 1 FK,k 2 FK,k 3 FK,k 4 FK⟩
def nk(len i:Nat)(n:Node):Bool:=n.leaf||(decide ((i:Int)<n.less)&&decide ((i:Int)<n.more)&&decide (n.less<(len:Int))&&decide (n.more<(len:Int)))
def iE(len:Nat):List Node->Nat->Bool
 | [],_=>true
 |n::r,i=>nk len i n&&iE len r (i+1)
def may(t:List Node):Bool:=iE t t 0&&decide (0<t.length)
def N8:∀ {r:List Node} {len i j:Nat},iE len r i=true->∀(h:j<r),nk len (i+j) r[j]=true
 |n::r,len,i,0,R,_=>by simp only[iE,dV]at R;exact R.1
 |n::r,len,i,j+1,R,h=>by simp only[iE,dV]at R;have:=N8 R.2 (j:=j) tH;simpa[Nat.add_assoc,Nat.add_comm 1 j]using this
def OM:∀ {r:List Node} {len i:Nat},(∀j (h:j<r.length),nk len (i+j) r[j]=true)->iE len r i=true
 | [],_,_,_=>rfl
 |n::r,len,i,h=>by simp only[iE,dV];refine⟨h 0 ay,OM λj Z=> ?_⟩;have:=h (j+1) (by simpa using Z);simpa[Nat.add_assoc,Nat.add_comm 1 j]using this
def BQ{t:List Node}(h:may t=true):0<t.length:=by unfold may at h;simp at h;exact h.2
def Ea{t:List Node}(h:may t=true)(Z:j<t)(X:t[j].leaf=false):(j:Int)<t[j].less/\(j:Int)<t[j].more/\t[j].less<(t:Int)/\t[j].more<(t:Int):=by unfold may at h;rw[dV]at h;have:=N8 h.1 Z;unfold nk at this;rw[X,gF]at this;simp at this;exact⟨this.1.1.1,this.1.1.2,this.1.2,this.2⟩
def goes(x:Node)(n:Nat):Nat:=if x.at_<=n then x.more.toNat else x.less.toNat
def qh(t:List Node)(n:Nat):Nat->Nat->Nat->Int×Nat
 |0,_,s=>(0,s)
 |f+1,i,s=>match t[i]? with
  |some x=>if x.leaf=true then(x.way,s)else qh t n f (goes x n) (s+1)
  |none=>(0,s)
def Pp{t:List Node}(h:may t=true)(Z:j<t)(X:t[j].leaf=false)(n:Nat):j<goes t[j] n/\goes t[j] n<t.length:=by obtain⟨h1,h2,T,af⟩:=Ea h Z X;unfold goes;split<;>omega
def apS{t:List Node}(h:may t=true)(n:Nat):∀(f:Nat) {i s g:Nat},i<t->t.length-i<=f->t.length-i<=g->qh t n f i s=qh t n g i s
 |0,i,s,g,hi,ai,_=>aE
 |f+1,i,s,0,hi,_,hg=>aE
 |f+1,i,s,g+1,hi,ai,hg=>by
  unfold qh;rw[dK hi];dsimp only;split
  ·rfl
  ·rename_i X;have:=Pp h hi Dq n;exact apS h n f this.2 aE aE
def S9{t:List Node}(n:Nat){f:Nat}(hi:i<t)(ai:0<f)(X:t[i].leaf=true):qh t n f i s=(t[i].way,s):=by obtain⟨f,rfl⟩:∃g,f=g+1:=⟨f-1,aE⟩;unfold qh;rw[dK hi];dsimp only;rw[aF X]
def afp{t:List Node}(h:may t=true)(n:Nat){f:Nat}(hi:i<t)(ai:t.length-i<=f)(X:t[i].leaf=false):qh t n f i s=qh t n (t.length-goes t[i] n) (goes t[i] n) (s+1):=by
 obtain⟨f,rfl⟩:∃g,f=g+1:=⟨f-1,aE⟩;have h2:=Pp h hi X n
 conv=>lhs;unfold qh
 rw[dK hi];dsimp only;rw[au (by rw[X];simp)];exact apS h n f h2.2 aE (aZ _)
def Ih(t:List Node)(n:Nat):Int×Nat:=if may t=true then qh t n t 0 0 else(0,0)
def oZ(A:List Span)(i:Nat):Nat:=match A[i]? with|some s=>s.lo|none=>0
def Si(h:i<A):oZ A i=A[i].lo:=by unfold oZ;rw[dK h]
def Bw:Nat->List Span->Nat->List Node
 |0,_,_=>[]
 |f+1,l,a=>if l.length/2=0 then [⟨true,wy l 0,0,0,0⟩]else
  let less:=Bw f (l.take (l.length/2)) (a+1)
  ⟨false,0,oZ l (l.length/2),(a:Int)+1,(a:Int)+1+less.length⟩::(less++Bw f (l.drop (l.length/2)) (a+1+less.length))
def TY:∀(f:Nat) {l:List Span} {a g:Nat},0<l.length->l.length<=f->l.length<=g->Bw f l a=Bw g l a
 |0,l,a,g,h,ai,_=>aE
 |f+1,l,a,0,h,_,hg=>aE
 |f+1,l,a,g+1,h,ai,hg=>by
  unfold Bw;split
  ·rfl
  ·have h1:Bw f (l.take (l.length/2)) (a+1)=Bw g (l.take (l.length/2)) (a+1):=TY f sK sK sK;rw[h1];dsimp only;rw[TY f (g:=g) xJ xJ xJ]
def xE(l:List Span)(a:Nat):List Node:=Bw l l a
def yM(h:l.length=1):xE l a=[⟨true,wy l 0,0,0,0⟩]:=by unfold xE;rw[h];unfold Bw;rw[aF (by rw[h])]
def DJ(h:2<=l.length):xE l a=⟨false,0,oZ l (l.length/2),(a:Int)+1,(a:Int)+1+(xE (l.take (l.length/2)) (a+1)).length⟩::(xE (l.take (l.length/2)) (a+1)++xE (l.drop (l.length/2)) (a+1+(xE (l.take (l.length/2)) (a+1)).length)):=by
 unfold xE;obtain⟨f,ai⟩:∃g,l.length=g+1:=⟨l.length-1,aE⟩
 conv=>lhs;rw[ai];unfold Bw
 rw[au aE];dsimp only;rw[TY f (l:=l.take (l.length/2)) (g:=(l.take (l.length/2)).length) sK sK (aZ _),
  TY f (l:=l.drop (l.length/2)) (g:=(l.drop (l.length/2)).length) xJ xJ (aZ _)]
def BZ{P:List Span->Prop}(h1:∀l,l.length=1->P l)(h2:∀l,2<=l.length->P (l.take (l.length/2))->P (l.drop (l.length/2))->P l):∀l,0<l.length->P l:=by
 have:∀n l,l.length<=n->0<l.length->P l:=by
  intro n
  induction n with
  |zero=>intro l h gm;omega
  |succ n b9=>
   intro l h gm;by_cases T:l.length=1
   ·exact h1 l T
   ·exact h2 l aE (b9 _ sK sK) (b9 _ xJ xJ)
 exactλl h=>this l.length l (aZ _) h
def sU:∀l:List Span,0<l.length->∀a,(xE l a).length=2*l.length-1:=by
 refine BZ (λl h a=> ?_) (λl h xp xs a=> ?_)
 ·rw[yM h,h];rfl
 ·rw[DJ h,dJ,dA,xp,xs,gV,mP];omega
def T9(h:2<=l.length):xE l a=⟨false,0,oZ l (l.length/2),(a:Int)+1,(a:Int)+1+(2*(l.length/2)-1:Nat)⟩::(xE (l.take (l.length/2)) (a+1)++xE (l.drop (l.length/2)) (a+1+(2*(l.length/2)-1))):=by have:=sU (l.take (l.length/2)) sK (a+1);rw[gV,mQ aE]at this;rw[DJ h,this]
def aJa:∀l:List Span,0<l.length->∀(a j:Nat)(Z:j<(xE l a).length),(xE l a)[j].leaf=true\/((xE l a)[j].less=(a:Int)+j+1/\(a:Int)+j+1<(xE l a)[j].more/\(xE l a)[j].more<(a:Int)+(2*l.length-1:Nat)):=by
 refine BZ (λl h a j Z=> ?_) (λl h xp xs a j Z=> ?_)
 ·have e:=yM (a:=a) h;rw[sU l aE,h]at Z;obtain rfl:j=0:=aE;left;simp[e]
 ·have e:=T9 (a:=a) h;rw[sU l aE]at Z;have l1:=sU (l.take (l.length/2)) sK (a+1);have l2:=sU (l.drop (l.length/2)) xJ (a+1+(2*(l.length/2)-1));rw[gV,mQ aE]at l1;rw[mP]at l2;simp only[e];cases j with
  |zero=>right;simp only[BG];omega
  |succ j=>
   simp only[yV];by_cases nw:j<2*(l.length/2)-1
   ·rw[Uw aE];have:=xp (a+1) j aE;rw[gV,mQ aE]at this;exact apR
   ·rw[List.getElem_append_right aE];simp only[l1];have:=xs (a+1+(2*(l.length/2)-1)) (j-(2*(l.length/2)-1)) aE;rw[mP]at this;exact apR
def Yp(h:0<l.length):may (xE l 0)=true:=by
 have X:=sU l h 0;unfold may;rw[dV];refine⟨OM λj Z=> ?_,by rw[iM,X];omega⟩;have:=aJa l h 0 j Z;unfold nk;rcases this with h|⟨h1,h2,T⟩
 ·rw[h];rfl
 ·simp;right;rw[X];omega
def apT:∀ {A:List Span} {a m n:Nat},chain A a=some m->m<=n->way A n=(0,false)
 | [],_,_,_,_,_=>rfl
 |s::r,a,m,n,h,hn=>by
  obtain⟨aK,aV,T⟩:=mM h;have R:s.hi+1<=m:=by
   generalize s.hi+1=q at *;clear h
   induction r generalizing q with
   |nil=>simp[chain]at T;omega
   |cons y r b9=>obtain⟨aK,aV,af⟩:=mM T;have:=b9 _ af;omega
  unfold way;rw[au aE];exact apT T hn
def aJb(h:chain A a=some m)(ac:0<A.length):oZ A 0=a:=by
 cases A with
 |nil=>simp at ac
 |cons s r=>exact(mM h).1
def aJc(h:chain l a=some m)(X:l.length=1)(h1:a<=n)(h2:n<m):(way l n).1=wy l 0:=by
 match l,X with
 | [s],_=>obtain⟨aK,aV,T⟩:=mM h;simp[chain]at T;unfold way wy;rw[aF aE];rfl
def aJd(n:Nat):∀l:List Span,0<l.length->∀(pre post:List Node)(a m f s q:Nat),chain l a=some m->a<=n->n<m->2*l.length-1<=f->l.length<=2^q->∃d,d<=q/\qh (pre++(xE l pre.length++post)) n f pre s=((way l n).1,s+d):=by
 refine BZ (λl h pre post a m f s q ao h1 h2 ai _=> ?_) (λl h xp xs pre post a m f s q ao h1 h2 ai aW=> ?_)
 ·refine⟨0,eG _,?_⟩;rw[aJc ao h h1 h2,yM h,S9 n ay aE ay];simp
 ·obtain⟨k,hk⟩:∃k,k=l.length/2:=⟨_,rfl⟩;have kt:l=l.take k++l.drop k:=(List.take_append_drop k l).symm;have q1:=ao;rw[kt]at q1;obtain⟨b,c1,c2⟩:=aaH q1;have hZ:oZ l k=b:=by have:=aJb c2 xJ;rw[<-this];unfold oZ;rw[List.getElem?_drop,nO]
  have l1:=sU (l.take k) sK (pre+1);rw[gV,mQ aE]at l1;have e:=T9 (a:=pre.length) h;rw[<-hk]at xp xs e;obtain⟨f,rfl⟩:∃g,f=g+1:=⟨f-1,aE⟩;obtain⟨q,rfl⟩:∃g,q=g+1:=⟨q-1,by
   cases q with
   |zero=>simp at aW;omega
   |succ q=>rfl⟩
  rw[Nat.pow_succ]at aW;have To:(pre++(xE l pre.length++post))[pre.length]?=some ⟨false,0,oZ l k,(pre:Int)+1,(pre:Int)+1+(2*k-1:Nat)⟩:=by rw[Dl (aZ _),Nat.sub_self,e];rfl
  unfold qh;rw[To];dsimp only;rw[au ay];unfold goes;dsimp only;by_cases hn:oZ l k<=n
  ·rw[aF hn];obtain⟨d,hd,bx⟩:=xs (pre++(⟨false,0,oZ l k,(pre:Int)+1,(pre:Int)+1+(2*k-1:Nat)⟩::xE (l.take k) (pre+1))) post b m f (s+1) q c2 aE h2 xJ xJ;refine⟨d+1,aE,?_⟩;have bJ:(way l n).1=(way (l.drop k) n).1:=by
    conv=>lhs;rw[kt]
    rw[KO,apT c1 aE];rfl
   rw[bJ];have HJ:((pre:Int)+1+(2*k-1:Nat)).toNat=(pre++(⟨false,0,oZ l k,(pre:Int)+1,(pre:Int)+1+(2*k-1:Nat)⟩::xE (l.take k) (pre+1))).length:=by rw[dA,dJ,l1];omega
   have el:pre.length+1+(2*k-1)=(pre++(⟨false,0,oZ l k,(pre:Int)+1,(pre:Int)+1+(2*k-1:Nat)⟩::xE (l.take k) (pre+1))).length:=by rw[dA,dJ,l1];omega
   rw[HJ,e,el];rw[show s+(d+1)=s+1+d from aE,<-bx];simp only[gJ,gZ]
  ·rw[au hn];obtain⟨d,hd,bx⟩:=xp (pre++[⟨false,0,oZ l k,(pre:Int)+1,(pre:Int)+1+(2*k-1:Nat)⟩]) (xE (l.drop k) (pre.length+1+(2*k-1))++post) a b f (s+1) q c1 h1 aE sK sK;refine⟨d+1,aE,?_⟩;have ai:=apM c1 h1 (by omega:n<b);have bJ:(way l n).1=(way (l.take k) n).1:=by
    conv=>lhs;rw[kt]
    rw[KO,aF ai]
   rw[bJ];have HJ:((pre:Int)+1).toNat=pre.length+1:=aE;rw[HJ,e];rw[dA,xG]at bx;rw[show s+(d+1)=s+1+d from aE,<-bx];simp only[gJ,gZ,iq]
def Dg(l:List Span):List Node×Int:=if whole l=true then(xE l 0,0)else([],240)
def xK(h:whole l=true):0<l.length:=by
 rcases l with _|⟨s,r⟩
 ·rw[asu]at h;cases h
 ·simp
def Xr(h:whole l=true)(hn:n<4294967296)(aW:l.length<=2^q):(Ih (xE l 0) n).1=(way l n).1/\(Ih (xE l 0) n).2<=q:=by have ac:=xK h;obtain⟨d,hd,bx⟩:=aJd n l ac [] [] 0 4294967296 (xE l 0).length 0 q ((uR _).1 h) (eG _) hn (by rw[sU l ac];exact aZ _) aW;unfold Ih;rw[aF (Yp ac)];simp only[iq,qz,fu]at bx;rw[bx];exact⟨rfl,by simp only;omega⟩
def leaves(t:List Node):List Int:=(t.filter (·.leaf)).map (·.way)
def Vn:∀l:List Span,0<l.length->∀a,leaves (xE l a)=TW l:=by
 refine BZ (λl h a=> ?_) (λl h xp xs a=> ?_)
 ·rw[yM h]
  match l,h with
  | [s],_=>rfl
 ·rw[T9 h];unfold leaves at *;rw[List.filter_cons_of_neg ay,yZ,fQ,xp,xs];unfold TW;rw[<-fQ,List.take_append_drop]
theorem TS:(Tryz.prog.info? 422).map (λi=>(i.zero,i.size,i.bytes))=some (some (bg #[av false,H 0,M 0,H 0,H 0]),5,40):=aj
def nG(w:G)(base:Nat)(v:K)(A:List Node):Prop:=w.ownsRow base 422 5 v A (A.flatMap oI)
def nG.rd{base:Nat}{A:List Node}(h:nG w base v A):aS w 5 oI v A:=eD yL h
def nG.ext{base:Nat}{A:List Node}(h:nG w base v A)(D:Ext w F):nG F base v A:=aoE
def nG.base{base:Nat}{A:List Node}(h:nG W base u A)(V:CN<=base):nG W CN u A:=Px
abbrev Kp(base dO:Nat):Nat->Prop:=λk=>k<base/\k≠dO
def apU{base dO:Nat}{a:G}(h:Keep (Kp base dO) a w)(V:base<=w.heap.size)(o:Obj):Keep (Kp base dO) a (w.alloc o):=h.trans (Keep.alloc w (λk hk=>by have:=hk.1;omega) o)
def aaI{base dO:Nat}{a:G}(h:Keep (Kp base dO) a w):Keep (Kp base dO) a w.drew:=⟨h.os,h.tape,h.output,h.size,h.block⟩
def Ua{base dO:Nat}{a:G}(h:Keep (Kp base dO) a w)(n:Nat):Keep (Kp base dO) a (w.drewN n):=by
 induction n with
 |zero=>exact h
 |succ n b9=>exact aaI b9
def apV{base dO:Nat}{a:G}(h:Keep (Kp base dO) a w)(V:base<=w.heap.size)(hg:w.grownBy F u.ownBlock)(hZ:∀k,u.ownBlock=some k->base<=k/\k<w.heap.size):Keep (Kp base dO) a F:=
 h.trans ⟨hg.os,hg.tape,hg.output,hg.size,λk hk=>hg.block k (by have:=hk.1;omega) (λe=>by have:=(hZ k e.symm).1;have:=hk.1;omega)⟩
def apW{base dO:Nat}{a:G}(h:Keep (Kp base dO) a w)(v:K):Keep (Kp base dO) a (w.setCell dO v):=h.trans (Keep.setCell w (λh=>h.2 rfl) v)
def aJe{base dO:Nat}{a:G}(h:Keep (Kp base dO) a w){p:Addr}(ac:base<=p.block)(v:K):Keep (Kp base dO) a (w.setCell p v):=h.trans (Keep.setCell w (λh=>by have:=h.1;omega) v)
def apX{o:Obj}{row:Option Nat}(h:Boxed w B t v)(hg:(w.alloc o).drew.grownBy dC row)(bO:some B≠row):Boxed dC B t v:=
 Boxed.kept (W:=(w.alloc o).drew) (h.alloc o) hg bO
def apY{base:Nat}{A:List Node}(h:nG w base v A)(hB:B<base)(u:K):nG (w.setCell B u) base v A:=ownsRow_setCell_below (a:=⟨B,0,none⟩) h hB u
def aaJ{base:Nat}{A:List Node}(h:w.ownsRow base 422 5 v n (A.flatMap oI))(hn:n=A.length):nG w base v A:=by subst hn;exact h
def BA(dO i4:Nat):K:= .func (.func 294) #[] #[aB (some dO),aB (some i4)]
def Ub(base dO:Nat)(out:List Node)(w:G)(e:Ending)(F:G):Prop:=
 e=aI (bH #[])/\∃d1,Boxed F dO 363 d1/\nG F base d1 out/\Keep (Kp base dO) w F
theorem aJf(dO i4 base:Nat)(HA:dO<base)(l:List Span)(v u:K)(out:List Node)(w:G)(h1:l.length=1)(ho:out.length<=100000)(V:base<=w.heap.size)(bt:Boxed w dO 363 u)(cc:nG w base u out)(bd:aS w 3 sO v l):Calls prog 294 #[v,aB (some dO),aB (some i4)] w (Ub base dO (out++xE l out) w):=by
 obtain⟨jQ,c,rfl,ep,bV⟩:=PW bd;clear bd;obtain⟨b,o,rfl,-,-,mw⟩:=bV 0 aE;rw[Nat.zero_mul,nO]at mw;have rl:(l:Int)/2=0:=aE;have cH:(0:Int)<l:=aE;have ck:0<l.length:=aE;have f7:=yM (a:=out.length) h1;have Tr:wy l 0=l[0].way:=asy aE;rw[<-Tr]at mw;clear Tr;rw[f7];generalize wy l 0=y at *;have aJg:=bt.cell;have hZ:=cc.lt;have pD:∀o,(w.alloc o).cell? dO=some u:=λo=>(bt.alloc o).cell
 have mt:out.length+[(⟨true,y,0,0,0⟩:Node)].length=out.length+1:=rfl;clear f7;have tD:=z h1;have A0:=z cc;clear h1 cc;have CM:=z hZ;have Ts:=z bt;clear hZ bV;go_in;go_wp2;(go_region_law((refine FL rfl (.tmp 11) (.tmp 17) _ rfl underlying363 TS rfl Y yL TR base _ _ out [⟨true,y,0,0,0⟩] (by rfl) (by rfl) (by exact pG A0.o _) (aS.ext ((O _).drew) (jh yL w [⟨true,y,0,0,0⟩] _ _ rfl)) dU Y dU ?_;intro y3 y4 dC fY r6;rw[mt]at fY⊢;have C2:=apX Ts.o r6 (by intro e;have:=(CM.o _ e.symm).1;omega);have aJh:=C2.cell;have aux:=C2.frozen;have aaK:=z C2;have aaL:=z fY;have aaM:=z r6;clear C2 fY r6)))
 all_goals
  go_wp2;refine cO (gq rfl _ _ _) rfl ?_;refine⟨rfl,_,aaK.o.set _,apY (aaJ aaL.o ay) HA _,?_⟩;exact apW (apV (aaI (apU (Keep.refl _ _) V _)) dU aaM.o (λk hk=>⟨(CM.o k hk).1,by have:=(CM.o k hk).2;simp;omega⟩)) _
def aJi(base dO:Nat)(out:List Node)(w F:G):Prop:= ∃d1,Boxed F dO 363 d1/\nG F base d1 out/\Keep (Kp base dO) w F
theorem aJj(dO i4 base:Nat)(HA:dO<base)(hH:i4<base)(bO:i4≠dO)(l:List Span)(v u:K)(out:List Node)(w:G)(h2:2<=l.length)(X:l.length<=1000)(ho:out.length+2*l.length<=100000)(V:base<=w.heap.size)(bt:Boxed w dO 363 u)(Fi:Boxed w i4 418 (BA dO i4))(cc:nG w base u out)(cv:∀s∈l,Dz s)(bd:∀W,Keep (Kp base dO) w W->aS W 3 sO v l)(b9:∀(hO:List Span)(v u:K)(out:List Node)(w:G),hO.length<l->0<hO.length->out.length+2*hO.length<=100000->base<=w.heap.size->Boxed w dO 363 u->Boxed w i4 418 (BA dO i4)->nG w base u out->(∀s∈hO,Dz s)->(∀W,Keep (Kp base dO) w W->aS W 3 sO v hO)->Calls prog 294 #[v,aB (some dO),aB (some i4)] w (Ub base dO (out++xE hO out) w)):Calls prog 294 #[v,aB (some dO),aB (some i4)] w (Ub base dO (out++xE l out) w):=by
 obtain⟨jQ,c,rfl,ep,bV⟩:=PW (bd w (Keep.refl _ _));obtain⟨bv,bp,rfl,-⟩:=Fu cc.rd;obtain⟨k,hk⟩:∃k,k=l.length/2:=⟨_,rfl⟩;have oY:(l:Int)/2=(k:Int):=aE;have EE:((k:Int)==0)=false:=by simp;omega
 have f7:=T9 (a:=out.length) h2;rw[<-hk]at f7;have xc:k<l:=aE;have cH:(k:Int)<l:=aE;have m8:(k:Int)<=c:=aE;have f5:(0:Int)<=k:=aE;have e8:(l:Int)<=c:=aE;have s7:(k:Int)<=l:=aE;have ad:(l.take k).length=k:=by rw[gV];omega
 have hld:(l.drop k).length=l.length-k:=by rw[mP]
 obtain⟨b,o,rfl,dg,-,-⟩:=bV k xc;have hZ:oZ l k=l[k].lo:=Si xc;rw[<-hZ]at dg;clear hZ bV;generalize oZ l k=lo at *;have aJg:=bt.cell;have aPR:=bt.frozen;have apZ:=cc.lt;have afG:IntKind.i64.wrap ((out:Int)+1)=(out:Int)+1:=IntWalk.i64_in _ aE;rw[f7];clear f7;have Gz:=z hk;have O':=z ad;clear hk ad;have aaN:=z hld;have k0:=z bd;clear hld bd;have ap0:=z b9;have A0:=z cc;have aaO:=z apZ;clear b9 cc apZ;have Ts:=z bt;have ap1:=z Fi;have sC:=z cv;clear Fi cv;go_in;go_upto_region 4 with fail;go_cut [] (λwx=>aJi base dO (out++[⟨false,0,lo,(out:Int)+1,0⟩]) w wx)
 case first=>
  have pD:∀o,(w.alloc o).cell? dO=some (E bv out bp):=λo=>(Ts.o.alloc o).cell
  (go_region_law((refine FL rfl (.tmp 21) (.tmp 30) _ rfl underlying363 TS rfl Y yL TR base _ _ out [⟨false,0,lo,(out:Int)+1,0⟩] (by rfl) (by rfl) (by exact pG A0.o _) (aS.ext ((O _).drew) (jh yL w [⟨false,0,lo,(out:Int)+1,0⟩] _ _ rfl)) dU Y dU ?_;intro y3 y4 dC fY r6;have C2:=apX Ts.o r6 (by intro e;have:=(aaO.o _ e.symm).1;omega);have aJh:=C2.cell;have aux:=C2.frozen;have aaK:=z C2;have aaL:=z fY;have aaM:=z r6;clear C2 fY r6)))
  all_goals
   go_wp2_with fail;go_meet;exact⟨_,aaK.o.set _,apY (aaJ aaL.o ay) HA _,apW (apV (aaI (apU (Keep.refl _ _) V _)) dU aaM.o (λk hk=>⟨(aaO.o k hk).1,by have:=(aaO.o k hk).2;simp;omega⟩)) _⟩
 case rest=>
  obtain⟨Jn,mB,o5,hV⟩:=hcut;have Tu:Boxed wc i4 418 (BA dO i4):=(hV.block i4 ⟨hH,bO⟩).trans ap1.o;have MT:(out++[(⟨false,0,lo,(out:Int)+1,0⟩:Node)]).length=out.length+1:=ay;have k2:=λn=>ap0.o (l.take k) (E (some ⟨b,o,none⟩) k k) Jn (out++[(⟨false,0,lo,(out:Int)+1,0⟩:Node)]) (wc.drewN n) (by rw[O'.o];omega) (by rw[O'.o];omega) (by rw[MT,O'.o];omega) (by rw[heap_drewN];exact cB V hV.size) (by unfold Boxed;rw[heap_drewN];exact mB) (by unfold Boxed;rw[heap_drewN];exact Tu) (Pz o5 n) (λs ab=>sC.o s (zT ab)) (λW cJ=>(k0.o W ((Ua hV n).trans cJ)).take aE (aZ _) (by intro h;cases h))
  have aaP:wc.cell? i4=some (.func (.func 294) #[] #[aB (some dO),aB (some i4)]):=Tu.cell;have Vx:=z hV;have aPS:=z Tu;have ap2:=z MT;have aJk:=z (k2 1);clear k2 mB o5 hV Tu MT;go_wp2_with fail
  (go_region_held3 (λF=>F.cell? i4=some (.func (.func 294) #[] #[aB (some dO),aB (some i4)])) (first|exact aaP|exact(Keep.cell S3.o ⟨hH,bO⟩).trans aaP)
   (first|(go_at_call 294;refine ak aJk.o ?_;rintro cT ⟨ui,pp,o6,pS⟩;have S3:=z pS;have Hp:=z pp;have kq:=z o6;clear pS pp o6)))
  have HK:(out++[(⟨false,0,lo,(out:Int)+1,0⟩:Node)]++xE (l.take k) (out++[(⟨false,0,lo,(out:Int)+1,0⟩:Node)]).length).length=out.length+2*k:=by rw[dA,ap2.o,sU _ (by rw[O'.o];omega),O'.o];omega
  have o6:=kq.o;have pp:=Hp.o;rw[ap2.o]at HK o6;obtain⟨Fm,Pa⟩:∃Fm,Fm=out++[(⟨false,0,lo,(out:Int)+1,0⟩:Node)]++xE (l.take k) (out+1):=⟨_,rfl⟩;rw[<-Pa]at HK o6;have im:Fm[out.length]?=some ⟨false,0,lo,(out:Int)+1,0⟩:=by rw[Pa,gJ,Dl (aZ _),Nat.sub_self];rfl
  obtain⟨ap3,im⟩:=List.getElem?_eq_some_iff.1 im;obtain⟨p5,c6,rfl,aJl,aPT,aaQ⟩:=zV o6 aE;obtain⟨jJ,amA,kh,-,Nr⟩:=Fu o6.rd;obtain⟨te,o7,m3,-,-,-,-,S1⟩:=Nr out ap3;simp only[eZ]at kh;rw[<-kh.1]at m3;obtain⟨rfl,rfl⟩:p5=te/\0=o7:=by simpa using m3
  rw[gF]at S1;have bU:=λx=>vD (e:=422) yL o6 out 4 (H x) ⟨false,0,lo,(out:Int)+1,x⟩ ap3 Y (by rw[im];rfl)
  have wn:=aaQ (out.length*5+4);have ap4:=pp.cell;have aJm:(out:Int)<Fm:=aE;rw[HK]at ap4 aJm;have aaR:=λx=>(bU x).1
  rw[HK]at aaR;have aPU:p5≠dO:=aE;have Pb:Fm.set out ⟨false,0,lo,(out:Int)+1,((out.length+2*k:Nat):Int)⟩=out++⟨false,0,lo,(out:Int)+1,(out:Int)+1+(2*k-1:Nat)⟩::xE (l.take k) (out+1):=by rw[Pa,gJ,List.set_append_right _ _ (aZ _),Nat.sub_self];simp;omega
  rw[HK]at pp;generalize aW:out.length+2*k=q at *;have S7:=z bU;have ap5:=z aaR;clear bU aaR;have ap6:=z HK;have aJn:=z Pa;clear HK Pa;have aPV:=z im;have aPW:=z aaQ;clear im aaQ;have Ty:=z Pb;have ap7:=z pp;clear Pb pp;have aJo:=z o6;have JZ:=z aW;clear o6 aW Hp kq Nr kh m3;go_wp2_with fail;have te:Boxed (cT.setCell ⟨p5,out.length*5+4,none⟩ (H q)) dO 363 (E (some p5) q c6):=by unfold Boxed;rw[fI _ _ _ _ rT];exact ap7.o
  have xl:Keep (Kp base dO) w (cT.setCell ⟨p5,out.length*5+4,none⟩ (H q)):=aJe ((Ua Vx.o 1).trans S3.o) aJl _;have o7:=ap5.o (q:Int);have Pc:(Fm.set out (⟨false,0,lo,(out:Int)+1,(q:Int)⟩:Node)).length=q:=by rw[kD];exact ap6.o
  have ap8:nG (cT.setCell ⟨p5,out.length*5+4,none⟩ (H q)) base (E (some p5) q c6) (Fm.set out ⟨false,0,lo,(out:Int)+1,(q:Int)⟩):=aaJ o7 Pc.symm;have Pb:=Ty.o;have ap9:=JZ.o;generalize(cT.setCell ⟨p5,out.length*5+4,none⟩ (H q))=dy at *;generalize(Fm.set out (⟨false,0,lo,(out:Int)+1,(q:Int)⟩:Node))=L7 at *;have aaS:Boxed dy i4 418 (BA dO i4):=(xl.block i4 ⟨hH,bO⟩).trans ap1.o;have cQ:=ap0.o (l.drop k) (E (some ⟨b,o+k*3,none⟩) (l-k) (l.length-k)) _ L7 (dy.drewN 1) (by rw[aaN.o];omega) (by rw[aaN.o];omega) (by rw[Pc,aaN.o];omega) (by rw[heap_drewN];exact cB V xl.size) (by unfold Boxed;rw[heap_drewN];exact te) (by unfold Boxed;rw[heap_drewN];exact aaS) (Pz ap8 1) (λs ab=>sC.o s (List.mem_of_mem_drop ab)) (λW cJ=>(k0.o W ((Ua xl 1).trans cJ)).drop aE (λ_=>by simp only[kC,Addr.add];rw[au aE]) (by intro h;cases h) (aZ _));rw[Pc]at cQ;have aqa:dy.cell? i4=some (.func (.func 294) #[] #[aB (some dO),aB (some i4)]):=aaS.cell;have aPX:¬l.length=k:=aE;have aPY:¬k=0:=aE;have aPZ:¬k*3=0:=aE;have VN:q=out.length+1+(2*k-1):=aE;have aJp:=z xl;have aaT:=z cQ;have Ty:=z Pb;clear cQ Pb;have aP0:=z ap9;have aP1:=z Pc;have aJq:=z VN;clear ap9 Pc VN;clear te o7 ap8 xl aaS ap4 wn S1 aaP S7 ap5 Ty ap7 aJo ap6 aJn JZ
  (go_region_held3 (λF=>F.cell? i4=some (.func (.func 294) #[] #[aB (some dO),aB (some i4)])) (first|exact aqa|exact(Keep.cell aqb.o ⟨hH,bO⟩).trans aqa)
   (first|(go_at_call 294;refine ak aaT.o ?_;rintro hz ⟨u8,J8,o8,OC⟩;have aqb:=z OC;have VQ:=z J8;have aJr:=z o8;clear OC J8 o8)))
  go_wp2_with fail;refine cO (gq rfl _ _ _) rfl ⟨rfl,u8,VQ.o,?_,(Ua aJp.o 1).trans aqb.o⟩;have o8:=aJr.o;rw[aJq.o]at o8;simpa[Ty.o]using o8
theorem aJs(dO i4 base:Nat)(HA:dO<base)(hH:i4<base)(bO:i4≠dO):∀(m:Nat)(l:List Span)(v u:K)(out:List Node)(w:G),l.length<=m->0<l.length->l.length<=1000->out.length+2*l.length<=100000->base<=w.heap.size->Boxed w dO 363 u->Boxed w i4 418 (BA dO i4)->nG w base u out->(∀s∈l,Dz s)->(∀W,Keep (Kp base dO) w W->aS W 3 sO v l)->Calls prog 294 #[v,aB (some dO),aB (some i4)] w (Ub base dO (out++xE l out) w):=by
 intro m
 induction m with
 |zero=>intro l v u out w h1 h2;omega
 |succ m b9=>
  intro l v u out w h1 h2 T af aQ bt Fi ho cv bd;by_cases h:l.length=1
  ·exact aJf dO i4 base HA l v u out w h aE aQ bt ho (bd w (Keep.refl _ _))
  ·exact aJj dO i4 base HA hH bO l v u out w aE T af aQ bt Fi ho cv bd (λhO v u out w a1 a2 a3 a4 a5 jJ h5 Hx Nv=>b9 hO v u out w aE a2 aE a3 a4 a5 jJ h5 Hx Nv)
def aJt{α:Type}{enc:α->List K}{A:List α}(h:aS w n enc v A)(hk:∀k,k<w.heap.size->W.heap[k]?=w.heap[k]?):aS W n enc v A:=by obtain⟨a,c,h1,h2,T,af⟩:=h;refine⟨a,c,h1,h2,T,λi hi=> ?_⟩;obtain⟨b,o,e,b8⟩:=af i hi;refine⟨b,o,e,λj Z=> ?_⟩;have:=b8 j Z;rw[xD (w:=w) (hk b (gD _ _ this))];exact this
theorem Bz(v:K)(l:List Span)(X:l.length<=1000)(cv:∀s∈l,Dz s)(w:G)(hv:aS w 3 sO v l):Calls prog 244 #[v] w λe F=>∃u,e=aI (bH #[u,H (Dg l).2])/\Ext w F/\nG F w u (Dg l).1:=by
 have KP:=aHh v l aE cv w hv;cases bJ:whole l
 case false=>
  have bl:Dg l=([],240):=by unfold Dg;rw[bJ];rfl
  rw[bl];rw[bJ]at KP;have aaU:=z KP;have WR:=z bJ;have ee:=z bl;clear KP bJ bl;go_in;go_wp2_with(go_at_call 293;refine ak aaU.o ?_;intro I Q);go_ret2;exact⟨_,rfl,Q,jR _ _ _ _⟩
 case true=>
  have bl:Dg l=(xE l 0,0):=by unfold Dg;rw[bJ];rfl
  have ac:=xK bJ;rw[bl];rw[bJ]at KP;have aaU:=z KP;have WR:=z bJ;have ee:=z bl;clear KP bJ bl;go_in;go_wp2_with(go_at_call 293;refine ak aaU.o ?_;intro I Q);have b1:=Boxed.new I 363 (E none 0 0);have b2:=Boxed.new (I.alloc (J #[E none 0 0] 363)) 418 (BA I (I+1));rw[dR]at b2;replace b1:=b1.alloc (J #[BA I (I+1)] 418);have pM:Ext I ((I.alloc (J #[E none 0 0] 363)).alloc (J #[BA I (I+1)] 418)):=((O I).alloc _).alloc _;have vh:((I.alloc (J #[E none 0 0] 363)).alloc (J #[BA I (I+1)] 418)).heap.size=I.heap.size+2:=ay;unfold BA at b1 b2 pM vh;generalize((I.alloc (J #[E none 0 0] 363)).alloc _)=bX at *;have OF:=hv.ext Q;refine(aJs I (I+1) (I.heap.size+2) aE aE aE l l v (E none 0 0) [] bX (aZ _) ac X dU aE b1 b2 (jR _ _ _ _) cv
   (λW cJ=>aJt OF (λk hk=>(cJ.block k ⟨aE,aE⟩).trans (pM.block hk)))).mono ?_
  rintro e aO ⟨rfl,u,rr,a6,hk⟩;have bp:=rr.cell;have ca:=z (Q.trans (Below.trans pM (hk.below (λk hk=>⟨aE,aE⟩))));have pd:=z (a6.base (CN:=w.heap.size) (by have:=Q.size;omega));clear hk a6 rr pM b1 b2 vh;go_wp2_with fail;go_ret2;exact⟨_,rfl,ca.o,by simpa using pd.o⟩
end vZ
end Go.Proofs.YtopfefhenfineaaGreat
namespace Go.Proofs.YtopfefhenfineaaGreat
open Go.Proofs.Tryz Go.RowKit Go.Shelf bh
attribute[local go_sem] Oper.semAt_some Option.isSome_some run_convert_int_string
namespace bM
def valid_eq(r:Int):Lib.validRune r=Utf8.valid r:=by unfold Lib.validRune Utf8.valid;rw[dW];simp only[iM,qM,dV];omega
def BD(l:List aL):Prop:= ∀b∈l,b.toNat<128
def aJu{l:List aL}(h:BD l){c:aL}(ao:128<=c.toNat):Lib.indexByte l c= -1:=by rw[KC,au];intro be;rw[List.contains_iff_mem]at be;have:=h c be;omega
def aJv{s:bn}(h:BD (bytes s))(a b:Nat):BD (bytes (s.extract a b)):=by intro x D;rw[za]at D;exact h x (List.mem_of_mem_drop (zT D))
def aqc{s:bn}(h:BD (bytes s))(i:Nat)(hi:i<s.size):(s[i]'hi).toNat<128:=by rw[UN];exact h _ (eB _)
theorem aqd(s:bn)(aP2:s.size<=1000000)(bT:BD (bytes s))(r:Int)(ae:128<=r)(h1:r<=2147483647)(w:G):aM 265 #[N s,.int .i32 r] w (H (-1)):=by
 have hs:(0:Int)<=r:=aE;have dc:¬r<128:=aE;have p6:=λW=>Tryz.utf8_ValidRune r W
 rw[valid_eq]at p6;by_cases cA:r=65533
 ·subst cA;clear p6;have Eg:=z bT;clear bT;unfold aM;go_in;go_wp2_with fail;go_loopg [5,6] s.size (λg _ _ wx=>∃i:Nat,i+g=s.size/\wx=w.iter s i)
  case atStart=>exact⟨0,aE,rfl⟩
  case round=>
   obtain⟨i,KQ,rfl⟩:=hrel;cases gk with
   |zero=>obtain rfl:i=s.size:=aE;have dT:=run_next_end (P:=prog) w s s.size;go_wp2_with fail;exact FI
   |succ g=>
    have hi:i<s.size:=aE;have aJw:=aqc Eg.o i hi;have dT:=λeJ=>run_next_ascii (P:=prog) w s i eJ hi aJw
    generalize s[i]'hi=x at *;have bO:((x.toNat:Int)==65533)=false:=by rw[iH];omega
    go_wp2_with fail;go_roundg g
    case measure=>omega
    case rel=>exact⟨i+1,aE,rfl⟩
 ·have aP3:(r==65533)=false:=by rw[iH];exact cA
  cases hv:Utf8.valid r
  ·rw[hv]at p6;have HL:=z p6;clear p6 bT;unfold aM;go_in;go_wp2_with fail;refine ak (HL.o _) ?_;rintro I rfl;exact FN
  ·rw[hv]at p6;obtain⟨f3,e0,q'⟩:=encode_facts r hv ae;generalize aP4:Utf8.encode r=t at *;obtain⟨k,hk⟩:∃k,t.size=k+1:=⟨t.size-1,aE⟩;have LC:t.size-1=k:=aE;have EE:(t:Int)-1=k:=aE;have HG:IntKind.i64.wrap ((t:Int)-1)=(k:Int):=by rw[EE];exact IntWalk.i64_in _ aE
   have r3:k<t.size:=aE;have bN:128<=(t[k]'r3).toNat:=by have:=q' aE;simpa only[LC]using this
   clear q' EE;by_cases hi:k<s.size
   ·have D:=aqc bT k hi;have hB:=λW=>Tryz.strings_IndexByte (s.extract (k+1) s.size) ((t[k]'r3).toNat:Int) W
    rw[show(((t[k]'r3).toNat:Int)).toNat.toUInt8=t[k]'r3 from ay,aJu (aJv bT _ _) bN]at hB;have bO:(((s[k]'hi).toNat:Int)==((t[k]'r3).toNat:Int))=false:=by rw[iH];omega
    have p1:IntKind.i64.wrap ((k:Int)+1)=(k:Int)+1:=IntWalk.i64_in _ aE;have rl:(0:Int)<=k+1:=aE;have Fs:((k:Int)+1).toNat=k+1:=aE;have qT:(k:Int)+1<=s:=aE;have hI:(k:Int)<s:=aE;have h0:(k:Int)<t:=aE;have uv:=z hB;have HL:=z p6;clear hB p6;have Eg:=z bT;have Gz:=z hk;clear bT hk LC f3 e0 dc;unfold aM;go_in;go_wp2_with fail;refine ak (HL.o _) ?_;rintro I rfl;go_wp2_with fail;go_step3;go_wp2_with fail;go_loopw [9,10,11,12] (λJD aaV aJx aJy wr=>JD=H k/\aaV=H 0/\I=wr) (λ_ _ _ _ _=>0)
    case atStart=>exact⟨rfl,rfl,rfl⟩
    case round=>obtain⟨rfl,rfl,rfl⟩:=hrel;go_wp2_with fail;go_step3;go_wp2_with(go_quiet (fail));have aT:=z ((O I).drewN nq);generalize I.drewN nq=W at aT⊢;go_wp2_with(go_quiet ((go_at_call 329;exact Calls.quiet_of_same (uv.o _))));rw[Exit.noGoto_ret];go_wp2_with fail;rw[Exit.noGoto_ret];go_wp2_with fail;go_ret;exact⟨rfl,aT.o.drewN _⟩
   ·have hI:¬((k:Int)<s):=aE;have HL:=z p6;have Eg:=z bT;have Gz:=z hk;clear p6 bT hk LC f3 e0 dc;unfold aM;go_in;go_wp2_with fail;refine ak (HL.o _) ?_;rintro I rfl;go_wp2_with fail;go_step3;go_wp2_with fail;go_loopw [9,10,11,12] (λJD aaV aJx aJy wr=>JD=H k/\aaV=H 0/\I=wr) (λ_ _ _ _ _=>0)
    case atStart=>exact⟨rfl,rfl,rfl⟩
    case round=>obtain⟨rfl,rfl,rfl⟩:=hrel;go_wp2_with fail;rw[Exit.noGoto_ret];exact FN
end bM
end Go.Proofs.YtopfefhenfineaaGreat
namespace Go.Proofs.YtopfefhenfineaaGreat
open Go.Proofs.Tryz Go.RowKit Go.Shelf bh
attribute[local go_sem] Oper.semAt_some Option.isSome_some
variable{S:Prop}
def Uc(h:S:=by exact key 1 aE (λbe=>aE) (λbe=>aE) (λbe=>aE) aE):S:=h
namespace bM
def Ud(s:bn)(j:Nat)(h:j<s.size):s.get! j=s[j]'h:=by have:=get_at s j h;exact wK
def aJz(s:bn)(pos:Nat)(h:pos<s.size)(bT:128<=(s[pos]'h).toNat):pos+(Utf8.decode s pos).2<=s.size/\∀(j:Nat)(Z:j<s.size),pos<=j->j<pos+(Utf8.decode s pos).2->128<=(s[j]'Z).toNat:=by
 rw[Lib.decode_at];have cG:=Ud s pos h;have dc:=λbe:pos+1<s.size=>Ud s (pos+1) be
 have dv:=λbe:pos+2<s.size=>Ud s (pos+2) be
 have g':=λbe:pos+3<s.size=>Ud s (pos+3) be
 rw[cG];have key:∀d:Nat,1<=d->(1<d->pos+1<s.size/\128<=(s.get! (pos+1)).toNat)->(2<d->pos+2<s.size/\128<=(s.get! (pos+2)).toNat)->(3<d->pos+3<s.size/\128<=(s.get! (pos+3)).toNat)->d<=4->
  pos+d<=s.size/\∀(j:Nat) (Z:j<s.size),pos<=j->j<pos+d->128<=(s[j]'Z).toNat:=by
  intro d ae h1 h2 T af;refine⟨?_,?_⟩
  ·by_cases c3:3<d
   ·have:=(T c3).1;omega
   ·by_cases c2:2<d
    ·have:=(h2 c2).1;omega
    ·by_cases c1:1<d
     ·have:=(h1 c1).1;omega
     ·omega
  ·intro j Z ac hd;by_cases aJA:j=pos
   ·subst aJA;exact bT
   by_cases lB:j=pos+1
   ·subst lB;rw[<-dc Z];exact(h1 aE).2
   by_cases md:j=pos+2
   ·subst md;rw[<-dv Z];exact(h2 aE).2
   have Cn:j=pos+3:=aE;subst Cn;rw[<-g' Z];exact(T aE).2
 generalize(s.get! (pos+1)).toNat=b1 at *;generalize(s.get! (pos+2)).toNat=b2 at *;generalize(s.get! (pos+3)).toNat=cV at *;generalize(s[pos]'h).toNat=b0 at *;unfold Lib.decodeN;rw[au aE];split
 ·split
  ·exact key 2 aE (λ_=>aE) (λbe=>aE) (λbe=>aE) aE
  ·exact Uc
 split
 ·split
  ·exact key 3 aE (λ_=>aE) (λbe=>aE) (λbe=>aE) aE
  ·exact Uc
 split
 ·split
  ·exact key 4 aE (λ_=>aE) (λbe=>aE) (λbe=>aE) aE
  ·exact Uc
 exact Uc
def aqe{a W:G}(h:Ext a W){k:Nat}(hk:a.heap.size<=k)(s:bn)(pos:Nat):Ext a (W.iterAt k s pos):=
 h.grown (grownBy_putObj' W k (.stringIter s pos)) (λr e=>by cases e;exact hk)
def NoAny.skip{s:bn}{chars:List aL}{i d:Nat}(h:Lib.NoAny s.data.toList chars i)(ao:BD chars)(hd:∀(j:Nat)(Z:j<s.size),i<=j->j<i+d->128<=(s[j]'Z).toNat):Lib.NoAny s.data.toList chars (i+d):=by
 intro j b Z V;by_cases lr:j<i
 ·exact h j b lr V
 have ad:j<s.size:=by obtain⟨be,_⟩:=List.getElem?_eq_some_iff.1 V;exact be
 have aJB:b=s[j]'ad:=by have:=Lib.data_getElem? s j ad;rw[V]at this;exact gL this
 have h1:=hd j ad aE Z;rw[<-aJB]at h1;rw[Bool.eq_false_iff];intro R;rw[List.contains_iff_mem]at R;have:=ao b R;omega
theorem aJC(s chars:bn)(h2:2<=chars.size)(kf:chars.size<=1000000)(bT:BD (bytes chars))(eA:s.size<=8)(w:G):aM 264 #[N s,N chars] w (H (Lib.indexAny (bytes s) (bytes chars))):=by
 have aP5:chars.toList.isEmpty=false:=by
  rw[Lib.toList_data];cases h:chars.data.toList with
  |nil=>have:=Lib.size_eq chars;rw[h,fu]at this;omega
  |cons _ _=>rfl
 have ft:((chars:Int)==1)=false:=iH.2 aE;have aqf:decide ((8:Int)<s)=false:=dM aE;have hS:=λW=>Tryz.strings_shouldUseASCIISet (s:Int) W
 rw[aqf]at hS;have z7:=z hS;have Eg:=z bT;clear hS bT aqf;unfold aM;go_in;go_wp2_with fail;refine ak (z7.o _) ?_;rintro I rfl;go_wp2_with fail;go_loopg [9,10] s.size (λg _ _ wr=>∃wx:G,wx=wr/\∃i:Nat,s.size=i+g/\Ext I wx/\wx.heap[I.heap.size]?=some (.stringIter s i)/\Lib.NoAny s.data.toList chars.data.toList i)
 case atStart=>exact⟨_,rfl,0,aE,(O I).alloc _,World.iter_heap I s 0,Lib.NoAny.zero _ _⟩
 case round=>
  obtain⟨wx,rfl,i,KQ,D,hk,hp⟩:=hrel;have TC:=z hp;have q5:=z D;clear hp D;have aaW:i<s.size->s.size-i=gk:=aE;have aaX:¬i<s.size->i=s.size:=aE;clear KQ;by_cases hi:i<s.size
  ·have DM:=z (aaW hi);clear aaW aaX;by_cases V:(s[i]'hi).toNat<128
   ·have dT:=λeJ=>Lib.run_next_ascii_at (P:=prog) wx I s i eJ hk hi V
    have qT:=Lib.iterAt_heap wx I s i (i+1) hk;have ag:=aqe q5.o (aZ _) s (i+1);generalize wx.iterAt I s (i+1)=a8 at dT qT ag;have xn:=Lib.data_getElem? s i hi;generalize s[i]'hi=x at *;have bS:=λW=>Tryz.strings_IndexRune_ascii chars (x.toNat:Int) W aE aE
    have aJD:((x.toNat:Int)).toNat.toUInt8=x:=ay;rw[aJD]at bS;have KR:=Lib.contains_iff_indexByte chars.data.toList x;generalize Lib.indexByte chars.data.toList x=q at *;have it:=z bS;have TE:=z qT;clear bS qT;have uu:=z ag;have aqg:=z xn;clear ag xn;cases ih:chars.data.toList.contains x
    ·rw[ih]at KR;have ad:¬((0:Int)<=q):=of_decide_eq_false KR.symm;clear KR;go_wp2_with fail;refine ak (it.o _) ?_;rintro bj rfl;go_wp2_with fail;go_roundg (s.size-(i+1))
     case measure=>have:=DM.o;omega
     case rel=>exact⟨_,rfl,i+1,aE,uu.o,TE.o,TC.o.succ aqg.o ih⟩
    ·rw[ih]at KR;have ED:(0:Int)<=q:=of_decide_eq_true KR.symm;clear KR;go_wp2_with fail;refine ak (it.o _) ?_;rintro bj rfl;go_wp2_with fail;go_ret;exact⟨by rw[show Lib.indexAny (bytes s) (bytes chars)=(i:Int)from Lib.indexAny_hit TC.o aqg.o ih];rfl,uu.o⟩
   ·have ck:128<=(s[i]'hi).toNat:=aE;have dT:=λeJ=>Lib.run_next_any_at (P:=prog) wx I s i eJ hk hi
    obtain⟨cs,eg⟩:=decode_high s i hi ck;have h6:=decode_le s i;obtain⟨v7,ra⟩:=aJz s i hi ck;have aqh:=NoAny.skip TC.o Eg.o ra;clear ra;generalize(Utf8.decode s i).1=r at *;generalize(Utf8.decode s i).2=dd at *;have qT:=Lib.iterAt_heap wx I s i (i+dd) hk;have ag:=aqe q5.o (aZ _) s (i+dd);generalize wx.iterAt I s (i+dd)=a8 at dT qT ag;have bS:=λW=>aqd chars kf Eg.o (r:Int) aE aE W
    have arr:=z aqh;have it:=z bS;clear aqh bS;have TE:=z qT;have uu:=z ag;clear qT ag;go_wp2_with fail;refine ak (it.o _) ?_;intro bj a';have cL:=z a';clear a';go_wp2_with fail;go_roundg (s.size-(i+dd))
    case measure=>have:=DM.o;omega
    case rel=>exact⟨_,rfl,i+dd,aE,uu.o.trans cL.o,(cL.o.block (dG.1 TE.o).1).trans TE.o,arr.o⟩
  ·have GB:i=s.size:=aaX hi;have dT:=λeJ=>Lib.run_next_end_at (P:=prog) wx I s i eJ hk hi
   have Gz:=z hk;have aJE:=z GB;clear hk GB aaW aaX;go_wp2_with fail;go_ret;exact⟨by rw[show Lib.indexAny (bytes s) (bytes chars)= -1 from Lib.indexAny_none (by rw[<-Lib.size_eq,<-aJE.o];exact TC.o)];rfl,q5.o⟩
theorem aqi(s chars:bn)(h2:2<=chars.size)(kf:chars.size<=1000000)(bT:BD (bytes chars))(ab:s.size<=4000000000)(w:G):aM 211 #[N s,N chars] w (av (Lib.containsAny (bytes s) (bytes chars))):=by
 have bS:∀W,aM 264 #[N s,N chars] W (H (Lib.indexAny (bytes s) (bytes chars))):=by
  intro W;by_cases eA:s.size<=8
  ·exact aJC s chars h2 kf bT eA W
  ·refine(Tryz.strings_IndexAny_long ((by exact(zero_of_info (P:=prog) (v:=bg (Array.replicate 256 (av false))) (n:=256) aj).1)) s chars W h2 aE aE aE (λj b V=>bT b (List.mem_of_getElem? V))).mono ?_
   ·rintro e F ⟨rfl,rfl⟩;exact⟨rfl,((O _).alloc _).alloc _⟩
 unfold Lib.containsAny;generalize Lib.indexAny (bytes s) (bytes chars)=q at *;by_cases aW:(0:Int)<=q
 all_goals
  have it:=z bS;unfold aM;go_in;go_wp2_with fail;refine ak (it.o _) ?_;intro I D;go_wp2_with fail;go_ret;exact⟨by simp[aW],D⟩
end bM
def aqj(h:S:=by go_wp2_with fail;refine ak (tM.o _) ?_;rintro bj rfl;go_wp2_with fail;go_ret3;exact⟨by rw[HM.o];rfl,q5.o⟩):S:=h
namespace bM
def aJF:BD (bytes ⟨#[91,93]⟩):=by intro b V;simp[bytes]at V;rcases V with rfl|rfl<;>decide
def aaY:BD (bytes ⟨#[32,9,13]⟩):=by intro b V;simp[bytes]at V;rcases V with rfl|rfl|rfl<;>decide
theorem aJG(c:aL)(w:G):aM 212 #[N ⟨#[32,9,13]⟩,.int .i32 c.toNat] w (av (uJ c)):=by
 have hB:uJ c=(bytes ⟨#[32,9,13]⟩).contains c:=by unfold uJ zY;rw[dW];simp[bytes,<-UInt8.toNat_inj,or_assoc]
 have ad:=c.toNat_lt;by_cases h:c.toNat<128
 ·refine(Tryz.strings_ContainsRune_ascii ⟨#[32,9,13]⟩ (c.toNat:Int) w aE aE).mono ?_;rintro e F ⟨rfl,rfl⟩;rw[show((c.toNat:Int)).toNat.toUInt8=c from ay,<-Lib.contains_iff_indexByte,hB];exact K8
 ·have bS:=λW=>aqd ⟨#[32,9,13]⟩ Y aaY (c.toNat:Int) aE aE W
  have co:uJ c=false:=by rw[hB,Bool.eq_false_iff];intro R;rw[List.contains_iff_mem]at R;have:=aaY c R;omega
  rw[co];have it:=z bS;unfold aM;go_in;go_wp2_with fail;refine ak (it.o _) ?_;intro I D;go_wp2_with fail;go_ret;exact⟨rfl,D⟩
def Pd(l:List aL):List aL×Bool:=
 if Lib.hasPrefix l [91]=false then([],false)
 else if Lib.hasSuffix (Lib.trimPrefix l [91]) [93]=false then([],false)
 else if Lib.trimSuffix (Lib.trimPrefix l [91]) [93]=[]then([],false)
 else if Lib.containsAny (Lib.trimSuffix (Lib.trimPrefix l [91]) [93]) [91,93]=true then([],false)
 else(Lib.trimSuffix (Lib.trimPrefix l [91]) [93],true)
def aJH(l p:List aL):(Lib.trimPrefix l p).length<=l.length:=PE
def aqk(r:List aL×Bool):K:=bH #[N (str r.1),av r.2]
theorem aJI(s:bn)(ab:s.size<=2000000000)(w:G):aM 169 #[N s] w (aqk (Pd (bytes s))):=by
 have e1:=λW=>Tryz.strings_CutPrefix s ⟨#[91]⟩ W
 have tB:=aJH (bytes s) [91];rw[jS]at tB;obtain⟨p,ac⟩:∃p,p=Lib.trimPrefix (bytes s) [91]:=⟨_,rfl⟩;have hS:=λW=>Tryz.strings_CutSuffix (str p) ⟨#[93]⟩ W (by rw[vH,ac];omega)
 obtain⟨q,aW⟩:∃q,q=Lib.trimSuffix p [93]:=⟨_,rfl⟩;have o':=Ti p [93];have bl:=λW=>aqi (str q) ⟨#[91,93]⟩ Y Y aJF (by rw[vH,aW];rw[ac]at o'⊢;omega) W
 have da:Pd (bytes s)=if Lib.hasPrefix (bytes s) [91]=false then([],false)else if Lib.hasSuffix p [93]=false then([],false)else if q=[]then([],false)else if Lib.containsAny q [91,93]=true then([],false)else(q,true):=by rw[aW,ac];rfl
 rw[show s.data.toList=bytes s from rfl,show(⟨#[91]⟩:bn).data.toList=[91]from rfl,<-ac]at e1;rw[show(str p).data.toList=p from ay,show(⟨#[93]⟩:bn).data.toList=[93]from rfl,<-aW]at hS;rw[show bytes (str q)=q from by simp[bytes],show bytes (⟨#[91,93]⟩:bn)=[91,93]from rfl]at bl;rw[da];generalize Lib.hasPrefix (bytes s) [91]=b1 at *;generalize Lib.hasSuffix p [93]=b2 at *;generalize Lib.containsAny q [91,93]=cV at *;clear tB o' da;have tM:=z e1;have z7:=z hS;clear e1 hS;have ee:=z bl;have wa:=z ac;have JZ:=z aW;clear bl ac aW;by_cases s8:q=[]
 ·subst s8;cases b1<;>cases b2
  all_goals
   unfold aM;go_in;go_wp2_with fail;refine ak (tM.o _) ?_;rintro I rfl;go_wp2_with fail;refine ak (z7.o _) ?_;rintro I rfl;go_wp2_with fail;go_ret2;exact⟨rfl,O _⟩
 ·have hn:(!q.isEmpty)=true:=by
   cases q with
   |nil=>exact absurd rfl s8
   |cons x r=>rfl
  have kj:q.isEmpty=false:=by
   cases q with
   |nil=>exact absurd rfl s8
   |cons x r=>rfl
  cases b1<;>cases b2
  case true.true=>
   rw[au ay,au ay,au s8];cases cV
   all_goals
    unfold aM;go_in;go_wp2_with fail;refine ak (tM.o _) ?_;rintro I rfl;go_wp2_with fail;refine ak (z7.o _) ?_;rintro I rfl;go_wp2_with fail;refine ak (ee.o _) ?_;intro aO D;go_wp2_with fail;go_ret2;exact⟨rfl,D⟩
  all_goals
   unfold aM;go_in;go_wp2_with fail;refine ak (tM.o _) ?_;rintro I rfl;go_wp2_with fail;refine ak (z7.o _) ?_;rintro I rfl;go_wp2_with fail;go_ret2;exact⟨rfl,O _⟩
def Ue(l:List aL):List aL:=(l.reverse.dropWhile uJ).reverse
def Fj(l:List aL):List aL×List aL×Bool:=
 if l.contains 61=false then([],[],false)
 else if Lib.hasPrefix l [91]=true then([],[],false)
 else if Ue (hd1 61 l)=[]then([],[],false)
 else if Lib.containsAny (Ue (hd1 61 l)) [32,9,13]=true then([],[],false)
 else(Ue (hd1 61 l),xM (tl1 61 l),true)
def Uf(r:List aL×List aL×Bool):K:=bH #[N (str r.1),N (str r.2.1),av r.2.2]
theorem aJJ(s:bn)(ab:s.size<=2000000000)(w:G):aM 170 #[N s] w (Uf (Fj (bytes s))):=by
 have cq:=λW=>TP s 61 y9 W
 have e1:=λW=>Tryz.strings_HasPrefix s ⟨#[91]⟩ W
 rw[show s.data.toList=bytes s from rfl,show(⟨#[91]⟩:bn).data.toList=[91]from rfl]at e1;obtain⟨eK,rl⟩:∃eK,eK=hd1 61 (bytes s):=⟨_,rfl⟩;obtain⟨mj,oE⟩:∃mj,mj=tl1 61 (bytes s):=⟨_,rfl⟩;obtain⟨k,hk⟩:∃k,k=Ue eK:=⟨_,rfl⟩;have xc:eK.length<=2000000000:=by rw[rl];have:=Tk 61 (bytes s);rw[jS]at this;omega
 have aP6:mj.length<=2000000000:=by rw[oE,Bo,jS];omega
 have bE:=λW=>UO (str mj) aax W
 rw[show bytes (str mj)=mj from by simp[bytes]]at bE;have da:Fj (bytes s)=if (bytes s).contains 61=false then([],[],false)else if Lib.hasPrefix (bytes s) [91]=true then([],[],false)else if k=[]then([],[],false)
  else if Lib.containsAny k [32,9,13]=true then([],[],false)else(k,xM mj,true):=by
  rw[hk,oE,rl];rfl
 rw[da];unfold iw at cq;rw[<-rl,<-oE]at cq;have bd:=λ(c:aL) W=>aJG c W
 have bl:∀(t:bn),t.size<=2000000000->∀W,Calls prog 211 #[N t,N ⟨#[32,9,13]⟩] W λe F=>e=aI (av (Lib.containsAny (bytes t) [32,9,13]))/\Ext W F:=λt an W=>aqi t ⟨#[32,9,13]⟩ Y Y aaY aE W
 generalize cH:(bytes s).contains 61=b1 at *;generalize ck:Lib.hasPrefix (bytes s) [91]=b2 at *;obtain⟨aH,s9⟩:∃aH,aH=eK.reverse.dropWhile uJ:=⟨_,rfl⟩;have aql:k=aH.reverse:=by rw[hk,s9];rfl
 clear da cH ck rl oE hk;obtain⟨res,mN⟩:∃res,res=Uf (if b1=false then([],[],false)else if b2=true then([],[],false)else if k=[]then([],[],false)else if Lib.containsAny k [32,9,13]=true then([],[],false)else(k,xM mj,true)):=⟨_,rfl⟩;rw[<-mN];have TO:=z mN;have tM:=z e1;clear mN e1;have hb:=z cq;have hl:=z bE;clear cq bE;have k0:=z bd;have ee:=z bl;clear bd bl;have aqm:=z aql;have aJK:=z s9;clear aql s9;unfold aM;go_in;go_wp2_with fail;refine ak (hb.o _) ?_;intro I Q;have aJL:=z Q;clear Q;go_wp2_with fail;go_loopw [2] (λu wr=>∃W:G,W=wr/\∃t:bn,u=N t/\t.size<=eK.length/\(bytes t).reverse.dropWhile uJ=aH/\Ext w W) (λu _=>PG u)
 case atStart=>exact⟨_,rfl,str eK,rfl,aZ _,by rw[aJK.o,show bytes (str eK)=eK from by simp[bytes]],aJL.o⟩
 case round=>
  obtain⟨W,rfl,t,rfl,wg,f7,D⟩:=hrel;have q5:=z D;clear D;by_cases ac:0<t.size
  ·have ad:t.size-1<t.size:=aE;have ao:=k0.o (t[t.size-1]'ad);have ci:=ext_size t 0 (t.size-1) aE;have g0:=aci t ac;have aP7:wrap32 ((t[t.size-1]'ad).toNat:Int)=((t[t.size-1]'ad).toNat:Int):=by have:=(t[t.size-1]'ad).toNat_lt;unfold wrap32;first|omega|(split<;>omega)
   have i7:(bytes t).reverse=t[t.size-1]'ad::(bytes (t.extract 0 (t.size-1))).reverse:=by rw[g0,List.reverse_append];rfl
   rw[i7]at f7;have bO:t.toList.isEmpty=false:=by
    rw[Lib.toList_data];cases h:t.data.toList with
    |nil=>have:=Lib.size_eq t;rw[h,fu]at this;omega
    |cons _ _=>rfl
   cases V:uJ (t[t.size-1]'ad)
   all_goals
    rw[V]at ao
   ·rw[List.dropWhile_cons_of_neg (by rw[V];simp),<-i7]at f7;have r3:k=bytes t:=by rw[aqm.o,<-f7,List.reverse_reverse]
    have rl:k≠[]:=λe=>by rw[e]at r3;have:=jS t;rw[<-r3]at this;simp at this;omega
    have aaZ:=ee.o t aE;rw[<-r3]at aaZ;have li:=TO.o;rw[au rl]at li;have fi:Value.string t=Value.string (str k):=by rw[r3,Dt]
    generalize Lib.containsAny k [32,9,13]=cV at *;have yf:=z fi;have aP8:=z r3;clear fi r3;have HM:=z li;have aqn:=z aaZ;clear li aaZ;have Pr:=z V;have mu:=z ao;clear V ao;have HS:=z f7;have z0:=z ci;clear f7 ci;have K':=z g0;have T8:=z i7;clear g0 i7 rl;cases b1<;>cases b2
    case true.false=>
     cases cV
     ·go_wp2_with fail;refine ak (mu.o _) ?_;intro aO ag;have uu:=z ag;clear ag;go_wp2_with fail;refine ak (tM.o _) ?_;rintro bj rfl;go_wp2_with fail;refine ak (aqn.o _) ?_;intro dC cN;have aa0:=z cN;clear cN;go_wp2_with fail;refine ak (hl.o _) ?_;rintro bQ rfl;go_wp2_with fail;go_ret3;exact⟨by rw[HM.o,au ay,au ay,au ay];show Ending.returned (bH #[N t,_,_])=_;rw[yf.o];rfl,q5.o.trans (uu.o.trans aa0.o)⟩
     ·go_wp2_with fail;refine ak (mu.o _) ?_;intro aO ag;have uu:=z ag;clear ag;go_wp2_with fail;refine ak (tM.o _) ?_;rintro bj rfl;go_wp2_with fail;refine ak (aqn.o _) ?_;intro dC cN;have aa0:=z cN;clear cN;go_wp2_with fail;go_ret3;exact⟨by rw[HM.o];rfl,q5.o.trans (uu.o.trans aa0.o)⟩
    case true.true=>go_wp2_with fail;refine ak (mu.o _) ?_;intro aO ag;have uu:=z ag;clear ag;go_wp2_with fail;refine ak (tM.o _) ?_;rintro bj rfl;go_wp2_with fail;go_ret3;exact⟨by rw[HM.o];rfl,q5.o.trans uu.o⟩
    all_goals
     go_wp2_with fail;refine ak (mu.o _) ?_;intro aO ag;have uu:=z ag;clear ag;go_wp2_with fail;go_ret3;exact⟨by rw[HM.o];rfl,q5.o.trans uu.o⟩
   ·rw[Dk V]at f7;have Pr:=z V;have mu:=z ao;clear V ao;have HS:=z f7;have z0:=z ci;clear f7 ci;have K':=z g0;have T8:=z i7;clear g0 i7;go_wp2_with fail;refine ak (mu.o _) ?_;intro aO ag;have uu:=z ag;clear ag;go_wp2_with fail;go_roundw
    case rel=>exact⟨_,rfl,_,rfl,by rw[z0.o];omega,HS.o,q5.o.trans uu.o⟩
    case measure=>show(t.extract 0 (t.size-1)).size<t.size;rw[z0.o];omega
  ·have bL:bytes t=[]:=nN zX;have r3:k=[]:=by rw[aqm.o,<-f7,bL];rfl
   have an:t=⟨#[]⟩:=bytes_inj bL;subst an;have li:res=Uf ([],[],false):=by rw[TO.o,r3];cases b1<;>cases b2<;>rfl
   have HM:=z li;clear li bL r3 f7 wg ac;cases b1<;>cases b2
   case true.false=>exact aqj
   case true.true=>exact aqj
   all_goals
    go_wp2_with fail;go_ret3;exact⟨by rw[HM.o];rfl,q5.o⟩
abbrev As:=Nat×List aL×List aL×List aL
abbrev Fv:=Nat×Nat×List aL
def DR(fn:bn)(x:As):List K:= [N fn,H x.1,N (str x.2.1),N (str x.2.2.1),N (str x.2.2.2)]
def Ai(fn:bn)(x:Fv):List K:= [N fn,H x.1,H x.2.1,N (str x.2.2)]
def aqo(fn:bn)(x:As):(DR fn x).length=5:=rfl
def aqp(fn:bn)(x:Fv):(Ai fn x).length=4:=rfl
def aJM(fn:bn)(s:As):∀u∈DR fn s,u.oneCell'=true:=by intro u a6;simp[DR]at a6;rcases a6 with rfl|rfl|rfl|rfl|rfl<;>rfl
def aJN(fn:bn)(s:Fv):∀u∈Ai fn s,u.oneCell'=true:=by intro u a6;simp[Ai]at a6;rcases a6 with rfl|rfl|rfl|rfl<;>rfl
theorem aee:(Tryz.prog.info? 148).map (λi=>(i.zero,i.size,i.bytes))=some (some (bg #[N ⟨#[]⟩,H 0,N ⟨#[]⟩,N ⟨#[]⟩,N ⟨#[]⟩]),5,72):=aj
theorem aef:(Tryz.prog.info? 45).map (λi=>(i.zero,i.size,i.bytes))=some (some (bg #[N ⟨#[]⟩,H 0,H 0,N ⟨#[]⟩]),4,48):=aj
def own_ne{W:G}{b1 b2 aK aV n1 n2 bk bW:Nat}{ej eR:K}{ed eq:List K}(h1:W.ownsRow b1 aK n1 ej bk ed)(h2:W.ownsRow b2 aV n2 eR bW eq)(hn:aK≠aV):∀j,ej.ownBlock=some j->eR.ownBlock≠some j:=by
 intro j Z xa;rcases h1.2 with⟨rfl,_⟩|⟨g,cap,bm,rfl,_,be,_⟩
 ·simp[Value.ownBlock]at Z
 rcases h2.2 with⟨rfl,_⟩|⟨dv,aP9,awA,rfl,_,aa2,_⟩
 ·simp[Value.ownBlock]at xa
 simp only[Value.ownBlock,jB]at Z xa;subst Z xa;rw[be]at aa2;simp at aa2;exact hn aa2.2
theorem aqr{W:G}{cy aY B:Nat}{fn:bn}{ej:K}{ns:List Fv}(n e:Nat)(t:List aL)(V:Boxed W cy 38 ej)(ai:W.cell? aY=some (N fn))(ho:W.ownsRow B 45 4 ej ns (ns.flatMap (Ai fn)))(eV:cy<B)(hB:B<=W.heap.size)(X:ns.length<=1000000):Calls prog 115 #[H n,H e,N (str t),aB (some cy),aB (some aY)] W λx F=>x=aI (bH #[])/\∃ty,Keep (λk=>k<W.heap.size/\k≠cy/\ej.ownBlock≠some k) W F/\Boxed F cy 38 ty/\F.ownsRow B 45 4 ty (ns++[(n,e,t)]).length ((ns++[(n,e,t)]).flatMap (Ai fn)):=by
 obtain⟨bv,bp,rfl⟩:=dP ho;have c1:=V.cell;have dg:=V.frozen;have hZ:=ho.lt;have m5:=V.lt;obtain⟨o,d4⟩:∃o,o=Obj.cells #[N fn,H n,H e,N (str t)] 45:=⟨_,rfl⟩;have z2:=z (pG ho o);have ce:=z V;have CM:=z hZ;have aQa:=z ho;go_in
 go_wp2_with(at_builtin
             refine vG rfl (.tmp 8) (.tmp 15) _ rfl underlying38 aef rfl Y (aqp fn) (aJN fn) B _ _ ns [(n,e,t)] rfl rfl (by rw[d4]at z2;exact z2.o) (jh (aqp fn) W [(n,e,t)] _ _ rfl) dU Y dU ?_;intro ri rj bQ d0 hA;have j3:∀k,k<B->(some k:Option Nat)≠Value.ownBlock (E bv ns bp):=λk hk e=>by have:=(CM.o k e.symm).1;omega
             have e8:Boxed bQ cy 38 _:=(hA.block cy dU (j3 cy eV)).trans (ce.o.alloc _);have c5:=e8.cell;have v6:=e8.frozen;have aQb:=e8.lt;have qr:=z e8;have rk:=z d0;have ta:=z hA;clear d0 hA e8 j3)
 go_end0;have ci:=ta.o.size;rw[dR]at ci;refine⟨rfl,_,⟨ta.o.os,ta.o.tape,ta.o.output,by rw[zU];omega,λk hk=>(fI _ _ _ k hk.2.1).trans ((ta.o.block k Ir (λe=>hk.2.2 e.symm)).trans (((O W).alloc _).block hk.1))⟩,qr.o.set _,?_⟩;rw[dA];exact ownsRow_setCell_below rk.o eV _
structure yI where
 sec:List aL
 inn:Bool
 al:List As
 nl:List Fv
def C3(cy aY:Nat):K:= .func (.func 115) #[] #[aB (some cy),aB (some aY)]
structure mJ(w0:G)(aY cy aH di:Nat)(fn:bn)(aw:yI)(ej eR:K)(W:G):Prop where
 ext:Ext w0 W
 f0:w0.heap.size<=aY
 n0:w0.heap.size<=cy
 r0:w0.heap.size<=aH
 fn':aY≠cy
 fr:aY≠aH
 nr:cy≠aH
 fb:aY<di
 nb:cy<di
 rb:aH<di
 bs:di<=W.heap.size
 file:W.cell? aY=some (N fn)
 notes:Boxed W cy 38 ej
 rd:W.heap[aH]?=some (J #[N fn,N (str aw.sec),av aw.inn,eR,C3 cy aY] 211 (0,0))
 LD:W.ownsRow di 45 4 ej aw.nl (aw.nl.flatMap (Ai fn))
 D6:W.ownsRow di 148 5 eR aw.al (aw.al.flatMap (DR fn))
abbrev vg(cy aH di:Nat)(W aa:G):Prop:=Keep (λk=>k<di/\k≠cy/\k≠aH) W aa
section
variable {w0 W:G} {aY cy aH di:Nat} {fn:bn} {aw:yI} {ej eR:K}
def mJ.c(h:mJ w0 aY cy aH di fn aw ej eR W):W.cell? aH=some (N fn)/\W.cell? ⟨aH,1,none⟩=some (N (str aw.sec))/\W.cell? ⟨aH,2,none⟩=some (av aw.inn)/\W.cell? ⟨aH,3,none⟩=some eR/\W.cell? ⟨aH,4,none⟩=some (C3 cy aY):=by simp[World.cell?,h.rd]
def mJ.f(h:mJ w0 aY cy aH di fn aw ej eR W)(j:Nat):W.frozen? ⟨aH,j,none⟩=false:=by simp[World.frozen?,h.rd]
def mJ.lt(h:mJ w0 aY cy aH di fn aw ej eR W):aH<W.heap.size:=(dG.1 h.rd).1
def mJ.flt(h:mJ w0 aY cy aH di fn aw ej eR W):aY<W.heap.size:=gD _ _ h.file
def mJ.ext'{aa:G}(h:mJ w0 aY cy aH di fn aw ej eR W)(D:Ext W aa):mJ w0 aY cy aH di fn aw ej eR aa:=
 ⟨h.ext.trans D,h.f0,h.n0,h.r0,h.fn',h.fr,h.nr,h.fb,h.nb,h.rb,cB h.bs D.size,D.cell h.file,(D.block h.notes.lt).trans h.notes,(D.block h.lt).trans h.rd,
  qB (a7:=λb=>b<W.heap.size) h.LD (Keep.of_below D (λ_ h=>h)) (λb V=>(h.LD.lt b V).2),qB (a7:=λb=>b<W.heap.size) h.D6 (Keep.of_below D (λ_ h=>h)) (λb V=>(h.D6.lt b V).2)⟩
def vg.ext{aa:G}(V:di<=W.heap.size)(D:Ext W aa):vg cy aH di W aa:=Keep.of_below D (λk hk=>aE)
def mJ.aoU(h:mJ w0 aY cy aH di fn aw ej eR W)(j:Nat)(v:K)(sec:List aL)(inn:Bool)(bx:(#[N fn,N (str aw.sec),av aw.inn,eR,C3 cy aY]:Array K).setIfInBounds j v= #[N fn,N (str sec),av inn,eR,C3 cy aY]):mJ w0 aY cy aH di fn ⟨sec,inn,aw.al,aw.nl⟩ ej eR (W.setCell ⟨aH,j,none⟩ v)/\vg cy aH di W (W.setCell ⟨aH,j,none⟩ v):=by
 refine⟨⟨h.ext.setCell h.r0 _,h.f0,h.n0,h.r0,h.fn',h.fr,h.nr,h.fb,h.nb,h.rb,by rw[zU];exact h.bs,?_,(fI _ _ _ cy h.nr).trans h.notes,?_,ownsRow_setCell_below h.LD h.rb _,ownsRow_setCell_below h.D6 h.rb _⟩,Keep.setCell W (λbe=>be.2.2 rfl) _⟩
 ·exact(xD (a:=⟨aY,0,none⟩) (fI _ _ _ aY h.fr)).trans h.file
 ·obtain⟨ad,hk⟩:=dG.1 h.rd;show(W.heap.modify aH _)[aH]?=_;exact ao3
def mJ.note{aa:G}{ty:K}{x:Fv}(h:mJ w0 aY cy aH di fn aw ej eR W)(hk:Keep (λk=>k<W.heap.size/\k≠cy/\ej.ownBlock≠some k) W aa)(V:Boxed aa cy 38 ty)(ho:aa.ownsRow di 45 4 ty (aw.nl++[x]).length ((aw.nl++[x]).flatMap (Ai fn))):mJ w0 aY cy aH di fn ⟨aw.sec,aw.inn,aw.al,aw.nl++[x]⟩ ty eR aa/\vg cy aH di W aa:=by
 have hZ:=h.LD.lt;have j3:∀k,k<di->ej.ownBlock≠some k:=λk hk e=>by have:=(hZ k e).1;omega
 have lE:=h.bs;refine⟨⟨?_,h.f0,h.n0,h.r0,h.fn',h.fr,h.nr,h.fb,h.nb,h.rb,cB h.bs hk.size,(hk.cell (p:=⟨aY,0,none⟩) ⟨h.flt,h.fn',j3 aY h.fb⟩).trans h.file,V,(hk.block aH ⟨h.lt,λe=>h.nr e.symm,j3 aH h.rb⟩).trans h.rd,ho,
  qB h.D6 hk (λb V=>⟨(h.D6.lt b V).2,λe=>by have:=(h.D6.lt b V).1;have:=h.nb;omega,λe=>own_ne h.LD h.D6 Y b e V⟩)⟩,hk.mono (λk hk=>⟨aE,hk.2.1,j3 k hk.1⟩)⟩
 exact Below.trans h.ext (hk.below (λk hk=>by have:=h.ext.size;have h1:=h.n0;have h2:=h.nb;have T:=h.f0;have af:=h.fb;exact⟨aE,aE,j3 k aE⟩))
def mJ.more{aa:G}{zM:K}{x:As}(h:mJ w0 aY cy aH di fn aw ej eR W)(hg:W.grownBy aa eR.ownBlock)(ho:aa.ownsRow di 148 5 zM (aw.al++[x]).length ((aw.al++[x]).flatMap (DR fn))):mJ w0 aY cy aH di fn ⟨aw.sec,aw.inn,aw.al++[x],aw.nl⟩ ej zM (aa.setCell ⟨aH,3,none⟩ zM)/\vg cy aH di W (aa.setCell ⟨aH,3,none⟩ zM):=by
 have hZ:=h.D6.lt;have j3:∀k,k<di->some k≠eR.ownBlock:=λk hk e=>by have:=(hZ k e.symm).1;omega
 have lE:=h.bs;have cX:aa.heap[aH]?=_:=(hg.block aH h.lt (j3 _ h.rb)).trans h.rd;refine⟨⟨(h.ext.grown hg (λk e=>by have:=(hZ k e).1;have:=h.n0;have:=h.nb;omega)).setCell h.r0 _,h.f0,h.n0,h.r0,h.fn',h.fr,h.nr,h.fb,h.nb,h.rb,by rw[zU];exact cB h.bs hg.size,?_,(fI _ _ _ cy h.nr).trans ((hg.block cy h.notes.lt (j3 _ h.nb)).trans h.notes),?_,?_,ownsRow_setCell_below ho h.rb _⟩,?_⟩
 ·exact(xD (a:=⟨aY,0,none⟩) ((fI _ _ _ aY h.fr).trans (hg.block aY h.flt (j3 _ h.fb)))).trans h.file
 ·obtain⟨ad,hk⟩:=dG.1 cX;show(aa.heap.modify aH _)[aH]?=_;rw[sG UM,Array.getElem_modify_self,hk]
  rfl
 ·refine ownsRow_setCell_below (World.ownsRow.kept h.LD hg ?_) h.rb _;cases a6:ej.ownBlock with
  |none=>exact xI
  |some k=>exact .inr λe=>own_ne h.LD h.D6 Y k a6 e.symm
 ·exact⟨hg.os,hg.tape,hg.output,by rw[zU];exact hg.size,λk hk=>(fI _ _ _ k hk.2.2).trans (hg.block k aE (j3 k hk.1))⟩
end
def nu(aw:yI)(x:LN):yI:=
 if (Pd x.2).2=true then⟨(Pd x.2).1,true,aw.al,aw.nl⟩
 else if (Fj x.2).2.2=true/\aw.inn=true then⟨aw.sec,aw.inn,aw.al++[(x.1,aw.sec,(Fj x.2).1,(Fj x.2).2.1)],aw.nl⟩
 else⟨aw.sec,aw.inn,aw.al,aw.nl++[(x.1,130,x.2.take 60)]⟩
def aa3(x:LN):K:=bg #[H x.1,N (str x.2)]
theorem aJO{w0 W:G}{aY cy aH di:Nat}{fn:bn}{aw:yI}{ej eR:K}(h:mJ w0 aY cy aH di fn aw ej eR W)(x:LN)(D:x.2.length<=2000000000)(hn:aw.nl.length<=1000000)(bT:aw.al.length<=1000000):Calls prog 118 #[aB (some aH),aa3 x] W λe F=>e=aI (bH #[])/\∃ty zM,mJ w0 aY cy aH di fn (nu aw x) ty zM F/\vg cy aH di W F:=by
 have KS:=λW=>aJI (str x.2) (by rw[vH];exact D) W
 have pm:=λW=>aJJ (str x.2) (by rw[vH];exact D) W
 rw[show bytes (str x.2)=x.2 from by simp[bytes]]at KS pm;obtain⟨n,t⟩:=x;obtain⟨go,aa4⟩:∃go,go=Pd t:=⟨_,rfl⟩;obtain⟨KT,aa5⟩:∃KT,KT=Fj t:=⟨_,rfl⟩;have bU:nu aw (n,t)=if go.2=true then⟨go.1,true,aw.al,aw.nl⟩else if KT.2.2=true/\aw.inn=true then⟨aw.sec,aw.inn,aw.al++[(n,aw.sec,KT.1,KT.2.1)],aw.nl⟩else⟨aw.sec,aw.inn,aw.al,aw.nl++[(n,130,t.take 60)]⟩:=by rw[aa4,aa5];rfl
 rw[bU];dsimp only at KS pm D;rw[<-aa4]at KS;rw[<-aa5]at pm;unfold aqk at KS;unfold Uf at pm;obtain⟨dl,gS⟩:=go;obtain⟨a1,a2,a3⟩:=KT;obtain⟨sec,inn,al,nl⟩:=aw;dsimp only at *;unfold aa3;have hx:Boxed (W.alloc (J #[H n,N (str t)] 261)) W 261 (H n)\/True:= .inr trivial;clear hx;have e3:(W.alloc (J #[H n,N (str t)] 261)).cell? W=some (H n):=BJ W [H n,N (str t)] _ 0 _ rfl;have ef:(W.alloc (J #[H n,N (str t)] 261)).cell? ⟨W,1,none⟩=some (N (str t)):=BJ W [H n,N (str t)] _ 1 _ rfl;have hS:=h.ext' ((O W).alloc (J #[H n,N (str t)] 261));have aqq:vg cy aH di W _:=vg.ext h.bs ((O W).alloc (J #[H n,N (str t)] 261));have Rl:=z aqq;have bY:=z hS;have aJP:=z KS;have B5:=z pm;clear hS aqq aa4 aa5 bU h KS pm;go_in;go_wp2_with fail;generalize b7:W.alloc (J #[H n,N (str t)] 261)=az at *;clear b7;generalize W.heap.size=lb at *;refine ak (aJP.o _) ?_;intro aO ag;have aqs:=ag.cell e3;have Ke:=ag.cell ef;have ca:=z ag;have eW:=z (bY.o.ext' ag);have KU:=z (Rl.o.trans (vg.ext bY.o.bs ag));clear ag e3 ef;cases gS
 case true=>have k2:=eW.o.aoU 1 (N (str dl)) dl inn rfl;have cQ:=k2.1.aoU 2 (av true) dl true rfl;have cD:=z (ah cQ.1 (KU.o.trans (k2.2.trans cQ.2)));obtain⟨r0,dq,ei,eM,r4⟩:=eW.o.c;have akr:=eW.o.f 1;have aQc:=eW.o.f 2;have aqt:=eW.o.lt;clear k2 cQ;go_wp2_with fail;refine cO (gq rfl _ _ _) rfl ?_;exact⟨rfl,⟨_,_,cD.o.1⟩,cD.o.2⟩
 case false=>
  go_wp2_with fail;refine ak (B5.o _) ?_;intro bj a';have aJQ:=a'.cell aqs;have aJR:=a'.cell Ke;have cL:=z a';have hC:=z (eW.o.ext' a');have TX:=z (KU.o.trans (vg.ext eW.o.bs a'));clear a' aqs Ke;obtain⟨r0,dq,ei,eM,r4⟩:=hC.o.c;have aJS:=hC.o.f 3;have aqt:=hC.o.lt;dsimp only at dq ei;unfold C3 at r4;obtain⟨k,hk⟩:∃k,k=min t.length 60:=⟨_,rfl⟩;have RC:min (t:Int) 60=(k:Int):=aE;have xc:k<=t:=aE;have EE:(k:Int)<=t:=aE;have LZ:(str t).extract 0 k=str (t.take 60):=bytes_inj (by
   rw[za,List.drop_zero,Nat.sub_zero,show bytes (str t)=t from by simp[bytes],show bytes (str (t.take 60))=t.take 60 from by simp[bytes],hk];by_cases be:t.length<=60
   ·rw[mQ be,rJ (aZ _),rJ be]
   ·rw[Nat.min_eq_right aE])
  have Gz:=z hk;clear hk;cases a3<;>cases inn
  case true.true=>
   obtain⟨Ks,Kw,rfl⟩:=dP hC.o.D6;dsimp only at eM;have aQd:=λo=>((O bj).alloc o).cell eM
   have aqu:=hC.o.D6.lt;obtain⟨o,ho⟩:∃o,o=Obj.cells #[N fn,H n,N (str sec),N (str a1),N (str a2)] 148:=⟨_,rfl⟩;have j1:=z (hC.o.ext' (((O bj).alloc o).drew));have aJT:=z (TX.o.trans (vg.ext hC.o.bs (((O bj).alloc o).drew)));subst ho;have aJU:=z aqu;clear aqu r4;go_wp2_with fail
   (go_region_law
    ((refine FL rfl (.tmp 57) (.tmp 71) _ rfl underlying64 aee rfl Y (aqo fn) (aJM fn) di _ _ al [(n,sec,a1,a2)] (by rfl) (by rfl) (by exact j1.o.D6) (aS.ext ((O _).drew) (jh (aqo fn) bj [(n,sec,a1,a2)] _ _ rfl)) dU Y (by exact j1.o.bs) ?_;intro Qp Qq dy hM k7
      have Ct:=z (j1.o.more (x:=(n,sec,a1,a2)) k7 (by rw[dA];exact hM));have aa6:(some aH:Option Nat)≠Value.ownBlock (E Ks al Kw):=λe=>by have:=(aJU.o aH e.symm).1;have:=j1.o.rb;omega
      have c7:dy.cell? ⟨aH,3,none⟩=some (E Ks al Kw):=k7.cell j1.o.c.2.2.2.1 aa6;have xj:dy.frozen? ⟨aH,3,none⟩=false:=(kS (a:=⟨aH,3,none⟩) (k7.block aH j1.o.lt aa6)).trans (j1.o.f 3);have e6:=gD _ _ c7;clear hM k7 aa6)))
   all_goals
    go_wp2_with fail;go_end0;exact⟨rfl,⟨_,_,Ct.o.1⟩,aJT.o.trans Ct.o.2⟩
  all_goals
   go_wp2_with fail;go_still_tail 13,aj
   change wpList _ _ _ _ _ bj.drew
   have q6:=z (hC.o.ext' ((O bj).drew));have aa7:=z (TX.o.trans (vg.ext hC.o.bs ((O bj).drew)));generalize bj.drew=dC at *;clear r0 dq ei eM r4 aJS aqt aJQ aJR;go_wp2_with fail;refine ak (aqr n 130 (t.take 60) q6.o.notes q6.o.file q6.o.LD q6.o.nb q6.o.bs hn) ?_;rintro bQ ⟨ty,CC,e8,d0⟩;have cD:=z (q6.o.note CC e8 d0);clear CC e8 d0;go_wp2_with fail;refine cO (gq rfl _ _ _) rfl ?_;exact⟨rfl,⟨_,_,cD.o.1⟩,aa7.o.trans cD.o.2⟩
def aJV(aw:yI)(x:LN):(nu aw x).al.length+(nu aw x).nl.length<=aw.al.length+aw.nl+1:=by
 unfold nu;split
 ·dsimp only;omega
 split
 ·dsimp only;rw[dA,xG];omega
 ·dsimp only;rw[dA,xG];omega
def Ql:∀(A:List LN)(aw:yI),(A.foldl nu aw).al.length+(A.foldl nu aw).nl.length<=aw.al.length+aw.nl+A.length
 | [],_=>aZ _
 |x::r,aw=>by rw[xH];have h1:=Ql r (nu aw x);have h2:=aJV aw x;rw[dJ];omega
theorem aJW{w0 W:G}{aY cy aH di base:Nat}{fn:bn}{aw:yI}{ej eR v:K}{A:List LN}(h:mJ w0 aY cy aH di fn aw ej eR W)(hv:W.ownsRow base 261 2 v A (A.flatMap oI))(hU:∀b,v.ownBlock=some b->b<di/\b≠cy/\b≠aH)(r':∀x∈A,x.2.length<=2000000000)(X:A.length<=10000)(bU:aw.al.length+aw.nl<=10000):Calls prog 117 #[v,.func (.func 118) #[aB (some aH)] #[]] W λe F=>e=aI (bH #[])/\∃ty zM,mJ w0 aY cy aH di fn (A.foldl nu aw) ty zM F/\vg cy aH di W F:=by
 obtain⟨a,c,rfl⟩:=dP hv;have aaC:=z hv;have aJX:=z hU;have aJY:=z r';have bY:=z h;go_in;go_wp2_with fail;go_loopg [8] A (λg u wr=>∃(a8:G) (i:Nat) (ej eR:K),a8=wr/\u=H i/\A.length=i+g/\mJ w0 aY cy aH di fn ((A.take i).foldl nu aw) ej eR a8/\vg cy aH di W a8)
 case atStart=>exact⟨W,0,ej,eR,rfl,rfl,aE,by simpa using bY.o,Keep.refl _ _⟩
 case round=>
  obtain⟨a8,i,gv,ct,rfl,rfl,KQ,ab,hk⟩:=hrel;have eW:=z ab;have KU:=z hk;by_cases hi:i<A
  ·have g4:Hid (A.length=i+gk):=z KQ;obtain⟨bu,c',e,s0,hG⟩:=Fu (eD yL (qB aaC.o KU.o aJX.o));cases e
   obtain⟨b,o,rfl,e3,ef⟩:=hG i hi;have D:=aJY.o A[i] (eB _);have fi:(A.take (i+1)).foldl nu aw=nu ((A.take i).foldl nu aw) A[i]:=by rw[mh hi,uF];rfl
   have ma:=Ql (A.take i) aw;rw[gV]at ma;have x0:min i A.length<=i:=Nat.min_le_left _ _;have ec:=z (λ(aO:G) (ag:Ext a8 aO)=>aJO (eW.o.ext' ag) A[i] D aE aE);have p1:IntKind.i64.wrap ((i:Int)+1)=(i:Int)+1:=IntWalk.i64_in _ aE;have aQe:(i:Int)<A:=aE;generalize Lk:A[i]=x at *;obtain⟨n,t⟩:=x;unfold aa3 at ec;dsimp only at e3 ef ec;have aQf:=gD _ _ e3;have yf:=z fi;have aQg:=z Lk;clear fi Lk KQ hG ma x0 D;go_wp2_with fail;refine ak (ec.o _ ((O a8).alloc _)) ?_;rintro bj ⟨ty,zM,gj,hI⟩;have hC:=z gj;have TX:=z (KU.o.trans ((vg.ext eW.o.bs ((O a8).alloc (J #[H n,N (str t)] 261))).trans hI));clear gj hI;go_wp2_with fail;go_roundg (A.length-(i+1))
   case measure=>have:=g4.o;omega
   case rel=>exact⟨_,i+1,ty,zM,rfl,rfl,aE,by rw[yf.o];exact hC.o,TX.o⟩
  ·have GB:i=A.length:=aE;have cg:=z GB;have hd:((i:Int)<A)=False:=by simp;omega
   clear KQ GB;go_wp2_with fail;go_end0;have Fh:=eW.o;rw[cg.o,iR]at Fh;exact⟨rfl,_,_,Fh,KU.o⟩
end bM
end Go.Proofs.YtopfefhenfineaaGreat
namespace Go.Proofs.YtopfefhenfineaaGreat
open Go.Proofs.Tryz Go.RowKit bh
namespace bM
variable{B n:Nat}
def aqv:∀(n:Nat)(l:List aL),l.length<=n->∀x∈gU l,x.length<=n
 |0,l,h,x,D=>by have:l=[]:=nN aE;rw[this,aaw]at D;cases D
 |n+1,l,h,x,D=>by
  by_cases X:l=[]
  ·rw[X,aaw]at D;cases D
  ·rw[Tj X]at D;rcases iA.1 D with rfl|D
   ·exact cB (Tk _ _) h
   ·have:=aqv n (tl1 10 l) (by rw[Bo];have:0<l.length:=List.length_pos_iff.2 X;omega) x D;omega
def aqw:∀(n:Nat)(l:List (List aL)),∀x∈jP n l,x.2∈l
 |_,[],x,D=>by cases D
 |n,y::r,x,D=>by
  rcases iA.1 D with rfl|D
  ·exact yY
  ·exact vv _ (aqw (n+1) r x D)
def aqx{t:List aL}{A:List LN}(h:∀y∈A,y.2.length<=B)(an:t.length<=B):∀y∈wF n t A,y.2.length<=B:=by
 intro y bN;unfold wF at bN;split at bN
 ·exact h y bN
 ·rcases iZ.1 bN with bN|bN
  ·exact h y bN
  ·rw[pI]at bN;subst bN;exact cB (Kg t) an
def aJZ{aw:qH}{x:LN}(h:∀y∈aw.1,y.2.length<=B)(an:aw.2.2.length+x.2.length<=B):∀y∈(jO aw x).1,y.2.length<=B:=by
 unfold jO;split
 ·exact h
 split
 ·exact h
 ·exact aqx h (by rw[dA];exact an)
def aqy(f8 B:Nat):∀(l:List LN)(aw:qH)(k:Nat),KF f8 aw k->(∀y∈l,y.2.length+1<=f8)->(k+l.length)*f8<=B->(∀y∈aw.1,y.2.length<=B)->(∀y∈(l.foldl jO aw).1,y.2.length<=B)/\KF f8 (l.foldl jO aw) (k+l.length)
 | [],aw,k,V,_,_,h=>⟨h,V⟩
 |x::r,aw,k,V,D,hB,h=>by rw[xH,dJ];rw[dJ]at hB;have Q:=D x yY;have e:(k+1)*f8=k*f8+f8:=Nat.succ_mul k f8;have ge:(k+1)*f8<=(k+(r.length+1))*f8:=pF f8 aE;have h1:=aqy f8 B r (jO aw x) (k+1) (apc V x Q) (λy bN=>D y (vv _ bN)) (by rw[show k+1+r.length=k+(r.length+1)from aE];exact hB) (aJZ h (by have:=V.2;omega));rw[show k+(r.length+1)=k+1+r.length from aE];exact h1
def aJ0(bs:List aL):∀x∈(jk bs).1,x.2.length<=2000000000:=by
 unfold jk;split
 ·intro x D;cases D
 split
 ·intro x D;cases D
 ·rename_i h1 h2;dsimp only;unfold Ki lM;have R:∀y∈jP 1 (gU bs),y.2.length+1<=65537:=λy bN=>by have:=aqv bs bs (aZ _) y.2 (aqw _ _ y bN);omega
  have ai:=aqy 65537 2000000000 (jP 1 (gU bs)) ([],0,[]) 0 ⟨eG _,eG _⟩ R (by rw[CY];have:(0+(gU bs).length)*65537<=1000*65537:=pF _ aE;omega) (λy bN=>by cases bN)
  refine aqx ai.1 ?_;have T:=ai.2.2;rw[CY]at T;have:(0+(gU bs).length)*65537<=1000*65537:=pF _ aE;omega
end bM
end Go.Proofs.YtopfefhenfineaaGreat
namespace Go.Proofs.YtopfefhenfineaaGreat
open Go.Proofs.Tryz Go.RowKit Go.Shelf bh
attribute[local go_sem] Oper.semAt_some Option.isSome_some
namespace bM
def Ah(bs:List aL):yI:=(jk bs).1.foldl nu ⟨[],false,[],[]⟩
def qF(bs:List aL):List As×List Fv:=
 if (jk bs).2≠0 then([],[(0,(jk bs).2.toNat,[])])
 else if (Ah bs).nl≠[]then([],(Ah bs).nl)
 else((Ah bs).al,[])
def VP(fn:bn)(d:Int)(v:K):K:=bg #[N fn,H d,v]
theorem Br(fn:bn)(d:Int)(v:K)(bs:List aL)(X:bs.length<=1000000)(w:G)(hv:aS w 1 pU v bs):Calls prog 70 #[VP fn d v] w λe F=>∃ea hW,e=aI (bH #[ea,hW])/\Ext w F/\F.ownsRow w 148 5 ea (qF bs).1.length ((qF bs).1.flatMap (DR fn))/\F.ownsRow w 45 4 hW (qF bs).2.length ((qF bs).2.flatMap (Ai fn)):=by
 obtain⟨vz,ti,Qg,-⟩:=P7 hv;have e1:qF bs=if (jk bs).2≠0 then([],[(0,(jk bs).2.toNat,[])])else if (Ah bs).nl≠[]then([],(Ah bs).nl)else((Ah bs).al,[]):=rfl
 have ma:=Ql (jk bs).1 ⟨[],false,[],[]⟩;have z1:Ah bs=(jk bs).1.foldl nu ⟨[],false,[],[]⟩:=rfl;rw[<-z1]at ma;have C1:=ad1 bs;have JH:=aI0 bs;have aqz:=aJ0 bs;have PJ:=λW (h:aS W 1 pU v bs)=>aIt v bs X W h
 rw[e1];clear e1;generalize Ah bs=FX at *;generalize(jk bs).1=b3 at *;generalize(jk bs).2=er at *;obtain⟨NX,hD⟩:∃NX:List As×List Fv,NX=if er≠0 then([],[(0,er.toNat,[])])else if FX.nl≠[]then([],FX.nl)else(FX.al,[]):=⟨_,rfl⟩
 rw[<-hD];subst Qg;unfold VP;obtain⟨a8,b'⟩:∃a8,a8=(w.alloc (J #[N fn,H d,E vz bs ti] 24)).alloc (J #[E none 0 0] 38):=⟨_,rfl⟩;have gS:a8.heap.size=w.heap.size+2:=by rw[b'];simp
 have aV:Ext w a8:=by rw[b'];exact((O w).alloc _).alloc _
 have e3:a8.cell? w=some (N fn):=by rw[b'];exact((O _).alloc _).cell (BJ w [N fn,H d,E vz bs ti] _ 0 _ rfl)
 have cY:a8.cell? ⟨w,2,none⟩=some (E vz bs ti):=by rw[b'];exact((O _).alloc _).cell (BJ w [N fn,H d,E vz bs ti] _ 2 _ rfl)
 have C0:Boxed a8 (w+1) 38 (E none 0 0):=by have:=Boxed.new (w.alloc (J #[N fn,H d,E vz bs ti] 24)) 38 (E none 0 0);rw[dR,<-b']at this;exact this
 have vA:=hv.ext aV;have Gx:=z aV;have ce:=z C0;have eW:=z gS;have aJ1:=z vA;have eo:=z b';have aJ2:=z PJ;have aJ3:=z aqz;clear PJ aqz;have aJ4:=z z1;have aQh:=z ma;clear z1 ma hv vA aV gS C0 b';go_in;go_wp2_with fail;rw[<-eo.o];refine(aJ2.o _ aJ1.o).mono ?_;rintro e bj ⟨u,rfl,a',nz⟩;have c0:=a'.cell e3;have aqA:Boxed bj (w+1) 38 (E none 0 0):=(a'.block ce.o.lt).trans ce.o;have p7:=z aqA;have cL:=z a';have H2:=z nz;clear a' nz aqA e3 cY;by_cases ae:er=0
 ·subst ae;rw[au ay]at hD;have yW:=z hD;clear hD;have hZ:=H2.o.lt;have aJ5:=z hZ;clear hZ;have eC:=eW.o;have aed:=cL.o.size;have Fl:Hid (w.heap.size+2<=bj.heap.size):=z aE;clear eC aed;obtain⟨dj,fw⟩:∃dj,dj=bj.alloc (J #[N fn,N ⟨#[]⟩,av false,E none 0 0,C3 (w+1) w.heap.size] 211):=⟨_,rfl⟩;have JC:mJ w w (w+1) bj (bj+1) fn ⟨[],false,[],[]⟩ (E none 0 0) (E none 0 0) dj:=by
   have ci:=Fl.o;have af:dj.heap.size=bj+1:=by rw[fw];simp
   have cN:Ext bj dj:=by rw[fw];exact(O _).alloc _
   exact⟨(Gx.o.trans cL.o).trans cN,aZ _,Nat.le_succ _,aE,aE,aE,aE,aE,aE,aE,aE,cN.cell c0,(cN.block p7.o.lt).trans p7.o,by rw[fw];exact bA _ _,jR _ _ _ _,jR _ _ _ _⟩
  have aJ6:dj.ownsRow a8 261 2 u b3 (b3.flatMap oI):=by rw[fw];exact pG H2.o _
  have aqB:=aJW JC aJ6 (λb V=>by have h1:=aJ5.o b V;have h2:=eW.o;exact⟨aE,aE,aE⟩) aJ3.o aE ay
  rw[<-aJ4.o]at aqB;unfold C3 at fw;have aJ7:=z aqB;have aJ8:=z fw;go_wp2_with fail;rw[<-aJ8.o];refine ak aJ7.o ?_;rintro bQ ⟨ty,zM,i1,CC⟩;have ia:=z i1;have c5:=i1.notes.cell;obtain⟨r0,dq,ei,eM,r4⟩:=i1.c;obtain⟨bv,bp,rfl⟩:=dP i1.LD;obtain⟨aoO,cw,rfl⟩:=dP i1.D6;have cH:w.heap.size<=bj+1:=by have:=Fl.o;omega
  have ot:=z cH;by_cases hy:FX.nl=[]
  ·have bL:FX.nl.length=0:=by rw[hy];rfl
   have ac:=yW.o;rw[au (by simpa using hy)]at ac;have wa:=z ac;rw[bL]at c5;go_wp2_with fail;go_ret2;exact⟨_,_,rfl,ia.o.ext,by rw[wa.o];exact kU ia.o.D6 ot.o,by rw[wa.o];exact jR _ _ _ _⟩
  ·have bL:(0:Int)<FX.nl:=by have:=List.length_pos_iff.2 hy;omega
   have ac:=yW.o;rw[aF hy]at ac;have wa:=z ac;go_wp2_with(go_quiet (fail));go_ret2;exact⟨_,_,rfl,ia.o.ext.drewN _,by rw[wa.o];exact jR _ _ _ _,by rw[wa.o];exact Pz (kU ia.o.LD ot.o) _⟩
 ·have bO:(er==0)=false:=by simpa using ae
  obtain⟨hY,LF⟩:∃hY:Nat,er=(hY:Int):=⟨er.toNat,aE⟩;subst LF;rw[aF ae,show((hY:Int)).toNat=hY from aE]at hD;have yW:=z hD;have ci:w.heap.size+1<bj.heap.size:=by have:=p7.o.lt;exact this
  have Fl:=z ci;go_wp2_with fail;refine ak (aqr (W:=bj) (cy:=w.heap.size+1) (aY:=w.heap.size) (B:=bj.heap.size) (ns:= []) (fn:=fn) 0 hY [] p7.o c0 (jR _ _ _ _) Fl.o (aZ _) ay) ?_;rintro dC ⟨ty,h0,f5,fY⟩;have c4:=f5.cell;have aa7:=z h0;have aJ9:=z fY;obtain⟨bv,bp,rfl⟩:=dP fY;have hK:Hid (Ext w dC):=z (Below.trans (Gx.o.trans cL.o) (aa7.o.below (λk hk=>⟨by have:=Fl.o;omega,aE,λe=>by cases e⟩)));have ot:Hid (w.heap.size<=bj):=z (by have:=Fl.o;omega);go_wp2_with(go_quiet (fail));go_ret2;exact⟨_,_,rfl,hK.o.drewN _,by rw[yW.o];exact jR _ _ _ _,by rw[yW.o];exact Pz (kU aJ9.o ot.o) _⟩
def F9{W aa:G}{b1 b2 aK aV n1 n2 bk bW:Nat}{ej eR:K}{ed eq:List K}(h1:W.ownsRow b1 aK n1 ej bk ed)(h2:W.ownsRow b2 aV n2 eR bW eq)(hn:aK≠aV)(hg:W.grownBy aa ej.ownBlock):aa.ownsRow b2 aV n2 eR bW eq:=by
 refine World.ownsRow.kept h2 hg ?_;cases a6:eR.ownBlock with
 |none=>exact xI
 |some k=>exact .inr λe=>own_ne h2 h1 (λe=>hn e.symm) k a6 e.symm
end bM
end Go.Proofs.YtopfefhenfineaaGreat
namespace Go.Proofs.YtopfefhenfineaaGreat
open Go.Proofs.Tryz
namespace bM
abbrev dN:=List aL×Nat×List aL×List aL×List aL
abbrev tO:=List aL×Nat×Nat×List aL
def oK(f:dz):List dN:=(qF f.2.2).1.map λx=>(f.1,x.1,x.2.1,x.2.2.1,x.2.2.2)
def oL(f:dz):List tO:=(qF f.2.2).2.map λx=>(f.1,x.1,x.2.1,x.2.2)
def qE(fs:List dz):Nat:=if 16<fs.length then 4 else if fs.all (λf=>nk f.1)=true then 0 else 140
def BO(m:dz)(fs:List dz):List dz:=if qE fs=0 then m::nR fs else []
def LY(m:dz)(fs:List dz):tO:=(m.1,0,qE fs,if qE fs=140 then(match fs.find? (λf=> !nk f.1)with|some f=>f.1.take 60|none=>[])else [])
def fM(m:dz)(fs:List dz):List dN×List tO:=
 if qE fs≠0 then([],[LY m fs])
 else if (m::nR fs).flatMap oL≠[]then([],(m::nR fs).flatMap oL)
 else((m::nR fs).flatMap oK,[])
def auq{m:dz}{fs:List dz}(h:qE fs=0):fM m fs=if (m::nR fs).flatMap oL≠[]then([],(m::nR fs).flatMap oL)else((m::nR fs).flatMap oK,[]):=au (λx=>x h)
def aeg{m:dz}{fs:List dz}(h:qE fs≠0):fM m fs=([],[LY m fs]):=aF h
end bM
end Go.Proofs.YtopfefhenfineaaGreat
