import Derived.Test.YtopfefhenfineaaGreatP16
import Derived.Deep.RegionLaw
set_option linter.all false
set_option maxRecDepth 100000
set_option maxHeartbeats 2000000
namespace Go.Proofs.YtopfefhenfineaaGreat
open Go.Proofs.Tryz Go.RowKit V
namespace Gd
variable{a b m n next:Nat}{o:Int}{out r xs ys:List Span}{s y:Span}
def EL:∀(xs ys:List Span)(n:Nat),chain (xs++ys) n=(chain xs n).bind (chain ys)
 | [],ys,n=>rfl
 |s::r,ys,n=>by
  simp only[dh,chain];split
  ·exact EL r ys _
  ·rfl
def B9(h:chain (s::r) n=some m):s.lo=n/\s.lo<=s.hi/\chain r (s.hi+1)=some m:=by
 unfold chain at h;split at h
 ·rename_i hc;exact⟨hc.1,hc.2,h⟩
 ·cases h
def Jc(h1:s.lo=n)(h2:s.lo<=s.hi)(h:chain r (s.hi+1)=some m):chain (s::r) n=some m:=by unfold chain;rw[aV ⟨h1,h2⟩,h]
def Rj(h:chain (xs++ys) n=some m):∃b,chain xs n=some b/\chain ys b=some m:=by
 rw[EL]at h;cases hx:chain xs n with
 |none=>rw[hx]at h;cases h
 |some b=>rw[hx]at h;exact⟨b,rfl,h⟩
def Jd(h:chain xs n=some b):chain (xs++ys) n=chain ys b:=by rw[EL,h];rfl
def Pj(i:List Span)(l s:Span):put (i++[l]) s=if l.way=s.way then i++[⟨l.lo,s.hi,l.way⟩]else i++[l,s]:=by
 unfold put;rw[List.getLast?_append,List.getLast?_singleton];simp only[Option.some_or];split
 ·rw[aH,iN,jr,List.set_append_right _ _ (aD _),Nat.sub_self];rfl
 ·simp
def Fj(out:List Span):out=[]\/∃i l,out=i++[l]:=by
 rcases List.eq_nil_or_concat out with h|⟨i,l,h⟩
 ·exact .inl h
 ·exact .inr ⟨i,l,by simpa using h⟩
def aaj(h:chain (out++y::ys) a=some m):chain (put out y++ys) a=some m:=by
 rcases Fj out with rfl|⟨i,l,rfl⟩
 ·exact h
 ·rw[Pj];split
  ·rw[bI]at h⊢;obtain⟨b,h1,h2⟩:=Rj h;obtain⟨e1,e2,h3⟩:=B9 h2;obtain⟨e3,e4,h4⟩:=B9 h3;rw[Jd h1];exact Jc e1 cP h4
  ·simpa using h
def Rk:∀ {out:List Span} {a m:Nat},chain (out++ys) a=some m->chain (ys.foldl put out) a=some m:=by
 induction ys with
 |nil=>intro out a m h;simpa using h
 |cons y ys ih=>intro out a m h;exact ih (aaj h)
def Aj(xs:List Span):whole xs=true↔chain xs 0=some 4294967296:=by unfold whole;simp
def OB(h:whole xs=true):whole (merge xs)=true:=(Aj _).2 (Rk (out:= []) ((Aj _).1 h))
def wys(xs:List Span):List Int:=xs.map (·.way)
def nd:List Int->Prop
 |a::b::r=>a≠b/\nd (b::r)
 |_=>True
def LD(h:next<=n):chain (gap o next n) next=some n:=by
 unfold gap;split
 ·exact Jc rfl cP (by simp only[chain];congr 1;omega)
 ·simp only[chain];congr 1;omega
def Pq(o:Int):∀(ns:List Nat)(ws:List Int)(next:Nat),ns.length=ws->up ns next=true->(∀n∈ns,n<4294967296)->next<=4294967296->chain (pc o ns ws next) next=some 4294967296
 |n::r,w::q,next,hl,hu,hn,hx=>by simp only[up,bA,dK]at hu;have hn0:=hn n aE;unfold pc;rw[Jd (LD hu.1)];exact Jc rfl (aD _) (Pq o r q (n+1) ek hu.2 (λx hx=>hn x ft) aq)
 | [],ws,next,_,_,_,hx=>by unfold pc;exact LD hx
 |_::_,[],_,hl,_,_,_=>by simp at hl
def abY{ns:List Nat}{ws:List Int}(hl:ns.length=ws)(hu:up ns 0=true)(hn:∀n∈ns,n<4294967296):whole (pc o ns ws 0)=true:=
 (Aj _).2 (Pq o ns ws 0 hl hu hn aq)
end Gd
variable{zP:Prop}
def vz(h:zP:=by
 rcases this with h|⟨h1,h2,h3⟩
 ·exact .inl h
 ·right;omega):zP:=h
namespace xu
open Gd
variable{B base' i j n t:Nat}{W a w w' w4:ay}{l xs:List Span}{u v:aA}
structure Node where
 leaf:Bool
 way:Int
 at_:Nat
 less:Int
 more:Int
def qF(n:Node):List aA:= [.bool n.leaf,.int .i64 n.way,.int .u32 n.at_,.int .i64 n.less,.int .i64 n.more]
def mU(n:Node):(qF n).length=5:=rfl
def Dr(s:Node):∀u∈qF s,u.oneCell'=true:=by intro u hu;simp[qF]at hu;rcases hu with rfl|rfl|rfl|rfl|rfl<;>rfl
def rW{xs:List Node}(h:Rd w 5 qF v xs):∃a c,v= .slice a xs c/\xs.length<=c/\∀i,(hi:i<xs.length)->∃b o,a=some ⟨b,o,none⟩/\w.cell? ⟨b,o+i*5,none⟩=some (.bool xs[i].leaf)/\w.cell? ⟨b,o+i*5+1,none⟩=some (.int .i64 xs[i].way)/\w.cell? ⟨b,o+i*5+2,none⟩=some (.int .u32 (xs[i].at_:Int))/\w.cell? ⟨b,o+i*5+3,none⟩=some (.int .i64 xs[i].less)/\w.cell? ⟨b,o+i*5+4,none⟩=some (.int .i64 xs[i].more):=by obtain⟨a,c,h1,h2,h3,h4⟩:=h;refine⟨a,c,h1,h2,λi hi=> ?_⟩;obtain⟨b,o,e,k⟩:=h4 i hi;exact⟨b,o,e,k 0 eQ,k 1 eQ,k 2 eQ,k 3 eQ,k 4 eQ⟩
def tq(len i:Nat)(n:Node):Bool:=n.leaf||(decide ((i:Int)<n.less)&&decide ((i:Int)<n.more)&&decide (n.less<(len:Int))&&decide (n.more<(len:Int)))
def iq(len:Nat):List Node->Nat->Bool
 | [],_=>true
 |n::r,i=>tq len i n&&iq len r (i+1)
def may(t:List Node):Bool:=iq t t 0&&decide (0<t.length)
def zK:∀ {r:List Node} {len i j:Nat},iq len r i=true->∀(h:j<r),tq len (i+j) r[j]=true
 |n::r,len,i,0,hm,_=>by simp only[iq,bA]at hm;exact hm.1
 |n::r,len,i,j+1,hm,h=>by simp only[iq,bA]at hm;have:=zK hm.2 (j:=j) cT;simpa[Nat.add_assoc,Nat.add_comm 1 j]using this
def C1:∀ {r:List Node} {len i:Nat},(∀j (h:j<r.length),tq len (i+j) r[j]=true)->iq len r i=true
 | [],_,_,_=>rfl
 |n::r,len,i,h=>by simp only[iq,bA];refine⟨h 0 aE,C1 λj hj=> ?_⟩;have:=h (j+1) (by simpa using hj);simpa[Nat.add_assoc,Nat.add_comm 1 j]using this
def C0{t:List Node}(h:may t=true):0<t.length:=by unfold may at h;simp at h;exact h.2
def Gs{t:List Node}(h:may t=true)(hj:j<t)(hl:t[j].leaf=false):(j:Int)<t[j].less/\(j:Int)<t[j].more/\t[j].less<(t:Int)/\t[j].more<(t:Int):=by unfold may at h;rw[bA]at h;have:=zK h.1 hj;unfold tq at this;rw[hl,cO]at this;simp at this;exact⟨this.1.1.1,this.1.1.2,this.1.2,this.2⟩
def uG(xs:List Span)(i:Nat):Nat:=match xs[i]? with|some s=>s.lo|none=>0
def Qh(h:i<xs):uG xs i=xs[i].lo:=by unfold uG;rw[aJ h]
def grw:Nat->List Span->Nat->List Node
 |0,_,_=>[]
 |f+1,l,a=>if l.length/2=0 then [⟨true,wy l 0,0,0,0⟩]else
  let less:=grw f (l.take (l.length/2)) (a+1)
  ⟨false,0,uG l (l.length/2),(a:Int)+1,(a:Int)+1+less.length⟩::(less++grw f (l.drop (l.length/2)) (a+1+less.length))
def Dh:∀(f:Nat) {l:List Span} {a g:Nat},0<l.length->l.length<=f->l.length<=g->grw f l a=grw g l a
 |0,l,a,g,h,hf,_=>aq
 |f+1,l,a,0,h,_,hg=>aq
 |f+1,l,a,g+1,h,hf,hg=>by
  unfold grw;split
  ·rfl
  ·have h1:grw f (l.take (l.length/2)) (a+1)=grw g (l.take (l.length/2)) (a+1):=Dh f cQ cQ cQ;rw[h1];dsimp only;rw[Dh f (g:=g) dt dt dt]
def Bq(l:List Span)(a:Nat):List Node:=grw l l a
def Ak{a:Nat}(h:l.length=1):Bq l a=[⟨true,wy l 0,0,0,0⟩]:=by unfold Bq;rw[h];unfold grw;rw[aV (by rw[h])]
def Ct{a:Nat}(h:2<=l.length):Bq l a=⟨false,0,uG l (l.length/2),(a:Int)+1,(a:Int)+1+(Bq (l.take (l.length/2)) (a+1)).length⟩::(Bq (l.take (l.length/2)) (a+1)++Bq (l.drop (l.length/2)) (a+1+(Bq (l.take (l.length/2)) (a+1)).length)):=by
 unfold Bq;obtain⟨f,hf⟩:∃g,l.length=g+1:=⟨l.length-1,aq⟩
 conv=>lhs;rw[hf];unfold grw
 rw[aN aq];dsimp only;rw[Dh f (l:=l.take (l.length/2)) (g:=(l.take (l.length/2)).length) cQ cQ (aD _),
  Dh f (l:=l.drop (l.length/2)) (g:=(l.drop (l.length/2)).length) dt dt (aD _)]
def C4{P:List Span->Prop}(h1:∀l,l.length=1->P l)(h2:∀l,2<=l.length->P (l.take (l.length/2))->P (l.drop (l.length/2))->P l):∀l,0<l.length->P l:=by
 have:∀n l,l.length<=n->0<l.length->P l:=by
  intro n
  induction n with
  |zero=>intro l h h';omega
  |succ n ih=>
   intro l h h';by_cases h3:l.length=1
   ·exact h1 l h3
   ·exact h2 l aq (ih _ cQ cQ) (ih _ dt dt)
 exactλl h=>this l.length l (aD _) h
def uO:∀l:List Span,0<l.length->∀a,(Bq l a).length=2*l.length-1:=by
 refine C4 (λl h a=> ?_) (λl h ih1 ih2 a=> ?_)
 ·rw[Ak h,h];rfl
 ·rw[Ct h,aO,aH,ih1,ih2,bC,cZ];omega
def GY{a:Nat}(h:2<=l.length):Bq l a=⟨false,0,uG l (l.length/2),(a:Int)+1,(a:Int)+1+(2*(l.length/2)-1:Nat)⟩::(Bq (l.take (l.length/2)) (a+1)++Bq (l.drop (l.length/2)) (a+1+(2*(l.length/2)-1))):=by have:=uO (l.take (l.length/2)) cQ (a+1);rw[bC,dI aq]at this;rw[Ct h,this]
def aiv:∀l:List Span,0<l.length->∀(a j:Nat)(hj:j<(Bq l a).length),(Bq l a)[j].leaf=true\/((Bq l a)[j].less=(a:Int)+j+1/\(a:Int)+j+1<(Bq l a)[j].more/\(Bq l a)[j].more<(a:Int)+(2*l.length-1:Nat)):=by
 refine C4 (λl h a j hj=> ?_) (λl h ih1 ih2 a j hj=> ?_)
 ·have e:=Ak (a:=a) h;rw[uO l aq,h]at hj;obtain rfl:j=0:=aq;left;simp[e]
 ·have e:=GY (a:=a) h;rw[uO l aq]at hj;have l1:=uO (l.take (l.length/2)) cQ (a+1);have l2:=uO (l.drop (l.length/2)) dt (a+1+(2*(l.length/2)-1));rw[bC,dI aq]at l1;rw[cZ]at l2;simp only[e];cases j with
  |zero=>right;simp only[jc];omega
  |succ j=>
   simp only[iW];by_cases hjl:j<2*(l.length/2)-1
   ·rw[aqb aq];have:=ih1 (a+1) j aq;rw[bC,dI aq]at this;exact vz
   ·rw[List.getElem_append_right aq];simp only[l1];have:=ih2 (a+1+(2*(l.length/2)-1)) (j-(2*(l.length/2)-1)) aq;rw[cZ]at this;exact vz
def ae6(h:0<l.length):may (Bq l 0)=true:=by
 have hl:=uO l h 0;unfold may;rw[bA];refine⟨C1 λj hj=> ?_,by rw[dK,hl];omega⟩;have:=aiv l h 0 j hj;unfold tq;rcases this with h|⟨h1,h2,h3⟩
 ·rw[h];rfl
 ·simp;right;rw[hl];omega
def yh(l:List Span):List Node×Int:=if whole l=true then(Bq l 0,0)else([],240)
def Ai(h:whole l=true):0<l.length:=by
 rcases l with _|⟨s,r⟩
 ·rw[Yd]at h;cases h
 ·simp
def leaves(t:List Node):List Int:=(t.filter (·.leaf)).map (·.way)
def Tk:∀l:List Span,0<l.length->∀a,leaves (Bq l a)=wys l:=by
 refine C4 (λl h a=> ?_) (λl h ih1 ih2 a=> ?_)
 ·rw[Ak h]
  match l,h with
  | [s],_=>rfl
 ·rw[GY h];unfold leaves at *;rw[List.filter_cons_of_neg aE,jy,bL,ih1,ih2];unfold wys;rw[<-bL,List.take_append_drop]
theorem Xb:(Tryz.prog.info? 422).map (λi=>(i.zero,i.size,i.bytes))=some (some (.agg #[.bool false,.int .i64 0,.int .u32 0,.int .i64 0,.int .i64 0]),5,40):=ax
def tC(w:ay)(base:Nat)(v:aA)(xs:List Node):Prop:=w.ownsRow base 422 5 v xs (xs.flatMap qF)
def tC.rd{base:Nat}{xs:List Node}(h:tC w base v xs):Rd w 5 qF v xs:=bY mU h
def tC.ext{base:Nat}{xs:List Node}(h:tC w base v xs)(hx:Ext w w'):tC w' base v xs:=mS
def tC.base{base:Nat}{xs:List Node}(h:tC W base u xs)(hb:base'<=base):tC W base' u xs:=jb
abbrev Kp(base Bt:Nat):Nat->Prop:=λk=>k<base/\k≠Bt
def Qt{base Bt:Nat}(h:Keep (Kp base Bt) a w)(hb:base<=w.heap.size)(o:Obj):Keep (Kp base Bt) a (w.alloc o):=h.trans (Keep.alloc w (λk hk=>by have:=hk.1;omega) o)
def Nc{base Bt:Nat}(h:Keep (Kp base Bt) a w):Keep (Kp base Bt) a w.drew:=⟨h.os,h.tape,h.output,h.size,h.block⟩
def C6{base Bt:Nat}(h:Keep (Kp base Bt) a w)(n:Nat):Keep (Kp base Bt) a (w.drewN n):=by
 induction n with
 |zero=>exact h
 |succ n ih=>exact Nc ih
def Qs{base Bt:Nat}(h:Keep (Kp base Bt) a w)(hb:base<=w.heap.size)(hg:w.grownBy w' u.ownBlock)(hlo:∀k,u.ownBlock=some k->base<=k/\k<w.heap.size):Keep (Kp base Bt) a w':=
 h.trans ⟨hg.os,hg.tape,hg.output,hg.size,λk hk=>hg.block k (by have:=hk.1;omega) (λe=>by have:=(hlo k e.symm).1;have:=hk.1;omega)⟩
def acF{base Bt:Nat}(h:Keep (Kp base Bt) a w)(v:aA):Keep (Kp base Bt) a (w.setCell Bt v):=h.trans (Keep.setCell w (λh=>h.2 rfl) v)
def acE{base Bt:Nat}(h:Keep (Kp base Bt) a w){p:Addr}(hp:base<=p.block)(v:aA):Keep (Kp base Bt) a (w.setCell p v):=h.trans (Keep.setCell w (λh=>by have:=h.1;omega) v)
def Rn{o:Obj}{row:Option Nat}(h:Boxed w B t v)(hg:(w.alloc o).drew.grownBy w4 row)(hne:some B≠row):Boxed w4 B t v:=
 Boxed.kept (W:=(w.alloc o).drew) (h.alloc o) hg hne
def PK{base:Nat}{xs:List Node}(h:tC w base v xs)(hB:B<base)(u:aA):tC (w.setCell B u) base v xs:=ownsRow_setCell_below (a:=⟨B,0,none⟩) h hB u
def MU{base:Nat}{xs:List Node}(h:w.ownsRow base 422 5 v n (xs.flatMap qF))(hn:n=xs.length):tC w base v xs:=by subst hn;exact h
def Bu(Bt Bg:Nat):aA:= .func (.func 294) #[] #[.pointer (some Bt),.pointer (some Bg)]
def D1(base Bt:Nat)(out:List Node)(w:ay)(e:Ending)(w':ay):Prop:=
 e= .returned (.tuple #[])/\∃u',Boxed w' Bt 363 u'/\tC w' base u' out/\Keep (Kp base Bt) w w'
theorem ada(Bt Bg base:Nat)(hBt:Bt<base)(l:List Span)(v u:aA)(out:List Node)(w:ay)(h1:l.length=1)(ho:out.length<=100000)(hb:base<=w.heap.size)(bt:Boxed w Bt 363 u)(hown:tC w base u out)(hR:Rd w 3 encS v l):Calls prog 294 #[v,.pointer (some Bt),.pointer (some Bg)] w (D1 base Bt (out++Bq l out) w):=by
 obtain⟨ad,c,rfl,hac,hca⟩:=CO hR;clear hR;obtain⟨b,o,rfl,-,-,f3⟩:=hca 0 aq;rw[Nat.zero_mul,iB]at f3;have hk0:(l:Int)/2=0:=aq;have hb1:(0:Int)<l:=aq;have hb2:0<l.length:=aq;have htr:=Ak (a:=out.length) h1;have hwy:wy l 0=l[0].way:=aim aq;rw[<-hwy]at f3;clear hwy;rw[htr];generalize wy l 0=y at *;have cbt:=bt.cell;have hlo:=hown.lt;have JK:∀o,(w.alloc o).cell? Bt=some u:=λo=>(bt.alloc o).cell
 have hel:out.length+[(⟨true,y,0,0,0⟩:Node)].length=out.length+1:=rfl;clear htr;have Hh1:=ah h1;have wY:=ah hown;clear h1 hown;have KH:=ah hlo;have Hbt:=ah bt;clear hlo hca;go_in;go_wp2;(go_region_law((refine pI rfl (.tmp 11) (.tmp 17) _ rfl underlying363 Xb rfl az mU Dr base _ _ out [⟨true,y,0,0,0⟩] (by rfl) (by rfl) (by exact dM wY.o _) (Rd.ext ((aj _).drew) (gI mU w [⟨true,y,0,0,0⟩] _ _ rfl)) bp az bp ?_;intro au4 cu4 w4 rY hg4;rw[hel]at rY⊢;have bt4:=Rn Hbt.o hg4 (by intro e;have:=(KH.o _ e.symm).1;omega);have asD:=bt4.cell;have asE:=bt4.frozen;have alh:=ah bt4;have ak1:=ah rY;have ak8:=ah hg4;clear bt4 rY hg4)))
 all_goals
  go_wp2;refine aM (bH rfl _ _ _) rfl ?_;refine⟨rfl,_,alh.o.set _,PK (MU ak1.o aE) hBt _,?_⟩;exact acF (Qs (Nc (Qt (Keep.refl _ _) hb _)) bp ak8.o (λk hk=>⟨(KH.o k hk).1,by have:=(KH.o k hk).2;simp;omega⟩)) _
def ahg(base Bt:Nat)(out:List Node)(w w':ay):Prop:= ∃u',Boxed w' Bt 363 u'/\tC w' base u' out/\Keep (Kp base Bt) w w'
theorem ZL(Bt Bg base:Nat)(hBt:Bt<base)(hBg:Bg<base)(hne:Bg≠Bt)(l:List Span)(v u:aA)(out:List Node)(w:ay)(h2:2<=l.length)(hl:l.length<=1000)(ho:out.length+2*l.length<=100000)(hb:base<=w.heap.size)(bt:Boxed w Bt 363 u)(bg:Boxed w Bg 418 (Bu Bt Bg))(hown:tC w base u out)(hok:∀s∈l,OkS s)(hR:∀W,Keep (Kp base Bt) w W->Rd W 3 encS v l)(ih:∀(l':List Span)(v u:aA)(out:List Node)(w:ay),l'.length<l->0<l'.length->out.length+2*l'.length<=100000->base<=w.heap.size->Boxed w Bt 363 u->Boxed w Bg 418 (Bu Bt Bg)->tC w base u out->(∀s∈l',OkS s)->(∀W,Keep (Kp base Bt) w W->Rd W 3 encS v l')->Calls prog 294 #[v,.pointer (some Bt),.pointer (some Bg)] w (D1 base Bt (out++Bq l' out) w)):Calls prog 294 #[v,.pointer (some Bt),.pointer (some Bg)] w (D1 base Bt (out++Bq l out) w):=by
 obtain⟨ad,c,rfl,hac,hca⟩:=CO (hR w (Keep.refl _ _));obtain⟨au,cu,rfl,-⟩:=rW hown.rd;obtain⟨k,hk⟩:∃k,k=l.length/2:=⟨_,rfl⟩;have hk':(l:Int)/2=(k:Int):=aq;have hkz:((k:Int)==0)=false:=by simp;omega
 have htr:=GY (a:=out.length) h2;rw[<-hk]at htr;have hkl:k<l:=aq;have hb1:(k:Int)<l:=aq;have hb3:(k:Int)<=c:=aq;have hb4:(0:Int)<=k:=aq;have hb5:(l:Int)<=c:=aq;have hb6:(k:Int)<=l:=aq;have hlt:(l.take k).length=k:=by rw[bC];omega
 have hld:(l.drop k).length=l.length-k:=by rw[cZ]
 obtain⟨b,o,rfl,f1,-,-⟩:=hca k hkl;have hlo:uG l k=l[k].lo:=Qh hkl;rw[<-hlo]at f1;clear hlo hca;generalize uG l k=lo at *;have cbt:=bt.cell;have cbf:=bt.frozen;have hol:=hown.lt;have hws:IntKind.i64.wrap ((out:Int)+1)=(out:Int)+1:=IntWalk.i64_in _ aq;rw[htr];clear htr;have Hhk:=ah hk;have aeg:=ah hlt;clear hk hlt;have ak5:=ah hld;have A8:=ah hR;clear hld hR;have Hih:=ah ih;have wY:=ah hown;have ak0:=ah hol;clear ih hown hol;have Hbt:=ah bt;have Hbg:=ah bg;have Jw:=ah hok;clear bg hok;go_in;go_upto_region 4 with fail;go_cut [] (λwx=>ahg base Bt (out++[⟨false,0,lo,(out:Int)+1,0⟩]) w wx)
 case first=>
  have JK:∀o,(w.alloc o).cell? Bt=some (.slice au out cu):=λo=>(Hbt.o.alloc o).cell
  (go_region_law((refine pI rfl (.tmp 21) (.tmp 30) _ rfl underlying363 Xb rfl az mU Dr base _ _ out [⟨false,0,lo,(out:Int)+1,0⟩] (by rfl) (by rfl) (by exact dM wY.o _) (Rd.ext ((aj _).drew) (gI mU w [⟨false,0,lo,(out:Int)+1,0⟩] _ _ rfl)) bp az bp ?_;intro au4 cu4 w4 rY hg4;have bt4:=Rn Hbt.o hg4 (by intro e;have:=(ak0.o _ e.symm).1;omega);have asD:=bt4.cell;have asE:=bt4.frozen;have alh:=ah bt4;have ak1:=ah rY;have ak8:=ah hg4;clear bt4 rY hg4)))
  all_goals
   go_wp2_with fail;go_meet;exact⟨_,alh.o.set _,PK (MU ak1.o aE) hBt _,acF (Qs (Nc (Qt (Keep.refl _ _) hb _)) bp ak8.o (λk hk=>⟨(ak0.o k hk).1,by have:=(ak0.o k hk).2;simp;omega⟩)) _⟩
 case rest=>
  obtain⟨u5,b5,o5,k5⟩:=hcut;have bg5:Boxed wc Bg 418 (Bu Bt Bg):=(k5.block Bg ⟨hBg,hne⟩).trans Hbg.o;have hl5:(out++[(⟨false,0,lo,(out:Int)+1,0⟩:Node)]).length=out.length+1:=aE;have hr1:=λn=>Hih.o (l.take k) (.slice (some ⟨b,o,none⟩) k k) u5 (out++[(⟨false,0,lo,(out:Int)+1,0⟩:Node)]) (wc.drewN n) (by rw[aeg.o];omega) (by rw[aeg.o];omega) (by rw[hl5,aeg.o];omega) (by rw[heap_drewN];exact aL hb k5.size) (by unfold Boxed;rw[heap_drewN];exact b5) (by unfold Boxed;rw[heap_drewN];exact bg5) (rG o5 n) (λs hs=>Jw.o s (iU hs)) (λW hW=>(A8.o W ((C6 k5 n).trans hW)).take aq (aD _) (by intro h;cases h))
  have akD:wc.cell? Bg=some (.func (.func 294) #[] #[.pointer (some Bt),.pointer (some Bg)]):=bg5.cell;have K5:=ah k5;have BG5:=ah bg5;have apr:=ah hl5;have Hr1:=ah (hr1 1);clear hr1 b5 o5 k5 bg5 hl5;go_wp2_with fail
  (go_region_held3 (λw'=>w'.cell? Bg=some (.func (.func 294) #[] #[.pointer (some Bt),.pointer (some Bg)])) (first|exact akD|exact(Keep.cell HK6.o ⟨hBg,hne⟩).trans akD)
   (first|(go_at_call 294;refine ap Hr1.o ?_;rintro w6 ⟨u6,b6,o6,k6⟩;have HK6:=ah k6;have HB6:=ah b6;have A0:=ah o6;clear k6 b6 o6)))
  have hL6:(out++[(⟨false,0,lo,(out:Int)+1,0⟩:Node)]++Bq (l.take k) (out++[(⟨false,0,lo,(out:Int)+1,0⟩:Node)]).length).length=out.length+2*k:=by rw[aH,apr.o,uO _ (by rw[aeg.o];omega),aeg.o];omega
  have o6:=A0.o;have b6:=HB6.o;rw[apr.o]at hL6 o6;obtain⟨L6,ac8⟩:∃L6,L6=out++[(⟨false,0,lo,(out:Int)+1,0⟩:Node)]++Bq (l.take k) (out+1):=⟨_,rfl⟩;rw[<-ac8]at hL6 o6;have AO:L6[out.length]?=some ⟨false,0,lo,(out:Int)+1,0⟩:=by rw[ac8,bI,Bk (aD _),Nat.sub_self];rfl
  obtain⟨an4,AO⟩:=List.getElem?_eq_some_iff.1 AO;obtain⟨g6,c6,rfl,arZ,ayP,ajU⟩:=mo o6 aq;obtain⟨a6,c6',e6,-,hc6⟩:=rW o6.rd;obtain⟨b7,o7,e7,-,-,-,-,m5⟩:=hc6 out an4;simp only[aU]at e6;rw[<-e6.1]at e7;obtain⟨rfl,rfl⟩:g6=b7/\0=o7:=by simpa using e7
  rw[cO]at m5;have hst:=λx=>kE (e:=422) mU o6 out 4 (.int .i64 x) ⟨false,0,lo,(out:Int)+1,x⟩ an4 az (by rw[AO];rfl)
  have hfz:=ajU (out.length*5+4);have cb6:=b6.cell;have an3:(out:Int)<L6:=aq;rw[hL6]at cb6 an3;have ajE:=λx=>(hst x).1
  rw[hL6]at ajE;have ayZ:g6≠Bt:=aq;have hv6:L6.set out ⟨false,0,lo,(out:Int)+1,((out.length+2*k:Nat):Int)⟩=out++⟨false,0,lo,(out:Int)+1,(out:Int)+1+(2*k-1:Nat)⟩::Bq (l.take k) (out+1):=by rw[ac8,bI,List.set_append_right _ _ (aD _),Nat.sub_self];simp;omega
  rw[hL6]at b6;generalize hq:out.length+2*k=q at *;have ag1:=ah hst;have ah6:=ah ajE;clear hst ajE;have apH:=ah hL6;have apG:=ah ac8;clear hL6 ac8;have aAw:=ah AO;have aw6:=ah ajU;clear AO ajU;have agZ:=ah hv6;have Hb6:=ah b6;clear hv6 b6;have Ho6:=ah o6;have Hhq:=ah hq;clear o6 hq HB6 A0 hc6 e6 e7;go_wp2_with fail;have b7:Boxed (w6.setCell ⟨g6,out.length*5+4,none⟩ (.int .i64 q)) Bt 363 (.slice (some g6) q c6):=by unfold Boxed;rw[aX _ _ _ _ cG];exact Hb6.o
  have k7:Keep (Kp base Bt) w (w6.setCell ⟨g6,out.length*5+4,none⟩ (.int .i64 q)):=acE ((C6 K5.o 1).trans HK6.o) arZ _;have o7:=ah6.o (q:Int);have hL7:(L6.set out (⟨false,0,lo,(out:Int)+1,(q:Int)⟩:Node)).length=q:=by rw[dO];exact apH.o
  have o7':tC (w6.setCell ⟨g6,out.length*5+4,none⟩ (.int .i64 q)) base (.slice (some g6) q c6) (L6.set out ⟨false,0,lo,(out:Int)+1,(q:Int)⟩):=MU o7 hL7.symm;have hv6:=agZ.o;have hqv:=Hhq.o;generalize(w6.setCell ⟨g6,out.length*5+4,none⟩ (.int .i64 q))=w7 at *;generalize(L6.set out (⟨false,0,lo,(out:Int)+1,(q:Int)⟩:Node))=L7 at *;have bg7:Boxed w7 Bg 418 (Bu Bt Bg):=(k7.block Bg ⟨hBg,hne⟩).trans Hbg.o;have hr2:=Hih.o (l.drop k) (.slice (some ⟨b,o+k*3,none⟩) (l-k) (l.length-k)) _ L7 (w7.drewN 1) (by rw[ak5.o];omega) (by rw[ak5.o];omega) (by rw[hL7,ak5.o];omega) (by rw[heap_drewN];exact aL hb k7.size) (by unfold Boxed;rw[heap_drewN];exact b7) (by unfold Boxed;rw[heap_drewN];exact bg7) (rG o7' 1) (λs hs=>Jw.o s (List.mem_of_mem_drop hs)) (λW hW=>(A8.o W ((C6 k7 1).trans hW)).drop aq (λ_=>by simp only[dN,Addr.add];rw[aN aq]) (by intro h;cases h) (aD _));rw[hL7]at hr2;have aoU:w7.cell? Bg=some (.func (.func 294) #[] #[.pointer (some Bt),.pointer (some Bg)]):=bg7.cell;have ayL:¬l.length=k:=aq;have avu:¬k=0:=aq;have avt:¬k*3=0:=aq;have hqn:q=out.length+1+(2*k-1):=aq;have K7:=ah k7;have akY:=ah hr2;have agZ:=ah hv6;clear hr2 hv6;have aAs:=ah hqv;have aAC:=ah hL7;have atc:=ah hqn;clear hqv hL7 hqn;clear b7 o7 o7' k7 bg7 cb6 hfz m5 akD ag1 ah6 agZ Hb6 Ho6 apH apG Hhq
  (go_region_held3 (λw'=>w'.cell? Bg=some (.func (.func 294) #[] #[.pointer (some Bt),.pointer (some Bg)])) (first|exact aoU|exact(Keep.cell HK8.o ⟨hBg,hne⟩).trans aoU)
   (first|(go_at_call 294;refine ap akY.o ?_;rintro w8 ⟨u8,b8,o8,k8⟩;have HK8:=ah k8;have HB8:=ah b8;have HO8:=ah o8;clear k8 b8 o8)))
  go_wp2_with fail;refine aM (bH rfl _ _ _) rfl ⟨rfl,u8,HB8.o,?_,(C6 K7.o 1).trans HK8.o⟩;have o8:=HO8.o;rw[atc.o]at o8;simpa[agZ.o]using o8
theorem UO(Bt Bg base:Nat)(hBt:Bt<base)(hBg:Bg<base)(hne:Bg≠Bt):∀(m:Nat)(l:List Span)(v u:aA)(out:List Node)(w:ay),l.length<=m->0<l.length->l.length<=1000->out.length+2*l.length<=100000->base<=w.heap.size->Boxed w Bt 363 u->Boxed w Bg 418 (Bu Bt Bg)->tC w base u out->(∀s∈l,OkS s)->(∀W,Keep (Kp base Bt) w W->Rd W 3 encS v l)->Calls prog 294 #[v,.pointer (some Bt),.pointer (some Bg)] w (D1 base Bt (out++Bq l out) w):=by
 intro m
 induction m with
 |zero=>intro l v u out w h1 h2;omega
 |succ m ih=>
  intro l v u out w h1 h2 h3 h4 h5 bt bg ho hok hR;by_cases h:l.length=1
  ·exact ada Bt Bg base hBt l v u out w h aq h5 bt ho (hR w (Keep.refl _ _))
  ·exact ZL Bt Bg base hBt hBg hne l v u out w aq h3 h4 h5 bt bg ho hok hR (λl' v u out w a1 a2 a3 a4 a5 a6 a7 a8 a9=>ih l' v u out w aq a2 aq a3 a4 a5 a6 a7 a8 a9)
def afr{α:Type}{enc:α->List aA}{xs:List α}(h:Rd w n enc v xs)(hk:∀k,k<w.heap.size->W.heap[k]?=w.heap[k]?):Rd W n enc v xs:=by obtain⟨a,c,h1,h2,h3,h4⟩:=h;refine⟨a,c,h1,h2,h3,λi hi=> ?_⟩;obtain⟨b,o,e,hat⟩:=h4 i hi;refine⟨b,o,e,λj hj=> ?_⟩;have:=hat j hj;rw[eG (w:=w) (hk b (aY _ _ this))];exact this
theorem Ah(v:aA)(l:List Span)(hl:l.length<=1000)(hok:∀s∈l,OkS s)(w:ay)(hv:Rd w 3 encS v l):Calls prog 244 #[v] w λe w'=>∃u,e= .returned (.tuple #[u,.int .i64 (yh l).2])/\Ext w w'/\tC w' w u (yh l).1:=by
 have hWh:=RA v l aq hok w hv;cases hw:whole l
 case false=>
  have hA:yh l=([],240):=by unfold yh;rw[hw];rfl
  rw[hA];rw[hw]at hWh;have alc:=ah hWh;have Hhw:=ah hw;have pQ:=ah hA;clear hWh hw hA;go_in;go_wp2_with(go_at_call 293;refine ap alc.o ?_;intro w1 hx1);go_ret2;exact⟨_,rfl,hx1,dB _ _ _ _⟩
 case true=>
  have hA:yh l=(Bq l 0,0):=by unfold yh;rw[hw];rfl
  have hp:=Ai hw;rw[hA];rw[hw]at hWh;have alc:=ah hWh;have Hhw:=ah hw;have pQ:=ah hA;clear hWh hw hA;go_in;go_wp2_with(go_at_call 293;refine ap alc.o ?_;intro w1 hx1);have b1:=Boxed.new w1 363 (.slice none 0 0);have b2:=Boxed.new (w1.alloc (.cells #[.slice none 0 0] 363)) 418 (Bu w1 (w1+1));rw[aR]at b2;replace b1:=b1.alloc (.cells #[Bu w1 (w1+1)] 418);have hE0:Ext w1 ((w1.alloc (.cells #[.slice none 0 0] 363)).alloc (.cells #[Bu w1 (w1+1)] 418)):=((aj w1).alloc _).alloc _;have hsz0:((w1.alloc (.cells #[.slice none 0 0] 363)).alloc (.cells #[Bu w1 (w1+1)] 418)).heap.size=w1.heap.size+2:=aE;unfold Bu at b1 b2 hE0 hsz0;generalize((w1.alloc (.cells #[.slice none 0 0] 363)).alloc _)=W0 at *;have hv1:=hv.ext hx1;refine(UO w1 (w1+1) (w1.heap.size+2) aq aq aq l l v (.slice none 0 0) [] W0 (aD _) hp hl bp aq b1 b2 (dB _ _ _ _) hok
   (λW hW=>afr hv1 (λk hk=>(hW.block k ⟨aq,aq⟩).trans (hE0.block hk)))).mono ?_
  rintro e w2 ⟨rfl,u,bu,hu,hk⟩;have cu:=bu.cell;have jm:=ah (hx1.trans (Below.trans hE0 (hk.below (λk hk=>⟨aq,aq⟩))));have HU:=ah (hu.base (base':=w.heap.size) (by have:=hx1.size;omega));clear hk hu bu hE0 b1 b2 hsz0;go_wp2_with fail;go_ret2;exact⟨_,rfl,jm.o,by simpa using HU.o⟩
end xu
end Go.Proofs.YtopfefhenfineaaGreat
