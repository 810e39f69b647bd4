import Derived.Test.YtopfefhenfineaaGreatP1
import Derived.Test.YtopfefhenfineaaGreatP3
import Derived.Laws.Bits64b
import Derived.Laws.StructEq
import Derived.Lib.SmallJoins
import Derived.Laws.IdiomStrings
import Derived.Laws.BitsAllLaws
set_option linter.all false
set_option maxRecDepth 100000
set_option maxHeartbeats 4000000
namespace Go.Proofs.YtopfefhenfineaaGreat
open Go.Proofs.Tryz Go.RowKit V
attribute[local go_sem] Oper.semAt_some
variable{zP:Prop}
def ro(h:zP:=by have Ea:=ah hf;clear hf hnot;go_wp2_with fail;go_ret2;exact⟨by rw[Ea.o];rfl,kg.o⟩):zP:=h
def ol(h:zP:=by go_wp2_with fail;go_ret2;exact⟨by rw[N2.o];rfl,kg.o⟩):zP:=h
namespace nG
abbrev Nm:=List aZ×Nat
def bytes(s:aK):List aZ:=s.data.toList
def str(l:List aZ):aK:=⟨l.toArray⟩
def eD(s:aK):(bytes s).length=s.size:=rfl
def kI(l:List aZ):(str l).size=l.length:=rfl
def bytes_inj{s t:aK}(h:bytes s=bytes t):s=t:=tf
def iE(l:List aZ):bytes (str l)=l:=by simp[bytes,str]
def nY(s:aK):str (bytes s)=s:=bytes_inj (iE _)
def vO(x:Nm):List aA:= [.string (str x.1),.int .u32 x.2]
def zX(x:Nm):(vO x).length=2:=rfl
def F8:List Nm:= [([69,80,69,82,77],1),([69,78,79,69,78,84],2),([69,73,79],5),([69,66,65,68,70],9),([69,65,71,65,73,78],11),([69,78,79,77,69,77],12),([69,65,67,67,69,83],13),([69,70,65,85,76,84],14),([69,66,85,83,89],16),([69,78,79,68,69,86],19),([69,73,78,86,65,76],22),([69,78,79,83,89,83],38),([69,79,80,78,79,84,83,85,80,80],95),([69,65,70,78,79,83,85,80,80,79,82,84],97),([69,84,73,77,69,68,79,85,84],110)]
def rO:Array aA:= #[.string ⟨#[69,80,69,82,77]⟩,.int .u32 1,.string ⟨#[69,78,79,69,78,84]⟩,.int .u32 2,.string ⟨#[69,73,79]⟩,.int .u32 5,.string ⟨#[69,66,65,68,70]⟩,.int .u32 9,.string ⟨#[69,65,71,65,73,78]⟩,.int .u32 11,.string ⟨#[69,78,79,77,69,77]⟩,.int .u32 12,.string ⟨#[69,65,67,67,69,83]⟩,.int .u32 13,.string ⟨#[69,70,65,85,76,84]⟩,.int .u32 14,.string ⟨#[69,66,85,83,89]⟩,.int .u32 16,.string ⟨#[69,78,79,68,69,86]⟩,.int .u32 19,.string ⟨#[69,73,78,86,65,76]⟩,.int .u32 22,.string ⟨#[69,78,79,83,89,83]⟩,.int .u32 38,.string ⟨#[69,79,80,78,79,84,83,85,80,80]⟩,.int .u32 95,.string ⟨#[69,65,70,78,79,83,85,80,80,79,82,84]⟩,.int .u32 97,.string ⟨#[69,84,73,77,69,68,79,85,84]⟩,.int .u32 110]
def I5:rO.toList=F8.flatMap vO:=by rfl
theorem Nz(w:ay):Rt 340 #[] w (.agg rO):=by
 unfold Rt;go_in;go_upto_region 1 with fail;apply wp_region_lit;refine bT 180 1 #[.string ⟨#[69,80,69,82,77]⟩,.int .u32 1] ?_;refine bT 180 2 #[.string ⟨#[69,78,79,69,78,84]⟩,.int .u32 2] ?_;refine bT 180 3 #[.string ⟨#[69,73,79]⟩,.int .u32 5] ?_;refine bT 180 4 #[.string ⟨#[69,66,65,68,70]⟩,.int .u32 9] ?_;refine bT 180 5 #[.string ⟨#[69,65,71,65,73,78]⟩,.int .u32 11] ?_;refine bT 180 6 #[.string ⟨#[69,78,79,77,69,77]⟩,.int .u32 12] ?_;refine bT 180 7 #[.string ⟨#[69,65,67,67,69,83]⟩,.int .u32 13] ?_;refine bT 180 8 #[.string ⟨#[69,70,65,85,76,84]⟩,.int .u32 14] ?_;refine bT 180 9 #[.string ⟨#[69,66,85,83,89]⟩,.int .u32 16] ?_;refine bT 180 10 #[.string ⟨#[69,78,79,68,69,86]⟩,.int .u32 19] ?_;refine bT 180 11 #[.string ⟨#[69,73,78,86,65,76]⟩,.int .u32 22] ?_;refine bT 180 12 #[.string ⟨#[69,78,79,83,89,83]⟩,.int .u32 38] ?_;refine bT 180 13 #[.string ⟨#[69,79,80,78,79,84,83,85,80,80]⟩,.int .u32 95] ?_;refine bT 180 14 #[.string ⟨#[69,65,70,78,79,83,85,80,80,79,82,84]⟩,.int .u32 97] ?_;refine bT 180 15 #[.string ⟨#[69,84,73,77,69,68,79,85,84]⟩,.int .u32 110] ?_;refine bT 452 16 (rO) ?_;refine wpList_store_rowTo rfl 452 _ _ rfl rfl w.heap.size rO bj bj 452 _ (heap_alloc_last w _) ax ax ax ?_;rw[World.setRow_alloc_new];apply wpList_nil;rename_i hK;refine hK _ _ ?_;have key:∀A:Act,A.tmps.getD 0 undef= .pointer (some w)->A.defers=[]->Code.wp prog Code.ret (bodyPost prog Tryz.f340 λe w'=>e= .returned (.agg rO)/\Ext w w') A (w.alloc (.cells rO 452)):=by intro A h0 hd;go_wp2_with fail;exact aM (v:= .agg rO) (dV results340 _ _ _ _ _ _ _ h0 (heap_alloc_last w _) underlying452 rfl ax) hd ⟨rfl,(aj _).alloc _⟩
 exact tw
def sU(t s:aK):(t.toList==s.toList)=(bytes t==bytes s):=by rw[Lib.toList_data,Lib.toList_data];rfl
def oh{α:Type}{p:α->Bool}:∀ {l:List α} {i:Nat} (h:i<l),(∀(j:Nat)(hj:j<l),j<i->p l[j]=false)->p l[i]=true->l.find? p=some l[i]
 |x::r,0,_,_,hp=>by simp at hp;simp[List.find?,hp]
 |x::r,i+1,h,hn,hp=>by have h0:p x=false:=hn 0 aE aq;have:=oh (p:=p) (l:=r) (i:=i) (Nat.lt_of_succ_lt_succ h) (λj hj hji=>hn (j+1) (Nat.succ_lt_succ hj) aq) hp;simp[List.find?,h0,this]
def tu{α:Type}{p:α->Bool}{l:List α}(h:∀(j:Nat)(hj:j<l),p l[j]=false):l.find? p=none:=lA
def j7(l:List Nm)(s:List aZ)(no:Int):Nat×Int:=match l.find? (λx=>x.1==s)with
 |some x=>(x.2,0)
 |none=>(0,no)
def CK{w:ay}{v:aA}{xs:List Nm}(h:Rd w 2 vO v xs):∃a c,v= .slice a xs c/\xs.length<=c/\∀i,(hi:i<xs.length)->∃b o,a=some ⟨b,o,none⟩/\w.cell? ⟨b,o+i*2,none⟩=some (.string (str (xs[i]).1))/\w.cell? ⟨b,o+i*2+1,none⟩=some (.int .u32 ((xs[i]).2:Int)):=lE
theorem xX(l:List Nm)(v:aA)(s:aK)(no:Int)(w:ay)(hv:Rd w 2 vO v l)(hl:l.length<=1000):Rt 341 #[v,.string s,.int .i64 no] w (.tuple #[.int .u32 ((j7 l (bytes s) no).1:Int),.int .i64 (j7 l (bytes s) no).2]):=by obtain⟨a,c,rfl,hac,hc⟩:=CK hv;exact gC
def Aq{W:ay}{t:dz}{n:Nat}{enc:Nm->List aA}(henc:∀x,(enc x).length=n){c:Array aA}{l:List Nm}(h:c.toList=l.flatMap enc):Rd (W.alloc (.cells c t)) n enc (.slice (some W) l l) l:=by have:=gI henc W l t W rfl;rw[<-h]at this;exact sd
theorem adr(W:ay):(storeCells W rO.toList 0).run prog (W.alloc (.cells #[.string ⟨#[]⟩,.int .u32 0,.string ⟨#[]⟩,.int .u32 0,.string ⟨#[]⟩,.int .u32 0,.string ⟨#[]⟩,.int .u32 0,.string ⟨#[]⟩,.int .u32 0,.string ⟨#[]⟩,.int .u32 0,.string ⟨#[]⟩,.int .u32 0,.string ⟨#[]⟩,.int .u32 0,.string ⟨#[]⟩,.int .u32 0,.string ⟨#[]⟩,.int .u32 0,.string ⟨#[]⟩,.int .u32 0,.string ⟨#[]⟩,.int .u32 0,.string ⟨#[]⟩,.int .u32 0,.string ⟨#[]⟩,.int .u32 0,.string ⟨#[]⟩,.int .u32 0] 452))= .ok () (W.alloc (.cells rO 452)):=run_storeCells_new (P:=prog) W _ _ _ ax ax ax
def m9(x:aZ):List aA:= [.int .u8 x.toNat]
theorem Ja(w:ay)(s:aK):(convert 9 22 (.string s)).run prog w= .ok (.slice (some w) s.size (grownCap w s.size 0 5)) (w.drew.alloc (.cells (bytesRow s (grownCap w s.size 0 5)) 5 ((bytesRow s (grownCap w s.size 0 5)).size,(bytesRow s (grownCap w s.size 0 5)).size+1))):=
 run_bytes_of_string w _ _ _ s underlying9 underlying22 underlying5
def Hl(w:ay)(s:aK)(cap:Nat)(hc:s.size<=cap)(fr:Nat×Nat):Rd (w.alloc (.cells (bytesRow s cap) 5 fr)) 1 m9 (.slice (some w) s.size cap) (bytes s):=kt
def CQ{w:ay}{v:aA}{xs:List aZ}(h:Rd w 1 m9 v xs):∃a c,v= .slice a xs c/\xs.length<=c/\∀i,(hi:i<xs.length)->∃b o,a=some ⟨b,o,none⟩/\w.cell? ⟨b,o+i,none⟩=some (.int .u8 (xs[i].toNat:Int)):=by obtain⟨a,c,h1,h2,h3,h4⟩:=h;refine⟨a,c,h1,h2,λi hi=> ?_⟩;obtain⟨b,o,e,k⟩:=h4 i hi;have k0:=k 0 (by simp[m9]);exact⟨b,o,e,by simpa[m9]using k0⟩
def isD(c:aZ):Bool:=decide (48<=c.toNat)&&decide (c.toNat<=57)
def J1(l:List aZ):Nat:=l.foldl (λn c=>10*n+(c.toNat-48)) 0
def ai9(s:List aZ):Nat×Int:=if s.all isD=true/\1<=s.length/\s.length<=4/\J1 s<=4095 then(J1 s,0)else(0,160)
def mG(s:List aZ):Nat×Int:=if (j7 F8 s 160).2=0 then((j7 F8 s 160).1,0)else ai9 s
def KT(l:List aZ)(c:aZ):J1 (l++[c])=10*J1 l+(c.toNat-48):=by unfold J1;rw[gU];rfl
def VT:∀(k:Nat)(l:List aZ),l.length=k->l.all isD=true->J1 l<10^k
 |0,l,h,_=>by rw[bG h];decide
 |k+1,l,h,ha=>by
  obtain⟨r,x,rfl⟩:∃r x,l=r++[x]:=⟨l.dropLast,l.getLast (by intro e;subst e;simp at h),(List.dropLast_concat_getLast _).symm⟩;rw[List.all_append,bA]at ha;have h1:=VT k r (by rw[aH]at h;simpa using h) ha.1;have h2:isD x=true:=by simpa using ha.2
  unfold isD at h2;rw[bA,iH,iH]at h2;rw[KT,Nat.pow_succ];omega
def QW(l:List Nm)(s:List aZ)(no:Int):(j7 l s no).2=0\/(j7 l s no).2=no:=by
 unfold j7;split
 ·exact vq
 ·exact .inr rfl
theorem F0(s:aK)(hs:s.size<=1000000)(w:ay):Rt 269 #[.string s] w (.tuple #[.int .u32 ((mG (bytes s)).1:Int),.int .i64 (mG (bytes s)).2]):=by
 have hT:=λW=>Nz W
 have hF:=λv W (h:Rd W 2 vO v F8)=>xX F8 v s 160 W h az
 have hst:=adr;have hcv:=λW=>Ja W s
 have hE:mG (bytes s)=if (j7 F8 (bytes s) 160).2=0 then((j7 F8 (bytes s) 160).1,0)else ai9 (bytes s):=rfl
 have hok:=QW F8 (bytes s) 160;obtain⟨RR,hRR⟩:∃RR,RR=mG (bytes s):=⟨_,rfl⟩;rw[<-hRR]at hE⊢;generalize j7 F8 (bytes s) 160=R at *;obtain⟨r1,r2⟩:=R;dsimp only at hE hok hF;have vV:=ah hT;have Cj:=ah hF;clear hT hF hRR;rcases hok with rfl|rfl
 ·rw[aV rfl]at hE;subst hE;unfold Rt;go_in;go_wp2_with fail;refine ap (vV.o _) ?_;intro w1 hx1;go_wp2_with fail;refine ap (Cj.o _ _ (Aq zX I5)) ?_;exact oT
 ·rw[aN aE]at hE;have hN:RR=if (bytes s).all isD=true/\1<=(bytes s).length/\(bytes s).length<=4/\J1 (bytes s)<=4095 then(J1 (bytes s),0)else(0,160):=hE
  clear hE;have JQ:=ah hN;clear hN;unfold Rt;go_in;go_wp2_with fail;refine ap (vV.o _) ?_;intro w1 hx1;go_wp2_with fail;refine ap (Cj.o _ _ (Aq zX I5)) ?_;intro w2 hx2;have jm:=ah ((hx1.alloc (.cells rO 452)).trans hx2);clear hx1 hx2;go_wp2_with fail;have hrd:Rd ((w2.alloc (.cells (bytesRow s (grownCap w2 s.size 0 5)) 5 ((bytesRow s (grownCap w2 s.size 0 5)).size,(bytesRow s (grownCap w2 s.size 0 5)).size+1))).drew) 1 m9 (.slice (some w2) s.size (grownCap w2 s.size 0 5)) (bytes s):=Hl w2 s _ (grownCap_ge _ _ _ _) _;obtain⟨w3,hw3⟩:∃w3,w3=(w2.alloc (.cells (bytesRow s (grownCap w2 s.size 0 5)) 5 ((bytesRow s (grownCap w2 s.size 0 5)).size,(bytesRow s (grownCap w2 s.size 0 5)).size+1))).drew:=⟨_,rfl⟩;have kg:Hid (Ext w w3):=ah (by rw[hw3];exact(jm.o.alloc _).drew);rw[<-hw3]at hrd⊢;clear hw3 hcv hst;obtain⟨av,cv,hav,-,hcell⟩:=CQ hrd;simp only[aU]at hav;obtain⟨rfl,-,rfl⟩:=hav;have yx:=ah hcell;clear hcell hrd;generalize grownCap w2 s.size 0 5=cap at *;generalize w2.heap.size=bk at *;go_loopw [7,23] (λun ui wr=>∃i n:Nat,i<=s.size/\ui= .int .i64 i/\un= .int .i64 n/\n<=1048576/\((bytes s).take i).all isD=true/\(i<=4->n=J1 ((bytes s).take i))/\w3=wr) (λ_ ui _=>s.size-(intOf ui).toNat)
  case atStart=>exact⟨0,0,bP _,rfl,rfl,aq,rfl,λ_=>rfl,rfl⟩
  case round=>
   obtain⟨i,n,hi,rfl,rfl,hn,hall,hval,rfl⟩:=hrel;by_cases hlt:i<s.size
   ·have agu:i<(bytes s).length:=hlt;obtain⟨b,o,e,d0⟩:=yx.o i agu;simp only[dw,gD,and_true]at e;obtain⟨rfl,rfl⟩:=e;rw[cO]at d0;have hz:(i:Int)<s:=aq;have hwi:IntKind.i64.wrap ((i:Int)+1)=(i:Int)+1:=IntWalk.i64_in _ aq;have htk:(bytes s).take (i+1)=(bytes s).take i++[(bytes s)[i]]:=bE agu;have hnot:isD (bytes s)[i]=false->RR=(0,160):=λh=>by rw[JQ.o,aN];intro hh;have:=List.all_eq_true.1 hh.1 _ (aW agu);rw[h]at this;cases this
    generalize(bytes s)[i]=c at *;have hcl:=c.toNat_lt;have Jt:=ah htk;have qC:=ah hall;have aec:=ah hval;clear htk hall hval;by_cases h48:c.toNat<48
    ·have hf:RR=(0,160):=hnot (by unfold isD;simp;omega);have g1:decide ((c.toNat:Int)<48)=true:=aQ aq;have g2:decide (c.toNat<48)=true:=aQ h48;exact ro
    ·have g1:decide ((c.toNat:Int)<48)=false:=aT aq;have g2:decide (c.toNat<48)=false:=aT h48;by_cases h57:57<c.toNat
     ·have hf:RR=(0,160):=hnot (by unfold isD;simp;omega);have g3:decide ((57:Int)<c.toNat)=true:=aQ aq;have g4:decide (57<c.toNat)=true:=aQ h57;exact ro
     ·have g3:decide ((57:Int)<c.toNat)=false:=aT aq;have g4:decide (57<c.toNat)=false:=aT h57;have hD:isD c=true:=by unfold isD;simp;omega
      obtain⟨m,hm⟩:∃m,m=min (10*n+(c.toNat-48)) 1048576:=⟨_,rfl⟩;have an0:min (10*(n:Int)+((c.toNat:Int)-48)) 1048576=(m:Int):=aq;have hmb:m<=1048576:=aq;have aj1:((bytes s).take (i+1)).all isD=true:=by rw[Jt.o,List.all_append,qC.o];simpa using hD
      have hv2:i+1<=4->m=J1 ((bytes s).take (i+1)):=λh=>by have h1:=aec.o aq;have h2:=VT i _ cQ qC.o;have h3:10^i<=10^3:=Nat.pow_le_pow_right aq aq;rw[Jt.o,KT,<-h1,hm];rw[<-h1]at h2;omega
      have apk:=ah an0;have tF:=ah hm;clear an0 hm;have HhD:=ah hD;have apA:=ah aj1;have as3:=ah hv2;clear hD aj1 hv2 hnot;go_wp2_with fail;go_roundw
      case rel=>exact⟨i+1,m,aq,bm,by first|rw[apk.o]|(have h5:=apk.o;congr 1;first|omega|(split<;>omega)),hmb,apA.o,as3.o,trivial⟩
      case measure=>exact gO
   ·obtain rfl:i=s.size:=aq;have htl:(bytes s).take s.size=bytes s:=dY (by rw[eD];exact aD _);rw[htl]at hall hval;have Oh:=JQ.o;rw[hall,eD]at Oh;have qC:=ah hall;have aec:=ah hval;have aee:=ah htl;clear hall hval htl;by_cases h1:s.size<1
    ·have g1:decide (s.size<1)=true:=aQ h1;have g2:decide ((s:Int)<1)=true:=aQ aq;rw[aN (λh=>aq)]at Oh;have N2:=ah Oh;clear Oh;exact ol
    ·have g1:decide (s.size<1)=false:=aT h1;have g2:decide ((s:Int)<1)=false:=aT aq;by_cases h4:4<s.size
     ·have g3:decide (4<s.size)=true:=aQ h4;have g4:decide ((4:Int)<s)=true:=aQ aq;rw[aN (λh=>aq)]at Oh;have N2:=ah Oh;clear Oh;exact ol
     ·have g3:decide (4<s.size)=false:=aT h4;have g4:decide ((4:Int)<s)=false:=aT aq;have hv:=aec.o aq;rw[<-hv]at Oh;by_cases h9:4095<n
      ·have g5:decide (4095<n)=true:=aQ h9;have g6:decide ((4095:Int)<n)=true:=aQ aq;rw[aN (λh=>aq)]at Oh;have N2:=ah Oh;have Hhv:=ah hv;clear Oh hv;exact ol
      ·have g5:decide (4095<n)=false:=aT h9;have g6:decide ((4095:Int)<n)=false:=aT aq;rw[aV ⟨rfl,aq,aq,aq⟩]at Oh;have hwn:IntKind.u32.wrap (n:Int)=n:=by simp[IntKind.wrap,IntKind.signed,IntKind.bits];omega
       have N2:=ah Oh;have Hhv:=ah hv;clear Oh hv;exact ol
end nG
open Go.Shelf Go.Sort
def sh(h:zP:=by exact zy results335 ax ⟨_,underlying442⟩ rfl rfl rfl c0 c1 c2 kg.o (aD _)):zP:=h
def rg(h:zP:=by have Ea:=ah hf;clear hf;go_wp2_with fail;go_ret2;exact⟨by rw[Ea.o];rfl,HX.o.alloc _⟩):zP:=h
def pP(h:zP:=by
 rw[cO]
 match j,hj4 with
 |0,_=>exact h _ rfl
 |1,_=>exact h _ rfl
 |2,_=>exact h _ rfl
 |3,_=>exact h _ rfl):zP:=h
def kB(h:zP:=by go_wp2_with fail;exact sh):zP:=h
def jz(h:zP:=by
 have lZ:Ext w1 W3:=by rw[hW3];exact(aj w1).alloc _
 rw[<-hW3]at e0 e1' e2'⊢;replace c0:=lZ.cell c0;replace c1:=lZ.cell c1;replace c2:=lZ.cell c2;replace f0:=mP lZ bl f0;replace f1:=mP lZ bl f1;replace f2:=mP lZ bl f2;have kg:=ah (gK.o.trans lZ);clear hW3 lZ;go_wp2_with fail;exact sh):zP:=h
namespace nG
variable{B:Nat}{T t:dz}{W w w1 w3:ay}{a b c p q r v x y z:aA}{fn:Func}
def afe(l:List aZ):(str l).toList.isEmpty=decide (l=[]):=by rw[Lib.toList_data];cases l<;>simp[str]
def mI(t:aK)(a b:Nat):bytes (t.extract a b)=((bytes t).drop a).take (b-a):=by simp[bytes,ByteArray.data_extract]
def hd1(c:aZ)(l:List aZ):List aZ:=l.takeWhile (· !=c)
def tl1(c:aZ)(l:List aZ):List aZ:=(l.dropWhile (· !=c)).drop 1
def IG(c:aZ)(l:List aZ):l.take (hd1 c l).length=hd1 c l:=sB
def tT(c:aZ):∀(l:List aZ),l.drop ((hd1 c l).length+1)=tl1 c l
 | []=>rfl
 |x::r=>by
  unfold hd1 tl1;by_cases h:x=c
  ·have hx:¬(x !=c)=true:=by simp[h]
   rw[jv (p:=(· !=_)) hx,List.dropWhile_cons_of_neg (p:=(· !=_)) hx];rfl
  ·have hx:(x !=c)=true:=by simp[h]
   rw[gL (p:=(· !=_)) hx,i7 (p:=(· !=_)) hx];exact tT c r
def xR{c:aZ}:∀ {l:List aZ},l.contains c=false->hd1 c l=l/\tl1 c l=[]
 | [],_=>⟨rfl,rfl⟩
 |x::r,h=>by
  rw[jA,jC]at h;have hx:(x !=c)=true:=by have:=h.1;simp at this;simp;exactλe=>this e.symm
  obtain⟨h1,h2⟩:=xR h.2;unfold hd1 tl1 at *;rw[gL (p:=(· !=_)) hx,i7 (p:=(· !=_)) hx,h1];exact⟨rfl,h2⟩
def AL(c:aZ):∀(l:List aZ),Lib.indexByte l c=if l.contains c=true then((hd1 c l).length:Int)else-1
 | []=>rfl
 |x::r=>by
  unfold Lib.indexByte;rw[jA];by_cases h:x=c
  ·subst h;have hx:¬(x !=x)=true:=aE;rw[aV aE,aV aE];unfold hd1;rw[jv (p:=(· !=_)) hx];rfl
  ·have hx:(x !=c)=true:=by simp[h]
   have hc:(c==x)=false:=by rw[bK];exactλe=>h e.symm
   rw[aN cT,hc,Bool.false_or,AL c r];unfold hd1;rw[gL (p:=(· !=_)) hx];by_cases hr:r.contains c=true
   ·rw[aV hr,aV hr,aN cy,aO];simp
   ·rw[aN hr,aN hr,aV aE]
def B3{c:aZ}:∀ {l:List aZ},l.contains c=true->(hd1 c l).length<l.length
 | [],h=>by cases h
 |x::r,h=>by
  unfold hd1;by_cases hx:x=c
  ·have hx:¬(x !=c)=true:=by simp[hx]
   rw[jv (p:=(· !=_)) hx];simp
  ·rw[jA]at h;have hc:(c==x)=false:=by rw[bK];exactλe=>hx e.symm
   rw[hc,Bool.false_or]at h;have hx:(x !=c)=true:=by simp[hx]
   rw[gL (p:=(· !=_)) hx];have:=B3 h;unfold hd1 at this;simp only[aO];omega
def mH(c:aZ)(l:List aZ):aA:= .tuple #[.string (str (hd1 c l)),.string (str (tl1 c l)),.bool (l.contains c)]
theorem zn(s:aK)(c:aZ)(hs:s.size<=maxLen)(w:ay):Rt 262 #[.string s,.string ⟨#[c]⟩] w (mH c (bytes s)):=by
 have hI:=λW=>Tryz.stringslite_Index_one s c W
 rw[AL]at hI;unfold maxLen at hs;have h1:= @B3 c (bytes s);have h2:=IG c (bytes s);have h3:=tT c (bytes s);have h4:= @xR c (bytes s);unfold mH;rw[show s.data.toList=bytes s from rfl]at hI;cases hc:(bytes s).contains c
 ·exact lj
 ·rw[hc,aV rfl]at hI;have hlt:=h1 hc;rw[eD]at hlt;clear h1 h4;have e1:s.extract 0 (hd1 c (bytes s)).length=str (hd1 c (bytes s)):=bytes_inj (by rw[mI,List.drop_zero,Nat.sub_zero,h2,iE]);have e2:s.extract ((hd1 c (bytes s)).length+1) s.size=str (tl1 c (bytes s)):=bytes_inj (by rw[mI,h3,dY (by rw[<-h3,cZ,eD];omega),iE])
  exact ir
theorem A1(s:aK)(c:aZ)(hs:s.size<=maxLen)(w:ay):Rt 208 #[.string s,.string ⟨#[c]⟩] w (mH c (bytes s)):=by exact kv
def rA(c:aZ)(l:List aZ):(tl1 c l).length=l.length-(hd1 c l).length-1:=by rw[<-tT,cZ];omega
abbrev En:=List aZ×Nat×Bool
def enV(x:En):aA:= .agg #[.string (str x.1),.int .u32 x.2.1,.bool x.2.2]
def kJ(s:List aZ):En×Int:=
 if hd1 58 s=[]then(([],0,false),161)
 else if s.contains 58=false then((hd1 58 s,0,false),0)
 else if tl1 58 s=[107,105,108,108]then((hd1 58 s,2147483648,true),0)
 else if (mG (tl1 58 s)).2=0 then((hd1 58 s,327680|||(mG (tl1 58 s)).1,true),0)
 else(([],0,false),160)
def wN(s:List aZ):((mG s).2=0/\(mG s).1<=4095)\/((mG s).2=160):=by
 unfold mG;rcases QW F8 s 160 with h|h
 ·rw[h,aV rfl];refine .inl ⟨rfl,?_⟩;have hm:∀x∈F8,x.2<=4095:=az;show(j7 F8 s 160).1<=4095;unfold j7;split
  ·rename_i x hx;exact hm x (List.mem_of_find?_eq_some hx)
  ·exact bP _
 ·rw[h,aN aE];unfold ai9;split
  ·rename_i hh;exact .inl ⟨rfl,hh.2.2.2⟩
  ·exact .inr rfl
theorem DN(s:aK)(w:ay):Calls prog 274 #[.string s] w λe w'=>e= .returned (.tuple #[.string (str (Lib.trimPrefix (bytes s) [126])),.bool (Lib.hasPrefix (bytes s) [126])])/\w'=w:=by
 have h:=λW=>Tryz.strings_CutPrefix s ⟨#[126]⟩ W
 rw[show s.data.toList=bytes s from rfl,show(⟨#[126]⟩:aK).data.toList=[126]from rfl]at h
 change∀W,Calls prog 210 #[.string s,.string ⟨#[126]⟩] W λe w'=>e= .returned (.tuple #[.string (str (Lib.trimPrefix (bytes s) [126])),.bool (Lib.hasPrefix (bytes s) [126])])/\w'=W at h
 generalize str (Lib.trimPrefix (bytes s) [126])=t at *;generalize Lib.hasPrefix (bytes s) [126]=b at *;have Hh:=ah h;clear h;go_in;go_wp2_with fail;refine ap (Hh.o _) ?_;rintro w1 rfl;go_wp2_with fail;go_ret2;exact uk
def DC(hx:Ext (w.alloc (.cells #[a,b,c] t)) w1):w1.cell? w=some a/\w1.cell? ⟨w,1,none⟩=some b/\w1.cell? ⟨w,2,none⟩=some c/\w1.frozen? w=false/\w1.frozen? ⟨w,1,none⟩=false/\w1.frozen? ⟨w,2,none⟩=false/\w.heap.size<w1:=by exact kO
def aiP(x y z:aA)(c0:w1.cell? B=some a)(c1:w1.cell? ⟨B,1,none⟩=some b)(c2:w1.cell? ⟨B,2,none⟩=some c):(((w1.setCell B x).setCell ⟨B,1,none⟩ y).setCell ⟨B,2,none⟩ z).cell? B=some x/\(((w1.setCell B x).setCell ⟨B,1,none⟩ y).setCell ⟨B,2,none⟩ z).cell? ⟨B,1,none⟩=some y/\(((w1.setCell B x).setCell ⟨B,1,none⟩ y).setCell ⟨B,2,none⟩ z).cell? ⟨B,2,none⟩=some z:=by exact iu
theorem acr(hz:(Tryz.prog.info? t).map (·.size)=some 3)(hu:∃fs,Tryz.prog.underlying t=some (.struct fs))(c0:W.cell? B=some x)(c1:W.cell? ⟨B,1,none⟩=some y)(c2:W.cell? ⟨B,2,none⟩=some z):(loadVar t ⟨B,0,none⟩).run prog W= .ok (.agg #[x,y,z]) W:=by
 obtain⟨fs,hu⟩:=hu;cases hq:Tryz.prog.info? t with
 |none=>simp[hq]at hz
 |some i=>simp[hq]at hz;simp[loadVar,isAgg,sizeOf,typeInfo,underlying,hq,hz,hu,loadCells,loadCellsFrom,go_sem,c0,c1,c2]
def mP{a:Addr}(hx:Ext w w1)(hl:a.block<w.heap.size)(h:w.frozen? a=false):w1.frozen? a=false:=(dD (hx.block hl)).trans h
def arB(hx:Ext (w1.alloc (.cells #[p,q,r] t)) w3)(hw:Ext w w1)(bl:B<w1.heap.size)(c0:w1.cell? B=some a)(c1:w1.cell? ⟨B,1,none⟩=some b)(c2:w1.cell? ⟨B,2,none⟩=some c)(f0:w1.frozen? B=false)(f1:w1.frozen? ⟨B,1,none⟩=false)(f2:w1.frozen? ⟨B,2,none⟩=false)(W:ay)(hW:W=w3.setCell ⟨w1,1,none⟩ v):(W.cell? w1=some p/\W.cell? ⟨w1,1,none⟩=some v/\W.cell? ⟨w1,2,none⟩=some r)/\(W.cell? B=some a/\W.cell? ⟨B,1,none⟩=some b/\W.cell? ⟨B,2,none⟩=some c/\W.frozen? B=false/\W.frozen? ⟨B,1,none⟩=false/\W.frozen? ⟨B,2,none⟩=false)/\Ext w W:=by
 obtain⟨d0,d1,d2,-,-,-,-⟩:=DC hx;have hx1:Ext w1 w3:=((aj w1).alloc _).trans hx;have hbk:W.heap[B]?=w1.heap[B]?:=by rw[hW];exact(aX _ _ _ B (by show B≠w1.heap.size;omega)).trans (hx1.block bl)
 subst hW;refine⟨⟨?_,?_,?_⟩,⟨?_,?_,?_,?_,?_,?_⟩,(hw.trans hx1).setCell hw.size _⟩
 ·rw[dG _ _ _ _ (λe=>by cases e)];exact d0
 ·exact jT _ _ _ d1
 ·rw[dG _ _ _ _ (λe=>by cases e)];exact d2
 ·exact(eG (a:=⟨B,0,none⟩) hbk).trans c0
 ·exact(eG (a:=⟨B,1,none⟩) hbk).trans c1
 ·exact(eG (a:=⟨B,2,none⟩) hbk).trans c2
 ·exact(dD (a:=⟨B,0,none⟩) hbk).trans f0
 ·exact(dD (a:=⟨B,1,none⟩) hbk).trans f1
 ·exact(dD (a:=⟨B,2,none⟩) hbk).trans f2
theorem zy{A:Act}{n:Int}(hr:fn.results= #[.cell 2 T,.tmp 3])(hz:(Tryz.prog.info? T).map (·.size)=some 3)(hu:∃fs,Tryz.prog.underlying T=some (.struct fs))(h2:A.tmps.getD 2 undef= .pointer (some B))(h3:A.tmps.getD 3 undef= .int .i64 n)(hd:A.defers=[])(c0:W.cell? B=some a)(c1:W.cell? ⟨B,1,none⟩=some b)(c2:W.cell? ⟨B,2,none⟩=some c)(hE:Ext w W)(hB:w.heap.size<=B):bodyPost prog fn (λe w'=>e= .returned (.tuple #[.agg #[x,y,z],.int .i64 n])/\Ext w w') .ret A (((W.setCell B x).setCell ⟨B,1,none⟩ y).setCell ⟨B,2,none⟩ z):=by obtain⟨s0,s1,s2⟩:=aiP x y z c0 c1 c2;refine aM (v:= .tuple #[.agg #[x,y,z],.int .i64 n]) ?_ hd ⟨rfl,((hE.setCell hB _).setCell hB _).setCell hB _⟩;exact pC
theorem Vp(s:aK)(hs:s.size<=1000000)(w:ay):Rt 335 #[.string s] w (.tuple #[enV (kJ (bytes s)).1,.int .i64 (kJ (bytes s)).2]):=by
 have hC:=λW=>A1 s 58 cH W
 have hE:=λW=>F0 (str (tl1 58 (bytes s))) (by rw[kI,rA,eD];omega) W
 rw[iE]at hE;have hR:kJ (bytes s)=if hd1 58 (bytes s)=[]then(([],0,false),161)else if (bytes s).contains 58=false then((hd1 58 (bytes s),0,false),0)else if tl1 58 (bytes s)=[107,105,108,108]then((hd1 58 (bytes s),2147483648,true),0)else if (mG (tl1 58 (bytes s))).2=0 then((hd1 58 (bytes s),327680|||(mG (tl1 58 (bytes s))).1,true),0)else(([],0,false),160):=rfl
 have hok:=wN (tl1 58 (bytes s));have hem:=afe (hd1 58 (bytes s));have hki:((str (tl1 58 (bytes s))).toList==[107,105,108,108])=decide (tl1 58 (bytes s)=[107,105,108,108]):=by rw[Lib.toList_data,show(str (tl1 58 (bytes s))).data.toList=tl1 58 (bytes s)from iE _,bB,fU,iH]
 unfold mH at hC;obtain⟨RR,hRR⟩:∃RR,RR=kJ (bytes s):=⟨_,rfl⟩;rw[<-hRR]at hR⊢;generalize(bytes s).contains 58=bc at *;generalize hd1 58 (bytes s)=nm at *;generalize tl1 58 (bytes s)=sf at *;generalize mG sf=en at *;obtain⟨e1,e2⟩:=en;dsimp only at *;clear hRR;have yN:=ah hC;have HhE:=ah hE;clear hC hE;by_cases h0:nm=[]
 ·rw[aV h0]at hR;rw[aQ h0]at hem;subst hR;clear h0 hki hok;generalize str nm=nv at *;unfold Rt;go_in;go_wp2_with fail;refine ap (yN.o _) ?_;intro w1 hx1;obtain⟨c0,c1,c2,f0,f1,f2,bl⟩:=DC hx1;have gK:Hid (Ext w w1):=ah (((aj w).alloc _).trans hx1);clear hx1;go_wp2_with fail;exact zy results335 ax ⟨_,underlying442⟩ rfl rfl rfl c0 c1 c2 gK.o (aD _)
 ·rw[aN h0]at hR;rw[aT h0]at hem;clear h0;generalize hnv:str nm=nv at *;have ak2:=ah hnv;clear hnv;cases bc
  ·rw[aV rfl]at hR;have hRV:enV RR.1= .agg #[.string nv,.int .u32 0,.bool false]:=by rw[hR];show Value.agg #[.string (str nm),_,_]=_;rw[ak2.o];rfl
   have hR2:RR.2=0:=by rw[hR]
   rw[hRV,hR2];clear hki hok hR hRV hR2;unfold Rt;go_in;go_wp2_with fail;refine ap (yN.o _) ?_;intro w1 hx1;obtain⟨c0,c1,c2,f0,f1,f2,bl⟩:=DC hx1;have gK:Hid (Ext w w1):=ah (((aj w).alloc _).trans hx1);clear hx1;go_upto_region 12 with fail;obtain⟨W3,hW3⟩:∃W3,W3=w1.alloc (.cells #[.string nv,.int .u32 0,.bool false] 442):=⟨_,rfl⟩;obtain⟨e0,e1',e2',-,-,-,-⟩:=DC (aj (w1.alloc (.cells #[.string nv,.int .u32 0,.bool false] 442)));exact jz
  ·rw[aN aE]at hR;by_cases hk:sf=[107,105,108,108]
   ·rw[aV hk]at hR;rw[aQ hk]at hki;have hRV:enV RR.1= .agg #[.string nv,.int .u32 2147483648,.bool true]:=by rw[hR];show Value.agg #[.string (str nm),_,_]=_;rw[ak2.o];rfl
    have hR2:RR.2=0:=by rw[hR]
    rw[hRV,hR2];clear hk hok hR hRV hR2;generalize str sf=sv at *;unfold Rt;go_in;go_wp2_with fail;refine ap (yN.o _) ?_;intro w1 hx1;obtain⟨c0,c1,c2,f0,f1,f2,bl⟩:=DC hx1;have gK:Hid (Ext w w1):=ah (((aj w).alloc _).trans hx1);clear hx1;go_upto_region 12 with fail;obtain⟨W3,hW3⟩:∃W3,W3=w1.alloc (.cells #[.string nv,.int .u32 2147483648,.bool true] 442):=⟨_,rfl⟩;obtain⟨e0,e1',e2',-,-,-,-⟩:=DC (aj (w1.alloc (.cells #[.string nv,.int .u32 2147483648,.bool true] 442)));exact jz
   ·rw[aN hk]at hR;rw[aT hk]at hki;clear hk;rcases hok with⟨rfl,hle⟩|rfl
    ·rw[aV rfl]at hR;have JK:=u32_or_nat 327680 e1 aq aq;have hRV:enV RR.1= .agg #[.string nv,.int .u32 ((327680|||e1:Nat):Int),.bool true]:=by rw[hR];show Value.agg #[.string (str nm),_,_]=_;rw[ak2.o]
     have hR2:RR.2=0:=by rw[hR]
     rw[hRV,hR2];obtain⟨g,hg⟩:∃g,g=327680|||e1:=⟨_,rfl⟩;rw[<-hg]at JK⊢;have ayW:bits .or .u32 327680 (e1:Int)=(g:Int):=JK;clear hR hRV hR2 hg JK;generalize str sf=sv at *;unfold Rt;go_in;go_wp2_with fail;refine ap (yN.o _) ?_;intro w1 hx1;obtain⟨c0,c1,c2,f0,f1,f2,bl⟩:=DC hx1;have gK:Hid (Ext w w1):=ah (((aj w).alloc _).trans hx1);clear hx1;go_wp2_with fail;refine ap (HhE.o _) ?_;intro w3 hx3;obtain⟨k0,k1,k2,l0,l1,l2,bl2⟩:=DC hx3;have HM:=ah (λW hW=>arB (v:= .int .u32 (g:Int)) hx3 gK.o bl c0 c1 c2 f0 f1 f2 W hW);clear hx3 c0 c1 c2 f0 f1 f2;go_upto_region 12 with fail;obtain⟨W3,hW3⟩:∃W3,W3=w3.setCell ⟨w1,1,none⟩ (.int .u32 (g:Int)):=⟨_,rfl⟩;rw[<-hW3];obtain⟨⟨m0,m1,m2⟩,⟨c0,c1,c2,f0,f1,f2⟩,hx⟩:=HM.o W3 hW3;have kg:=ah hx;clear hW3 hx k0 k1 k2 l0 l1 l2 bl2;exact kB
    ·rw[aN aE]at hR;have hRV:enV RR.1= .agg #[.string ⟨#[]⟩,.int .u32 0,.bool false]:=by rw[hR];rfl
     have hR2:RR.2=160:=by rw[hR]
     rw[hRV,hR2];clear hR hRV hR2;generalize str sf=sv at *;unfold Rt;go_in;go_wp2_with fail;refine ap (yN.o _) ?_;intro w1 hx1;obtain⟨c0,c1,c2,f0,f1,f2,bl⟩:=DC hx1;have gK:Hid (Ext w w1):=ah (((aj w).alloc _).trans hx1);clear hx1;go_wp2_with fail;refine ap (HhE.o _) ?_;intro w3 hx3;have lZ:Ext w1 w3:=((aj w1).alloc _).trans hx3;replace c0:=lZ.cell c0;replace c1:=lZ.cell c1;replace c2:=lZ.cell c2;replace f0:=mP lZ bl f0;replace f1:=mP lZ bl f1;replace f2:=mP lZ bl f2;have kg:=ah (gK.o.trans lZ);clear hx3 lZ;exact kB
def eZ(c:Nat):Bool:=c==32||c==9||c==13
theorem NT(c:Nat)(w:ay):Calls prog 343 #[.int .i32 c] w λe w'=>e= .returned (.bool (eZ c))/\w=w':=by unfold eZ;exact ki
def OY:Array aA:= #[.string ⟨#[110,111]⟩,.string ⟨#[102,97,108,115,101]⟩,.string ⟨#[111,102,102]⟩,.string ⟨#[48]⟩,.string ⟨#[121,101,115]⟩,.string ⟨#[116,114,117,101]⟩,.string ⟨#[111,110]⟩,.string ⟨#[49]⟩]
theorem BR(w:ay):Rt 353 #[] w (.agg OY):=by unfold Rt;go_in;go_wp2_with fail;exact aM (v:= .agg OY) (by simp[results,results353,go_sem,OY]) rfl ⟨rfl,(aj _).alloc _⟩
def noS:List aK:= [⟨#[110,111]⟩,⟨#[102,97,108,115,101]⟩,⟨#[111,102,102]⟩,⟨#[48]⟩]
def aa7:List aK:= [⟨#[121,101,115]⟩,⟨#[116,114,117,101]⟩,⟨#[111,110]⟩,⟨#[49]⟩]
def sw(s:aK):Bool×Int:=if Lib.containsS noS s=true then(false,0)else if Lib.containsS aa7 s=true then(true,0)else(false,150)
theorem amT(W:ay):(Instr.index 463 (.agg OY) (.int .i64 0)).run prog W= .ok (.agg #[.string ⟨#[110,111]⟩,.string ⟨#[102,97,108,115,101]⟩,.string ⟨#[111,102,102]⟩,.string ⟨#[48]⟩]) W:=rfl
theorem amS(W:ay):(Instr.index 463 (.agg OY) (.int .i64 1)).run prog W= .ok (.agg #[.string ⟨#[121,101,115]⟩,.string ⟨#[116,114,117,101]⟩,.string ⟨#[111,110]⟩,.string ⟨#[49]⟩]) W:=rfl
theorem aj0(W:ay)(s:aK)(t:dz):Calls prog 354 #[.slice (some W) 4 4,.string s] (W.alloc (.cells #[.string ⟨#[110,111]⟩,.string ⟨#[102,97,108,115,101]⟩,.string ⟨#[111,102,102]⟩,.string ⟨#[48]⟩] t)) λe w'=>e= .returned (.bool (Lib.containsS noS s))/\w'=W.alloc (.cells #[.string ⟨#[110,111]⟩,.string ⟨#[102,97,108,115,101]⟩,.string ⟨#[111,102,102]⟩,.string ⟨#[48]⟩] t):=by
 refine Tryz.slices_Contains_string W 0 4 4 noS s _ az az (λj hj=> ?_);have hj4:j<4:=hj;have h:=λv hv=>oC W [.string ⟨#[110,111]⟩,.string ⟨#[102,97,108,115,101]⟩,.string ⟨#[111,102,102]⟩,.string ⟨#[48]⟩] t j v hv
 exact pP
theorem agB(W:ay)(s:aK)(t:dz):Calls prog 354 #[.slice (some W) 4 4,.string s] (W.alloc (.cells #[.string ⟨#[121,101,115]⟩,.string ⟨#[116,114,117,101]⟩,.string ⟨#[111,110]⟩,.string ⟨#[49]⟩] t)) λe w'=>e= .returned (.bool (Lib.containsS aa7 s))/\w'=W.alloc (.cells #[.string ⟨#[121,101,115]⟩,.string ⟨#[116,114,117,101]⟩,.string ⟨#[111,110]⟩,.string ⟨#[49]⟩] t):=by
 refine Tryz.slices_Contains_string W 0 4 4 aa7 s _ az az (λj hj=> ?_);have hj4:j<4:=hj;have h:=λv hv=>oC W [.string ⟨#[121,101,115]⟩,.string ⟨#[116,114,117,101]⟩,.string ⟨#[111,110]⟩,.string ⟨#[49]⟩] t j v hv
 exact pP
theorem JF(s:aK)(w:ay):Rt 277 #[.string s] w (.tuple #[.bool (sw s).1,.int .i64 (sw s).2]):=by
 have hT:=λW=>BR W
 have hB:sw s=if Lib.containsS noS s=true then(false,0)else if Lib.containsS aa7 s=true then(true,0)else(false,150):=rfl
 have hN:=λW t=>aj0 W s t
 have hY:=λW t=>agB W s t
 generalize Lib.containsS noS s=b1 at *;generalize Lib.containsS aa7 s=b2 at *;have hi0:=amT;have hi1:=amS;obtain⟨RR,hRR⟩:∃RR,RR=sw s:=⟨_,rfl⟩;rw[<-hRR]at hB⊢;have HhB:=ah hB;have vV:=ah hT;clear hB hT;have JQ:=ah hN;have HhY:=ah hY;clear hN hY hRR;unfold Rt;go_in;go_wp2_with fail;refine ap (vV.o _) ?_;intro w1 hx1;have gK:=ah hx1;clear hx1;go_wp2_with fail;go_loopw [7] (λui wr=>(ui= .int .i64 0/\Ext w wr)\/(ui= .int .i64 1/\b1=false/\Ext w wr)\/(ui= .int .i64 2/\b1=false/\b2=false/\Ext w wr)) (λui _=>2-(intOf ui).toNat)
 case atStart=>exact .inl ⟨rfl,gK.o⟩
 case round=>
  rcases hrel with⟨rfl,hx⟩|⟨rfl,rfl,hx⟩|⟨rfl,rfl,rfl,hx⟩
  ·have HX:=ah hx;clear hx;go_wp2_with fail;refine ap (JQ.o _ _) ?_;rintro w2 rfl;cases b1
   ·go_wp2_with fail;go_roundw
    case rel=>exact .inr (.inl ⟨rfl,trivial,HX.o.alloc _⟩)
    case measure=>simp[intOf]
   ·have hf:RR=(false,0):=by rw[HhB.o];rfl
    exact rg
  ·have HX:=ah hx;clear hx;go_wp2_with fail;refine ap (HhY.o _ _) ?_;rintro w2 rfl;cases b2
   ·go_wp2_with fail;go_roundw
    case rel=>exact .inr (.inr ⟨rfl,trivial,trivial,HX.o.alloc _⟩)
    case measure=>simp[intOf]
   ·have hf:RR=(true,0):=by rw[HhB.o];rfl
    exact rg
  ·have HX:=ah hx;clear hx;have hf:RR=(false,150):=by rw[HhB.o];rfl
   have Ea:=ah hf;clear hf;go_wp2_with fail;go_ret2;exact⟨by rw[Ea.o];rfl,HX.o⟩
theorem Yx{P:Program}{f:FuncId}{c:Code}(hf:P.funcs[f]?=some fn)(hname:(fn.name== "runtime.NumGoroutine")=false)(hb:fn.body=some c)(args:Array aA)(w:ay):(callFunc f args).run P w= .ok (.enter f args) w:=by
 have h1:fn.name≠ "runtime.NumGoroutine":=by simpa using hname
 simp[callFunc,hf,h1,hb]
def zY(x:aK):List aA:= [.string x]
theorem nU(s:aK)(hs:s.size<=1000000)(w:ay):Calls prog 270 #[.string s] w λe w'=>∃v,e= .returned v/\Ext w w'/\w'.ownsRow w 9 1 v (Lib.goFieldsP eZ s).length ((Lib.goFieldsP eZ s).flatMap zY):=by
 have hp:∀W,PredAtRunes prog 343 #[] eZ W:=λW W' x _ _=>(NT x W').mono (by rintro e w' ⟨rfl,rfl⟩;exact⟨rfl,0,rfl⟩)
 have hF:=λW=>Tryz.strings_FieldsFunc_runes 343 #[] (λargs W=>Yx func343 ax rfl args W) eZ s W aq (hp W)
 have hfm:(Lib.goFieldsP eZ s).map Value.string=(Lib.goFieldsP eZ s).flatMap zY:=by
  generalize Lib.goFieldsP eZ s=l
  induction l with
  |nil=>rfl
  |cons x r ih=>rw[bS,ih];rfl
 rw[hfm]at hF;generalize Lib.goFieldsP eZ s=L at *;clear hfm hp;have Cj:=ah hF;clear hF;go_in;go_wp2_with fail;refine(Cj.o _).mono ?_;rintro e w1 ⟨A,rfl,hA,ho,hb⟩;go_wp2_with fail;go_ret;exact⟨_,rfl,hb,ho⟩
end nG
end Go.Proofs.YtopfefhenfineaaGreat
