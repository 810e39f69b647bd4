/- LT.TopClosed_holds: the statement TopClosedSaid holds. -/
import Derived.Test.YtopfefhenfineaaGreatP34
import Derived.Test.YtopfefhenfineaaGreatP33
import Derived.Lib.SlBytesConst
import Derived.Test.YtopfefhenfineaaGreatP0
set_option linter.all false
set_option maxRecDepth 100000
set_option maxHeartbeats 16000000
namespace Go.Proofs.YtopfefhenfineaaGreat
open Go.Proofs.Tryz Go.RowKit Go.Shelf V
attribute[local go_sem] Oper.semAt_some V.Oper.idle V.Oper.mE V.Oper.jM
namespace LT
open gZ (AF)
variable{B base c e k k' n:Nat}{W W' w:ay}{u:aA}{zs:List aA}
def RsR(a:AF)(x y:iZ×List Nn):Prop:= ∃d,DoR a x.1 y.1 d/\y.2=x.2++d
def RsR.ok{a:AF}{x y:iZ×List Nn}(h:RsR a x y)(hx:kL x.1/\JE x.2):kL y.1/\JE y.2:=by
 obtain⟨d,h1,h2⟩:=h;obtain⟨h3,h4⟩:=h1.ok hx.1;refine⟨h3,?_⟩;rw[h2];intro n hn;rw[dJ]at hn;rcases hn with h|h
 ·exact hx.2 n h
 ·exact h4 n h
structure RV(w:ay)(B:Nat)(p:iZ)(s:iF)(u:aA)(ns:List Nn)(W:ay):Prop where
 ext:Ext w W
 hB:w.heap.size<B
 res:W.heap[w.heap.size]?=some (.cells oJ 36 (0,0))
 bo:W.heap[B]?=some (.cells (fA p s).toArray 36 (0,0))
 po:qH W p s
 own:W.ownsRow (w+1) 45 4 u ns (ns.flatMap jF)
def RV.ext'{p:iZ}{s:iF}{ns:List Nn}(h:RV w B p s u ns W)(hx:Ext W W'):RV w B p s u ns W':=⟨h.ext.trans hx,h.hB,aI h.res hx,aI h.bo hx,h.po.ext hx,jR h.own hx⟩
def ab1(h:W.ownsRow (base+1) e n u k zs):W.ownsRow base e n u k zs:=jb
def adS{a:Option Addr}{cs:Array aA}(h:W.ownsRow base 45 n (.slice a k c) k' zs)(hb:W.heap[B]?=some (.cells cs 36 (0,0))):some B≠(Value.slice a k c).ownBlock:=by
 cases a with
 |none=>exactλe=>by cases e
 |some g=>
  intro e;rcases h.2 with⟨h2,_⟩|⟨g',cap,cur,h2,hg,hh,r⟩
  ·cases h2
  ·cases h2
   simp only[Value.ownBlock,dw]at e;subst e;rw[hb]at hh;simp at hh
theorem J9(v:aA)(al:List AF)(hl:al.length<=1000000)(hv:∀a∈al,(str a.2.2.2.2).size<=100000)(hsz:A5 al<=90000000)(w:ay)(hr:Rd w 5 gZ.kC v al):Calls prog 36 #[v] w λe w'=>∃(p:iZ)(ns:List Nn)(p':iZ)(s':iF)(u:aA),Fo RsR al (newP,[]) (p,ns)/\p'=(if nR ns=true then {newP with dn:=0}else p)/\e= .returned (.tuple #[m6 p' s',u])/\Ext w w'/\qH w' p' s'/\w'.ownsRow w 45 4 u ns (ns.flatMap jF):=by
 obtain⟨va,vc,rfl,h2,h3,h4⟩:=hr;have HN:=ah Za;have HV:=ah hv;have HAT:=ah h4;have hz0:=aC w (.cells oJ 36);have HZ:=ah hz0;clear hz0 h4 hv;go_in;go_upto_region 2 with(refine ap (HN.o _) ?_;intro w1 hx1;unfold m6 fA newP newS;have H1:=ah (ak (((aj w).alloc (.cells oJ 36)).trans hx1) (ak hx1 (aI HZ.o hx1)));clear hx1);have hW1:RV w w1 newP newS (.slice none 0 0) [] (w1.alloc (.cells (fA newP newS).toArray 36)):=⟨H1.o.1.alloc _,gY (by show w.heap.size<(w.heap.push _).size;simp) (show(w.heap.push (.cells oJ 36)).size<=w1.heap.size from H1.o.2.1.size),aI (aI HZ.o H1.o.2.1) ((aj _).alloc _),aC _ _,ana _,⟨rfl,.inl aE⟩⟩;unfold fA newP newS at hW1;dsimp only at hW1;generalize w1.alloc _=W1 at *;have hB:=hW1.hB;generalize w1.heap.size=B at *;have HW1:=ah hW1;clear hW1 H1 HZ;go_wp2_with fail;go_loopw [5,13] (λu i wr=>∃(k:Nat) (p:iZ) (s:iF) (ns:List Nn),k<=al/\i= .int .i64 k/\RV w B p s u ns wr/\kL p/\ns.length<=A5 (al.take k)/\Fo RsR (al.take k) (newP,[]) (p,ns)) (λ_ i _=>al.length-(intOf i).toNat)
 case atStart=>exact⟨0,newP,newS,[],aq,rfl,HW1.o,WA,bP _,rfl⟩
 case round=>
  obtain⟨k,p,s,ns,hk,rfl,zR,hpo,hnl,hfo⟩:=hrel;obtain⟨ua,uc,rfl⟩:=bU zR.own;by_cases hlt:k<al
  ·have zk:(k:Int)<al:=aq;have hva:=HV.o _ (aW hlt);have HF:=ah (λy=>hfo.take hlt (R:=RsR) (u:=y));have HLT:=ah hlt;have hs1:=abn al k hlt;have hs2:=abm al (k+1);obtain⟨b,o,rfl,hat⟩:=HAT.o k hlt;generalize al[k]=a at *;have a0:wr.cell? ⟨b,o+k*5,none⟩=some (.string (str a.1)):=zR.ext.cell (hat 0 (by show 0<5;decide));have a1:wr.cell? ⟨b,o+k*5+1,none⟩=some (.int .i64 a.2.1):=zR.ext.cell (hat 1 (by show 1<5;decide));have a2:wr.cell? ⟨b,o+k*5+2,none⟩=some (.string (str a.2.2.1)):=zR.ext.cell (hat 2 (by show 2<5;decide));have a3:wr.cell? ⟨b,o+k*5+3,none⟩=some (.string (str a.2.2.2.1)):=zR.ext.cell (hat 3 (by show 3<5;decide));have a4:wr.cell? ⟨b,o+k*5+4,none⟩=some (.string (str a.2.2.2.2)):=zR.ext.cell (hat 4 (by show 4<5;decide));have XP:=ah zR;have HPO:=ah hpo;have HAS:=ah (aC wr (.cells (gZ.kC a).toArray 148));have gK:=ah ((aj wr).alloc (.cells (gZ.kC a).toArray 148));have HDO:=ah (λW (hx:Ext wr W)=>YL p s a hpo hva W (zR.po.ext hx));clear zR hpo hfo hat hva;unfold gZ.kC at HAS gK;have hb1:=aI XP.o.bo gK.o;go_upto_region 7 with(first
    |(refine gX rfl 36 (.tmp 4) rfl B rfl 36 _ _ _ hb1 underlying36 rfl Ml ?_)
    |(refine gX rfl 148 (.tmp 7) rfl wr.heap.size rfl 148 _ _ _ HAS.o underlying148 rfl ax ?_)
    |(go_at_call 72;refine(HDO.o _ gK.o).mono ?_;rintro e w2 ⟨s',u,p',d,rfl,hx2,hpr,hd,hdo⟩;unfold m6;have hn2:=aC w2 (.cells oJ 36);have H2:=ah (ak (XP.o.ext' (gK.o.trans hx2)) (ak hpr (ak hd hdo)));clear hx2 hpr hd hdo)
    |(refine wpList_store_rowTo rfl 36 (.tmp 8) (.tmp 21) rfl rfl w2.heap.size (fA p' s').toArray rfl rfl 36 _ hn2 Ml rfl cV ?_;rw[World.setRow_alloc_new]))
   have hl7:ns.length+d<=90000000/\ns.length+d<=A5 (al.take (k+1)):=by have:=H2.o.2.2.2.len;unfold szA at hs1;omega
   have Zz:=aC w2 (.cells (fA p' s').toArray 36);have hr4:=H2.o.1.ext' ((aj w2).alloc (.cells (fA p' s').toArray 36));have hp4:=H2.o.2.1.ext ((aj w2).alloc (.cells (fA p' s').toArray 36));have hd4:=Rd.ext ((aj w2).alloc (.cells (fA p' s').toArray 36)) H2.o.2.2.1;generalize w2.alloc (.cells (fA p' s').toArray 36)=W4 at *;have hBt:=(aB.1 Zz).1;generalize w2.heap.size=Bt at *;have H4:=ah (ak hr4 (ak hp4 (ak hd4 (ak Zz (ak hl7 H2.o.2.2.2)))));obtain⟨t0,t1,t2,t3,t4,t5,t6,t7,t8,t9,t10,t11,t12⟩:=oI Zz;obtain⟨b0,b1,b2,b3,b4,b5,b6,b7,b8,b9,b10,b11,b12⟩:=oI hr4.bo;clear hn2 hb1 H2 hd4 hp4 hs1 hs2 a0 a1 a2 a3 a4;have hl8:=hl7.1;clear hl7 hr4 Zz
   (go_region_law((refine pI rfl (.tmp 24) (.tmp 25) _ rfl underlying38 Ni rfl az iC AR (w.heap.size+1) _ _ ns d (by rfl) (by rfl) (by exact jR H4.o.1.own (aj _).drew) (Rd.ext (aj _).drew H4.o.2.2.1) aq az (gY H4.o.1.hB (Nat.le_of_lt (aB.1 H4.o.1.bo).1)) ?_;intro au7 cu7 w7 qY Df
                   have oM:=(Df.block B (aB.1 H4.o.1.bo).1 (adS H4.o.1.own H4.o.1.bo)).trans H4.o.1.bo;have JJ:=(Df.block Bt (aB.1 H4.o.2.2.2.1).1 (adS H4.o.1.own H4.o.2.2.2.1)).trans H4.o.2.2.2.1;obtain⟨z0,z1,z2,z3,z4,z5,z6,z7,z8,z9,z10,z11,z12⟩:=oI JJ;obtain⟨y0,y1,y2,y3,y4,y5,y6,y7,y8,y9,y10,y11,y12⟩:=oI oM;have f0:=aP oM 0;have f1:=aP oM 1;have f2:=aP oM 2;have f3:=aP oM 3;have f4:=aP oM 4;have f5:=aP oM 5;have f6:=aP oM 6;have f7:=aP oM 7;have f8:=aP oM 8;have f9:=aP oM 9;have f10:=aP oM 10;have f11:=aP oM 11;have f12:=aP oM 12;have H7:=ah (ak qY (ak Df (ak oM JJ)));clear qY Df oM JJ)))
   all_goals
    rw[KZ H7.o.2.2.1];have hk7:TK (w+1) (Tf 45) W4.drew w7:=TK.grown (jR H4.o.1.own (aj _).drew) H7.o.2.1 rfl (aD _);have hp7:=(H4.o.2.1.ext (aj _).drew).tk hk7 rfl rfl rfl;have oM:=H7.o.2.2.1;have qY:=H7.o.1;rw[<-aH]at qY;have hr7:RV w B p' s' (.slice au7 (ns.length+d) cu7) (ns++d) (w7.setRow B (fA p' s').toArray):=⟨eB (hk7.lX H4.o.1.ext.drew aq) (Nat.le_of_lt H4.o.1.hB) _,H4.o.1.hB,(fJ _ _ _ _ (Nat.ne_of_lt H4.o.1.hB)).trans (hk7.blk (aI H4.o.1.res (aj _).drew) (.inr rfl)),dH _ _ _ _ _ _ oM,⟨dX hp7.ar oM az _,dX hp7.fc oM az _,dX hp7.lc oM az _,dX hp7.fa oM az _⟩,by rw[<-aH];exact dX qY oM az _⟩;have HR7:=ah hr7;clear hk7 hp7 oM qY hr7;have hk1:=HLT.o;go_wp2_with fail;go_roundw
    case rel=>
     have hd:=H4.o.2.2.2.2.2;refine⟨k+1,p',s',ns++d,hk1,bm,?_,(hd.ok HPO.o).1,?_,HF.o _ ⟨d,hd,rfl⟩⟩
     ·exact HR7.o
     ·rw[aH];exact H4.o.2.2.2.2.1.2
    case measure=>simp[intOf];omega
  ·obtain rfl:k=al.length:=aq;rw[bZ]at hfo;have hfl:=λW (hx:Ext wr W)=>xY _ ns (CX zR.own) W (bY iC (jR zR.own hx))
   have XP:=ah zR;have HFO:=ah hfo;clear zR hfo hpo hnl;generalize UG:nR ns=ff at *;have HFL:=ah hfl;clear hfl;cases ff with
   |true=>
    go_wp2_with(first
     |(refine ap (HFL.o _ (aj _)) ?_;intro w2 hx2;have hz2:=aI XP.o.res hx2;have jm:=ah hx2;clear hx2)
     |(refine wpList_store_rowTo rfl 36 (.tmp 2) (.tmp 30) rfl rfl w.heap.size oJ rfl rfl 36 _ hz2 Ml rfl (by simp[Value.oneCell',oJ]) ?_))
    have hh:=dH _ _ _ oJ _ _ hz2;refine aM (v:= .tuple #[.agg oJ,.slice ua ns uc]) (fG results36 _ _ w _ oJ (0,0) _ rfl hh underlying36 rfl ax) rfl ?_;exact⟨p,ns,{newP with dn:=0},newS,_,HFO.o,(aV UG).symm,rfl,eB (XP.o.ext.trans jm.o) (aD _) _,⟨nZ,nZ,nZ,nZ⟩,ab1 (dX (jR XP.o.own jm.o) hz2 az _)⟩
   |false=>
    go_wp2_with(first
     |(refine ap (HFL.o _ (aj _)) ?_;intro w2 hx2;have hz2:=aI XP.o.res hx2;have hb2:=aI XP.o.bo hx2;have jm:=ah hx2;clear hx2)
     |(refine gX rfl 36 (.tmp 4) rfl B rfl 36 _ _ _ hb2 underlying36 rfl Ml ?_)
     |(refine wpList_store_rowTo rfl 36 (.tmp 2) (.tmp 32) rfl rfl w.heap.size (fA p s).toArray rfl rfl 36 _ hz2 Ml rfl cV ?_))
    have hh:=dH _ _ _ (fA p s).toArray _ _ hz2;refine aM (v:= .tuple #[.agg (fA p s).toArray,.slice ua ns uc]) (fG results36 _ _ w _ (fA p s).toArray (0,0) _ rfl hh underlying36 rfl ax) rfl ?_;have hp2:=XP.o.po.ext jm.o;exact⟨p,ns,p,s,_,HFO.o,(aN (by rw[UG];exact Bool.false_ne_true)).symm,rfl,eB (XP.o.ext.trans jm.o) (aD _) _,⟨dX hp2.ar hz2 az _,dX hp2.fc hz2 az _,dX hp2.lc hz2 az _,dX hp2.fa hz2 az _⟩,ab1 (dX (jR XP.o.own jm.o) hz2 az _)⟩
end LT
end Go.Proofs.YtopfefhenfineaaGreat
namespace Go.Proofs.YtopfefhenfineaaGreat
open Go.Proofs.Tryz Go.RowKit V
namespace gZ
variable{α:Type}
def pY(g:α->List aZ)(l:List α):Nat:=(l.map λx=>(g x).length).sum
def G2(g:α->List aZ)(a b:List α):pY g (a++b)=pY g a+pY g b:=by unfold pY;rw[bL,List.sum_append]
def nX(g:α->List aZ)(a:α)(b:List α):pY g (a::b)=(g a).length+pY g b:=by unfold pY;rw[bS,List.sum_cons]
def Yo(st:St)(x:LN):pY Prod.snd (kP st x).1+(kP st x).2.2.length<=pY Prod.snd st.1+st.2.2.length+(x.2.length+1):=by
 unfold kP;split
 ·omega
 split
 ·have:=nH x.2 [92];simp only[aH,aO,bD];omega
 ·unfold Dq;split
  ·simp only[bD];omega
  ·have:=tH (st.2.2++x.2);simp only[G2,nX,bD,aH]at *;have h0:pY (Prod.snd:LN->List aZ) []=0:=rfl;omega
def LH:∀(l:List LN)(st:St),pY Prod.snd (l.foldl kP st).1+(l.foldl kP st).2.2.length<=pY Prod.snd st.1+st.2.2.length+(pY Prod.snd l+l.length)
 | [],st=>by simp only[List.foldl_nil];omega
 |x::l,st=>by have a:=Yo st x;have b:=LH l (kP st x);rw[jD,nX,aO];omega
def PX:∀(n:Nat)(l:List (List aZ)),pY Prod.snd (oP n l)=pY id l
 |_,[]=>rfl
 |n,x::l=>by unfold oP;rw[nX,nX,PX (n+1) l];rfl
def Ip:∀(n:Nat)(l:List aZ),l.length<=n->pY id (ig l)<=l.length
 |0,[],_=>aD _
 |n+1,[],_=>aD _
 |n+1,x::r,h=>by rw[uV aE,nX];have h0:=Gw 10 (x::r);have h1:=rA 10 (x::r);have h2:=Ip n (tl1 10 (x::r)) (by simp only[aO]at *;omega);simp only[id];omega
def Tq(l:List aZ):pY Prod.snd (je l).1<=2*l.length:=by
 unfold je;split
 ·exact bP _
 split
 ·exact bP _
 ·dsimp only;unfold Eh;have a:=LH (oP 1 (ig l)) ([],0,[]);rw[PX,p8]at a;have b:=Ip l l (aD _);have c:=xO l l (aD _);have h0:pY (Prod.snd:LN->List aZ) []=0:=rfl
  change pY Prod.snd (D7 (oP 1 (ig l))).1+(D7 (oP 1 (ig l))).2.2.length<=_ at a
  unfold Dq;split
  ·simp only[bD]at a;omega
  ·have:=tH (D7 (oP 1 (ig l))).2.2;simp only[G2,nX,bD]at *;omega
def Ru(l:List aZ):(vC l).2.1.length<=l.length:=by
 unfold vC
 repeat' (split;·exact bP _)
 have h1:=tH (tl1 61 l);have h2:=rA 61 l;dsimp only;omega
def vlA(a:As):List aZ:=a.2.2.2
def LG:∀(l:List LN)(st:US),pY vlA (l.foldl ni st).al<=pY vlA st.al+pY Prod.snd l
 | [],st=>aD _
 |x::l,st=>by
  have b:=LG l (ni st x);have a:pY vlA (ni st x).al<=pY vlA st.al+x.2.length:=by
   unfold ni;split
   ·exact fI _ _
   split
   ·have:=Ru x.2;simp only[G2,nX];have h0:pY vlA []=0:=rfl;unfold vlA at *;dsimp only at *;omega
   ·exact fI _ _
  rw[jD,nX];omega
def TU(l:List aZ):pY vlA (mh l).1<=2*l.length:=by
 unfold mh;split
 ·exact bP _
 split
 ·exact bP _
 ·have a:=LG (je l).1 ⟨[],false,[],[]⟩;have b:=Tq l;have h0:pY vlA []=0:=rfl
  change pY vlA (Bz l).al<=_ at a
  dsimp only at *;omega
def abs(st:US)(x:LN)(h:∀n∈st.nl,n.2.1=130):∀n∈(ni st x).nl,n.2.1=130:=by
 unfold ni;split
 ·exact h
 split
 ·exact h
 ·intro n hn;rw[dJ,e8]at hn;rcases hn with e|rfl
  ·exact h n e
  ·rfl
def QM:∀(l:List LN)(st:US),(∀n∈st.nl,n.2.1=130)->∀n∈(l.foldl ni st).nl,n.2.1=130
 | [],_,h=>h
 |x::l,st,h=>QM l (ni st x) (abs st x h)
def erM(e:Nat):Bool:=e==3||e==4||e==130||e==140
def YO(l:List aZ):∀n∈(mh l).2,erM n.2.1=true:=by
 unfold mh;split
 ·rename_i h;intro n hn;rw[e8]at hn;subst hn;unfold je at *;(repeat' split at h)<;>(repeat' split)<;>first|rfl|(exact absurd rfl h)|(simp_all)
 split
 ·intro n hn;have:=QM (je l).1 ⟨[],false,[],[]⟩ (λ_ h=>by cases h) n hn;rw[this];rfl
 ·intro n hn;cases hn
def Lr(m:Fl)(fs:List Fl):∀n∈(gy m fs).2,erM n.2.2.1=true:=by
 unfold gy;split
 ·rename_i h;intro n hn;rw[e8]at hn;subst hn;unfold P0;dsimp only;unfold wz at *;(repeat' split)<;>first|rfl|(exfalso;simp_all)
 split
 ·intro n hn;rw[List.mem_flatMap]at hn;obtain⟨f,-,hn⟩:=hn;unfold JI at hn;rw[dW]at hn;obtain⟨x,hx,rfl⟩:=hn;exact YO _ x hx
 ·intro n hn;cases hn
end gZ
namespace LT
open gZ (AF NF Fl JN gy uh)
def afd(a b:List AF):A5 (a++b)=A5 a+A5 b:=by unfold A5;rw[bL,List.sum_append]
def V0(f:Fl):A5 (JN f)<=2*f.2.2.length+1001:=by
 have h1:=gZ.GD f;have h2:=gZ.TU f.2.2;have h3:∀l:List gZ.As,A5 (l.map λx=>(f.1,x.1,x.2.1,x.2.2.1,x.2.2.2))=gZ.pY gZ.vlA l+l.length:=by
  intro l
  induction l with
  |nil=>rfl
  |cons a l ih=>rw[bS,aO,gZ.nX];unfold A5 at *;rw[bS,List.sum_cons,ih];have e1:szA (f.1,a.1,a.2.1,a.2.2.1,a.2.2.2)=(gZ.vlA a).length+1:=rfl;rw[e1];omega
 unfold JN at *;rw[h3];rw[aS]at h1;omega
def OM{N:Nat}:∀(l:List Fl),(∀f∈l,f.2.2.length<=N)->A5 (l.flatMap JN)<=l.length*(2*N+1001)
 | [],_=>bP _
 |f::l,h=>by have h1:=V0 f;have h2:=h f aE;have h3:=OM l (λg hg=>h g (by simp[hg]));rw[eP,afd,aO,Nat.succ_mul];omega
def PU{fs:List Fl}{f:Fl}(h:f∈uh fs):f∈fs:=by obtain⟨j,-,-,hj,-⟩:=((gZ.MX fs).2 f).1 h;exact List.mem_of_getElem? hj
def VY:∀ {l:List AF} {a:AF},a∈l->szA a<=A5 l
 |b::l,a,h=>by
  rw[dF]at h;unfold A5;rw[bS,List.sum_cons];rcases h with rfl|h
  ·omega
  ·have:=VY h;unfold A5 at this;omega
def acf(m:Fl)(fs:List Fl)(hm:m.2.2.length<=6000)(hn:fs.length<=20)(hf:∀f∈fs,f.2.2.length<=6000):A5 (gy m fs).1<=300000:=by
 unfold gy;split
 ·exact bP _
 split
 ·exact bP _
 ·have h1:=OM (N:=6000) (m::uh fs) (by
   intro f h;rw[dF]at h;rcases h with rfl|h
   ·exact hm
   ·exact hf f (PU h))
  have h2:=gZ.Hz fs;rw[aO]at h1;have h3:((uh fs).length+1)*(2*6000+1001)<=21*(2*6000+1001):=eY _ aq;dsimp only;omega
def Ze(m:Fl)(fs:List Fl)(hm:m.2.2.length<=6000)(hf:∀f∈fs,f.2.2.length<=6000):∀a∈(gy m fs).1,szA a<=13001:=by
 unfold gy;split
 ·intro a ha;cases ha
 split
 ·intro a ha;cases ha
 ·intro a ha;obtain⟨f,h,ha⟩:=List.mem_flatMap.1 ha;have h1:=VY ha;have h2:=V0 f;have h3:f.2.2.length<=6000:=by
   rw[dF]at h;rcases h with rfl|h
   ·exact hm
   ·exact hf f (PU h)
  omega
def VZ:∀l:List AF,l.length<=A5 l
 | []=>bP _
 |a::l=>by
  have h:=VZ l;have e1:A5 (a::l)=szA a+A5 l:=by unfold A5;rw[bS,List.sum_cons]
  have e2:1<=szA a:=by unfold szA;omega
  rw[e1,aO];omega
def Io(e:Nat):Bool:=gZ.erM e||e==160||e==111||e==80||e==180||e==181||e==150||e==270||qP e
def adt{e:Nat}(h:gZ.erM e=true):qP (e:Int)=false/\Io e=true:=by unfold Io;rw[h];unfold gZ.erM at h;simp only[gq,fU]at h;rcases h with((rfl|rfl)|rfl)|rfl<;>exact⟨rfl,rfl⟩
def ads{e:Nat}(h:erP e=true):Io e=true:=by unfold erP erW at h;simp only[gq,fU]at h;rcases h with((((((((h|h)|h)|h)|h)|h)|h)|h)|h)|h<;>(rw[h];rfl)
end LT
variable{zP:Prop}
def vy(h:zP:=by
 rcases ih with ih|ih<;>rw[ih]
 ·exact .inr rfl
 ·exact .inr ax):zP:=h
namespace LT
open gZ (AF NF Fl gy)
open nG (eZ kJ)
open lC (Rule Filter kU)
def IX:List aZ:= [91,83,101,114,118,105,99,101,93,10,83,121,115,116,101,109,67,97,108,108,70,105,108,116,101,114,61,126,107,105,108,108,58,69,80,69,82,77,10,83,121,115,116,101,109,67,97,108,108,65,114,99,104,105,116,101,99,116,117,114,101,115,61,120,56,54,10]
def zW:AF:=([102],2,[83,101,114,118,105,99,101],[83,121,115,116,101,109,67,97,108,108,70,105,108,116,101,114],[126,107,105,108,108,58,69,80,69,82,77])
def QV:AF:=([102],3,[83,101,114,118,105,99,101],[83,121,115,116,101,109,67,97,108,108,65,114,99,104,105,116,101,99,116,117,114,101,115],[120,56,54])
def ZR:gy ([102],0,IX) []=([zW,QV],[]):=ax
def QU:List aZ:= [107,105,108,108]
def IW:iZ:=⟨[1],2,[⟨QU,327681⟩],2147483648,0,[],[],0,0,false,false,false,false⟩
def adj{m':Nat}{cs':List Cl}{ns:List Nn}(h:oV true 0 [] (str zW.2.2.2.2) m' cs' ns):m'=2/\cs'=[⟨QU,327681⟩]/\ns=[]:=by
 unfold oV at h;rw[aN (by rw[show iq 0 []=true from ax];simp),aN (show¬Lib.goFieldsP eZ (str zW.2.2.2.2)=[]from by rw[show Lib.goFieldsP eZ (str zW.2.2.2.2)=[str zW.2.2.2.2]from ax];simp)]at h;obtain⟨rfl,h⟩:=h;rw[show Lib.goFieldsP eZ (str (Lib.trimPrefix (bytes (str zW.2.2.2.2)) [126]))=[str [107,105,108,108,58,69,80,69,82,77]]from ax,show Lib.hasPrefix (bytes (str zW.2.2.2.2)) [126]=true from ax]at h;obtain⟨t,h1,h2⟩:=h;have h3:(cs',ns)=t:=h2;subst h3;have hr:kJ (bytes (str [107,105,108,108,58,69,80,69,82,77]))=((QU,327681,true),0):=ax;unfold V7 at h1;rw[hr]at h1;dsimp only at h1;rw[aN aE,aN (show¬BU QU≠0 from by rw[show BU QU=0 from ax];simp)]at h1;obtain⟨l,-,h4,h5⟩:=h1;rw[h4 az]at h5;have e:=h5.trans (show _=(([⟨QU,327681⟩]:List Cl),([]:List Nn))from ax);cases e
 exact⟨ax,rfl,rfl⟩
def aky:∀d,d<8->∀a:Nat,a<6->kG IW d (a:Int)=true->d=1/\a=1:=ci
def akj:SQ IW=[(0,6),(1,1)]:=ax
def akz:Rule:=⟨37,[],327681⟩
def akk:Um IW 1 1=[akz]:=ax
def ahX{y:Pt}(h:Jq IW y)(h0:y.d≠0):y.f=⟨1,[akz],2147418112⟩/\y.d=1:=by
 rcases h with⟨h,-⟩|⟨h1,h2,h3,h4,h5,h6,h7,-⟩
 ·exact absurd h h0
 ·obtain⟨e1,e2⟩:=aky y.d h3 y.a h4 h1;rw[e1,e2]at h7;have h8:=List.perm_singleton.1 (akk▸h7);rw[e1]at h6;rw[e2]at h5;refine⟨?_,e1⟩;cases hf:y.f
  rw[hf]at h5 h6 h8;dsimp only at *;rw[h5,h6,h8]
  rfl
def aki:SmP IW:=λy h h0=>by rw[(ahX h h0).1];exact⟨ax,ci⟩
def two{α:Type}:∀ {l:List α},l.length=2->∃a b,l=[a,b]
 | [a,b],_=>⟨a,b,rfl⟩
def UR:Filter:=⟨1,[akz],2147418112⟩
def adm:Nat->Bool:=kN.Ih [1]
def aku{g:Filter}(h:CF UR g):g=UR:=by
 induction h with
 |base=>rfl
 |norm _ ih=>rw[ih];kernel_rfl
def aks{r:List jO.Sy}(h:CR UR r):r=J8 UR\/r=vM (J8 UR):=by
 induction h with
 |row h=>exact .inl (by rw[aku h])
 |opt _ ih=>exact vy
def akt{r:List jO.Sy}(h:CG adm r):r=kN.nN adm\/r=vM (kN.nN adm):=by
 induction h with
 |base=>exact vq
 |opt _ ih=>exact vy
def adn(d:jO.Dat)(a b:Nat):Prop:=(qK d (mq (kN.nN adm))=a/\qK d (mq (vM (kN.nN adm)))=a)/\qK d (mq (J8 UR))=b/\qK d (mq (vM (J8 UR)))=b
def adi{ys:List Pt}{L:List Pg}(h1:ys.map Pt.at=SQ IW)(h2:yP (yj IW) ys L)(h3:∀y∈ys,Jq IW y):L.length=2/\∀d a b,adn d a b->(L.map λx=>qK d x.p)=[a,b]:=by
 rw[akj]at h1;have hl:ys.length=2:=by have:=congrArg List.length h1;simpa using this
 obtain⟨y0,y1,rfl⟩:=two hl;obtain⟨x0,x1,rfl⟩:=two (h2.len.symm.trans hl);obtain⟨k0,k1,-⟩:=h2;refine⟨rfl,λd a b he=> ?_⟩;have e0:y0.d=0:=(Prod.mk.inj (List.cons.inj h1).1).1;have e1:y1.d=1:=(Prod.mk.inj (List.cons.inj (List.cons.inj h1).2).1).1;have hy:=(ahX (h3 y1 aE) (by rw[e1];decide)).1;obtain⟨r0,c0,q0⟩:=k0.of;obtain⟨r1,c1,q1⟩:=k1.of;rw[aV e0]at c0;rw[aN (by rw[e1];decide),hy]at c1;obtain⟨⟨a1,a2⟩,b1,b2⟩:=he;have z0:qK d x0.p=a:=by
  rw[q0];rcases akt c0 with e|e<;>rw[e]
  ·exact a1
  ·exact a2
 have z1:qK d x1.p=b:=by
  rw[q1];rcases aks c1 with e|e<;>rw[e]
  ·exact b1
  ·exact b2
 simp only[bS,eU,z0,z1]
def Xu:jO.Dat:=⟨37,1073741827,0,0,0,0,0,0,0⟩
def Xt:jO.Dat:=⟨3,1073741827,0,0,0,0,0,0,0⟩
def Xr:jO.Dat:=⟨3,1073741864,0,0,0,0,0,0,0⟩
def akr:adn Xu 2147418112 327681:=⟨⟨ax,ax⟩,ax,ax⟩
def akq:adn Xt 2147418112 2147418112:=⟨⟨ax,ax⟩,ax,ax⟩
def akp:adn Xr 2147483648 2147418112:=⟨⟨ax,ax⟩,ax,ax⟩
def akx:Gf.comb [2147418112,327681]=327681:=ax
def akw:Gf.comb [2147418112,2147418112]=2147418112:=ax
def akv:Gf.comb [2147483648,2147418112]=2147483648:=ax
end LT
end Go.Proofs.YtopfefhenfineaaGreat
namespace Go.Proofs.YtopfefhenfineaaGreat
open Go.Proofs.Tryz Go.RowKit Go.Shelf V
attribute[local go_sem] Oper.semAt_some
namespace LT
open gZ (AF NF Fl PF fV Good yJ qy xU nJ ug)
def Di{m:Fl}{fs:List Fl}(h:xU m fs=false):m.2.2.length<=70000/\m.1.length<=200/\fs.length<=20/\(∀f∈fs,f.2.2.length<=70000/\f.1.length<=200)/\m.2.2.length+nJ fs<=100000:=by
 unfold xU at h;simp only[jC,decide_eq_false_iff_not,List.any_eq_false,By]at h;obtain⟨⟨⟨h1,h2⟩,h3⟩,h4⟩:=h;have key:∀f,gZ.oK f=false->f.2.2.length<=70000/\f.1.length<=200:=λf hf=>by unfold gZ.oK at hf;simp only[jC,decide_eq_false_iff_not]at hf;omega
 exact⟨(key m h1).1,(key m h1).2,aq,λf hf=>key f (by simpa using h3 f hf),aq⟩
def AP(m:Fl)(fs:List Fl):Bool:=xU m fs||decide (6000<m.2.2.length+nJ fs)
def abq(a b:List Fl):nJ (a++b)=nJ a+nJ b:=by unfold nJ;rw[bL,List.sum_append]
def Ym(l:List Fl)(k:Nat):nJ (l.take k)<=nJ l:=by have h:=abq (l.take k) (l.drop k);rw[List.take_append_drop]at h;omega
def OO:∀ {l:List Fl} {f:Fl},f∈l->f.2.2.length<=nJ l
 |g::l,f,h=>by
  rw[dF]at h;have e:nJ (g::l)=g.2.2.length+nJ l:=by unfold nJ;rw[bS,List.sum_cons]
  rcases h with rfl|h
  ·omega
  ·have:=OO h;omega
def Kr{m:Fl}{fs:List Fl}(h:AP m fs=false):m.2.2.length<=6000/\m.1.length<=200/\fs.length<=20/\∀f∈fs,f.2.2.length<=6000/\f.1.length<=200:=by unfold AP at h;rw[jC,decide_eq_false_iff_not]at h;obtain⟨h1,h2,h3,h4,h5⟩:=Di h.1;exact⟨aq,h2,h3,λf hf=>⟨by have:=OO hf;omega,(h4 f hf).2⟩⟩
theorem Kt(m:PF)(v:aA)(ps:List PF)(hl:ps.length<=maxLen)(w:ay)(hv:Rd w 3 qy v ps):Rt 6 #[gZ.fV m,v] w (.bool (AP m.f (ps.map PF.f))):=by
 have hG:=λW (hx:Ext w W)=>gZ.KL m v ps hl W (hv.ext hx)
 obtain⟨a,c,rfl,hac,hca⟩:=ug hv;have hx1:Ext w (w.alloc (.cells #[.string (gZ.str m.nm),.int .i64 m.dir,.slice m.a m.bs m.c] 24)):=(aj _).alloc _;have gK:=ah hx1;have N6:=ah (aC w (.cells #[.string (gZ.str m.nm),.int .i64 m.dir,.slice m.a m.bs m.c] 24));clear hx1 hv;have hll:(ps.map PF.f).length=ps.length:=aS _;have HGF:=ah (λh=> @Di m.f (ps.map PF.f) h);unfold gZ.fV at hG⊢;have hr2:AP m.f (ps.map PF.f)=(xU m.f (ps.map PF.f)||decide (6000<m.bs.length+nJ (ps.map PF.f))):=rfl;rw[hr2];cases hm:xU m.f (ps.map PF.f)
 case true=>rw[hm]at hG;have HG:=ah hG;clear hG hca;unfold Rt;go_in;go_wp2_with fail;refine ap (HG.o _ gK.o) ?_;exact tm
 have hb:=(HGF.o hm).2.2.2.2;have arJ:=(HGF.o hm).2.2.1;rw[hll]at arJ;have hml:m.f.2.2.length=m.bs.length:=rfl;rw[hml]at hb;rw[hm]at hG;have hbd:=λk=>Ym (ps.map PF.f) k
 have hsn:=λk (h:k<(ps.map PF.f).length)=>gZ.KV h
 have hta:(ps.map PF.f).take ps.length=ps.map PF.f:=by rw[<-hll];exact bZ
 have anv:=congrArg nJ hta;have HG:=ah hG;have tO:=ah hca;have HLL:=ah hll;have HBD:=ah hbd;have HSN:=ah hsn;have HTA:=ah anv;clear hG hca hll hbd hsn hta anv hm HGF hr2;generalize hS:nJ (ps.map PF.f)=S at *;unfold Rt;go_in;go_wp2_with fail;refine ap (HG.o _ gK.o) ?_;intro w2 hx2;have jm:=ah (gK.o.trans hx2);have m2:w2.cell? ⟨w,2,none⟩=some (.slice m.a m.bs m.c):=gZ.aG (gZ.aI N6.o hx2) 2;clear hx2;go_wp2_with fail;go_loopw [5,6] (λn i wr=>∃k:Nat,k<=ps/\i= .int .i64 k/\n= .int .i64 ((m.bs.length+nJ ((ps.map PF.f).take k):Nat):Int)/\Ext w wr) (λ_ i _=>ps.length-(intOf i).toNat)
 case atStart=>exact⟨0,aq,rfl,by simp[nJ],jm.o⟩
 case round=>
  obtain⟨k,hk,rfl,rfl,hx⟩:=hrel;have HX:=ah hx;have hb2:=HBD.o k;clear hx;by_cases hlt:k<ps
  ·obtain⟨b,o,rfl,c0,c1,c2⟩:=tO.o k hlt;replace c2:=HX.o.cell c2;clear c0 c1;have hlt':k<(ps.map PF.f).length:=by rw[HLL.o];exact hlt
   have hs:=HSN.o k hlt';rw[gQ]at hs;have hb3:=HBD.o (k+1);have HS:=ah hs;have hsk:nJ ((ps.map PF.f).take k)+ps[k].bs.length<=100000:=by have e:ps[k].f.2.2.length=ps[k].bs.length:=rfl;rw[e]at hs;omega
   clear hs hb3;have e1:ps[k].f.2.2.length=ps[k].bs.length:=rfl;rw[e1]at HS;generalize ps[k]=p at *;generalize nJ ((ps.map PF.f).take k)=sk at *;have zk:(k:Int)<ps:=aq;go_wp2_with fail;go_roundw
   case rel=>refine⟨k+1,aq,bm,?_,HX.o⟩;rw[HS.o];go_num
   case measure=>exact gO
  ·obtain rfl:k=ps.length:=aq;have hT:=HTA.o;rw[hT];have e2:decide ((6000:Int)<m.bs+(S:Int))=decide (6000<m.bs.length+S):=by rw[bB,iH,iH];omega
   exact pZ
def yH:List Int:= [3,4,130,140,160,111,80,180,181,150,270]
def Zp{e:Nat}(h:Io e=true):(yH.any (λx=>x==(e:Int))||qP e)=true:=by
 unfold Io gZ.erM at h;simp only[gq,fU]at h;unfold yH;simp only[List.any_cons,List.any_nil,gq,fU];rcases h with h|h
 ·left;omega
 ·exact .inr h
def af6:Array aA:= #[.int .i64 3,.int .i64 4,.int .i64 130,.int .i64 140,.int .i64 160,.int .i64 111,.int .i64 80,.int .i64 180,.int .i64 181,.int .i64 150,.int .i64 270]
def af5:∀k,k<11->af6[k]?=some (.int .i64 (yH.getD k 0)):=by intro k hk;have h:k=0\/k=1\/k=2\/k=3\/k=4\/k=5\/k=6\/k=7\/k=8\/k=9\/k=10:=aq;rcases h with rfl|rfl|rfl|rfl|rfl|rfl|rfl|rfl|rfl|rfl|rfl<;>rfl
def ane{e:Int}(h:∀j,j<11->yH.getD j 0≠e):yH.any (λx=>x==e)=false:=by rw[List.any_eq_false];intro x hx;obtain⟨j,hj,rfl⟩:=fZ hx;have h1:=h j hj;rw[bQ,aJ hj]at h1;simpa using h1
def alZ{e:Int}{j:Nat}(hj:j<11)(h:yH.getD j 0=e):yH.any (λx=>x==e)=true:=by rw[List.any_eq_true];refine⟨yH.getD j 0,?_,by simpa using h⟩;rw[bQ,aJ (show j<yH.length from hj)];exact aW _
theorem Na(e:Nat)(w:ay):Calls prog 8 #[.int .i64 e] w λr w'=>r= .returned (.bool (yH.any (λx=>x==(e:Int))||qP e))/\Ext w w':=by
 have HW:=ah (λW=>FQ (e:Int) W);have HB:=ah (aC w (.cells af6 43));have HX:=ah ((aj w).alloc (.cells af6 43));have HL:=ah (ak (@ane (e:Int)) (@alZ (e:Int)));generalize hL:yH.any (λx=>x==(e:Int))=L at *;unfold af6 at HB HX;go_in;go_wp2_with fail;generalize w.alloc _=W at *;go_loopw [4] (λi wr=>∃k:Nat,k<=11/\i= .int .i64 k/\W=wr/\∀j,j<k->yH.getD j 0≠(e:Int)) (λi _=>11-(intOf i).toNat)
 case atStart=>exact⟨0,aq,rfl,rfl,λj h=>aq⟩
 case round=>
  obtain⟨k,hk,rfl,rfl,hno⟩:=hrel;by_cases hlt:k<11
  ·have zk:(k:Int)<11:=aq;have c1:W.cell? ⟨w,k,none⟩=some (.int .i64 (yH.getD k 0)):=(gZ.aG HB.o k).trans (af5 k hlt);have HN:=ah hno;clear hno;by_cases he:yH.getD k 0=(e:Int)
   ·have HE:=ah (HL.o.2 hlt he);rw[he]at c1;go_wp2_with fail;go_ret;rw[HE.o];exact⟨rfl,HX.o⟩
   ·have HE:=ah (show∀j,j<k+1->yH.getD j 0≠(e:Int)fromλj hj=>by
     by_cases hjk:j=k
     ·rw[hjk];exact he
     ·exact HN.o j aq)
    have z1:(yH.getD k 0==(e:Int))=false:=bK.2 he;have z2:decide (yH.getD k 0=(e:Int))=false:=aT he;obtain⟨x,hx⟩:∃x,x=yH.getD k 0:=⟨_,rfl⟩;rw[<-hx]at c1 z1 z2;have HEE:=HE.o;clear HE HN he hx;go_wp2_with fail;go_roundw
    case rel=>exact⟨k+1,aq,bm,by trivial,HEE⟩
    case measure=>exact gO
  ·obtain rfl:k=11:=aq;have HE:=ah (HL.o.1 hno);go_wp2_with(refine ap (HW.o _) ?_;intro w2 hx2);go_ret;rw[HE.o];exact⟨rfl,HX.o.trans hx2⟩
end LT
end Go.Proofs.YtopfefhenfineaaGreat
namespace Go.Proofs.YtopfefhenfineaaGreat
open Go.Proofs.Tryz Go.RowKit V
namespace LT
open gZ (AF NF Fl gy)
variable{L:List Pg}{fs:List Fl}{m:Fl}{ns:List Nn}{p q:iZ}
def zP:iZ:= {newP with dn:=0}
def nfN(x:NF):Nn:=⟨x.1,x.2.1,x.2.2.1,x.2.2.2⟩
def ajd(l:List NF):l.flatMap gZ.BD=(l.map nfN).flatMap jF:=by rw[List.flatMap_map];rfl
def ET(m:Fl)(fs:List Fl)(p:iZ)(L:List Pg)(ns:List Nn):Prop:=
 ((gy m fs).2≠[]/\p=zP/\L=[]/\ns=(gy m fs).2.map nfN)\/
 ((gy m fs).2=[]/\∃q ns0,Fo RsR (gy m fs).1 (newP,[]) (q,ns0)/\
   ((nR ns0=true/\p=zP/\L=[]/\ns=ns0)\/(nR ns0=false/\¬SmP q/\p=zP/\L=[]/\ns=ns0++[⟨m.1,0,270,[]⟩])\/
     (nR ns0=false/\p=q/\ns=ns0/\∃ys,ys.map Pt.at=SQ q/\yP (yj q) ys L/\∀y∈ys,Jq q y)))
def adc{l:List AF}(h:Fo RsR l (newP,[]) (q,ns)):kL q/\JE ns:=Fo.inv (P:=λx:iZ×List Nn=>kL x.1/\JE x.2) (λ_ _ _ h k=>RsR.ok h k) h ⟨WA,qU⟩
def ade:∀ {l:List AF} {x y:iZ×List Nn},Fo RsR l x y->y.2.length<=x.2.length+A5 l
 | [],_,_,h=>by cases h;exact fI _ _
 |a::l,_,_,⟨t,⟨d,h1,h2⟩,h3⟩=>by
  have k1:=h1.len;have k2:=ade h3;have e1:A5 (a::l)=szA a+A5 l:=by unfold A5;rw[bS,List.sum_cons]
  rw[h2,aH]at k2;unfold szA at e1;omega
def ZT(a b:List Nn):nR (a++b)=(nR a||nR b):=by unfold nR;rw[List.any_append]
def ET.list(h:ET m fs p L ns):∀n∈ns,Io n.er=true:=by
 rcases h with⟨-,-,-,rfl⟩|⟨-,q,ns0,h0,h⟩
 ·intro n hn;obtain⟨x,hx,rfl⟩:=dW.1 hn;exact(adt (gZ.Lr m fs x hx)).2
 ·have h1:∀n∈ns0,Io n.er=true:=λn hn=>ads ((adc h0).2 n hn)
  rcases h with⟨-,-,-,rfl⟩|⟨-,-,-,-,rfl⟩|⟨-,-,rfl,-⟩
  ·exact h1
  ·intro n hn;rw[dJ,e8]at hn;rcases hn with hn|rfl
   ·exact h1 n hn
   ·rfl
  ·exact h1
def ET.bad(h:ET m fs p L ns)(hf:nR ns=true):L=[]/\ns≠[]:=by
 have hne:ns≠[]:=λe=>by rw[e]at hf;cases hf
 refine⟨?_,hne⟩;rcases h with⟨-,-,h,-⟩|⟨-,q,ns0,-,⟨-,-,h,-⟩|⟨-,-,-,h,-⟩|⟨h1,-,rfl,-⟩⟩
 ·exact h
 ·exact h
 ·exact h
 ·rw[hf]at h1;cases h1
def ET.good(h:ET m fs p L ns)(hf:nR ns=false):(gy m fs).2=[]/\Fo RsR (gy m fs).1 (newP,[]) (p,ns)/\kL p/\∃ys,ys.map Pt.at=SQ p/\yP (yj p) ys L/\∀y∈ys,Jq p y:=by
 rcases h with⟨h1,-,-,rfl⟩|⟨h0,q,ns0,h1,⟨h2,-,-,rfl⟩|⟨-,-,-,-,rfl⟩|⟨-,rfl,rfl,h2⟩⟩
 ·exfalso;obtain⟨x,hx⟩:=List.exists_mem_of_ne_nil _ h1;have h2:=(adt (gZ.Lr m fs x hx)).1;have h3:nR ((gy m fs).2.map nfN)=true:=by unfold nR;rw[List.any_eq_true];exact⟨nfN x,dW.2 ⟨x,hx,rfl⟩,by show(!qP (x.2.2.1:Int))=true;rw[h2];rfl⟩
  rw[h3]at hf;cases hf
 ·rw[hf]at h2;cases h2
 ·exfalso;rw[ZT]at hf;simp[nR,qP]at hf
 ·exact⟨h0,h1,(adc h1).1,h2⟩
end LT
end Go.Proofs.YtopfefhenfineaaGreat
namespace Go.Proofs.YtopfefhenfineaaGreat
open Go.Proofs.Tryz Go.RowKit Go.Shelf V
attribute[local go_sem] Oper.semAt_some V.Oper.idle V.Oper.mE V.Oper.jM
namespace LT
open gZ (AF NF Fl PF fV gy yJ qy)
variable{B C g n0:Nat}{W W' w:ay}{cs old:Array aA}{dv no st u ua v:aA}{m:PF}{opt:Bool}{p:iZ}{s:iF}{t:dz}
def pK(p:iZ)(s:iF)(st no:aA)(m:PF)(dv:aA)(opt:Bool)(ua:aA):Array aA:=(fA p s++[st,no,.string (gZ.str m.nm),.int .i64 m.dir,.slice m.a m.bs m.c,dv,.bool opt,ua]).toArray
def ahl(h:W.heap[B]?=some (.cells cs t (0,0)))(i j:Nat)(x y:aA):(W.setCell ⟨B,i,none⟩ x).setCell ⟨B,j,none⟩ y=W.setRow B ((cs.setIfInBounds i x).setIfInBounds j y):=by rw[fQ _ _ _ _ _ _ _ h,fQ _ _ _ _ _ _ _ (dH _ _ _ _ _ _ h),setRow_setRow]
def ah2(h:W.heap[C]?=some (.cells (pK p s st no m dv opt ua) t (0,0))):W.cell? C=some (.slice s.a p.ar s.c)/\W.cell? ⟨C,1,none⟩=some (.int .u8 p.fm)/\W.cell? ⟨C,2,none⟩=some (.slice s.fa p.fc s.fc)/\W.cell? ⟨C,3,none⟩=some (.int .u32 p.dn)/\W.cell? ⟨C,4,none⟩=some (.int .u8 p.lm)/\W.cell? ⟨C,5,none⟩=some (.slice s.la p.lc s.lc)/\W.cell? ⟨C,6,none⟩=some (.slice s.ga p.fa s.gc)/\W.cell? ⟨C,7,none⟩=some (.int .u8 p.fd)/\W.cell? ⟨C,8,none⟩=some (.int .u64 (p.sp:Int))/\W.cell? ⟨C,9,none⟩=some (.bool p.we)/\W.cell? ⟨C,10,none⟩=some (.bool p.pe)/\W.cell? ⟨C,11,none⟩=some (.bool p.rt)/\W.cell? ⟨C,12,none⟩=some (.bool p.np)/\W.cell? ⟨C,13,none⟩=some st/\W.cell? ⟨C,14,none⟩=some no:=
 ⟨aG h 0,aG h 1,aG h 2,aG h 3,aG h 4,aG h 5,aG h 6,aG h 7,aG h 8,aG h 9,aG h 10,aG h 11,aG h 12,aG h 13,aG h 14⟩
theorem MF(m:PF)(v:aA)(ps:List PF)(opt:Bool)(hl:ps.length<=1000000)(hom:yJ m)(hop:∀p∈ps,yJ p)(C:Nat)(W:ay)(hb:W.heap[C]?=some (.cells (pK zP newS (.slice none 0 0) (.slice none 0 0) m v opt (.slice none 0 0)) 66 (0,0)))(hgm:gZ.Good W m)(hv:Rd W 3 qy v ps)(hg:∀p∈ps,gZ.Good W p):Calls prog 17 #[.pointer (some C)] W λe w'=>∃ua un W1,e= .returned (.bool (((gy m.f (ps.map PF.f)).2.length:Int)==0))/\Ext W W1/\w'=W1.setRow C (pK zP newS (.slice none 0 0) un m v opt ua)/\W1.ownsRow W 148 5 ua (gy m.f (ps.map PF.f)).1.length ((gy m.f (ps.map PF.f)).1.flatMap gZ.kC)/\W1.ownsRow W 45 4 un (gy m.f (ps.map PF.f)).2.length ((gy m.f (ps.map PF.f)).2.flatMap gZ.BD):=by
 have hM:=λW' (hx:Ext W W')=>gZ.RP m v ps hl hom hop W' (gZ.Good.ext hx hgm) (hv.ext hx) (λp hp=>gZ.Good.ext hx (hg p hp))
 obtain⟨va,vc,rfl,-⟩:=hv;generalize gy m.f (ps.map PF.f)=M at *;obtain⟨al,nl⟩:=M;dsimp only at *;unfold gZ.fV at hM;have HM:=ah hM;clear hM hgm hg hop hom;have c15:W.cell? ⟨C,15,none⟩=some (.string (gZ.str m.nm)):=aG hb 15;have c16:W.cell? ⟨C,16,none⟩=some (.int .i64 m.dir):=aG hb 16;have c17:W.cell? ⟨C,17,none⟩=some (.slice m.a m.bs m.c):=aG hb 17;have c18:W.cell? ⟨C,18,none⟩=some (.slice va ps vc):=aG hb 18;have HB:=ah hb;clear hb;go_in;go_wp2_with fail;go_cut [3] (λ_ wx=>∃W2,W2=wx/\∃ua ub uc W1,Ext W W1/\W2=W1.setRow C (pK zP newS (.slice none 0 0) (.slice ub nl uc) m (.slice va ps vc) opt ua)/\W1.heap[C]?=some (.cells (pK zP newS (.slice none 0 0) (.slice none 0 0) m (.slice va ps vc) opt (.slice none 0 0)) 66 (0,0))/\W1.ownsRow W 148 5 ua al (al.flatMap gZ.kC)/\W1.ownsRow W 45 4 (.slice ub nl uc) nl (nl.flatMap gZ.BD))
 case first=>
  go_region_with(refine(HM.o _ (by first|exact aj _|exact(aj _).drew)).mono ?_;rintro e w1 ⟨ua,un,rfl,hx1,ho1,hn1⟩
                 obtain⟨ub,uc,rfl⟩:=bU hn1;obtain⟨va1,vc1,rfl⟩:=bU ho1;have hb1:=aI HB.o ((aj W).drew.trans hx1);have k14:w1.cell? ⟨C,14,none⟩=some (.slice none 0 0):=aG hb1 14;have k20:w1.cell? ⟨C,20,none⟩=some (.slice none 0 0):=aG hb1 20;have f14:=aP hb1 14;have f20:=aP hb1 20;have H1:=ah (ak ((aj W).drew.trans hx1) (ak hb1 (ak ho1 hn1)));clear hx1 hb1 ho1 hn1)
  all_goals
   go_wp2_with fail;go_meet;refine⟨_,rfl,_,ub,uc,w1,H1.o.1,?_,H1.o.2.1,H1.o.2.2.1,H1.o.2.2.2⟩
   first
    |exact ahl H1.o.2.1 20 14 _ _
    |exact ahl H1.o.2.1 14 20 _ _
 case rest=>
 obtain⟨W2,rfl,ua,ub,uc,W1,hx1,rfl,hb1,ho1,hn1⟩:=hcut;have d14:(W1.setRow C (pK zP newS (.slice none 0 0) (.slice ub nl uc) m (.slice va ps vc) opt ua)).cell? ⟨C,14,none⟩=some (.slice ub nl uc):=aG (dH _ _ _ _ _ _ hb1) 14;have H2:=ah (ak hx1 (ak ho1 hn1));clear hb1 hx1 ho1 hn1;go_wp2_with fail;go_ret;exact⟨ua,_,W1,rfl,H2.o.1,rfl,H2.o.2.1,H2.o.2.2⟩
def qH.row(h:qH W p s)(hg:W.heap[g]?=some (.cells old 66 (0,0)))(cs:Array aA):qH (W.setRow g cs) p s:=
 ⟨dX h.ar hg az cs,dX h.fc hg az cs,dX h.lc hg az cs,dX h.fa hg az cs⟩
theorem F1{P:Program}{ops:Array Oper}{rest:List Oper}{o:Oper}{a:Act}{Q:Exit->Act->ay->Prop}(hgd:o.guard=none)(ty:dz)(x y:Operand)(ho:o.op= .store ty x y)(hd:o.dst=none)(g off:Nat)(v:aA)(cs:List aA)(hx:a.eval x= .pointer (some ⟨g,off,none⟩))(hy:a.eval y=v)(t:dz)(cur new:List aA)(hg:w.heap[g]?=some (.cells cur.toArray t (0,0)))(hi:(P.info? ty).map (·.size)=some cs.length)(hv:v.cells=cs.toArray)(hfit:off+cs.length<=cur)(h1:∀v∈cs,v.oneCell'=true)(hs:splice cur off cs=new)(h:wpList P ops Q rest a (w.setRow g new.toArray)):wpList P ops Q (o::rest) a w:=by
 refine wpList_plain hgd λK hK=> ?_
 unfold Oper.wp execOp;simp only[ho,hx,hy,Instr.storeAt,Instr.sureAddr,Sem.run_bind,Sem.run_pure,Result.andThen_ok,yE w g off t ty cur v cs hg hi hv hfit h1];refine hK _ _ ?_;rw[hd,hs];exact h
def abV(p:iZ)(s:iF):∀v∈fA p s,v.oneCell'=true:=by intro v hv;unfold fA at hv;simp only[dF,List.not_mem_nil,or_false]at hv;rcases hv with rfl|rfl|rfl|rfl|rfl|rfl|rfl|rfl|rfl|rfl|rfl|rfl|rfl<;>rfl
structure Bt(n0 C:Nat)(p:iZ)(s:iF)(st u:aA)(m:PF)(dv:aA)(opt:Bool)(ua:aA)(ns:List Nn)(W:ay):Prop where
 bo:W.heap[C]?=some (.cells (pK p s st u m dv opt ua) 66 (0,0))
 po:qH W p s
 own:W.ownsRow n0 45 4 u ns (ns.flatMap jF)
def Bt.ext{ns:List Nn}(h:Bt n0 C p s st u m dv opt ua ns W)(hx:Ext W W'):Bt n0 C p s st u m dv opt ua ns W':=⟨aI h.bo hx,h.po.ext hx,jR h.own hx⟩
theorem G6(m:PF)(dv no ua:aA)(al:List AF)(opt:Bool)(hl:al.length<=1000000)(hv:∀a∈al,(str a.2.2.2.2).size<=100000)(hsz:A5 al<=90000000)(C:Nat)(W:ay)(hb:W.heap[C]?=some (.cells (pK zP newS (.slice none 0 0) no m dv opt ua) 66 (0,0)))(hr:Rd W 5 gZ.kC ua al):Calls prog 18 #[.pointer (some C)] W λe w'=>∃(p:iZ)(ns:List Nn)(p':iZ)(s':iF)(u:aA),Fo RsR al (newP,[]) (p,ns)/\p'=(if nR ns=true then zP else p)/\e= .returned (.bool (!nR ns))/\(∀w,Ext w W->w.heap.size<=C->Ext w w')/\Bt W C p' s' (.slice none 0 0) u m dv opt ua ns w':=by
 have hR:=λW' (hx:Ext W W')=>J9 ua al hl hv hsz W' (hr.ext hx)
 obtain⟨va,vc,rfl,-⟩:=hr;have HR:=ah hR;have HB:=ah hb;have c20:W.cell? ⟨C,20,none⟩=some (.slice va al vc):=aG hb 20;clear hR hb;go_in;go_upto_region 2 with(first
  |(go_at_call 36;refine(HR.o _ (aj _)).mono ?_;rintro e w1 ⟨p,ns,p',s',u,hfo,hp',rfl,hx1,hpo,hown⟩;unfold m6;obtain⟨ub,uc,rfl⟩:=bU hown;have hb1:=aI HB.o hx1
    have H1:=ah (ak hfo (ak hp' (ak hx1 (ak hb1 (ak hpo hown)))));clear hfo hp' hx1 hb1 hpo hown)
  |(refine F1 rfl 36 (.tmp 15) (.tmp 11) rfl rfl C 0 (.agg (fA p' s').toArray) (fA p' s') rfl rfl 66 _ (fA p' s'++[.slice none 0 0,no,.string (gZ.str m.nm),.int .i64 m.dir,.slice m.a m.bs.length m.c,dv,.bool opt,.slice va al.length vc]) H1.o.2.2.2.1 Ml rfl (by simp[fA]) (abV p' s') rfl ?_
    have hb2:=dH _ _ _ (fA p' s'++[.slice none 0 0,no,.string (gZ.str m.nm),.int .i64 m.dir,.slice m.a m.bs m.c,dv,.bool opt,.slice va al vc]).toArray _ _ H1.o.2.2.2.1;have k14:(w1.setRow C (fA p' s'++[.slice none 0 0,no,.string (gZ.str m.nm),.int .i64 m.dir,.slice m.a m.bs m.c,dv,.bool opt,.slice va al vc]).toArray).cell? ⟨C,14,none⟩=some no:=aG hb2 14;have f14:=aP hb2 14;have HB2:=ah hb2;clear hb2))
 rw[fQ _ _ _ _ _ _ _ HB2.o,setRow_setRow,show w1.setRow C ((fA p' s'++[.slice none 0 0,no,.string (gZ.str m.nm),.int .i64 m.dir,.slice m.a m.bs m.c,dv,.bool opt,.slice va al vc]).toArray.setIfInBounds 14 (.slice ub ns uc))=w1.setRow C (pK p' s' (.slice none 0 0) (.slice ub ns uc) m dv opt (.slice va al vc))from rfl];have hb3:=dH _ _ _ (pK p' s' (.slice none 0 0) (.slice ub ns uc) m dv opt (.slice va al vc)) _ _ H1.o.2.2.2.1;have hw3:=dX H1.o.2.2.2.2.2 H1.o.2.2.2.1 az (pK p' s' (.slice none 0 0) (.slice ub ns uc) m dv opt (.slice va al vc));obtain⟨W2,hW2⟩:∃W2,W2=w1.setRow C (pK p' s' (.slice none 0 0) (.slice ub ns uc) m dv opt (.slice va al vc)):=⟨_,rfl⟩;rw[<-hW2]at hb3 hw3⊢;have d14:W2.cell? ⟨C,14,none⟩=some (.slice ub ns uc):=aG hb3 14;have HFL:=ah (xY _ ns (CX hw3) W2 (bY iC hw3));have HW2:=ah hW2;clear hb3 hw3 k14 f14 c20 hW2;obtain⟨bf,hbf⟩:∃bf,bf=nR ns:=⟨_,rfl⟩;have HBF:=ah hbf;rw[<-hbf]at HFL;clear hbf;go_wp2_with(go_at_call 21;refine ap HFL.o ?_;intro w2 hx2;have jm:=ah hx2;clear hx2);go_ret;have hpo:=H1.o.2.2.2.2.1.row H1.o.2.2.2.1 (pK p' s' (.slice none 0 0) (.slice ub ns uc) m dv opt (.slice va al vc));have hbt:Bt W C p' s' (.slice none 0 0) (.slice ub ns uc) m dv opt (.slice va al vc) ns W2:=by rw[HW2.o];exact⟨dH _ _ _ _ _ _ H1.o.2.2.2.1,hpo,dX H1.o.2.2.2.2.2 H1.o.2.2.2.1 az _⟩
 refine⟨p,ns,p',s',_,H1.o.1,H1.o.2.1,by rw[<-HBF.o];rfl,λw hx hw=> ?_,hbt.ext jm.o⟩;refine aag ?_ jm.o;rw[HW2.o];exact eB (hx.trans H1.o.2.2.1) hw _
def Jp.row{l:List Pg}(h:Jp W v l)(hg:W.heap[g]?=some (.cells old 66 (0,0)))(cs:Array aA):Jp (W.setRow g cs) v l:=
 ⟨dX h.1 hg az cs,h.2.1,λx hm=>⟨(h.2.2 x hm).1,dX (h.2.2 x hm).2 hg az cs⟩⟩
theorem MN(m:PF)(dv ua u:aA)(opt:Bool)(p:iZ)(s:iF)(ns:List Nn)(hok:kL p)(hnl:ns.length<=90000000)(C n0:Nat)(hC:n0<=C)(W:ay)(hn0:n0<=W)(h:Bt n0 C p s (.slice none 0 0) u m dv opt ua ns W):Calls prog 19 #[.pointer (some C)] W λe w'=>(∀w,Ext w W->w.heap.size<=n0->Ext w w')/\((e= .returned (.bool false)/\¬SmP p/\∃u',Bt n0 C p s (.slice none 0 0) u' m dv opt ua (ns++[⟨m.nm,0,270,[]⟩]) w')\/(∃a c L ys,e= .returned (.bool true)/\Bt n0 C p s (.slice a L.length c) u m dv opt ua ns w'/\Jp w' (.slice a L.length c) L/\ys.map Pt.at=SQ p/\yP (yj p) ys L/\∀y∈ys,Jq p y)):=by
 have hB:=λW' (hx:Ext W W')=>Ah p s opt hok W' (h.po.ext hx).rd
 obtain⟨au,cu,rfl⟩:=bU h.own;unfold m6 fA at hB;have HB:=ah hB;have H:=ah h;obtain⟨b0,b1,b2,b3,b4,b5,b6,b7,b8,b9,b10,b11,b12,-,-⟩:=ah2 h.bo;have b19:W.cell? ⟨C,19,none⟩=some (.bool opt):=aG h.bo 19;clear hB h;go_in;go_wp2_with fail;go_cut [3,4] (λl e wx=>∃W1,W1=wx/\Ext W W1/\∃a n c er,l= .slice a n c/\e= .int .i64 er/\((a=none/\n=0/\c=0/\er=270/\¬SmP p)\/(er=0/\∃L ys,n=L.length/\Jp W1 (.slice a n c) L/\ys.map Pt.at=SQ p/\yP (yj p) ys L/\∀y∈ys,Jq p y)))
 case first=>
  go_region_with(refine(HB.o _ (by first|exact aj _|exact(aj _).drew)).mono ?_;rintro e w1 ⟨hx1,hq⟩
                 obtain⟨a,n,c,er,rfl,hres⟩:∃a n c er,e= .returned (.tuple #[.slice a n c,.int .i64 er])/\((a=none/\n=0/\c=0/\er=270/\¬SmP p)\/(er=0/\∃L ys,n=L.length/\Jp w1 (.slice a n c) L/\ys.map Pt.at=SQ p/\yP (yj p) ys L/\∀y∈ys,Jq p y)):=by
                  rcases hq with⟨rfl,hq⟩|⟨a,c,L,ys,rfl,h1,h2⟩
                  ·exact⟨none,0,0,270,rfl,.inl ⟨rfl,rfl,rfl,rfl,hq⟩⟩
                  ·exact⟨a,_,c,0,rfl,.inr ⟨rfl,L,ys,rfl,h1,h2⟩⟩
                 have H1:=ah (ak ((aj W).drew.trans hx1) hres);clear hx1 hq hres)
  all_goals
   go_wp2_with fail;go_meet;exact⟨_,rfl,H1.o.1,a,n,c,er,rfl,rfl,H1.o.2⟩
 case rest=>
 obtain⟨W1,rfl,hx1,a,n,c,er,rfl,rfl,⟨rfl,rfl,rfl,rfl,hq⟩|⟨rfl,L,ys,rfl,hst,hys⟩⟩:=hcut
 ·have h1:=H.o.ext hx1;have e13:W1.cell? ⟨C,13,none⟩=some (.slice none 0 0):=aG h1.bo 13;have e14:W1.cell? ⟨C,14,none⟩=some (.slice au ns cu):=aG h1.bo 14;have e15:W1.cell? ⟨C,15,none⟩=some (.string (gZ.str m.nm)):=aG h1.bo 15;have g14:=λo=>((aj W1).alloc o).cell e14
  have g15:=λo=>((aj W1).alloc o).cell e15
  have hel:ns.length+[(⟨m.nm,0,270,[]⟩:Nn)].length=ns.length+1:=rfl;have H1:=ah (ak hx1 (ak h1 hq));clear hx1 h1 hq;go_upto_region 3 with fail
  (go_region_law((refine pI rfl (.tmp 25) (.tmp 33) _ rfl underlying38 Ni rfl az iC AR n0 _ _ ns [⟨m.nm,0,270,[]⟩] (by rfl) (by rfl) (by exact dM H1.o.2.1.own _) (Rd.ext ((aj _).drew) (gI iC W1 [⟨m.nm,0,270,[]⟩] _ _ rfl)) bp az (by have:=H1.o.1.size;simp;omega) ?_;intro au4 cu4 w4 rY hg4;rw[hel]at rY⊢
                  have hA:=H1.o.2.1.ext ((aj W1).alloc (.cells #[.string (gZ.str m.nm),.int .i64 0,.int .i64 270,.string ⟨#[]⟩] 45)).drew;have hk4:TK n0 (Tf 45) _ w4:=TK.grown hA.own hg4 rfl (aD _);have hb4:=hk4.blk hA.bo (.inr rfl);have d14:w4.cell? ⟨C,14,none⟩=some (.slice au ns cu):=aG hb4 14;have d13:w4.cell? ⟨C,13,none⟩=some (.slice none 0 0):=aG hb4 13;have f14:=aP hb4 14;have hp4:=hA.po.tk hk4 rfl rfl rfl;have H4:=ah (ak hb4 (ak hk4 (ak rY hp4)));clear hb4 hk4 rY hg4 hA hp4)))
  all_goals
   rw[fQ _ _ _ _ _ _ _ H4.o.1,show w4.setRow C ((pK p s (.slice none 0 0) (.slice au ns cu) m dv opt ua).setIfInBounds 14 (.slice au4 (ns+1) cu4))=w4.setRow C (pK p s (.slice none 0 0) (.slice au4 (ns+1) cu4) m dv opt ua)from rfl];have hb5:=dH _ _ _ (pK p s (.slice none 0 0) (.slice au4 (ns+1) cu4) m dv opt ua) _ _ H4.o.1;obtain⟨W5,yR⟩:∃W5,W5=w4.setRow C (pK p s (.slice none 0 0) (.slice au4 (ns+1) cu4) m dv opt ua):=⟨_,rfl⟩;rw[<-yR]at hb5⊢;have k13:W5.cell? ⟨C,13,none⟩=some (.slice none 0 0):=aG hb5 13;have f13:=aP hb5 13;have E0:=ah (ak hb5 yR);clear hb5 yR;go_wp2_with fail;go_ret;rw[fQ _ _ _ _ _ _ _ E0.o.1,E0.o.2,setRow_setRow];refine⟨λw hx hw=>eB (H4.o.2.1.lX ((hx.trans H1.o.1).alloc _).drew hw) (aL hw hC) _,.inl ⟨rfl,H1.o.2.2,_,dH _ _ _ _ _ _ H4.o.1,H4.o.2.2.2.row H4.o.1 _,?_⟩⟩;rw[aH];exact dX H4.o.2.2.1 H4.o.1 az _
 ·have h1:=H.o.ext hx1;have e13:W1.cell? ⟨C,13,none⟩=some (.slice none 0 0):=aG h1.bo 13;have f13:=aP h1.bo 13;have H1:=ah (ak hx1 (ak h1 (ak hst hys)));clear hx1 h1 hst hys;go_wp2_with fail;go_ret;rw[fQ _ _ _ _ _ _ _ H1.o.2.1.bo];exact⟨λw hx hw=>eB (hx.trans H1.o.1) (aL hw hC) _,.inr ⟨a,c,L,ys,rfl,⟨dH _ _ _ _ _ _ H1.o.2.1.bo,H1.o.2.1.po.row H1.o.2.1.bo _,dX H1.o.2.1.own H1.o.2.1.bo az _⟩,H1.o.2.2.1.row H1.o.2.1.bo _,H1.o.2.2.2⟩⟩
end LT
variable{zX:Prop}
def dg(h:zX:=by simp[Value.oneCell',jW]):zX:=h
namespace LT
open gZ (AF NF Fl PF fV gy yJ qy)
variable{W W2 w:ay}{d ns:List Nn}{dv st u ua:aA}{p p' q:iZ}
def jW(p:iZ)(s:iF)(st no:aA):List aA:= [.slice s.a p.ar s.c,.int .u8 p.fm,.slice s.fa p.fc s.fc,.int .u32 p.dn,.int .u8 p.lm,.slice s.la p.lc s.lc,.slice s.ga p.fa s.gc,.int .u8 p.fd,.int .u64 (p.sp:Int),.bool p.we,.bool p.pe,.bool p.rt,.bool p.np,st,no]
theorem Cu:(Tryz.prog.info? 40).map (·.size)=some 15:=ax
theorem Fe(p:iZ)(s:iF)(st:aA)(a:Option Addr)(c:Nat)(ns:List Nn)(hl:ns.length<=9223372036854775807)(w:ay)(hn:Rd w 4 jF (.slice a ns c) ns):Rt 9 #[.agg (jW p s st (.slice a ns c)).toArray] w (.bool (!nR ns)):=by have HF:=ah (λW (hx:Ext w W)=>xY _ ns hl W (hn.ext hx));have hn1:=aC w (.cells (jW p s st (.slice a ns c)).toArray 40);have hx1:=(aj w).alloc (.cells (jW p s st (.slice a ns c)).toArray 40);have c14:(w.alloc (.cells (jW p s st (.slice a ns c)).toArray 40)).cell? ⟨w,14,none⟩=some (.slice a ns c):=aG hn1 14;have HX:=ah hx1;obtain⟨W1,hW1⟩:∃W1,W1=w.alloc (.cells (jW p s st (.slice a ns c)).toArray 40):=⟨_,rfl⟩;have HW:=ah hW1;rw[<-hW1]at c14 HX;clear hn1 hx1 hn hW1;generalize nR ns=bf at *;unfold jW at *;unfold Rt;go_in;go_upto_region 1 with fail;rw[<-HW.o];go_wp2_with(go_at_call 21;refine ap (HF.o _ HX.o) ?_;intro w2 hx2);go_ret;exact⟨rfl,HX.o.trans hx2⟩
def Bt.low{n1 n0 C:Nat}{s:iF}{m:PF}{opt:Bool}(h:Bt n0 C p s st u m dv opt ua ns W)(hle:n1<=n0):Bt n1 C p s st u m dv opt ua ns W:=⟨h.bo,h.po,gZ.kK h.own hle⟩
def Ef(C:Nat):Array aA:= #[.func (.func 17) #[.pointer (some C)] #[],.func (.func 18) #[.pointer (some C)] #[],.func (.func 19) #[.pointer (some C)] #[]]
def CI(w:ay)(m:PF)(v:aA)(ps:List PF)(opt:Bool)(k:Nat)(W:ay):Prop:=
 (k=0/\W.heap[w.heap.size+2]?=some (.cells (pK zP newS (.slice none 0 0) (.slice none 0 0) m v opt (.slice none 0 0)) 66 (0,0)))\/
 (k=1/\(gy m.f (ps.map PF.f)).2=[]/\∃ua un,W.heap[w.heap.size+2]?=some (.cells (pK zP newS (.slice none 0 0) un m v opt ua) 66 (0,0))/\Rd W 5 gZ.kC ua (gy m.f (ps.map PF.f)).1)\/
 (k=2/\(gy m.f (ps.map PF.f)).2=[]/\∃q s u ns ua,Bt (w+2) (w.heap.size+2) q s (.slice none 0 0) u m v opt ua ns W/\nR ns=false/\Fo RsR (gy m.f (ps.map PF.f)).1 (newP,[]) (q,ns))\/
 (k=3/\(gy m.f (ps.map PF.f)).2=[]/\∃q s u ns ua a c L,Bt (w+2) (w.heap.size+2) q s (.slice a (L:List Pg).length c) u m v opt ua ns W/\Jp W (.slice a L.length c) L/\ET m.f (ps.map PF.f) q L ns)
def GI(w:ay)(m:Fl)(fs:List Fl)(e:Ending)(w':ay):Prop:= ∃p s a c L b d ns,e= .returned (.agg (jW p s (.slice a (L:List Pg).length c) (.slice b (ns:List Nn).length d)).toArray)/\Ext w w'/\yt w' p s/\Jo w' (.slice a L.length c) L/\Rd w' 4 jF (.slice b ns.length d) ns/\ET m fs p L ns/\ns.length<=9223372036854775807
def Hf{m:Fl}{fs:List Fl}{b:Option Addr}{base d:Nat}{old:Array aA}(hx:Ext w W2)(hres:W2.heap[w.heap.size+1]?=some (.cells old 40 (0,0)))(ho:W2.ownsRow base 45 4 (.slice b ns d) ns (ns.flatMap jF))(hr:ET m fs zP [] ns):GI w m fs (.returned (.agg (jW zP newS (.slice none 0 0) (.slice b ns d)).toArray)) (W2.setRow (w+1) (jW zP newS (.slice none 0 0) (.slice b ns d)).toArray):=
 ⟨zP,newS,none,0,[],b,d,ns,rfl,eB hx aq _,qH.rd ⟨nZ,nZ,nZ,nZ⟩,⟨bY wQ (nZ (e:=53)),bP _,λx hx=>by cases hx⟩,bY iC (dX ho hres az _),hr,CX ho⟩
theorem zB(m:PF)(v:aA)(ps:List PF)(opt:Bool)(hom:yJ m)(hop:∀p∈ps,yJ p)(hmb:m.bs.length<=6000)(hpl:ps.length<=20)(hpb:∀p∈ps,p.bs.length<=6000)(w:ay)(hgm:gZ.Good w m)(hv:Rd w 3 qy v ps)(hg:∀p∈ps,gZ.Good w p):Calls prog 7 #[gZ.fV m,v,.bool opt] w (GI w m.f (ps.map PF.f)):=by
 have hsv:=Ze m.f (ps.map PF.f) hmb (λf hf=>by obtain⟨p,hp,rfl⟩:=dW.1 hf;exact hpb p hp);have hsz:=acf m.f (ps.map PF.f) hmb (by rw[aS];exact hpl) (λf hf=>by obtain⟨p,hp,rfl⟩:=dW.1 hf;exact hpb p hp);have HM:=ah (λW (hx:Ext w W) hb=>MF m v ps opt aq hom hop (w+2) W hb (gZ.Good.ext hx hgm) (hv.ext hx) (λp hp=>gZ.Good.ext hx (hg p hp)));have HR:=ah (λW ua no hb hr=>G6 m v no ua (gy m.f (ps.map PF.f)).1 opt (aL (VZ _) aq) (λa ha=>by have:=hsv a ha;unfold szA at this;omega) aq (w+2) W hb hr);obtain⟨va,vc,rfl,-⟩:=hv;have HSZ:=ah hsz;clear hsz hsv hgm hg hom hop hpb;unfold gZ.fV;go_in;go_upto_region 2 with fail;have hs1:(w.alloc (.cells #[.string (gZ.str m.nm),.int .i64 m.dir,.slice m.a m.bs m.c] 24)).heap.size=w.heap.size+1:=aE;have hb0:=aC (w.alloc (.cells #[.string (gZ.str m.nm),.int .i64 m.dir,.slice m.a m.bs m.c] 24)) (.cells (jW zP newS (.slice none 0 0) (.slice none 0 0)).toArray 40);have hb1:=aC ((w.alloc (.cells #[.string (gZ.str m.nm),.int .i64 m.dir,.slice m.a m.bs m.c] 24)).alloc (.cells (jW zP newS (.slice none 0 0) (.slice none 0 0)).toArray 40)) (.cells (pK zP newS (.slice none 0 0) (.slice none 0 0) m (.slice va ps vc) opt (.slice none 0 0)) 66);rw[hs1]at hb0;have hs2:((w.alloc (.cells #[.string (gZ.str m.nm),.int .i64 m.dir,.slice m.a m.bs m.c] 24)).alloc (.cells (jW zP newS (.slice none 0 0) (.slice none 0 0)).toArray 40)).heap.size=w.heap.size+2:=aE;rw[hs2]at hb1;have hx0:Ext w ((w.alloc (.cells #[.string (gZ.str m.nm),.int .i64 m.dir,.slice m.a m.bs m.c] 24)).alloc (.cells (jW zP newS (.slice none 0 0) (.slice none 0 0)).toArray 40)):=((aj w).alloc _).alloc _;have hx1:=(aj ((w.alloc (.cells #[.string (gZ.str m.nm),.int .i64 m.dir,.slice m.a m.bs m.c] 24)).alloc (.cells (jW zP newS (.slice none 0 0) (.slice none 0 0)).toArray 40))).alloc (.cells (pK zP newS (.slice none 0 0) (.slice none 0 0) m (.slice va ps vc) opt (.slice none 0 0)) 66);have HB1:=ah hb1;have VE:=ah (ak hx0 (ak hs2 hb0));have qO:=ah hx1;obtain⟨W0,hW0⟩:∃W0,W0=(w.alloc (.cells #[.string (gZ.str m.nm),.int .i64 m.dir,.slice m.a m.bs m.c] 24)).alloc (.cells (jW zP newS (.slice none 0 0) (.slice none 0 0)).toArray 40):=⟨_,rfl⟩;have Cm:Go.RowKit.Hid (Ext w W0/\W0.heap.size=w.heap.size+2/\W0.heap[w.heap.size+1]?=some (.cells (jW zP newS (.slice none 0 0) (.slice none 0 0)).toArray 40 (0,0))):=by rw[hW0];exact VE
 have at0:Go.RowKit.Hid (Ext W0 (((w.alloc (.cells #[.string (gZ.str m.nm),.int .i64 m.dir,.slice m.a m.bs m.c] 24)).alloc (.cells (jW zP newS (.slice none 0 0) (.slice none 0 0)).toArray 40)).alloc (.cells (pK zP newS (.slice none 0 0) (.slice none 0 0) m (.slice va ps vc) opt (.slice none 0 0)) 66))):=by rw[hW0];exact qO
 clear hb0 hb1 hs1 hs2 hx0 hx1 hW0 VE qO;go_wp2_with fail;go_loopw [22] (λi wr=>∃k:Nat,k<=3/\i= .int .i64 k/\Ext W0 wr/\CI w m (.slice va ps vc) ps opt k wr) (λi _=>3-(intOf i).toNat)
 case atStart=>exact⟨0,aq,rfl,at0.o,.inl ⟨rfl,HB1.o⟩⟩
 case round=>
  obtain⟨k,hk,rfl,hcs,⟨rfl,hb⟩|⟨rfl,hnl,ua,un,hb,hrd⟩|⟨rfl,hnl,q,s,u,ns,ua,hbt,UG,hfo⟩|⟨rfl,hnl,q,s,u,ns,ua,a,c,L,hbt,hst,hrp⟩⟩:=hrel
  ·have hix:∀W,(Instr.index 67 (.agg (Ef (w+1+1))) (.int .i64 0)).run prog W= .ok (.func (.func 17) #[.pointer (some ⟨w+1+1,0,none⟩)] #[]) W:=λW=>rfl
   unfold Ef at hix;have hM0:=HM.o wr (Cm.o.1.trans hcs) hb;have HC:=ah hcs;have KJ:=ah hb;clear hcs hb;by_cases hnl:(gy m.f (ps.map PF.f)).2=[]
   ·have hz:(((gy m.f (ps.map PF.f)).2.length:Int)==0)=true:=by rw[hnl];rfl
    rw[hz]at hM0;have HM0:=ah hM0;clear hM0;go_wp2_with(go_at_call 17;refine HM0.o.mono ?_;rintro e w1 ⟨ua,un,W1,rfl,hx1,hw1,ho1,hn1⟩;have H1:=ah (ak hx1 (ak hw1 (ak ho1 hn1)));clear hx1 hw1 ho1 hn1);go_roundw
    case rel=>obtain⟨hx1,rfl,ho1,-⟩:=H1.o;have hb1:=aI KJ.o hx1;exact⟨1,aq,bm,eB (HC.o.trans hx1) (Nat.le_of_eq Cm.o.2.1) _,.inr (.inl ⟨rfl,hnl,ua,un,dH _ _ _ _ _ _ hb1,bY gZ.EH (dX ho1 hb1 az _)⟩)⟩
    case measure=>simp[intOf]
   ·have hz:(((gy m.f (ps.map PF.f)).2.length:Int)==0)=false:=bK.2 (λe=>hnl (bG aq));rw[hz]at hM0;have HM0:=ah hM0;clear hM0;go_wp2_with(first
     |(go_at_call 17;refine HM0.o.mono ?_;rintro e w1 ⟨ua,un,W1,rfl,hx1,hw1,ho1,hn1⟩
       obtain⟨ub,uc,rfl⟩:=bU hn1;have hb1:=aI KJ.o hx1;have hb2:=dH _ _ _ (pK zP newS (.slice none 0 0) (.slice ub (gy m.f (ps.map PF.f)).2.length uc) m (.slice va ps vc) opt ua) _ _ hb1;have hn2:=dX hn1 hb1 az (pK zP newS (.slice none 0 0) (.slice ub (gy m.f (ps.map PF.f)).2.length uc) m (.slice va ps vc) opt ua);have hx2:Ext W0 w1:=by rw[hw1];exact eB (HC.o.trans hx1) (Nat.le_of_eq Cm.o.2.1) _
       rw[<-hw1]at hb2 hn2;have c14:w1.cell? ⟨w+1+1,14,none⟩=some (.slice ub (gy m.f (ps.map PF.f)).2.length uc):=aG hb2 14;have hr2:=aI Cm.o.2.2 hx2;have H1:=ah (ak hx2 hn2);clear hx1 hw1 ho1 hn1 hb1 hb2 hn2 hx2)
     |(refine wpList_store_rowTo rfl 40 (.tmp 6) (.tmp 33) rfl rfl (w.heap.size+1) (jW zP newS (.slice none 0 0) (.slice ub (gy m.f (ps.map PF.f)).2.length uc)).toArray rfl rfl 40 _ hr2 Cu rfl dg ?_))
    have hh:=dH _ _ _ (jW zP newS (.slice none 0 0) (.slice ub (gy m.f (ps.map PF.f)).2.length uc)).toArray _ _ hr2;refine aM (v:= .agg (jW zP newS (.slice none 0 0) (.slice ub (gy m.f (ps.map PF.f)).2.length uc)).toArray) (dV results7 _ _ _ _ _ _ _ rfl hh underlying40 rfl ax) rfl ?_;have e1:((gy m.f (ps.map PF.f)).2.map nfN).length=(gy m.f (ps.map PF.f)).2.length:=aS _;have hn:=H1.o.2;rw[ajd,<-e1]at hn;have hf:=Hf (Cm.o.1.trans H1.o.1) hr2 hn (.inl ⟨hnl,rfl,rfl,rfl⟩);rw[e1]at hf;exact hf
  ·have hix:∀W,(Instr.index 67 (.agg (Ef (w+1+1))) (.int .i64 1)).run prog W= .ok (.func (.func 18) #[.pointer (some ⟨w+1+1,0,none⟩)] #[]) W:=λW=>rfl
   unfold Ef at hix;have HRR:=ah (HR.o wr ua un hb hrd);have HC:=ah hcs;clear hcs hb hrd;go_wp2_with(first
    |(go_at_call 18;refine HRR.o.mono ?_;rintro e w1 ⟨p,ns,p',s',u,hfo,hp',rfl,hext,hbt⟩
      obtain⟨ub,uc,rfl⟩:=bU hbt.own;have hx2:=hext W0 HC.o (Nat.le_of_eq Cm.o.2.1);have Dg:=hbt.low (show w.heap.size+2<=wr.heap.size from Cm.o.2.1▸HC.o.size);have c14:w1.cell? ⟨w+1+1,14,none⟩=some (.slice ub ns uc):=aG hbt.bo 14;have hr2:=aI Cm.o.2.2 hx2;obtain⟨bf,hbf⟩:∃bf,bf=nR ns:=⟨_,rfl⟩;rw[<-hbf];have H1:=ah (ak hx2 (ak Dg (ak hfo (ak hp' hbf))));clear hfo hp' hext hbt hx2 Dg hbf)
    |(refine wpList_store_rowTo rfl 40 (.tmp 6) (.tmp 33) rfl rfl (w.heap.size+1) (jW zP newS (.slice none 0 0) (.slice ub ns uc)).toArray rfl rfl 40 _ hr2 Cu rfl dg ?_))
   ·rename_i hbf;have hh:=dH _ _ _ (jW zP newS (.slice none 0 0) (.slice ub ns uc)).toArray _ _ hr2;refine aM (v:= .agg (jW zP newS (.slice none 0 0) (.slice ub ns uc)).toArray) (dV results7 _ _ _ _ _ _ _ rfl hh underlying40 rfl ax) rfl ?_;obtain⟨hx2,Dg,hfo,-,UG⟩:=H1.o;exact Hf (Cm.o.1.trans hx2) hr2 Dg.own (.inr ⟨hnl,p,ns,hfo,.inl ⟨UG.symm.trans hbf,rfl,rfl,rfl⟩⟩)
   ·rename_i hbf;go_roundw
    case rel=>obtain⟨hx2,Dg,hfo,hp',UG⟩:=H1.o;rw[<-UG,hbf,aN Bool.false_ne_true]at hp';subst hp';exact⟨2,aq,bm,hx2,.inr (.inr (.inl ⟨rfl,hnl,_,s',_,ns,ua,Dg,UG.symm.trans hbf,hfo⟩))⟩
    case measure=>simp[intOf]
  ·have hix:∀W,(Instr.index 67 (.agg (Ef (w+1+1))) (.int .i64 2)).run prog W= .ok (.func (.func 19) #[.pointer (some ⟨w+1+1,0,none⟩)] #[]) W:=λW=>rfl
   unfold Ef at hix;have arN:ns.length<=90000000:=by have h1:=ade hfo;have h2:=HSZ.o;simp only[bD,cO]at h1;omega
   have HBd:=ah (MN m (.slice va ps vc) ua u opt q s ns (adc hfo).1 arN (w+2) (w.heap.size+2) (aD _) wr (Cm.o.2.1▸hcs.size) hbt);have HC:=ah (ak hcs (ak UG hfo));clear hcs hbt UG hfo;go_wp2_with(first
    |(go_at_call 19;refine HBd.o.mono ?_;rintro e w1 ⟨hext,hres⟩
      obtain⟨bf,T6,st,u2,rfl,hbt,hr⟩:∃(bf:Bool) (T6:List Nn) (st u2:aA),e= .returned (.bool bf)/\Bt (w+2) (w.heap.size+2) q s st u2 m (.slice va ps vc) opt ua T6 w1/\((bf=false/\ET m.f (ps.map PF.f) zP [] T6)\/(bf=true/\∃a c L,st= .slice a (L:List Pg).length c/\Jp w1 (.slice a L.length c) L/\ET m.f (ps.map PF.f) q L T6)):=by
       rcases hres with⟨rfl,h1,u',h2⟩|⟨a,c,L,ys,rfl,h1,h2,h3⟩
       ·exact⟨false,_,_,u',rfl,h2,.inl ⟨rfl,.inr ⟨hnl,q,ns,HC.o.2.2,.inr (.inl ⟨HC.o.2.1,h1,rfl,rfl,rfl⟩)⟩⟩⟩
       ·exact⟨true,_,_,_,rfl,h1,.inr ⟨rfl,a,c,L,rfl,h2,.inr ⟨hnl,q,ns,HC.o.2.2,.inr (.inr ⟨HC.o.2.1,rfl,rfl,ys,h3⟩)⟩⟩⟩
      obtain⟨ub,uc,rfl⟩:=bU hbt.own;have hx2:=hext W0 HC.o.1 (Nat.le_of_eq Cm.o.2.1);have c14:w1.cell? ⟨w+1+1,14,none⟩=some (.slice ub T6 uc):=aG hbt.bo 14;have hr2:=aI Cm.o.2.2 hx2;have H1:=ah (ak hx2 (ak hbt hr));clear hext hres hbt hr hx2)
    |(refine wpList_store_rowTo rfl 40 (.tmp 6) (.tmp 33) rfl rfl (w.heap.size+1) (jW zP newS (.slice none 0 0) (.slice ub T6 uc)).toArray rfl rfl 40 _ hr2 Cu rfl dg ?_))
   ·rename_i hbf;have hh:=dH _ _ _ (jW zP newS (.slice none 0 0) (.slice ub T6 uc)).toArray _ _ hr2;refine aM (v:= .agg (jW zP newS (.slice none 0 0) (.slice ub T6 uc)).toArray) (dV results7 _ _ _ _ _ _ _ rfl hh underlying40 rfl ax) rfl ?_;obtain⟨hx2,Dg,⟨-,hr⟩|⟨h,-⟩⟩:=H1.o
    ·exact Hf (Cm.o.1.trans hx2) hr2 Dg.own hr
    ·rw[h]at hbf;cases hbf
   ·rename_i hbf;go_roundw
    case rel=>
     obtain⟨hx2,Dg,⟨h,-⟩|⟨-,a,c,L,rfl,hst,hr⟩⟩:=H1.o
     ·rw[h]at hbf;cases hbf
     ·exact⟨3,aq,bm,hx2,.inr (.inr (.inr ⟨rfl,hnl,q,s,_,T6,ua,a,c,L,Dg,hst,hr⟩))⟩
    case measure=>simp[intOf]
  ·obtain⟨ub,uc,rfl⟩:=bU hbt.own;obtain⟨k0,k1,k2,k3,k4,k5,k6,k7,k8,k9,k10,k11,k12,k13,k14⟩:=ah2 (show wr.heap[w.heap.size+1+1]?=_ from hbt.bo);have hr2:=aI Cm.o.2.2 hcs;have H1:=ah (ak hcs (ak hbt (ak hst hrp)));clear hcs hbt hst hrp;go_wp2_with(refine wpList_store_rowTo rfl 40 (.tmp 6) (.tmp 38) rfl rfl (w.heap.size+1) (jW q s (.slice a L c) (.slice ub ns uc)).toArray rfl rfl 40 _ hr2 Cu rfl dg ?_);have hh:=dH _ _ _ (jW q s (.slice a L c) (.slice ub ns uc)).toArray _ _ hr2;refine aM (v:= .agg (jW q s (.slice a L c) (.slice ub ns uc)).toArray) (dV results7 _ _ _ _ _ _ _ rfl hh underlying40 rfl ax) rfl ?_;obtain⟨hx2,Dg,hst,hrp⟩:=H1.o;have ht:=TK.setRow (n0:=0) (T:=λx=>x==40) hr2 aE (bP _) (jW q s (.slice a L c) (.slice ub ns uc)).toArray;exact⟨q,s,a,c,L,ub,uc,ns,rfl,eB (Cm.o.1.trans hx2) aq _,(Dg.po.tk ht rfl rfl rfl).rd,⟨bY wQ (ht.own hst.1 rfl),hst.2.1,λx hm=>⟨(hst.2.2 x hm).1,bY rZ (ht.own (hst.2.2 x hm).2 rfl)⟩⟩,bY iC (ht.own Dg.own rfl),hrp,CX Dg.own⟩
def agH(h:DoR zW newP p' d):p'= {newP with fm:=2,fc:= [⟨QU,327681⟩]}/\d=[]:=by
 rcases h with⟨-,ns0,hs,rfl⟩|⟨h,-⟩|⟨h,-⟩
 ·rcases hs with⟨-,m',cs',hs,rfl⟩|⟨h,-⟩|⟨h,-⟩
  ·obtain⟨rfl,rfl,rfl⟩:=adj hs;exact uk
  ·exact absurd h az
  ·exact absurd h az
 ·rw[show kR (str zW.2.2.2.1)=false from ax]at h;cases h
 ·rcases h with h|⟨h,-⟩
  ·exact absurd ax h
  ·rw[show kF (str zW.2.2.2.1)=true from ax]at h;cases h
def agG(h:DoR QV {newP with fm:=2,fc:= [⟨QU,327681⟩]} p' d):p'=IW/\d=[]:=by
 rcases h with⟨h,-⟩|⟨-,rfl,rfl⟩|⟨h,-⟩
 ·rw[show kF (str QV.2.2.2.1)=false from ax]at h;cases h
 ·exact⟨ax,ax⟩
 ·rcases h with h|⟨-,h⟩
  ·exact absurd ax h
  ·rw[show kR (str QV.2.2.2.1)=true from ax]at h;cases h
def ako(h:Fo RsR [zW,QV] (newP,[]) (q,ns)):q=IW/\ns=[]:=by obtain⟨t,⟨d1,h1,k1⟩,u,⟨d2,h2,k2⟩,h3⟩:=h;obtain⟨e1,rfl⟩:=agH h1;obtain⟨p1,n1⟩:=t;obtain⟨p2,n2⟩:=u;dsimp only at *;subst e1 k1;obtain⟨rfl,rfl⟩:=agG h2;subst k2;have h4:(q,ns)=(IW,[]++[]++[]):=h3;exact⟨(Prod.mk.inj h4).1,(Prod.mk.inj h4).2⟩
def agF{L:List Pg}(h:ET ([102],0,IX) [] p L ns):ns=[]/\L.length=2/\∀d a b,adn d a b->(L.map λx=>qK d x.p)=[a,b]:=by
 unfold ET at h;rw[ZR]at h;rcases h with⟨h,-⟩|⟨-,q,ns0,h0,h⟩
 ·exact absurd rfl h
 obtain⟨rfl,rfl⟩:=ako h0;rcases h with⟨h,-⟩|⟨-,h,-⟩|⟨-,rfl,rfl,ys,h1,h2,h3⟩
 ·cases h
 ·exact absurd aki h
 ·exact⟨rfl,adi h1 h2 h3⟩
def akn:jO.EU Xu:=by constructor<;>decide
def akm:jO.EU Xt:=by constructor<;>decide
def akl:jO.EU Xr:=by constructor<;>decide
def adl(b:Nat):PF:=⟨[102],0,IX,some b,67⟩
def adk(w:ay):gZ.Good (w.alloc (.cells (IX.flatMap gZ.m9).toArray 5 (67,68))) (adl w):=by
 refine⟨_,_,rfl,(show IX.length<=67 from az),(λh=>by cases h),λi hi=>⟨_,_,rfl,λj hj=> ?_⟩⟩;have hj0:j=0:=by simp[gZ.m9]at hj;exact hj
 subst hj0;have h:=flat_get gZ.Dv IX i 0 hi az;rw[show 0+i*1+0=i*1+0 from aq,World.cell?_alloc_mark];rw[List.getElem?_toArray,h]
 rfl
theorem QT(w:ay):Rt 5 #[] w (.bool true):=by
 have hC:=λW (hg:gZ.Good W (adl w))=>zB (adl w) (.slice none 0 0) [] true ⟨show 1<=maxLen from az,show IX.length<=1000000 from az⟩ (λ_ h=>by cases h) (show IX.length<=6000 from az) (bP _) (λ_ h=>by cases h) W hg (afq _ _ _) (λ_ h=>by cases h)
 have hC2:∀W,gZ.Good W (adl w)->Calls prog 7 #[.agg #[.string ⟨#[102]⟩,.int .i64 0,.slice (some w) 67 67],.slice none 0 0,.bool true] W (GI W ([102],0,IX) []):=λW hg=>hC W hg
 have HC:=ah hC2;clear hC hC2;have kc:=λ(w:ay) (C:Array aA) (n c:Nat)=>Lib.run_convert_bytes_const (P:=prog) w 22 5 C n c underlying22 underlying5
 have hg0:gZ.Good (w.alloc (.cells (IX.flatMap gZ.m9).toArray 5 (67,68))) (adl w):=adk w;have HG0:=ah (ak hg0 ((aj w).alloc (.cells (IX.flatMap gZ.m9).toArray 5 (67,68))));clear hg0;unfold Rt;go_in;go_upto_region 2 with(first
  |(go_at_call 7;refine(HC.o _ HG0.o.1).mono ?_;rintro e w2 ⟨p,s,a,c,L,b,d,ns,rfl,hx2,hpr,hst,hn,hrp,-⟩
    obtain⟨rfl,hL,htl⟩:=agF hrp;have hn2:=aC w2 (.cells (jW zP newS (.slice none 0 0) (.slice none 0 0)).toArray 40);have H2:=ah (ak (HG0.o.2.trans hx2) (ak hst (ak hn (ak hL htl))));clear hx2 hpr hst hn hrp hL htl;unfold jW)
  |(refine wpList_store_rowTo rfl 40 (.tmp 1) (.tmp 11) rfl rfl w2.heap.size (jW p s (.slice a L c) (.slice b 0 d)).toArray rfl rfl 40 _ hn2 Cu rfl dg ?_;rw[World.setRow_alloc_new]))
 have hb3:=aC w2 (.cells (jW p s (.slice a L c) (.slice b 0 d)).toArray 40);have hx3:=H2.o.1.alloc (.cells (jW p s (.slice a L c) (.slice b 0 d)).toArray 40);have agp:=H2.o.2.1.ext ((aj w2).alloc (.cells (jW p s (.slice a L c) (.slice b 0 d)).toArray 40));have anT:=H2.o.2.2.1.ext ((aj w2).alloc (.cells (jW p s (.slice a L c) (.slice b 0 d)).toArray 40));have hL:=H2.o.2.2.2.1;have htl:=H2.o.2.2.2.2;generalize w2.alloc (.cells (jW p s (.slice a L c) (.slice b 0 d)).toArray 40)=W3 at *;generalize w2.heap.size=B at *;have E1:∀W,Ext W3 W->Calls prog 14 #[.slice a L c,.agg #[.int .u32 37,.int .u32 1073741827,.int .u64 0,.int .u64 0,.int .u64 0,.int .u64 0,.int .u64 0,.int .u64 0,.int .u64 0]] W λe w'=>e= .returned (.tuple #[.int .u32 327681,.int .i64 0])/\Ext W w':=λW hx=>by have h:=Co _ L Xu akn W (agp.ext hx);rw[htl Xu _ _ akr,akx]at h;exact h
 have E2:∀W,Ext W3 W->Calls prog 14 #[.slice a L c,.agg #[.int .u32 3,.int .u32 1073741827,.int .u64 0,.int .u64 0,.int .u64 0,.int .u64 0,.int .u64 0,.int .u64 0,.int .u64 0]] W λe w'=>e= .returned (.tuple #[.int .u32 2147418112,.int .i64 0])/\Ext W w':=λW hx=>by have h:=Co _ L Xt akm W (agp.ext hx);rw[htl Xt _ _ akq,akw]at h;exact h
 have E3:∀W,Ext W3 W->Calls prog 14 #[.slice a L c,.agg #[.int .u32 3,.int .u32 1073741864,.int .u64 0,.int .u64 0,.int .u64 0,.int .u64 0,.int .u64 0,.int .u64 0,.int .u64 0]] W λe w'=>e= .returned (.tuple #[.int .u32 2147483648,.int .i64 0])/\Ext W w':=λW hx=>by have h:=Co _ L Xr akl W (agp.ext hx);rw[htl Xr _ _ akp,akv]at h;exact h
 have HR:=ah (λW (hx:Ext W3 W)=>Fe p s (.slice a L c) b d [] (bP _) W (anT.ext hx));have c13:W3.cell? ⟨B,13,none⟩=some (.slice a L c):=aG hb3 13;have HE1:=ah E1;have HE2:=ah E2;have HE3:=ah E3;have H3:=ah (ak hb3 hx3);have z2:((L:Int)==2)=true:=by rw[hL];rfl
 have z3:(L:Int)=2:=by rw[hL];rfl
 clear E1 E2 E3 hb3 hx3 agp anT htl hL H2 hn2;unfold jW at HR;go_upto_region 3 with(go_at_call 14;refine ap (HE1.o _ (aj _)) ?_;intro w4 hx4;have aoZ:w4.cell? ⟨B,13,none⟩=some (.slice a L c):=hx4.cell c13;have Ck:=ah hx4;clear hx4);go_upto_region 4 with(go_at_call 14;refine ap (HE2.o _ Ck.o) ?_;intro w5 hx5;have awv:w5.cell? ⟨B,13,none⟩=some (.slice a L c):=hx5.cell aoZ;have kM:=ah (Ck.o.trans hx5);clear hx5);go_upto_region 5 with(go_at_call 14;refine ap (HE3.o _ kM.o) ?_;intro w6 hx6;have hb6:=aI H3.o.1 (kM.o.trans hx6);have sD:=ah (kM.o.trans hx6);clear hx6);go_wp2_with(first
  |(refine gX rfl 40 (.tmp 1) rfl B rfl 40 _ _ _ hb6 underlying40 rfl Cu ?_;unfold jW)
  |(go_at_call 9;refine ap (HR.o _ sD.o) ?_;intro w7 hx7;have asN:w7.cell? ⟨B,13,none⟩=some (.slice a L c):=hx7.cell (aG hb6 13);have DY:=ah (H3.o.2.trans (sD.o.trans hx7));clear hx7))
 go_ret;exact⟨rfl,DY.o⟩
end LT
end Go.Proofs.YtopfefhenfineaaGreat
namespace Go.Proofs.YtopfefhenfineaaGreat
open Go.Proofs.Tryz Go.RowKit Go.Shelf V
namespace LT
variable{B d:Nat}{p:iZ}
def ad1(p:iZ):(nE p 1 0).length=0:=Nat.le_zero.1 (L4 p 0)
def ajh{a:Int}(h:kG p d a=true):vR.inA p.ar a=true:=by unfold kG at h;simp only[bA]at h;exact h.1.2
def aff{ys:List Pt}{L:List Pg}(h1:ys.map Pt.at=SQ p)(h2:yP (yj p) ys L):L.length=(zC p).length+(nE p 8 0).length:=by rw[<-h2.len,<-aS (f:=Pt.at),h1];unfold SQ;exact aH
def ahn{W:ay}{t:dz}{s:iF}{st no:aA}(h:W.heap[B]?=some (.cells (jW p s st no).toArray t (0,0))):W.cell? B=some (.slice s.a p.ar s.c)/\W.cell? ⟨B,1,none⟩=some (.int .u8 p.fm)/\W.cell? ⟨B,2,none⟩=some (.slice s.fa p.fc s.fc)/\W.cell? ⟨B,3,none⟩=some (.int .u32 p.dn)/\W.cell? ⟨B,4,none⟩=some (.int .u8 p.lm)/\W.cell? ⟨B,5,none⟩=some (.slice s.la p.lc s.lc)/\W.cell? ⟨B,6,none⟩=some (.slice s.ga p.fa s.gc)/\W.cell? ⟨B,7,none⟩=some (.int .u8 p.fd)/\W.cell? ⟨B,8,none⟩=some (.int .u64 (p.sp:Int))/\W.cell? ⟨B,9,none⟩=some (.bool p.we)/\W.cell? ⟨B,10,none⟩=some (.bool p.pe)/\W.cell? ⟨B,11,none⟩=some (.bool p.rt)/\W.cell? ⟨B,12,none⟩=some (.bool p.np)/\W.cell? ⟨B,13,none⟩=some st/\W.cell? ⟨B,14,none⟩=some no:=
 ⟨aG h 0,aG h 1,aG h 2,aG h 3,aG h 4,aG h 5,aG h 6,aG h 7,aG h 8,aG h 9,aG h 10,aG h 11,aG h 12,aG h 13,aG h 14⟩
end LT
end Go.Proofs.YtopfefhenfineaaGreat
namespace Go.Proofs.YtopfefhenfineaaGreat
open Go.Proofs.Tryz Go.RowKit Go.Shelf V
attribute[local go_sem] Oper.semAt_some V.Oper.idle V.Oper.mE V.Oper.jM
namespace LT
open gZ (AF NF Fl PF fV gy yJ qy)
theorem aiC:(Tryz.prog.info? 24).map (·.size)=some 3:=ax
def yP.get{α β:Type}{R:α->β->Prop}:∀ {l:List α} {m:List β},yP R l m->∀ {i:Nat} (hi:i<l),∃hj:i<m,R l[i] m[i]
 |a::l,b::m,⟨h1,_⟩,0,_=>⟨Nat.zero_lt_succ _,h1⟩
 |a::l,b::m,⟨_,h2⟩,i+1,hi=>by obtain⟨hj,h⟩:=h2.get (Nat.lt_of_succ_lt_succ hi);exact⟨Nat.succ_lt_succ hj,h⟩
def aaw(p:iZ)(d:Nat):∀j k,k+j=6->nE p d k <+: nE p d 6
 |0,k,h=>by rw[show k=6 from aq];exact List.prefix_refl _
 |j+1,k,h=>List.IsPrefix.trans ⟨_,(EP p d k).symm⟩ (aaw p d j (k+1) aq)
def aaJ(p:iZ):∀j d,d+j=8->nE p d 0 <+: nE p 8 0
 |0,d,h=>by rw[show d=8 from aq];exact List.prefix_refl _
 |j+1,d,h=>by refine List.IsPrefix.trans (aaw p d 6 0 rfl) ?_;rw[<-tN];exact aaJ p j (d+1) aq
def aaL(p:iZ){d k:Nat}(hd:d<8)(hk:k<6)(h:kG p d (k:Int)=true):(nE p 8 0)[(nE p d k).length]?=some (d,k):=by
 have h1:nE p d (k+1) <+: nE p 8 0:=by refine List.IsPrefix.trans (aaw p d (5-k) (k+1) aq) ?_;rw[<-tN];exact aaJ p (7-d) (d+1) aq
 rw[EP,aV h]at h1;obtain⟨t,ht⟩:=h1;rw[<-ht,bI,Bk (aD _),Nat.sub_self]
 rfl
def aaM{l:List Ix}(h:TW l=true):l.length≠0:=by unfold TW at h;rw[bA]at h;intro e;rw[bG e]at h;exact absurd h.2 az
def ark{p:iZ}{ys:List Pt}{L:List Pg}(h1:ys.map Pt.at=SQ p)(h2:yP (yj p) ys L){d k:Nat}(hd:d<8)(hk:k<6)(h:kG p d (k:Int)=true)(n:Nat)(hn:n=(zC p).length+(nE p d k).length):∃hi:n<L,L[n].dr=d/\L[n].ar=k/\L[n].p.length≠0:=by
 have h3:(SQ p)[n]?=some (d,k):=by unfold SQ;rw[hn,Bk aq,Nat.add_sub_cancel_left];exact aaL p hd hk h
 rw[<-h1,List.getElem?_map]at h3;have hi:n<ys:=by
  rcases Nat.lt_or_ge n ys with h|h
  ·exact h
  ·rw[List.getElem?_eq_none h]at h3;cases h3
 rw[aJ hi]at h3;obtain⟨hj,ht⟩:=h2.get hi;have h4:ys[n].at=(d,k):=by simpa using h3
 have e1:ys[n].d=d:=(Prod.mk.inj h4).1;have e2:ys[n].a=k:=(Prod.mk.inj h4).2;exact⟨hj,ht.dr.trans e1,ht.ar.trans e2,aaM ht.ok⟩
theorem F9(m:PF)(v:aA)(ps:List PF)(opt:Bool)(hl:ps.length<=maxLen)(w:ay)(hgm:gZ.Good w m)(hv:Rd w 3 qy v ps)(hg:∀p∈ps,gZ.Good w p):Rt 3 #[gZ.fV m,v,.bool opt] w (.bool true):=by
 have HF:=ah QT;have hG:=λW (hx:Ext w W)=>Kt m v ps hl W (hv.ext hx)
 have hC:AP m.f (ps.map PF.f)=false->∀W,Ext w W->Calls prog 7 #[gZ.fV m,v,.bool opt] W (GI W m.f (ps.map PF.f)):=λh W hx=>by
  obtain⟨h1,h2,h3,h4⟩:=Kr h;rw[aS]at h3;have h5:∀p∈ps,p.bs.length<=6000/\p.nm.length<=200:=λp hp=>h4 p.f (dW.2 ⟨p,hp,rfl⟩)
  refine zB m v ps opt ⟨?_,?_⟩ (λp hp=>⟨?_,?_⟩) h1 h3 (λp hp=>(h5 p hp).1) W (gZ.Good.ext hx hgm) (hv.ext hx) (λp hp=>gZ.Good.ext hx (hg p hp))
  ·exact aL (show m.nm.length<=200 from h2) az
  ·exact aL (show m.bs.length<=6000 from h1) az
  ·exact aL (h5 p hp).2 az
  ·exact aL (h5 p hp).1 az
 obtain⟨va,vc,rfl,-⟩:=hv;have hb0:=aC w (.cells #[.string (gZ.str m.nm),.int .i64 m.dir,.slice m.a m.bs m.c] 24);have hx0:=(aj w).alloc (.cells #[.string (gZ.str m.nm),.int .i64 m.dir,.slice m.a m.bs m.c] 24);have H0:=ah (ak hb0 hx0);clear hb0 hx0 hg hgm;unfold gZ.fV at *;cases hgr:AP m.f (ps.map PF.f)with
 |true=>
  rw[hgr]at hG;have HG:=ah hG;clear hG hC;unfold Rt;go_in;go_wp2_with(first
   |(go_at_call 5;refine ap (HF.o _) ?_;intro w1 hx1;have hb1:=aI H0.o.1 hx1;have gK:=ah (H0.o.2.trans hx1);clear hx1)
   |(refine gX rfl 24 (.tmp 3) rfl w.heap.size rfl 24 _ _ _ hb1 underlying24 rfl aiC ?_)
   |(go_at_call 6;refine ap (HG.o _ gK.o) ?_;intro w2 hx2))
  go_ret;exact⟨rfl,gK.o.trans hx2⟩
 |false=>
 rw[hgr]at hG;have HG:=ah hG;have HC:=ah (hC hgr);clear hG hC;unfold Rt;go_in;go_upto_region 6 with(first
  |(go_at_call 5;refine ap (HF.o _) ?_;intro w1 hx1;have hb1:=aI H0.o.1 hx1;have gK:=ah (H0.o.2.trans hx1);clear hx1)
  |(refine gX rfl 24 (.tmp 3) rfl w.heap.size rfl 24 _ _ _ hb1 underlying24 rfl aiC ?_)
  |(go_at_call 6;refine ap (HG.o _ gK.o) ?_;intro w2 hx2;have hb2:=aI hb1 hx2;have jm:=ah (gK.o.trans hx2);clear hx2 hb1)
  |(refine gX rfl 24 (.tmp 3) rfl w.heap.size rfl 24 _ _ _ hb2 underlying24 rfl aiC ?_)
  |(go_at_call 7;refine(HC.o _ jm.o).mono ?_;rintro e w3 ⟨p,s,a,c,L,b,d,ns,rfl,hx3,hpr,hst,hn,hrp,hmx⟩
    have FE:=aC w3 (.cells (jW zP newS (.slice none 0 0) (.slice none 0 0)).toArray 40);have H3:=ah (ak (jm.o.trans hx3) (ak hpr (ak hst (ak hn hrp))));clear hx3 hpr hst hn hrp;unfold jW)
  |(refine wpList_store_rowTo rfl 40 (.tmp 7) (.tmp 22) rfl rfl w3.heap.size (jW p s (.slice a L c) (.slice b ns d)).toArray rfl rfl 40 _ FE Cu rfl dg ?_;rw[World.setRow_alloc_new]))
 have hb4:=aC w3 (.cells (jW p s (.slice a L c) (.slice b ns d)).toArray 40);have hx4:=H3.o.1.alloc (.cells (jW p s (.slice a L c) (.slice b ns d)).toArray 40);have wI:=(aj w3).alloc (.cells (jW p s (.slice a L c) (.slice b ns d)).toArray 40);have hpr:=H3.o.2.1.ext wI;have hst:=H3.o.2.2.1.ext wI;have hn:=H3.o.2.2.2.1.ext wI;have HRP:=ah H3.o.2.2.2.2;clear wI FE H3;generalize w3.alloc (.cells (jW p s (.slice a L c) (.slice b ns d)).toArray 40)=W4 at *;generalize w3.heap.size=B at *;obtain⟨b',d',hbe,-,hnc⟩:=K6 hn;cases hbe
 have hR:=λW (hx:Ext W4 W)=>Fe p s (.slice a L c) b d ns hmx W (hn.ext hx)
 have HR:=ah hR;have HNC:=ah hnc;have H4:=ah (ak hb4 (ak hx4 (ak hpr hst)));clear hb4 hx4 hpr hst hn hnc hR;go_wp2_with fail;go_loopw [8] (λi wr=>∃k:Nat,k<=ns/\i= .int .i64 k/\Ext W4 wr) (λi _=>ns.length-(intOf i).toNat)
 case atStart=>exact tg
 case round=>
  obtain⟨k,hk,rfl,hx⟩:=hrel;have hb5:=aI H4.o.1 hx;have c14:wr.cell? ⟨B,14,none⟩=some (.slice b ns d):=aG hb5 14;by_cases hlt:k<ns
  ·obtain⟨nb,no,rfl,-,-,c2,-⟩:=HNC.o k hlt;replace c2:=hx.cell c2;have hl1:=HRP.o.list ns[k] (aW hlt);generalize ns[k].er=er at c2 hl1;have hL:=λW=>Na er W
   rw[Zp hl1]at hL;have HL:=ah hL;have HX:=ah hx;have HK:=ah hlt;have zk:(k:Int)<ns:=aq;clear hL hx hl1 hb5;go_wp2_with(go_at_call 8;refine ap (HL.o _) ?_;intro w5 hx5;have kM:=ah (HX.o.trans hx5);clear hx5);go_roundw
   case rel=>exact⟨k+1,HK.o,bm,kM.o⟩
   case measure=>exact gO
  ·obtain rfl:k=ns.length:=aq;have HX:=ah hx;clear hx;cases UG:nR ns with
   |true=>
    obtain⟨hL0,hn0⟩:=HRP.o.bad UG;have hn1:ns.length≠0:=λe=>hn0 (bG e)
    have hR:=HR.o;rw[UG]at hR;have HR2:=ah hR;subst hL0;clear hR hn0;unfold jW at hb5 HR2;go_wp2_with(first
     |(refine gX rfl 40 (.tmp 7) rfl B rfl 40 _ _ _ hb5 underlying40 rfl Cu ?_)
     |(go_at_call 9;refine ap (HR2.o _ HX.o) ?_;intro w6 hx6;have aoZ:w6.cell? ⟨B,13,none⟩=some (.slice a 0 c):=hx6.cell (aG hb5 13);have aoY:w6.cell? ⟨B,14,none⟩=some (.slice b ns d):=hx6.cell c14;have sD:=ah (HX.o.trans hx6);clear hx6))
    go_ret;rw[aQ (Nat.pos_of_ne_zero hn1)];exact⟨rfl,H4.o.2.1.trans sD.o⟩
   |false=>
    obtain⟨-,-,hok,ys,hy1,hy2,-⟩:=HRP.o.good UG;have hR:=HR.o;rw[UG]at hR;have HLEN:=ah (aff hy1 hy2);have hnl:(nE p 8 0).length<=48:=by have:=wU p 0 8;omega
    have hIn:=λa W (hx:Ext W4 W)=>vR.RY _ p.ar a gi W (H4.o.2.2.1.ar.ext hx)
    have HR2:=ah hR;have HAT:=ah (λd k hd hk h n hn=> @ark p ys L hy1 hy2 d k hd hk h n hn);have hAc:=λd hd a ha W (hx:Ext W4 W)=>Oa p s d hd a ha hok W (H4.o.2.2.1.ext hx)
    have rM:=λW (hx:Ext W4 W)=>xg p s hok W (H4.o.2.2.1.ext hx)
    obtain⟨a',c',hae,-,hpc⟩:=Au H4.o.2.2.2.1;cases hae
    have HPC:=ah hpc;have aoI:∀d k,d<=8->k<=6->(nE p d k).length<=60:=λd k h1 h2=>by have:=wU p k d;omega
    have auG:=ah aoI;have hK1:(zC p).length=if 0<p.ar.length then 1 else 0:=by unfold zC;split<;>rfl
    unfold m6 fA at hAc rM;have HIN:=ah hIn;have HAC:=ah hAc;have HAL:=ah rM;have HB:=ah H4.o.1;unfold jW at hb5 HR2;generalize hNN:(nE p 8 0).length=NN at *;have HNN:=ah hNN;clear hR hy1 hy2 hok hIn hAc rM hpc aoI hNN;by_cases h0:0<p.ar.length
    all_goals
     first
      |(rw[aV h0]at hK1;have z0:(0:Int)<(p.ar.length:Int):=aq
        have hle:=HLEN.o;rw[hK1]at hle;have z17:((L:Int)==(NN:Int)+1)=true:=by rw[fU];omega
        have z18:((L:Int) !=(NN:Int)+1)=false:=by unfold bne;rw[z17];rfl)
      |(rw[aN h0]at hK1;have z0:(p.ar.length:Int)=0:=aq
        have hle:=HLEN.o;rw[hK1]at hle;have z17:((L:Int)==(NN:Int))=true:=by rw[fU];omega
        have z18:((L:Int) !=(NN:Int))=false:=by unfold bne;rw[z17];rfl)
     have HK1:=ah hK1;have HLE:=ah hle;clear hK1 hle;generalize(zC p).length=K at *;go_upto_region 21 with(first
      |(refine gX rfl 40 (.tmp 7) rfl B rfl 40 _ _ _ hb5 underlying40 rfl Cu ?_)
      |(go_at_call 9;refine ap (HR2.o _ HX.o) ?_;intro w6 hx6;obtain⟨k0,k1,k2,k3,k4,k5,k6,k7,k8,k9,k10,k11,k12,k13,-⟩:=ahn (show w6.heap[B]?=_ from aI HB.o (HX.o.trans hx6));have sD:=ah (HX.o.trans hx6);clear hx6)
      |(go_at_call 10;refine(HAL.o _ sD.o).mono ?_;rintro e w7 ⟨⟨la,lc,rfl⟩,hx7⟩;have m13:w7.cell? ⟨B,13,none⟩=some (.slice a L c):=hx7.cell k13;have DY:=ah (sD.o.trans hx7);clear hx7))
     go_loopw [11,12] (λn i wr2=>∃dd:Nat,1<=dd/\dd<=8/\i= .int .i64 dd/\n= .int .i64 ((K+(nE p dd 0).length:Nat):Int)/\Ext W4 wr2) (λ_ i _=>8-(intOf i).toNat)
     case atStart=>
      refine⟨1,aq,aq,rfl,?_,DY.o⟩;rw[ad1,HK1.o]
      rfl
     case round=>
      obtain⟨dd,hd1,hd8,rfl,rfl,hx⟩:=hrel;by_cases hlt:dd<8
      ·have zd:(dd:Int)<8:=aq;have HX8:=ah hx;clear hx;go_wp2_with fail;go_loopw [11,13] (λn i wr3=>∃k:Nat,k<=6/\i= .int .i64 k/\n= .int .i64 ((K+(nE p dd k).length:Nat):Int)/\Ext W4 wr3) (λ_ i _=>6-(intOf i).toNat)
       case atStart=>exact⟨0,aq,rfl,rfl,HX8.o⟩
       case round=>
        obtain⟨k,hk,rfl,rfl,hx⟩:=hrel;by_cases UF:k<6
        ·have zk:(k:Int)<6:=aq;have JR:=ah hx;have hA:=HAC.o dd hlt (k:Int) ⟨aq,aq⟩;have hnx:=congrArg (λl=>K+List.length l) (EP p dd k);have anY:=auG.o dd k hd8 hk;have aoE:K<=1:=by rw[HK1.o];decide
         obtain⟨n,hn⟩:∃n,n=K+(nE p dd k).length:=⟨_,rfl⟩;rw[<-hn];have hnb:n<=100:=aq;obtain⟨q0,q1,q2,q3,q4,q5,q6,q7,q8,q9,q10,q11,q12,q13,-⟩:=ahn (show _=_ from aI HB.o hx);clear hx;cases hac:kG p dd (k:Int)with
         |false=>
          rw[hac]at hA hnx;have hnx2:K+(nE p dd (k+1)).length=n:=by rw[hn];simpa using hnx
          have HA9:=ah hA;have HNX:=ah hnx2;clear hA hnx hnx2 anY hn aoE;go_wp2_with(go_at_call 11;refine ap (HA9.o _ JR.o) ?_;intro w8 vT;have Sn:=ah (JR.o.trans vT);clear vT);go_roundw
          case rel=>exact⟨k+1,aq,bm,by rw[HNX.o],Sn.o⟩
          case measure=>simp[intOf];omega
         |true=>
          rw[hac]at hA hnx;have hnx2:K+(nE p dd (k+1)).length=n+1:=by rw[hn];simpa[Nat.add_assoc]using hnx
          obtain⟨hi,e1,e2,e3⟩:=HAT.o dd k hlt UF hac n hn;have hI:=HIN.o (k:Int);rw[ajh hac]at hI;obtain⟨nb,no,rfl,c0,c1,c2⟩:=HPC.o n hi;rw[e1]at c0;rw[e2]at c1;have HA9:=ah hA;have HI9:=ah hI;have HNX:=ah hnx2;have zi:(n:Int)<L:=aq;have zq:((L[n].p.length:Int)==0)=false:=bK.2 (λe=>e3 aq);generalize L[n].p.length=ql at c2 zq;generalize L[n].a=qa at c2;generalize L[n].c=qc at c2;clear hA hI hnx hnx2 anY hn aoE e1 e2 e3;go_wp2_with(first
           |(go_at_call 11;refine ap (HA9.o _ JR.o) ?_;intro w8 vT;have q0':w8.cell? B=some (.slice s.a p.ar s.c):=vT.cell q0;have Sn:=ah (JR.o.trans vT);clear vT)
           |(go_at_call 12;refine ap (HI9.o _ Sn.o) ?_;intro w9 D9;have ayp:w9.cell? ⟨B,13,none⟩=some (.slice (some ⟨nb,no,none⟩) L c):=aG (aI HB.o (Sn.o.trans D9)) 13;have d0:=(Sn.o.trans D9).cell c0;have d1:=(Sn.o.trans D9).cell c1;have d2:=(Sn.o.trans D9).cell c2;have ali:=ah (Sn.o.trans D9);clear D9))
          go_roundw
          case rel=>exact⟨k+1,aq,bm,by rw[HNX.o];go_num,ali.o⟩
          case measure=>simp[intOf];omega
        ·obtain rfl:k=6:=aq;have JR:=ah hx;clear hx;go_wp2_with fail;go_roundw
         case rel=>exact⟨dd+1,aq,aq,bm,by rw[tN],JR.o⟩
         case measure=>simp[intOf];omega
      ·obtain rfl:dd=8:=aq;have q13:=(show World.cell? _ ⟨B,13,none⟩=some (.slice a L c)from aG (aI HB.o hx) 13);have hfin:((K+(nE p 8 0).length:Nat):Int)=(L:Int):=by have h1:=HLE.o;have h2:=HK1.o;have h3:=HNN.o;omega
       rw[hfin];have JR:=ah hx;clear hx;go_wp2_with fail;go_ret;exact⟨rfl,H4.o.2.1.trans JR.o⟩
end LT
end Go.Proofs.YtopfefhenfineaaGreat
namespace Go.Proofs.YtopfefhenfineaaGreat
open Go.Proofs.Tryz Go.RowKit Go.ChangeShapes Go.WideShapes Go.ChangeAt V
namespace LT
theorem ER(os:Os)(started:os.Started)(H:Type)(enc:dz×aA->H):ReturnsInHanded {} Tryz.checked os 3 .any (Rows.topClosedSpec.pre6 enc prog Tryz.f3 Rows.topClosedRow.domain false) (Rows.topClosedSpec.post enc prog Tryz.f3 false true false false):=by
 refine Ut (C:=Tryz.checked) (T:=4) Tryz.own started ax func3 Tryz.laidOut ax rfl rfl underlying4 ?_
  (ChangeSpec.witness6 (enc:=enc) (C:=Tryz.checked) false ⟨#[],#[.agg #[.string ⟨#[]⟩,.int .i64 0,.slice none 0 0],.slice none 0 0,.bool false],[]⟩ 8 ax ax ax ax) ?_
 ·intro ds hd
  match ds,hd with
  | [_,_,_],_=>rfl
 intro W base args ds before hval0 hA0 hlt hsz0;have hval:∀(j:Nat) t v,Tryz.f3.params[j]?=some t->args[j]?=some v->Value.okWide prog W .any base t v:=hval0;have hA:DataW.TrodAll enc prog W 0 (λ_=>true) true Tryz.f3.params.toList args.toList ds before:=hA0;have hsz:(DataW.weightsEach prog Tryz.f3.params.toList ds).all (·<=reachBytes)=true:=hsz0;rw[params3]at hA hval hsz;obtain⟨v0,v1,v2,d0,d1,d2,p0,p1,p2,rfl,rfl,rfl,h0,h1,h2⟩:=trodAll_three hA;obtain⟨p0,rfl,hp0⟩:=gZ.adG (hval 0 24 v0 rfl rfl) h0 (Qo hsz (i:=0) rfl rfl);have hv1:=okWide_slice underlying25 (hval 1 25 v1 rfl rfl);obtain⟨fuel1,hf1⟩:=h1;rw[OV hv1]at hf1;obtain⟨x1,Gx,hl1,_⟩:=Ww (n:=3) (λcs x=>cs=gZ.qy x/\gZ.nD W x) ⟨[],0,[],none,0⟩ underlying25 ax az (λfuel cs y hy hyl hyn=>gZ.adH fuel cs y hy hyl hyn) hf1 (Qo hsz (i:=1) rfl rfl);obtain⟨hr1,hk1⟩:=Gx.rd;obtain⟨a2,rfl,rfl,rfl⟩:=open_bool underlying4 (hval 2 4 v2 rfl rfl) h2;exact F9 p0 v1 x1 a2 hl1 W hp0.1 hr1 (λp hp=>(hk1 p hp).1)
theorem TopClosed_holds:Rows.TopClosedSaid:=
 OpenClaim.holds_of_wide 3 Tryz.f3 rfl rfl rfl rfl rfl rfl rfl ⟨rfl,rfl,rfl,rfl,rfl⟩ rfl rfl rfl rfl rfl bj func3 NH
  (of_decide_eq_true bj) (by unfold Func.isWrapper;first|(rw[aV ci];kernel_rfl)|(rw[aN ci];exact⟨rfl,rfl⟩))
  (λos started H enc _=>ER os started H enc)
end LT
end Go.Proofs.YtopfefhenfineaaGreat
