import Derived.Test.YtopfefhenfineaaGreatP19
import Derived.Test.YtopfefhenfineaaGreatP7
import Derived.Test.YtopfefhenfineaaGreatP20
import Derived.Lib.OwnBridge
import Derived.Lib.OthersKept
import Derived.Deep.RegionWith
import Derived.Sort.Walk0
set_option linter.all false
set_option maxRecDepth 100000
set_option maxHeartbeats 8000000
namespace Go.Proofs.YtopfefhenfineaaGreat
open Go.Proofs.Tryz Go.RowKit Go.Shelf bh
attribute[local go_sem] Oper.semAt_some
variable{S:Prop}
def ahp(h:S:=by rintro F rfl;exact⟨Below.refl _ _,_,[],rfl,aZ _,(λ_ h=>by cases h),h⟩):S:=h
def XI(h:S:=by
 rcases h.2 with⟨-,h2⟩|⟨g,cap,bm,e,-⟩
 ·exact nN h2
 ·cases e):S:=h
def ahq(h:S:=by
 have pf:=z em;go_in;go_wp2_with fail;refine pf.o.mono ?_;rintro e I ⟨Q,v,rfl,hv⟩;have vA:v=E none 0 0:=hv;subst vA;have bF:=z Q;go_wp2_with fail;go_loopw [9] (λi wr=>i=H 0/\wr=I) (λ_ _=>0)
 case atStart=>exact⟨rfl,rfl⟩
 case round=>obtain⟨rfl,rfl⟩:=hrel;go_wp2_with fail;go_end0;exact⟨rfl,l,u,cI.o.ext' bF.o,rO _ _,uQ.mI bF.o⟩):S:=h
namespace LT
variable{W aa eL hN aP w:G}{l b3:List (List aL)}{u d1 Jn v:K}{x:List aL}
theorem ayh:(Tryz.prog.info? 9).map (λi=>(i.zero,i.size,i.bytes))=some (some (N ⟨#[]⟩),1,16):=aj
def ayi(s:List aL):∀u∈encStr s,u.oneCell'=true:=by intro u a6;simp[encStr]at a6;subst a6;rfl
abbrev MQ(w:G):K:= .func (.func 405) #[] #[aB (some ⟨w+1,0,none⟩),aB (some w)]
structure zo(w:G)(l:List (List aL))(u:K)(W:G):Prop where
 ext:Ext w W
 bi:W.heap[w.heap.size+1]?=some (J #[MQ w] 332 (0,0))
 bo:Boxed W w 293 u
 own:W.ownsRow (w+2) 9 1 u l (l.flatMap encStr)
 kn:∀n∈l,oJ n=true
def zo.ext'(h:zo w l u W)(D:Ext W aa):zo w l u aa:=
 ⟨h.ext.trans D,aJ h.bi D,(D.block h.bo.lt).trans h.bo,qB h.own (Keep.of_below D (λ_ hk=>hk)) (λb e=>(h.own.lt b e).2),h.kn⟩
def zo.appended{k:Nat}(h:zo w l u W)(hg:W.grownBy eL u.ownBlock)(hk:k=l.length+1)(D:oJ x=true)(ho:eL.ownsRow (w+2) 9 1 Jn k ((l++[x]).flatMap encStr)):zo w (l++[x]) Jn (eL.setCell w Jn):=by
 subst hk;have hn:∀k,k<w.heap.size+2->some k≠u.ownBlock:=λk hk e=>by have:=(h.own.lt k e.symm).1;omega
 refine⟨(h.ext.grown hg (λk e=>by have:=(h.own.lt k e).1;omega)).setCell (by show w.heap.size<=w;omega) _,?_,(h.bo.kept hg (hn _ aE)).set _,?_,?_⟩
 ·exact(fI _ _ _ _ (by show w.heap.size+1≠w.heap.size;omega)).trans ((hg.block _ (dG.1 h.bi).1 (hn _ aE)).trans h.bi)
 ·rw[dA];exact qB (a7:=λk=>k≠w.heap.size) ho (Keep.setCell eL (λe=>e rfl) _) (λb e aV=>by have:=(ho.lt b e).1;omega)
 ·intro n kj;rcases iZ.1 kj with h2|h2
  ·exact h.kn n h2
  ·rw[pI.1 h2];exact D
def ahr(l:List aL):Lib.hasPrefix l [64]=(l.head?==some 64):=by
 cases l with
 |nil=>rfl
 |cons c r=>show([64].isPrefixOf (c::r))=_;rw[dW];simp[List.isPrefixOf];exact eq_comm
structure uQ(w W aa:G)(u d1:K):Prop where
 size:W.heap.size<=aa
 blk:∀k,k<W.heap.size->k≠w.heap.size->some k≠u.ownBlock->aa.heap[k]?=W.heap[k]?
 own:∀b,d1.ownBlock=some b->u.ownBlock=some b\/W.heap.size<=b
def uQ.mI(h:Ext W aa):uQ w W aa u u:=⟨h.size,λ_ hk _ _=>h.block hk,λ_ e=> .inl e⟩
def uQ.trans{w aq B C:G}{a b c:K}(h:uQ w aq B a b)(k:uQ w B C b c):uQ w aq C a c:=
 ⟨cB h.size k.size,λi hi h1 h2=>(k.blk i (vw hi h.size) h1 (λe=>by
  rcases h.own i e.symm with aV|aV
  ·exact h2 aV.symm
  ·omega)).trans (h.blk i hi h1 h2),λi e=>by
  rcases k.own i e with aV|aV
  ·exact h.own i aV
  ·exact .inr (cB h.size aV)⟩
def uQ.alk(D:Ext W aP)(hg:aP.grownBy hN u.ownBlock)(ab:∀b,d1.ownBlock=some b->u.ownBlock=some b\/aP.heap.size<=b):uQ w W (hN.setCell w v) u d1:=
 ⟨by have h1:=D.size;have h2:=hg.size;simpa[World.setCell]using cB h1 h2,
  λk hk h1 h2=>(fI _ _ _ _ h1).trans ((hg.block k (vw hk D.size) h2).trans (D.block hk)),
  λb e=>(ab b e).imp id (λh=>cB D.size h)⟩
theorem ayj(w:G)(k:Nat):∀(s:bn)(W:G)(l:List (List aL)) (u:K),nQ (bytes s)<=k->k<=6->l.length+8^k<=10000000->zo w l u W->Calls prog 405 #[N s,aB (some ⟨w+1,0,none⟩),aB (some w)] W λe F=>e=aI (bH #[])/\∃hO d1,zo w hO d1 F/\hO.length<=l.length+8^k/\uQ w W F u d1:=by
 induction k with
 |zero=>
  intro s W l u h _ _ cA;have R:rU (bytes s)=none:=ag0
  have em:=Rh s W;rw[R]at em;have cI:=z cA;exact ahq
 |succ k b9=>
  intro s W l u h Ay X cA;have em:=Rh s W;have cI:=z cA;cases R:rU (bytes s)with
  |none=>rw[R]at em;exact ahq
  |some ms=>
   rw[R]at em;have hg:=PY R;have gd:∀m∈ms,nQ m<=k:=λm h2=>by have:=Vd _ hg m h2;simp only at this;omega
   have ag3:ms.length<=8:=(DC _ hg).2.1;have Ex:∀m∈ms,m.head?≠some 64->oJ m=true:=asz _ hg;have aM3:8^k<=262144:=by have:8^k<=8^6:=Nat.pow_le_pow_right aE aE;omega
   have cg:=z (ah b9 (ah gd Ex));have pf:=z em;go_in;go_wp2_with fail;refine pf.o.mono ?_;rintro e I ⟨Q,v,rfl,⟨b0,c0,rfl,fN⟩,k2⟩;obtain⟨a,c,aV,-,bV⟩:=Rc k2;simp only[eZ]at aV;obtain⟨rfl,-,rfl⟩:=aV;have vq:=z (cI.o.ext' Q);have ayk:Hid (uQ w W I u u):=z (uQ.mI Q);have hG:∀j (Z:j<ms.length),I.cell? ⟨b0,j,none⟩=some (N (str ms[j])):=λj Z=>by
    obtain⟨b,o,e,h⟩:=bV j Z;cases e
    rw[gF]at h;exact h
   have AE:ms≠[]->b0<I.heap.size:=λbO=>gD _ _ (hG 0 (List.length_pos_iff.2 bO))
   have ayl:some b0≠u.ownBlock:=λe=>by have:=(cI.o.own.lt b0 e.symm).2;omega
   have ck:b0≠w.heap.size:=by have:=cI.o.bo.lt;omega
   have dt:=z (ah hG (ah AE (ah ayl ck)));go_wp2_with fail;go_loopw [9] (λi wr=>∃(j:Nat) (hO:List (List aL)) (d1:K),j<=ms/\i=H j/\zo w hO d1 wr/\uQ w I wr u d1/\hO.length<=l+j*8^k) (λi _=>ms.length-(intOf i).toNat)
   case atStart=>exact⟨0,l,u,aE,rfl,vq.o,uQ.mI (O _),aE⟩
   case round=>
    obtain⟨j,hO,d1,Z,rfl,MM,XJ,q4⟩:=hrel;have aM4:j*8^k<=8*8^k:=pF _ aE;by_cases ad:j<ms
    ·have bO:ms≠[]:=λe=>by rw[e]at ad;cases ad
     have ae:wr.cell? ⟨b0,j,none⟩=some (N (str ms[j])):=(xD (w:=I) (XJ.blk b0 (dt.o.2.1 bO) dt.o.2.2.2 dt.o.2.2.1)).trans (dt.o.1 j ad);have qe:=eB ad;have Eu:=cg.o.2.1 ms[j] qe;have pj:=cg.o.2.2 ms[j] qe;have hD:=λW=>Tryz.strings_HasPrefix (str ms[j]) ⟨#[64]⟩ W
     have lh:(str ms[j]).data.toList=ms[j]:=nP _;rw[lh]at hD
     change∀W,Calls prog 213 #[N (str ms[j]),N ⟨#[64]⟩] W λe F=>e=aI (av (Lib.hasPrefix ms[j] [64]))/\F=W at hD
     rw[ahr]at hD;have Ch:(j+1)*8^k=j*8^k+8^k:=Nat.succ_mul _ _;have xa:(j+1)*8^k<=8*8^k:=pF _ aE;have MR:8^(k+1)=8*8^k:=by rw[Nat.pow_succ];omega
     rw[MR]at X;have Rd:=cg.o.1 (str ms[j]) wr hO d1 (by rw[nP];exact Eu) aE aE MM;have MS:=λW=>Wh (str ms[j]) W
     simp only[nP]at MS;have fO:=MM.bo.cell;have aM5:wr.cell? ⟨w+1,0,none⟩=some (MQ w):=by simp[World.cell?,MM.bi]
     have r1:0<8^k:=Nat.pow_pos aE;generalize 8^k=py at *;have aym:=z MM;have ahs:=z XJ;have XK:=z q4;have Wg:=z MS;generalize ms[j]=GO at *;have Xc:=z Rd;have XL:=z pj;have aht:=z hD;cases Ci:(GO.head?==some 64)
     ·have hD:=aht.o;rw[Ci]at hD;have Ex:=XL.o (by intro e;rw[e]at Ci;exact absurd Ci Y);have MS:=Wg.o;rw[Ex]at MS;have ayn:=z MS;have XM:=z hD;have ayo:=z Ex;have BE:hO.length+[GO].length<=100000000:=by have:=XK.o;simp;omega
      go_wp2_with(first
       |(go_at_call 213;refine ak (XM.o _) ?_;rintro aO rfl)
       |(go_at_call 99;refine ak (ayn.o _) ?_;intro bj a';have aM6:=a'.cell fO;have Cj:=z ((aym.o.ext' a').ext' ((O _).alloc (J #[N (str GO)] 9)));have cL:=z (a'.alloc (J #[N (str GO)] 9)))
       |(at_builtin;refine acD rfl (.tmp 20) (.tmp 22) 293 rfl underlying293 ayh rfl Y q8 ayi (w+2) d1 _ hO [GO] rfl rfl Cj.o.own (jh q8 bj [GO] 9 _ rfl) BE Y (by have:=Cj.o.bi;have:=(dG.1 this).1;omega) ?_;intro bv bp gn rv Ag ic;have Is:=z (ah rv (ah Ag ic));have w5:=Cj.o.bo.kept Ag (λe=>by have:=(Cj.o.own.lt _ e.symm).1;omega);have vc:=w5.cell;have Mq:=w5.frozen))
      refine⟨⟨j+1,hO++[GO],_,aE,cZ,zo.appended Cj.o Is.o.2.1 rfl ayo.o Is.o.1,ahs.o.trans (uQ.alk cL.o Is.o.2.1 Is.o.2.2),?_⟩,by simp[intOf];omega⟩;have:=XK.o;rw[dA,xG,Ch];omega
     ·have hD:=aht.o;rw[Ci]at hD;have XM:=z hD;go_wp2_with(first
       |(go_at_call 213;refine ak (XM.o _) ?_;rintro aO rfl)
       |(go_at_call 405;refine ak Xc.o ?_;rintro bj ⟨l3,XN,GP,pa,Rr⟩;have es:=z (ah GP (ah pa Rr))))
      refine⟨⟨j+1,l3,XN,aE,cZ,es.o.1,ahs.o.trans es.o.2.2,?_⟩,by simp[intOf];omega⟩;have:=XK.o;have:=es.o.2.1;rw[Ch];omega
    ·have Re:j=ms.length:=aE;have t0:hO.length<=l+8^(k+1):=by
      have:8^(k+1)=8*8^k:=by rw[Nat.pow_succ];omega
      omega
     have eb:=z (ah MM (ah t0 (ayk.o.trans XJ)));go_wp2_with fail;go_end0;exact⟨rfl,hO,d1,eb.o.1,eb.o.2⟩
def ahu(d:Array (List aL)):∀m,m<=d.size->∀x∈Lib.compactUpTo d m,x∈d.toList
 |0,_,x,h=>by simp[Lib.compactUpTo]at h
 |m+1,R,x,h=>by
  rw[Lib.compactUpTo_succ]at h;rcases iZ.1 h with h2|h2
  ·exact ahu d m aE x h2
  ·split at h2
   ·rw[pI.1 h2,getElem!_pos d m aE];simp
   ·cases h2
def ayp(h:x∈Lib.compact b3):x∈b3:=by have:=ahu b3.toArray b3 ay x h;exact wK
def Rt(l:List (List aL)):l.flatMap encStr=l.map Go.Proofs.encStr:=by
 induction l with
 |nil=>rfl
 |cons x r b9=>rw[sI,fK,b9];rfl
def ahv(w:G)(os:Array Obj):Ext w (Go.Sort.grow w os):=
 ⟨rfl,rfl,rfl,by simp[Go.Sort.grow],λi hi=>by show(w.heap++os)[i]?=_;rw[Array.getElem?_append_left hi]⟩
theorem ayq(bX:Nat)(w:G)(v:K)(l:List (List aL))(X:l.length<=10000000)(h:w.ownsRow bX 9 1 v l (l.flatMap encStr)):Calls prog 407 #[v] w λe F=>e=aI (bH #[])/\Below bX w F/\∃hO:List (List aL),hO.length=l/\(∀n∈hO,n∈l)/\F.ownsRow bX 9 1 v hO (hO.flatMap encStr):=by
 by_cases hv:v=E none 0 0
 ·subst hv;have hn:l=[]:=XI
  subst hn;refine ak (Tryz.slices_Sort_string_none none 0 w) ?_;rintro F rfl;exact⟨rfl,Below.refl _ _,[],rfl,(λ_ h=>by cases h),h⟩
 ·rw[Rt]at h;obtain⟨g,cap,rfl,hg,ad,hn,R,ey,h9⟩:=Lib.holds_of_ownsRow h hv;refine ak (Tryz.slices_Sort_string g 0 cap l w h9 ad aE) ?_;rintro F ⟨n,os,rfl⟩;have r2:(l.mergeSort λx y=>decide (x<=y)).length=l.length:=List.length_mergeSort _;have ho:=Lib.ownsRow_putRow (q:=n) h r2 (aZ _);rw[<-r2,iR,r2]at ho;have V:=Lib.below_putRow (q:=n) (d:=(l.mergeSort λx y=>decide (x<=y)).toArray) (enc:=Go.Proofs.encStr) (Below.refl bX w) hg;refine⟨rfl,V.trans ((ahv _ os).mono (cB (Nat.le_of_lt (Nat.lt_of_le_of_lt hg ad)) V.size)),_,r2,(λx D=>(List.mem_mergeSort).1 D),?_⟩;rw[Rt,r2];exact qB ho (Keep.of_below (ahv _ os) (λ_ hk=>hk)) (λb e=>(ho.lt b e).2)
theorem ayr(bX:Nat)(w:G)(v:K)(l:List (List aL))(X:l.length<=10000000)(h:w.ownsRow bX 9 1 v l (l.flatMap encStr)):Calls prog 408 #[v] w λe F=>Below bX w F/\∃(e7:K)(hO:List (List aL)),e=aI e7/\hO.length<=l/\(∀n∈hO,n∈l)/\F.ownsRow bX 9 1 e7 hO (hO.flatMap encStr):=by
 by_cases hv:v=E none 0 0
 ·subst hv;have hn:l=[]:=XI
  subst hn;refine ak (Tryz.slices_Compact_string_empty none 0 w) ?_;exact ahp
 ·rw[Rt]at h;obtain⟨g,cap,rfl,hg,ad,hn,R,ey,h9⟩:=Lib.holds_of_ownsRow h hv;refine ak (Tryz.slices_Compact_string g 0 cap l w h9 aE hn) ?_;rintro F ⟨n,rfl⟩;have ge:=Lib.compact_length_le l;have ho:=Lib.ownsRow_putRow (q:=n) (ys:=Lib.compact l++List.replicate (l.length-(Lib.compact l).length) []) h (by rw[dA,zQ];omega) ge;rw[List.take_left]at ho;refine⟨Lib.below_putRow (Below.refl bX w) hg,_,Lib.compact l,rfl,ge,(λx D=>ayp D),?_⟩;rw[Rt];exact ho
def Ez(s:List aL):Int:=if (rU s).isSome=false then 110 else if 4<nQ s then 111 else 0
def ahw(s:List aL):nQ s<=6:=by
 cases h:rU s with
 |none=>rw[acS h];omega
 |some l=>exact(DC _ (PY h)).1
theorem ays(s:bn)(w:G):Calls prog 379 #[N s] w λe F=>Ext w F/\∃v l,e=aI (bH #[v,H (Ez (bytes s))])/\F.ownsRow 0 9 1 v l.length (l.flatMap encStr)/\(∀n∈l,oJ n=true)/\(Ez (bytes s)≠0->l=[])/\l.length<=300000:=by
 have am:=Xb s w;have cE:=λW=>axK 6 s W (ahw _)
 have a9:=ahw (bytes s);have bx:Ez (bytes s)=if (rU (bytes s)).isSome=false then 110 else if 4<nQ (bytes s)then 111 else 0:=rfl
 generalize Ez (bytes s)=py at *;cases R:(rU (bytes s)).isSome
 ·rw[R,aF rfl]at bx;rw[R]at am;subst bx;have nf:=z am;go_in;go_wp2_with fail;refine ak nf.o ?_;intro I Q;go_wp2_with fail;go_ret2;exact⟨Q,_,[],rfl,⟨rfl,.inl ay⟩,(λ_ h=>by cases h),(λ_=>rfl),ay⟩
 rw[R,au ay]at bx;rw[R]at am;by_cases af:4<nQ (bytes s)
 ·rw[aF af]at bx;subst bx;generalize nQ (bytes s)=q at *;have cs:decide (4<q)=true:=dH af;have eg:decide ((4:Int)<q)=true:=dH aE;have nf:=z am;have I2:=z cE;go_in;go_wp2_with fail;refine ak nf.o ?_;intro I Q;go_wp2_with fail;refine ak (I2.o _) ?_;intro aO ag;go_wp2_with fail;go_ret2;exact⟨Q.trans ag,_,[],rfl,⟨rfl,.inl ay⟩,(λ_ h=>by cases h),(λ_=>rfl),ay⟩
 ·rw[au af]at bx;subst bx;have ayt:=λw W cA=>ayj w 6 s W [] (E none 0 0) a9 (aZ _) Y cA
  generalize nQ (bytes s)=q at *;have cs:decide (4<q)=false:=dM af;have eg:decide ((4:Int)<q)=false:=dM aE;have nf:=z am;have I2:=z cE;have ayu:=z ayt;go_in;go_wp2_with fail;refine ak nf.o ?_;intro I Q;go_wp2_with fail;refine ak (I2.o _) ?_;intro aO ag;have ca:=z (Q.trans ag);go_wp2_with fail;have pM:zo aO [] (E none 0 0) ((aO.alloc (J #[E none 0 0] 293)).alloc (J #[MQ aO] 332)):=by have dc:=(Boxed.new aO 293 (E none 0 0)).alloc (J #[MQ aO] 332);have dv:=bA (aO.alloc (J #[E none 0 0] 293)) (J #[MQ aO] 332);rw[dR]at dv;exact⟨((O aO).alloc _).alloc _,dv,dc,⟨rfl,.inl ⟨rfl,rfl⟩⟩,λ_ h=>by cases h⟩
  refine ak (ayu.o aO _ pM) ?_;rintro bj ⟨l,u,GP,pa,-⟩;obtain⟨a,c,rfl⟩:=dP GP.own;have fO:=GP.bo.cell
  have yy:l.length<=262144:=by have eA:8^6=262144:=Y
                               rw[eA]at pa;simpa using pa
  have Cj:=z GP;have I':=z yy;have hS:=λW h=>ayq (aO+2) W (E a l c) l aE h
  have z7:=z hS;go_wp2_with fail;refine ak (z7.o _ Cj.o.own) ?_;rintro dC ⟨f5,l4,x1,Jo,fY⟩;have aM7:dC.cell? aO=some (E a l c):=(xD (w:=bj) (f5.block _ (by show aO.heap.size<_;omega))).trans fO;have cq:=ayr (aO+2) dC (E a l c) l4 (by have:=I'.o;omega) (by rw[x1]at fY⊢;exact fY);have dE:=z (ah f5 (ah x1 Jo));have hb:=z cq;go_wp2_with fail;refine hb.o.mono ?_;rintro e bQ ⟨e8,AF,l5,rfl,MT,Jp,d0⟩;have m':=z (ah e8 (ah MT Jp));have t8:=d0.mono (eG _);obtain⟨a5,c5,rfl⟩:=dP d0;go_wp2_with fail;go_ret2;refine⟨Below.trans (ca.o.trans Cj.o.ext) ((dE.o.1.trans m'.o.1).mono (by have:=ca.o.size;omega)),_,l5,rfl,t8,λn hn=>Cj.o.kn n (dE.o.2.2 n (m'.o.2.2 n hn)),λh=>absurd rfl h,?_⟩;have:=I'.o;have:=dE.o.2.1;have:=m'.o.2.1;omega
def pV(lt:Nat->Bool):Nat->Nat->Nat->Nat
 |0,i,_=>i
 |f+1,i,j=>if i<j then(if lt ((i+j)/2)=true then pV lt f ((i+j)/2+1) j else pV lt f i ((i+j)/2))else i
def EA(A:List dQ)(s:List aL)(h:Nat):Bool:=match A[h]? with
 |some c=>decide (Lib.compareBytes c.nm s<0)
 |none=>false
def ru(A:List dQ)(s:List aL):Nat:=pV (EA A s) A 0 A.length
def vT(A:List dQ)(s:List aL)(h:Nat):Bool:=match A[h]? with
 |some c=>Lib.compareBytes c.nm s==0
 |none=>false
def MU(lt:Nat->Bool):∀(f i j:Nat),i<=j->pV lt f i j<=j
 |0,_,_,h=>h
 |f+1,i,j,h=>by
  unfold pV;split
  ·split
   ·exact MU lt f _ _ aE
   ·exact cB (MU lt f _ _ aE) aE
  ·exact h
def ahx(A:List dQ)(s:List aL):ru A s<=A.length:=MU _ _ _ _ aE
theorem ayv(c:dQ)(s:bn)(w:G):Calls prog 381 #[vO c,N s] w λr F=>r=aI (H (Lib.compareBytes c.nm (bytes s)))/\Ext w F:=by
 have cq:=λW=>Tryz.strings_Compare (str c.nm) s W
 change∀W,Calls prog 382 #[N (str c.nm),N s] W λe F=>e=aI (H (Lib.compareBytes c.nm (bytes s)))/\F=W at cq
 generalize Lib.compareBytes c.nm (bytes s)=q at *;unfold vO;have dt:=z cq;go_in;go_wp2_with(first
  |(go_at_call 382;refine ak (dt.o _) ?_;rintro aO rfl))
 exact FI
theorem ayw(v:K)(A:List dQ)(s:bn)(X:A.length<=1000000)(w:G)(hv:aS w 2 dY v A):aM 380 #[v,N s,.func (.func 381) #[] #[]] w (bH #[H (ru A (bytes s):Int),av (vT A (bytes s) (ru A (bytes s)))]):=by
 obtain⟨a,c,rfl,ep,bV⟩:=Aq hv;clear hv;have mv:=λc W=>ayv c s W
 unfold vO at mv;have aM8:=enters_of func381 aj rfl;have ad:∀h (be:h<A.length),EA A (bytes s) h=decide (Lib.compareBytes A[h].nm (bytes s)<0):=λh be=>by unfold EA;rw[dK be]
 have b4:∀h (be:h<A.length),vT A (bytes s) h=(Lib.compareBytes A[h].nm (bytes s)==0):=λh be=>by unfold vT;rw[dK be]
 have hp:∀h,¬h<A.length->vT A (bytes s) h=false:=λh be=>by unfold vT;rw[List.getElem?_eq_none aE]
 have lE:ru A (bytes s)=pV (EA A (bytes s)) A 0 A.length:=rfl;generalize ru A (bytes s)=bz at *;generalize EA A (bytes s)=lt at *;generalize vT A (bytes s)=aM9 at *;have gt:=z bV;have ahy:=z mv;have yz:=z ad;have Ru:=z (ah b4 hp);have XO:=z lE;clear bV mv ad b4 hp lE;unfold aM;go_in;go_wp2_with fail;go_loopw [9,10,11] (λv1 qq _ wr=>∃i j f:Nat,v1=H i/\qq=H j/\i<=j/\j<=A/\j-i<=f/\bz=pV lt f i j/\Ext w wr) (λv1 qq _ _=>(intOf qq).toNat-(intOf v1).toNat)
 case atStart=>exact⟨0,A.length,A.length,rfl,rfl,aE,aE,aE,XO.o,O _⟩
 case round=>
  obtain⟨i,j,f,rfl,rfl,ox,so,ahz,bE,D⟩:=hrel;have gz:=z bE;have aT:=z D;clear bE;by_cases ad:i<j
  ·have MV:(i+j)/2<A.length:=aE;obtain⟨b,o,rfl,ae,h1⟩:=gt.o ((i+j)/2) MV;replace ae:=D.cell ae;replace h1:=D.cell h1;have p1:IntKind.i64.wrap ((i:Int)+j)=(i:Int)+j:=by rw[IntKind.wrap_i64];omega
   have da:=yz.o ((i+j)/2) MV;have GR:=λW=>ahy.o A[(i+j)/2] W
   generalize A[(i+j)/2]=x at *;generalize Lib.compareBytes x.nm (bytes s)=q at *;have ec:=z da;have xb:=z GR;clear D da GR;go_wp2_with fail;refine ak (xb.o _) ?_;intro aO ag;have ca:=z (aT.o.trans ag);clear ag ae h1;have hd:(i+j)/2<j/\i<=(i+j)/2:=aE;obtain⟨f,rfl⟩:∃PB,f=PB+1:=⟨f-1,aE⟩;have v3:bz=if lt ((i+j)/2)=true then pV lt f ((i+j)/2+1) j else pV lt f i ((i+j)/2):=by rw[gz.o];conv=>lhs;unfold pV;rw[aF ad]
   rw[ec.o]at v3;by_cases aW:q<0
   ·rw[dH aW,aF rfl]at v3;have kx:=z v3;go_wp2_with fail;go_roundw
    case rel=>exact⟨(i+j)/2+1,j,f,cZ,rfl,aE,so,aE,kx.o,ca.o⟩
    case measure=>exact eO
   ·rw[dM aW,au ay]at v3;have kx:=z v3;go_wp2_with fail;go_roundw
    case rel=>exact⟨i,(i+j)/2,f,rfl,cZ,aE,aE,aE,kx.o,ca.o⟩
    case measure=>exact eO
  ·obtain rfl:bz=i:=by rw[gz.o];cases f with
    |zero=>rfl
    |succ f=>unfold pV;rw[au ad]
   by_cases ih:bz<A.length
   ·obtain⟨b,o,rfl,ae,h1⟩:=gt.o bz ih;replace ae:=aT.o.cell ae;replace h1:=aT.o.cell h1;have cA:=Ru.o.1 bz ih;have GR:=λW=>ahy.o A[bz] W
    generalize A[bz]=x at *;generalize Lib.compareBytes x.nm (bytes s)=q at *;have cI:=z cA;have xb:=z GR;go_wp2_with fail;refine ak (xb.o _) ?_;intro aO ag;have ca:=z (aT.o.trans ag);go_wp2_with fail;go_ret2;exact⟨by rw[cI.o];rfl,ca.o⟩
   ·have cI:=z (Ru.o.2 bz ih);go_wp2_with fail;go_ret2;exact⟨by rw[cI.o];rfl,aT.o⟩
theorem XP(m:Nat)(v:K)(U:List dQ)(X:U.length<=1000000)(w:G)(hv:aS w 2 dY v U):Calls prog 333 #[q9 m v] w λe F=>∃a c,e=aI (q9 m (E a U c))/\Ext w F/\F.ownsRow w 121 2 (E a U c) U (U.flatMap dY):=by
 obtain⟨a0,c0,rfl,-,-⟩:=Aq hv;have cq:=λW (D:Ext w W)=>Wu (E a0 U c0) U X W (hv.ext D)
 have pH:=bA w (J #[aC m,E a0 U c0] 31);obtain⟨az,b7⟩:∃az,az=w.alloc (J #[aC m,E a0 U c0] 31):=⟨_,rfl⟩;have Q:Ext w az:=by rw[b7];exact(O _).alloc _
 have dp:az.heap.size=w+1:=by rw[b7];simp
 rw[<-b7]at pH;have FO:=bA az (J #[aC 0,E none 0 0] 31);obtain⟨a8,b'⟩:∃a8,a8=az.alloc (J #[aC 0,E none 0 0] 31):=⟨_,rfl⟩;have ag:Ext az a8:=by rw[b'];exact(O _).alloc _
 rw[<-b',dp]at FO;replace pH:=aJ pH ag;have sh:=z b7;have h':=z b';have ca:=z (Q.trans ag);have rm:=z pH;have x3:=z FO;obtain⟨eK,bk⟩:=oU pH;clear b7 b' dp Q ag pH FO hv;unfold q9;have hb:=z cq;clear cq;go_in;go_upto_region 1 with fail;rw[<-sh.o,<-h'.o];have eC:a8.heap.size=w+2:=by rw[h'.o,dR,sh.o,dR]
 have d2:=z ((hb.o a8.drew ca.o.drew).mono (R':=λe bj=>∃bu c',e=aI (E bu U c')/\Hid (Ext w bj)/\Hid (bj.ownsRow (w+2) 121 2 (E bu U c') U (U.flatMap dY))/\Hid (bj.heap[w.heap.size+1]?=some (J #[aC 0,E none 0 0] 31 (0,0)))/\bj.cell? w=some (aC m)/\
  bj.cell? ⟨w+1,0,none⟩=some (aC 0)/\bj.cell? ⟨w+1,1,none⟩=some (E none 0 0)/\bj.frozen? ⟨w+1,0,none⟩=false/\bj.frozen? ⟨w+1,1,none⟩=false) (by
  rintro e bj ⟨bu,c',rfl,a',nz⟩;have ck:=aJ (show a8.drew.heap[_]?=_ from x3.o) a';obtain⟨dm,cs⟩:=oU ck;have fY:bj.ownsRow a8 121 2 (E bu U c') U (U.flatMap dY):=nz;rw[eC]at fY;exact⟨bu,c',rfl,ca.o.drew.trans a',fY,ck,a'.cell (show a8.drew.cell? _=_ from eK),dm,cs,by simp[World.frozen?,ck],by simp[World.frozen?,ck]⟩))
 go_region_with(refine d2.o.mono ?_;rintro e bj ⟨bu,c',rfl,cL,H2,p7,aNa,dm,cs,f0,dg⟩)
 all_goals
  have m5:((bj.setCell ⟨w+1,0,none⟩ (aC m)).setCell ⟨w+1,1,none⟩ (E bu U c')).heap[w.heap.size+1]?=some (J #[aC m,E bu U c'] 31 (0,0)):=Go.Joins.block_setCell (Go.Joins.block_setCell p7.o _) _;have f1:Ext w ((bj.setCell ⟨w+1,0,none⟩ (aC m)).setCell ⟨w+1,1,none⟩ (E bu U c')):=(cL.o.setCell (p:=⟨w+1,0,none⟩) ay _).setCell (p:=⟨w+1,1,none⟩) ay _;have Vq:((bj.setCell ⟨w+1,0,none⟩ (aC m)).setCell ⟨w+1,1,none⟩ (E bu U c')).ownsRow (w+2) 121 2 (E bu U c') U (U.flatMap dY):=
   ownsRow_setCell_below (ownsRow_setCell_below H2.o Iw _) Iw _
  have FG:=z m5;have jL:=z f1;have ayx:=z Vq;go_wp;exact cO (v:=bg #[aC m,E bu U c']) (lQ results333 _ _ _ _ _ _ _ rfl FG.o underlying31 rfl aj) rfl ⟨bu,c',rfl,jL.o,ayx.o.mono aE⟩
end LT
def EB(h:S:=by simp[Value.oneCell']):S:=h
namespace LT
theorem ayy(c:dQ)(s:bn)(b:Nat)(w:G)(h:w.cell? b=some (N s)):Calls prog 385 #[vO c,aB (some b)] w λr F=>r=aI (av (c.nm==bytes s))/\Ext w F:=by
 have D:Ext w (w.alloc (J #[N (str c.nm),M c.act] 121)):=(O w).alloc _;replace h:=D.cell h;have aW:((str c.nm).toList==s.toList)=(c.nm==bytes s):=by rw[FP,nP]
 have aT:=z D;unfold vO;go_in;go_wp;go_ret;exact⟨by rw[<-aW];rfl,aT.o⟩
theorem GU:(Tryz.prog.info? 31).map (·.size)=some 2:=aj
def Ck{w F:G}{base e n k:Nat}{v:K}{b3:List K}(h:w.ownsRow base e n v k b3)(hk:∀b,base<=b->F.heap[b]?=w.heap[b]?):F.ownsRow base e n v k b3:=by
 rcases h with⟨h1,h2|⟨g,cap,bm,rfl,V,hg,hr⟩⟩
 ·exact⟨h1,.inl h2⟩
 ·exact⟨h1,.inr ⟨g,cap,bm,rfl,V,(hk g V).trans hg,hr⟩⟩
def AR(m:Nat)(U:List dQ)(s:List aL):List dQ:=if iE m U=true then U.filter (λc=> !(c.nm==s))else U
theorem ayz(m:Nat)(v:K)(U:List dQ)(s:bn)(X:U.length<=1000000)(w:G)(hv:aS w 2 dY v U):Calls prog 339 #[q9 m v,N s] w λe F=>∃a c,e=aI (q9 m (E a (AR m U (bytes s)).length c))/\Ext w F/\F.ownsRow w 121 2 (E a (AR m U (bytes s)).length c) (AR m U (bytes s)).length ((AR m U (bytes s)).flatMap dY):=by
 obtain⟨a0,c0,rfl,-,-⟩:=Aq hv;have e':AR m U (bytes s)=if iE m U=true then U.filter (λc=> !(c.nm==bytes s))else U:=rfl
 generalize AR m U (bytes s)=fz at *;have XQ:=z e';clear e';have cq:=λW (D:Ext w W)=>XP m (E a0 U c0) U X W (hv.ext D)
 have ayA:=enters_of func385 aj rfl;have n1:=bA w (J #[aC m,E a0 U c0] 31);obtain⟨az,b7⟩:∃az,az=w.alloc (J #[aC m,E a0 U c0] 31):=⟨_,rfl⟩;have Q:Ext w az:=by rw[b7];exact(O _).alloc _
 have dp:az.heap.size=w+1:=by rw[b7];simp
 rw[<-b7]at n1;have n2:=bA az (J #[N s] 9);obtain⟨a8,b'⟩:∃a8,a8=az.alloc (J #[N s] 9):=⟨_,rfl⟩;have ag:Ext az a8:=by rw[b'];exact(O _).alloc _
 have eC:a8.heap.size=w+2:=by rw[b'];simp[dp]
 rw[<-b',dp]at n2;have n3:=bA a8 (J #[aC 0,E none 0 0] 31);obtain⟨cd,fh⟩:∃cd,cd=a8.alloc (J #[aC 0,E none 0 0] 31):=⟨_,rfl⟩;have a':Ext a8 cd:=by rw[fh];exact(O _).alloc _
 have gj:cd.heap.size=w+3:=by rw[fh];simp[eC]
 rw[<-fh,eC]at n3;replace n1:=aJ (aJ n1 ag) a';replace n2:=aJ n2 a';obtain⟨eK,bk⟩:=oU n1;have eo:=z (ah b7 (ah b' fh));have cL:=z ((Q.trans ag).trans a');have ev:=z (ah n1 (ah n2 n3));have bY:=z gj;clear b7 b' fh dp eC gj Q ag a' n1 n2 n3 hv;unfold q9 at cq⊢;have hb:=z cq;clear cq;go_in;go_upto_region 1 with fail;rw[<-eo.o.1,<-eo.o.2.1,<-eo.o.2.2];go_wp2_with fail;refine(hb.o cd cL.o).mono ?_;rintro e dC ⟨bu,c',rfl,cN,fY⟩;have cH:=aJ ev.o.1 cN;have ck:=aJ ev.o.2.1 cN;have m8:=aJ ev.o.2.2 cN;rw[bY.o]at fY;obtain⟨eL,ib⟩:∃eL,eL=dC.setRow w #[aC m,E bu U c']:=⟨_,rfl⟩;have hV:eL.heap[w.heap.size]?=some (J #[aC m,E bu U c'] 31 (0,0)):=by rw[ib];exact gu _ _ _ _ _ _ cH
 have d0:eL.ownsRow (w+3) 121 2 (E bu U c') U (U.flatMap dY):=Ck fY (λb V=>by rw[ib];exact mo _ _ _ _ aE);have bR:Ext w eL:=by rw[ib];exact iT (cL.o.trans cN) (aZ _) _
 have ahA:eL.heap[w.heap.size+1]?=some (J #[N s] 9 (0,0)):=by rw[ib,mo _ _ _ _ aE];exact ck
 have IF:eL.heap[w.heap.size+2]?=some (J #[aC 0,E none 0 0] 31 (0,0)):=by rw[ib,mo _ _ _ _ aE];exact m8
 have ot:=z cH;have XR:=z ib;have rk:=z d0;have c9:=z bR;have Jq:=z (ah hV (ah ahA IF));have em:=MK m (E bu U c') U X eL (eD oN d0);have e':=XQ.o;generalize iE m U=aH at *;unfold q9 at em;have cW:=z em;have MW:=z e';have ayB:w.heap.size+3<=eL.heap.size:=by rw[ib,setRow_size];have:=cN.size;have:=bY.o;omega
 obtain⟨cG,aK⟩:=oU hV;clear cN fY cH ck m8 ib d0 bR hV ahA IF em e' eK bk;go_wp2_with(refine wpList_store_rowTo rfl 31 (.tmp 2) (.tmp 6) rfl rfl w.heap.size #[aC m,E bu U c'] rfl rfl 31 _ ot.o GU rfl EB ?_;rw[<-XR.o]);refine ak cW.o ?_;intro cT dX;have dc:=aJ Jq.o.1 dX;have dv:=aJ Jq.o.2.1 dX;have g':=aJ Jq.o.2.2 dX;have f':=z (c9.o.trans dX);have gC:=qB rk.o (Keep.of_below dX (λ_ hk=>hk)) (λb e=>(rk.o.lt b e).2);have kq:=z gC;have ayC:=dX.size;clear dX gC cG aK;obtain⟨cG,aK⟩:=oU dc;have g4:=z (ah dc (ah dv g'));clear dc dv g';cases aH
 ·have bE:fz=U:=MW.o;subst bE;have cA:Ext w (cT.setRow (w+2) #[aC m,E bu fz c']):=iT f'.o (rO _ _) _;have cn:(cT.setRow (w+2) #[aC m,E bu fz c']).ownsRow w 121 2 (E bu fz c') fz (fz.flatMap dY):=(Ck kq.o (λb V=>mo _ _ _ _ aE)).mono (rO _ _);have cI:=z (ah cA cn);clear cA cn;go_wp2_with(refine wpList_store_rowTo rfl 31 (.tmp 4) (.tmp 14) rfl rfl (w.heap.size+2) #[aC m,E bu fz c'] rfl rfl 31 _ g4.o.2.2 GU rfl EB ?_);exact cO (v:=bg #[aC m,E bu fz c']) (lQ results339 _ _ _ _ _ _ _ rfl (gu _ _ _ _ _ _ g4.o.2.2) underlying31 rfl aj) rfl ⟨bu,c',rfl,cI.o.1,cI.o.2⟩
 ·have bE:fz=U.filter (λc=> !(c.nm==bytes s)):=MW.o;have cE:=axP (w+3) 385 (aB (some ⟨w+1,0,none⟩)) ayA (λc=>c.nm==bytes s) (E bu U c') U X cT kq.o aE (λx _ W cJ=>ayy x s (w+1) W ((cJ.cell (p:=⟨w+1,0,none⟩) (by show w.heap.size+1<w.heap.size+3;omega)).trans (by simp[World.cell?,g4.o.2.1])));rw[<-bE]at cE;have fj:=z cE;clear cE bE;go_wp2_with fail;refine fj.o.mono ?_;rintro e dy ⟨h5,ahB,c7,rfl,e6,rfl,hM⟩;have bk:=(e6.block w aE).trans g4.o.1;have d7:=(e6.block (w+2) aE).trans g4.o.2.2;obtain⟨qs,v4⟩:∃qs,qs=dy.setRow w #[aC m,E h5 fz c7]:=⟨_,rfl⟩;have j0:Ext w qs:=by rw[v4];exact iT (Below.trans f'.o (e6.mono (rO _ _))) (aZ _) _
  have Cf:qs.heap[w.heap.size]?=some (J #[aC m,E h5 fz c7] 31 (0,0)):=by rw[v4];exact gu _ _ _ _ _ _ bk
  have MX:qs.heap[w.heap.size+2]?=some (J #[aC 0,E none 0 0] 31 (0,0)):=by rw[v4,mo _ _ _ _ aE];exact d7
  have qa:qs.ownsRow (w+3) 121 2 (E h5 fz c7) fz (fz.flatMap dY):=Ck hM (λb V=>by rw[v4];exact mo _ _ _ _ aE);have mz:dy.setCell ⟨w,1,none⟩ (E h5 fz c7)=qs:=by rw[v4,sH _ _ _ _ _ _ _ bk];rfl
  have cA:Ext w (qs.setRow (w+2) #[aC m,E h5 fz c7]):=iT j0 (rO _ _) _;have cn:(qs.setRow (w+2) #[aC m,E h5 fz c7]).ownsRow w 121 2 (E h5 fz c7) fz (fz.flatMap dY):=(Ck qa (λb V=>mo _ _ _ _ aE)).mono (rO _ _);have cI:=z (ah cA cn);have MY:=z MX;have sn:=z mz;have dg:dy.frozen? ⟨w,1,none⟩=false:=by simp[World.frozen?,bk]
  clear cG aK;obtain⟨cG,aK⟩:=oU bk;obtain⟨aV,cC⟩:=oU Cf;clear cA cn qa MX j0 v4 hM e6 Cf bk d7 mz;go_upto_region 4 with fail;rw[sn.o];go_wp2_with(refine wpList_store_rowTo rfl 31 (.tmp 4) (.tmp 14) rfl rfl (w.heap.size+2) #[aC m,E h5 fz c7] rfl rfl 31 _ MY.o GU rfl EB ?_);exact cO (v:=bg #[aC m,E h5 fz c7]) (lQ results339 _ _ _ _ _ _ _ rfl (gu _ _ _ _ _ _ MY.o) underlying31 rfl aj) rfl ⟨h5,c7,rfl,cI.o.1,cI.o.2⟩
def ayD{α:Type}{enc:α->List K}{k:Nat}(cp:∀x,(enc x).length=k)(L:List K)(A:List α)(i:Nat)(hi:i<A)(x:α)(h:L.take (A.length*k)=A.flatMap enc)(X:A.length*k<=L.length):(splice L (i*k) (enc x)).take (A.length*k)=(A.set i x).flatMap enc:=by
 have h1:(i+1)*k<=A.length*k:=pF _ hi;have h2:(i+1)*k=i*k+k:=Nat.succ_mul _ _;rw[List.set_eq_take_append_cons_drop,aF hi,FD,sI,<-FT cp A i,<-U5 cp A (i+1),<-h,y7,mQ aE,List.drop_take];have bl:(L.take (i*k)).length=i*k:=by rw[gV];omega
 unfold splice;rw[<-gJ,List.take_append,rJ (l:=L.take (i*k)++enc x) (by rw[dA,bl,cp];omega),dA,bl,cp,h2,gJ]
theorem ahC:(Tryz.prog.info? 121).map (·.size)=some 2:=aj
def Js(U:List dQ)(c:dQ):List dQ:=if vT U c.nm (ru U c.nm)=true then U.set (ru U c.nm) c else U.take (ru U c.nm)++c::U.drop (ru U c.nm)
def AU(m:Nat)(U:List dQ)(s:List aL)(a:Nat):List dQ:=if iE m U=true then Js U ⟨s,a⟩else U
theorem ayE(m:Nat)(v:K)(U:List dQ)(s:bn)(cP:Nat)(X:U.length<=1000000)(w:G)(hv:aS w 2 dY v U):Calls prog 338 #[q9 m v,N s,M cP] w λe F=>∃a c,e=aI (q9 m (E a (AU m U (bytes s) cP).length c))/\Ext w F/\F.ownsRow w 121 2 (E a (AU m U (bytes s) cP).length c) (AU m U (bytes s) cP).length ((AU m U (bytes s) cP).flatMap dY):=by
 obtain⟨a0,c0,rfl,-,-⟩:=Aq hv;have e':AU m U (bytes s) cP=if iE m U=true then Js U ⟨bytes s,cP⟩else U:=rfl
 generalize AU m U (bytes s) cP=fz at *;have XQ:=z e';clear e';have cq:=λW (D:Ext w W)=>XP m (E a0 U c0) U X W (hv.ext D)
 have n1:=bA w (J #[aC m,E a0 U c0] 31);obtain⟨az,b7⟩:∃az,az=w.alloc (J #[aC m,E a0 U c0] 31):=⟨_,rfl⟩;have Q:Ext w az:=by rw[b7];exact(O _).alloc _
 have dp:az.heap.size=w+1:=by rw[b7];simp
 rw[<-b7]at n1;have n3:=bA az (J #[aC 0,E none 0 0] 31);obtain⟨cd,fh⟩:∃cd,cd=az.alloc (J #[aC 0,E none 0 0] 31):=⟨_,rfl⟩;have a':Ext az cd:=by rw[fh];exact(O _).alloc _
 have gj:cd.heap.size=w+2:=by rw[fh];simp[dp]
 rw[<-fh,dp]at n3;replace n1:=aJ n1 a';obtain⟨eK,bk⟩:=oU n1;have eo:=z (ah b7 fh);have cL:=z (Q.trans a');have ev:=z (ah n1 n3);have bY:=z gj;clear b7 fh dp gj Q a' n1 n3 hv;unfold q9 at cq⊢;have hb:=z cq;clear cq;go_in;go_upto_region 1 with fail;rw[<-eo.o.1,<-eo.o.2];go_wp2_with fail;refine(hb.o cd cL.o).mono ?_;rintro e dC ⟨bu,c',rfl,cN,fY⟩;have cH:=aJ ev.o.1 cN;have m8:=aJ ev.o.2 cN;rw[bY.o]at fY;obtain⟨eL,ib⟩:∃eL,eL=dC.setRow w #[aC m,E bu U c']:=⟨_,rfl⟩;have hV:eL.heap[w.heap.size]?=some (J #[aC m,E bu U c'] 31 (0,0)):=by rw[ib];exact gu _ _ _ _ _ _ cH
 have d0:eL.ownsRow (w+2) 121 2 (E bu U c') U (U.flatMap dY):=Ck fY (λb V=>by rw[ib];exact mo _ _ _ _ aE);have bR:Ext w eL:=by rw[ib];exact iT (cL.o.trans cN) (aZ _) _
 have IF:eL.heap[w.heap.size+1]?=some (J #[aC 0,E none 0 0] 31 (0,0)):=by rw[ib,mo _ _ _ _ aE];exact m8
 have ot:=z cH;have XR:=z ib;have rk:=z d0;have c9:=z bR;have Jq:=z (ah hV IF);have em:=MK m (E bu U c') U X eL (eD oN d0);have e':=XQ.o;generalize iE m U=aH at *;unfold q9 at em;have cW:=z em;have MW:=z e';have ayB:w.heap.size+2<=eL.heap.size:=by rw[ib,setRow_size];have:=cN.size;have:=bY.o;omega
 obtain⟨cG,aK⟩:=oU hV;clear cN fY cH m8 ib d0 bR hV IF em e' eK bk;go_wp2_with(refine wpList_store_rowTo rfl 31 (.tmp 3) (.tmp 11) rfl rfl w.heap.size #[aC m,E bu U c'] rfl rfl 31 _ ot.o GU rfl EB ?_;rw[<-XR.o]);refine ak cW.o ?_;intro cT dX;have dc:=aJ Jq.o.1 dX;have g':=aJ Jq.o.2 dX;have f':=z (c9.o.trans dX);have gC:=qB rk.o (Keep.of_below dX (λ_ hk=>hk)) (λb e=>(rk.o.lt b e).2);have kq:=z gC;have ayC:=dX.size;clear dX gC cG aK;obtain⟨cG,aK⟩:=oU dc;have g4:=z (ah dc g');clear dc g';cases aH
 ·have bE:fz=U:=MW.o;subst bE;have cA:Ext w (cT.setRow (w+1) #[aC m,E bu fz c']):=iT f'.o (rO _ _) _;have cn:(cT.setRow (w+1) #[aC m,E bu fz c']).ownsRow w 121 2 (E bu fz c') fz (fz.flatMap dY):=(Ck kq.o (λb V=>mo _ _ _ _ aE)).mono (rO _ _);have cI:=z (ah cA cn);clear cA cn;go_wp2_with(refine wpList_store_rowTo rfl 31 (.tmp 6) (.tmp 15) rfl rfl (w.heap.size+1) #[aC m,E bu fz c'] rfl rfl 31 _ g4.o.2 GU rfl EB ?_);exact cO (v:=bg #[aC m,E bu fz c']) (lQ results338 _ _ _ _ _ _ _ rfl (gu _ _ _ _ _ _ g4.o.2) underlying31 rfl aj) rfl ⟨bu,c',rfl,cI.o.1,cI.o.2⟩
 ·have bE:fz=Js U ⟨bytes s,cP⟩:=MW.o;have rK:fz=if vT U (bytes s) (ru U (bytes s))=true then U.set (ru U (bytes s)) ⟨bytes s,cP⟩else U.take (ru U (bytes s))++⟨bytes s,cP⟩::U.drop (ru U (bytes s)):=bE
  have ge:=ahx U (bytes s);have b4:vT U (bytes s) (ru U (bytes s))=true->ru U (bytes s)<U.length:=λh=>by
   unfold vT at h;split at h
   ·rename_i c bx;exact(List.getElem?_eq_some_iff.1 bx).1
   ·cases h
  obtain⟨f6,qk⟩:∃f6,f6=cT.alloc (J #[N s,M cP] 121):=⟨_,rfl⟩;have XS:=bA cT (J #[N s,M cP] 121);rw[<-qk]at XS;have en:Ext cT f6:=by rw[qk];exact(O _).alloc _
  have hM:=qB kq.o (Keep.of_below en (λ_ hk=>hk)) (λb e=>(kq.o.lt b e).2);have hB:=ayw (E bu U c') U s X f6 (eD oN hM);have n1:=aJ g4.o.1 en;have n2:=aJ g4.o.2 en;generalize ru U (bytes s)=i at *;generalize vT U (bytes s) i=py at *;have ce:=z hB;have ayF:=z qk;have ahD:=z hM;have BC:=z (ah n1 (ah n2 XS));have mx:=z (gP f'.o en);have ahE:=z rK;have VG:=en.size;clear cG aK;obtain⟨cG,aK⟩:=oU n1;clear bE hB qk hM n1 n2 XS en rK;go_wp2_with(refine wpList_store_rowTo rfl 121 (.tmp 7) (.tmp 18) rfl rfl cT.heap.size #[N s,M cP] rfl rfl 121 _ (bA cT _) ahC rfl EB ?_;rw[World.setRow_alloc_new,<-ayF.o]);refine ak ce.o ?_;intro hz j0;have dc:=aJ BC.o.1 j0;have dv:=aJ BC.o.2.1 j0;have s5:=aJ BC.o.2.2 j0;have qa:=qB ahD.o (Keep.of_below j0 (λ_ hk=>hk)) (λb e=>(ahD.o.lt b e).2);have Rv:=gP mx.o j0;have aNb:=j0.size;clear cG aK j0;obtain⟨cG,aK⟩:=oU dc;obtain⟨c0,c1⟩:=oU s5;have XT:str (bytes s)=s:=Dt s;have Rw:(dY ⟨bytes s,cP⟩).toArray= #[N s,M cP]:=by unfold dY;rw[XT]
  cases py
  ·have bE:fz=U.take i++⟨bytes s,cP⟩::U.drop i:=ahE.o;have MZ:fz.length=U+1:=by rw[bE,dA,dJ,gV,mP];omega
   obtain⟨hN,w4⟩:∃hN,hN=hz.alloc (J #[N s,M cP] 121):=⟨_,rfl⟩;have XU:=bA hz (J #[N s,M cP] 121);rw[<-w4,<-Rw]at XU;have rx:Ext hz hN:=by rw[w4];exact(O _).alloc _
   have ic:=rx.size;have bS:=ax8 (w+2) (E bu U c') U ⟨bytes s,cP⟩ i ge X hN hz (qB qa (Keep.of_below rx (λ_ hk=>hk)) (λb e=>(qa.lt b e).2)) aE XU (λe=>by have:=(qa.lt _ e).2;omega);rw[<-bE,<-MZ]at bS;have cg:=z bS;have ayG:=z w4;have v5:=z (gP Rv rx);have DP:=z (ah (aJ dc rx) (aJ dv rx));have aNc:w.heap.size+2<=hN.heap.size:=aE;clear MZ bS w4 rx XU bE dc dv s5 qa Rw XT Rv;go_wp2_with fail;rw[<-ayG.o];refine cg.o.mono ?_;rintro e DW ⟨h5,c7,rfl,e6,hM⟩;have bk:=(e6.block w aE).trans DP.o.1;have d7:=(e6.block (w+1) aE).trans DP.o.2;obtain⟨qs,v4⟩:∃qs,qs=DW.setRow w #[aC m,E h5 fz c7]:=⟨_,rfl⟩;have j0:Ext w qs:=by rw[v4];exact iT (Below.trans v5.o (e6.mono (rO _ _))) (aZ _) _
   have Cf:qs.heap[w.heap.size]?=some (J #[aC m,E h5 fz c7] 31 (0,0)):=by rw[v4];exact gu _ _ _ _ _ _ bk
   have MX:qs.heap[w.heap.size+1]?=some (J #[aC 0,E none 0 0] 31 (0,0)):=by rw[v4,mo _ _ _ _ aE];exact d7
   have qa:qs.ownsRow (w+2) 121 2 (E h5 fz c7) fz (fz.flatMap dY):=Ck hM (λb V=>by rw[v4];exact mo _ _ _ _ aE);have mz:DW.setCell ⟨w,1,none⟩ (E h5 fz c7)=qs:=by rw[v4,sH _ _ _ _ _ _ _ bk];rfl
   have cA:Ext w (qs.setRow (w+1) #[aC m,E h5 fz c7]):=iT j0 (rO _ _) _;have cn:(qs.setRow (w+1) #[aC m,E h5 fz c7]).ownsRow w 121 2 (E h5 fz c7) fz (fz.flatMap dY):=(Ck qa (λb V=>mo _ _ _ _ aE)).mono (rO _ _);have cI:=z (ah cA cn);have MY:=z MX;have sn:=z mz;have dg:DW.frozen? ⟨w,1,none⟩=false:=by simp[World.frozen?,bk]
   clear cG aK;obtain⟨cG,aK⟩:=oU bk;obtain⟨aV,cC⟩:=oU Cf;clear cA cn qa MX j0 v4 hM e6 Cf bk d7 mz;go_upto_region 9 with fail;rw[sn.o];go_wp2_with(refine wpList_store_rowTo rfl 31 (.tmp 6) (.tmp 39) rfl rfl (w.heap.size+1) #[aC m,E h5 fz c7] rfl rfl 31 _ MY.o GU rfl EB ?_);exact cO (v:=bg #[aC m,E h5 fz c7]) (lQ results338 _ _ _ _ _ _ _ rfl (gu _ _ _ _ _ _ MY.o) underlying31 rfl aj) rfl ⟨h5,c7,rfl,cI.o.1,cI.o.2⟩
  ·have hi:i<U:=b4 rfl;have bE:fz=U.set i ⟨bytes s,cP⟩:=ahE.o;have MZ:U.length=fz:=by rw[bE,kD]
   have ayH:=qa;rcases qa.2 with⟨-,ae⟩|⟨g,cap,bm,e,hH,hg,yp,mv,ci,hc⟩
   ·omega
   simp only[eZ,true_and]at e;obtain⟨rfl,rfl⟩:=e;obtain⟨L,da⟩:∃L:List K,L=bm.toList:=⟨_,rfl⟩;have jI:L.length=c'*2:=by rw[da];simpa using ci
   have ahF:hz.heap[g]?=some (J L.toArray 121 (0,0)):=by rw[da];simpa using hg
   have iu:i*2+(dY ⟨bytes s,cP⟩).length<=L.length:=by rw[oN,jI];omega
   have ahG:L.take (U.length*2)=U.flatMap dY:=by rw[da];exact hc
   have XV:=ayD oN L U i hi ⟨bytes s,cP⟩ ahG (by rw[jI];omega);rw[<-bE]at XV;have m7:(Value.agg #[N s,M cP]).cells=(dY ⟨bytes s,cP⟩).toArray:=Rw.symm;have t4:=z (ah XV (ah jI m7));have ayI:=z ahF;have DP:=z (ah dc dv);have VR:=z Rv;have XW:=z MZ;clear XV jI ahF ahG da hc ci hg bE qa ayH Rw XT Rv dc dv s5 m7 MZ;go_upto_region 9 with(refine PS rfl 121 (.tmp 31) (.tmp 30) rfl rfl g (i*2) _ (dY ⟨bytes s,cP⟩) rfl rfl 121 L ayI.o ahC t4.o.2.2 iu (IG _) w w VR.o aE ?_;intro gn XX ahI;have ayJ:=z ahI;clear ahI cG aK;obtain⟨e3,ef⟩:=oU ((XX.o.2 w aE).trans DP.o.1));have M0:w.heap.size+1≠g:=aE;have ahJ:gn.heap[w.heap.size+1]?=some (J #[aC 0,E none 0 0] 31 (0,0)):=Eq.trans (XX.o.2 (w+1) M0) DP.o.2;have ahK:=z ahJ;have rv:gn.ownsRow (w+2) 121 2 (E (some g) U c') U (fz.flatMap dY):=by
    refine⟨?_,.inr ⟨g,c',_,rfl,hH,XX.o.1,yp,mv,?_,t4.o.1⟩⟩
    ·rw[Dv oN,<-XW.o]
    ·rw[ku,length_splice _ _ _ iu,t4.o.2.1]
   have cA:Ext w (gn.setRow (w+1) #[aC m,E (some g) U c']):=iT ayJ.o (rO _ _) _;have cn:(gn.setRow (w+1) #[aC m,E (some g) U c']).ownsRow w 121 2 (E (some g) U c') U (fz.flatMap dY):=(Ck rv (λb V=>mo _ _ _ _ aE)).mono (rO _ _);have cI:=z (ah cA cn);clear cA cn rv ahJ;go_wp2_with(refine wpList_store_rowTo rfl 31 (.tmp 6) (.tmp 39) rfl rfl (w.heap.size+1) #[aC m,E (some g) U c'] rfl rfl 31 _ ahK.o GU rfl EB ?_);refine cO (v:=bg #[aC m,E (some g) U c']) (lQ results338 _ _ _ _ _ _ _ rfl (gu _ _ _ _ _ _ ahK.o) underlying31 rfl aj) rfl ⟨some g,c',by rw[<-XW.o],cI.o.1,by rw[<-XW.o];exact cI.o.2⟩
def uS(s:List aL):Int:=if s.head?=some 64 then Ez s else if oJ s=true then 0 else 90
theorem ayK(s:bn)(w:G):Calls prog 336 #[N s] w λe F=>Ext w F/\∃v l,e=aI (bH #[v,H (uS (bytes s))])/\F.ownsRow 0 9 1 v l.length (l.flatMap encStr)/\(∀n∈l,oJ n=true)/\(uS (bytes s)≠0->l=[])/\l.length<=300000/\((bytes s).head?≠some 64->uS (bytes s)=0->l=[bytes s]):=by
 have hD:=λW=>Tryz.strings_HasPrefix s ⟨#[64]⟩ W
 change∀W,Calls prog 213 #[N s,N ⟨#[64]⟩] W λe F=>e=aI (av (Lib.hasPrefix (bytes s) [64]))/\F=W at hD
 rw[ahr]at hD;have cA:=λW=>ays s W
 have am:=λW=>Wh s W
 have R:uS (bytes s)=if (bytes s).head?=some 64 then Ez (bytes s)else if oJ (bytes s)=true then 0 else 90:=rfl
 have Ex:oJ (bytes s)=oJ (bytes s):=rfl;generalize uS (bytes s)=f8 at *;cases Ci:((bytes s).head?==some 64)
 ·have a9:¬(bytes s).head?=some 64:=by simpa using Ci
  rw[au a9]at R;rw[Ci]at hD;cases hk:oJ (bytes s)
  ·rw[hk,au ay]at R;simp only[hk]at am;subst R;have yW:=z hD;have nf:=z am;go_in;go_wp2_with(first
    |(go_at_call 213;refine ak (yW.o _) ?_;rintro aO rfl)
    |(go_at_call 99;refine ak (nf.o _) ?_;intro bj a'))
   go_ret2;exact⟨a',_,[],rfl,⟨rfl,.inl ay⟩,(λ_ h=>by cases h),(λ_=>rfl),ay,λ_ h=>by cases h⟩
  ·rw[hk,aF rfl]at R;have r3:=hk;simp only[hk]at am;subst R;have ayL:=z r3;have yW:=z hD;have nf:=z am;go_in;go_wp2_with(first
    |(go_at_call 213;refine ak (yW.o _) ?_;rintro aO rfl)
    |(go_at_call 99;refine ak (nf.o _) ?_;intro bj a'))
   go_ret2;refine⟨gP a' ((O _).alloc _),_,[bytes s],rfl,?_,(λn h=>by rw[pI.1 h];exact ayL.o),(λh=>absurd rfl h),ay,λ_ _=>rfl⟩;have:=qQ q8 bj [bytes s] 9 _ 0 rfl (eG _) (by simp[maxLen]);simpa[encStr,Dt]using this
 ·have a9:(bytes s).head?=some 64:=by simpa using Ci
  rw[aF a9]at R;rw[Ci]at hD;subst R;have gb:=z a9;have yW:=z hD;have Rx:=z cA;generalize Ez (bytes s)=f8 at *;go_in;go_wp2_with(first
   |(go_at_call 213;refine ak (yW.o _) ?_;rintro aO rfl)
   |(go_at_call 379;refine(Rx.o _).mono ?_;rintro e bj ⟨a',sy,l3,rfl,w2⟩;have EC:=z w2))
  go_ret2;exact⟨a',sy,l3,rfl,EC.o.1,EC.o.2.1,EC.o.2.2.1,EC.o.2.2.2,λh=>absurd gb.o h⟩
theorem ayM(w:G):aM 337 #[] w (bg #[av true,av false,av false,av true]):=by unfold aM;go_in;go_wp2_with(refine wpList_store_rowTo rfl 448 (.tmp 0) (.tmp 3) rfl rfl w.heap.size #[av true,av false,av false,av true] rfl rfl 448 _ (bA w _) aj rfl rfl ?_;rw[World.setRow_alloc_new]);exact cO (v:=bg #[av true,av false,av false,av true]) (lQ results337 _ _ _ _ _ _ _ rfl (bA w _) underlying448 rfl aj) rfl ⟨rfl,(O _).alloc _⟩
end LT
end Go.Proofs.YtopfefhenfineaaGreat
namespace Go.Proofs.YtopfefhenfineaaGreat
open Go.Proofs.Tryz Go.RowKit Go.Shelf bh
variable{S:Prop}
def ahL(h:S:=by rw[h];exact⟨λe=>absurd e Y,λe=>by subst e;exact absurd k (List.lt_irrefl _)⟩):S:=h
namespace LT
variable{a i j m:Nat}{U:List dQ}{s:List aL}
def Ry:∀(a b:List aL),(Lib.compareBytes a b= -1/\a<b)\/(Lib.compareBytes a b=0/\a=b)\/(Lib.compareBytes a b=1/\b<a)
 | [],[]=> .inr (.inl ⟨rfl,rfl⟩)
 | [],_::_=> .inl ⟨rfl,List.nil_lt_cons _ _⟩
 |_::_,[]=> .inr (.inr ⟨rfl,List.nil_lt_cons _ _⟩)
 |x::a,y::b=>by
  unfold Lib.compareBytes;by_cases h1:x<y
  ·rw[aF h1];exact .inl ⟨rfl,List.cons_lt_cons_iff.2 (.inl h1)⟩
  rw[au h1];by_cases h2:y<x
  ·rw[aF h2];exact .inr (.inr ⟨rfl,List.cons_lt_cons_iff.2 (.inl h2)⟩)
  rw[au h2];have e:x=y:=UInt8.le_antisymm (UInt8.not_lt.1 h2) (UInt8.not_lt.1 h1);subst e;rcases Ry a b with⟨h,k⟩|⟨h,k⟩|⟨h,k⟩
  ·exact .inl ⟨h,List.cons_lt_cons_iff.2 (.inr ⟨rfl,k⟩)⟩
  ·exact .inr (.inl ⟨h,by rw[k]⟩)
  ·exact .inr (.inr ⟨h,List.cons_lt_cons_iff.2 (.inr ⟨rfl,k⟩)⟩)
def ayN(a b:List aL):Lib.compareBytes a b<0↔a<b:=by
 rcases Ry a b with⟨h,k⟩|⟨h,k⟩|⟨h,k⟩
 ·simp[h,k]
 ·subst k;simp[h,List.lt_irrefl]
 ·simp[h];exact List.not_lt.1 (λh2=>List.lt_irrefl _ (List.lt_trans h2 k))
def ahM(a b:List aL):Lib.compareBytes a b=0↔a=b:=by
 rcases Ry a b with⟨h,k⟩|⟨h,k⟩|⟨h,k⟩
 ·exact ahL
 ·exact⟨λ_=>k,λ_=>h⟩
 ·exact ahL
def Rz{lt:Nat->Bool}{n:Nat}(RA:∀a b,a<=b->b<n->lt b=true->lt a=true):∀(f i j:Nat),i<=j->j<=n->j-i<=f->(∀h,h<i->lt h=true)->(∀h,j<=h->h<n->lt h=false)->(∀h,h<pV lt f i j->lt h=true)/\(∀h,pV lt f i j<=h->h<n->lt h=false)
 |0,i,j,ox,Z,ai,h1,h2=>by obtain rfl:i=j:=aE;exact⟨h1,h2⟩
 |f+1,i,j,ox,Z,ai,h1,h2=>by
  unfold pV;split
  ·rename_i ad;split
   ·rename_i R;exact Rz RA f _ _ aE Z aE (λh be=>RA h _ aE aE R) h2
   ·rename_i R;refine Rz RA f _ _ aE aE aE h1 (λh be hn=> ?_);cases X:lt h
    ·rfl
    ·exact absurd (RA _ h be hn X) R
  ·obtain rfl:i=j:=aE;exact⟨h1,h2⟩
def M4(a b:List aL):Xj a b=true↔a<b:=by unfold Xj;rw[bytesLess_eq,wJ]
def ahN:∀(U:List dQ)(p:Option (List aL)),vS p U=true↔(∀c∈U,GN c=true)/\(∀c∈U,MI p c.nm=true)/\U.Pairwise (λa b=>a.nm<b.nm)
 | [],p=>by simp[vS]
 |c::r,p=>by
  simp only[vS,dV,ahN r (some c.nm),iA,forall_eq_or_imp,List.pairwise_cons];constructor
  ·rintro⟨h1,h2,T,af,aQ⟩;refine⟨⟨h1,T⟩,⟨h2,λx D=> ?_⟩,λx D=>(M4 _ _).1 (af x D),aQ⟩;cases p with
   |none=>rfl
   |some q=>exact(M4 _ _).2 (List.lt_trans ((M4 _ _).1 h2) ((M4 _ _).1 (af x D)))
  ·rintro⟨⟨h1,T⟩,⟨h2,-⟩,af,aQ⟩;exact⟨h1,h2,T,λx D=>(M4 _ _).2 (af x D),aQ⟩
def M5(U:List dQ):vS none U=true↔(∀c∈U,GN c=true)/\U.Pairwise (λa b=>a.nm<b.nm):=by rw[ahN];exact⟨λh=>⟨h.1,h.2.2⟩,λh=>⟨h.1,λ_ _=>rfl,h.2⟩⟩
def XY(h:U.Pairwise (λa b=>a.nm<b.nm))(hi:i<U)(Z:j<U)(ox:i<j):U[i].nm<U[j].nm:=zS.1 h i j hi Z ox
def ayO(h:U.Pairwise (λa b=>a.nm<b.nm))(Z:j<U)(ox:i<=j):∀s,U[j].nm<s->(U[i]' aE).nm<s:=λs ab=>by
 by_cases e:i=j
 ·subst e;exact ab
 ·exact List.lt_trans (XY h aE Z aE) ab
def ayP(h:U.Pairwise (λa b=>a.nm<b.nm))(s:List aL):(∀i (hi:i<U.length),i<ru U s->U[i].nm<s)/\(∀i (hi:i<U.length),ru U s<=i->¬U[i].nm<s):=by
 have X:∀i (hi:i<U.length),EA U s i=true↔U[i].nm<s:=λi hi=>by unfold EA;rw[dK hi];simp[ayN]
 obtain⟨h1,h2⟩:=Rz (lt:=EA U s) (n:=U.length) (λa b iv V an=>(X a aE).2 (ayO h V iv s ((X b V).1 an))) U 0 U (eG _) (aZ _) aE (λ_ be=>aE) (λ_ a b=>aE);exact⟨λi hi ad=>(X i hi).1 (h1 i ad),λi hi ED ad=>by have:=h2 i ED hi;rw[(X i hi).2 ad]at this;cases this⟩
def ayQ{c:dQ}(h:vS none U=true)(ao:GN c=true):vS none (Js U c)=true:=by
 obtain⟨h1,h2⟩:=(M5 U).1 h;obtain⟨b1,b2⟩:=ayP h2 c.nm;have ge:=ahx U c.nm;rw[M5];unfold Js;generalize ru U c.nm=i at *;split
 ·rename_i bx;have hi:i<U:=by
   unfold vT at bx;split at bx
   ·rename_i x D;exact(List.getElem?_eq_some_iff.1 D).1
   ·cases bx
  have hn:U[i].nm=c.nm:=by unfold vT at bx;rw[dK hi]at bx;exact(ahM _ _).1 (by simpa using bx)
  refine⟨λx D=> ?_,?_⟩
  ·rcases List.mem_or_eq_of_mem_set D with T|T
   ·exact h1 x T
   ·rw[T];exact ao
  ·rw[zS];intro a b bT V iv;rw[kD]at bT V;have g:∀k (hk:k<U.length),((U.set i c)[k]'(by rw[kD];exact hk)).nm=U[k].nm:=λk hk=>by
    rw[List.getElem_set];split
    ·rename_i e;subst e;exact hn.symm
    ·rfl
   rw[g a bT,g b V];exact XY h2 bT V iv
 ·rename_i bx;refine⟨λx D=> ?_,?_⟩
  ·rcases iZ.1 D with T|T
   ·exact h1 x (zT T)
   ·rcases iA.1 T with T|T
    ·rw[T];exact ao
    ·exact h1 x (List.mem_of_mem_drop T)
  ·rw[List.pairwise_append,List.pairwise_cons];have hd:∀x∈U.drop i,c.nm<x.nm:=λx D=>by
    obtain⟨k,hk,rfl⟩:=uD D;rw[mP]at hk;rw[List.getElem_drop];have aQ:=b2 (i+k) aE aE;rcases Ry U[i+k].nm c.nm with⟨-,a9⟩|⟨-,a9⟩|⟨-,a9⟩
    ·exact absurd a9 aQ
    ·exfalso;by_cases cG:k=0
     ·subst cG;apply bx;unfold vT;rw[dK (show i<U.length from aE)];simpa using(ahM _ _).2 a9
     ·have cF:=XY h2 (i:=i) (j:=i+k) aE aE aE;rw[a9]at cF;exact b2 i aE (aZ _) cF
    ·exact a9
   have an:∀x∈U.take i,x.nm<c.nm:=λx D=>by obtain⟨k,hk,rfl⟩:=uD D;rw[gV]at hk;rw[List.getElem_take];exact b1 k aE aE
   refine⟨h2.sublist (List.take_sublist _ _),⟨hd,h2.sublist (List.drop_sublist _ _)⟩,λx D y bN=> ?_⟩;rcases iA.1 bN with T|T
   ·rw[T];exact an x D
   ·exact List.lt_trans (an x D) (hd y T)
def ayR(h:iE m U=true)(ab:oJ s=true)(bT:wP a=true)(R:m≠0):iE m (AU m U s a)=true:=by unfold AU;rw[aF h];unfold iE at h⊢;simp only[dV,iM]at h⊢;exact⟨h.1,by simp[R],ayQ h.2.2 (by unfold GN;rw[ab,bT];rfl)⟩
def ayS(h:iE m U=true):iE m (AR m U s)=true:=by
 unfold AR;rw[aF h];unfold iE at h⊢;simp only[dV,iM,qM,Bool.not_eq_true',List.isEmpty_iff]at h⊢;obtain⟨h1,h2,T⟩:=h;refine⟨h1,?_,?_⟩
 ·rcases h2 with h2|h2
  ·exact .inl h2
  ·subst h2;exact .inr rfl
 ·rw[M5]at T⊢;exact⟨λc ao=>T.1 c (List.mem_filter.1 ao).1,T.2.sublist List.filter_sublist⟩
def ayT(h:oJ s=true):s∈kF.map (·.nm):=by unfold oJ at h;rw[List.find?_isSome]at h;obtain⟨x,D,bx⟩:=h;exact iJ.2 ⟨x,D,by simpa using bx⟩
def ayU:kF.length=40:=Y
def ahO{α:Type}[DecidableEq α]:∀ {l m:List α},l.Nodup->(∀x∈l,x∈m)->l.length<=m
 | [],_,_,_=>eG _
 |x::l,m,hn,R=>by
  rw[List.nodup_cons]at hn;have D:=R x ay;have b9:=ahO (l:=l) (m:=m.erase x) hn.2 (λy bN=>by
   have bO:y≠x:=λe=>hn.1 (e▸bN)
   exact(List.mem_erase_of_ne bO).2 (R y (by simp[bN])))
  rw[List.length_erase_of_mem D]at b9;have:=List.length_pos_of_mem D;rw[dJ];omega
def xZ(h:iE m U=true):U.length<=40:=by
 unfold iE at h;simp only[dV]at h;obtain⟨h1,h2⟩:=(M5 U).1 h.2.2;have hn:(U.map (·.nm)).Nodup:=by rw[List.Nodup,List.pairwise_map];exact h2.imp (λ{a b} iv e=>by rw[e]at iv;exact List.lt_irrefl _ iv)
 have:=ahO hn (m:=kF.map (·.nm)) (λx D=>by obtain⟨c,ao,rfl⟩:=iJ.1 D;have:=h1 c ao;unfold GN at this;simp only[dV]at this;exact ayT this.1)
 simpa[ayU]using this
end LT
end Go.Proofs.YtopfefhenfineaaGreat
namespace Go.Proofs.YtopfefhenfineaaGreat
open Go.Proofs.Tryz Go.RowKit Go.Shelf bh
attribute[local go_sem] Oper.semAt_some
namespace LT
variable{B n0:Nat}{W aa:G}{u:K}
structure dB where
 fl:List aL
 ln:Nat
 er:Nat
 tx:List aL
def iP(n:dB):List K:= [N (str n.fl),H n.ln,H n.er,N (str n.tx)]
def pW(n:dB):(iP n).length=4:=rfl
def RB(n:dB):∀u∈iP n,u.oneCell'=true:=by intro u a6;simp[iP]at a6;rcases a6 with rfl|rfl|rfl|rfl<;>rfl
theorem RD:(Tryz.prog.info? 45).map (λi=>(i.zero,i.size,i.bytes))=some (some (bg #[N ⟨#[]⟩,H 0,H 0,N ⟨#[]⟩]),4,48):=aj
def RG(s:bn)(k:Nat):s.extract 0 k=str ((bytes s).take k):=bytes_inj (by rw[nP];unfold bytes;rw[ByteArray.data_extract,Array.toList_extract];simp)
def wW(a:Nat)(t:Nat):Bool:=t==a
def RH(t:Nat):Bool:=t==45||t==38
structure x9(n0 B:Nat)(u:K)(ns:List dB)(W:G):Prop where
 hB:n0<=B
 bo:Boxed W B 38 u
 own:W.ownsRow n0 45 4 u ns (ns.flatMap iP)
def x9.kept{ns:List dB}{bz:Nat->Bool}(h:x9 n0 B u ns W)(hk:bq n0 bz W aa)(h1:bz 45=false)(h2:bz 38=false):x9 n0 B u ns aa:=⟨h.hB,hk.boxed h.bo h2,hk.own h.own h1⟩
def x9.ext{ns:List dB}(h:x9 n0 B u ns W)(D:Ext W aa):x9 n0 B u ns aa:=h.kept (bz:=λ_=>false) (.ext D) rfl rfl
theorem ayV(n0 B ahP:Nat)(u:K)(ns:List dB)(s:bn)(ab:s.size<=1000000)(e:Nat)(W:G)(h:x9 n0 B u ns W)(gs:n0<=W)(X:ns.length<=1000000)(bJ:Boxed W ahP 9 (N s)):Calls prog 334 #[H e,aB (some B),aB (some ahP)] W λr F=>r=aI (bH #[])/\∃d1,x9 n0 B d1 (ns++[⟨[],0,e,(bytes s).take 60⟩]) F/\bq n0 RH W F:=by
 obtain⟨bv,bp,rfl⟩:=dP h.own;have c1:=h.bo.cell;have I:=bJ.cell;obtain⟨k,hk⟩:∃k,k=min s.size 60:=⟨_,rfl⟩;have RC:min (s:Int) 60=(k:Int):=aE;have xc:k<=s.size:=aE;have EE:(k:Int)<=s:=aE;have LZ:s.extract 0 k=str ((bytes s).take 60):=by
  rw[RG]
  congr 1
  by_cases be:s.size<=60
  ·rw[hk,mQ be,rJ zX,rJ zX]
  ·rw[hk,Nat.min_eq_right aE]
 generalize(bytes s).take 60=tx at *;have ahQ:=λo=>((O W).alloc o).cell c1
 have aNd:=λo=>((O W).alloc o).cell I
 have nj:=z h;have d2:=z hk;have afI:=h.bo.lt;have mt:ns.length+[(⟨[],0,e,tx⟩:dB)].length=ns.length+1:=rfl;clear h bJ hk;go_in
 (go_region_law((refine FL rfl (.tmp 4) (.tmp 12) _ rfl underlying38 RD rfl Y pW RB n0 _ _ ns [⟨[],0,e,tx⟩] (by rfl) (by rfl) (by exact pG nj.o.own _) (aS.ext ((O _).drew) (jh pW W [⟨[],0,e,tx⟩] _ _ rfl)) dU Y dU ?_;intro y3 y4 dC fY r6;rw[mt]at fY⊢
                 have bl:x9 n0 B (E bv ns bp) ns ((W.alloc (J #[N ⟨#[]⟩,H 0,H e,N (str tx)] 45)).drew):=nj.o.ext ((O _).alloc _).drew;have h0:bq n0 (wW 45) _ dC:=bq.grown bl.own r6 rfl (aZ _);have f5:=h0.boxed bl.bo rfl;have ayW:=f5.cell;have ayX:=f5.frozen;have dE:=z (ah f5 (ah h0 fY));clear f5 h0 fY r6 bl)))
 all_goals
  go_wp2_with fail;go_end0;obtain⟨f5,h0,fY⟩:=dE.o;have vx:=bq.set (n0:=n0) (bz:=wW 38) (p:=⟨B,0,none⟩) f5 rfl nj.o.hB (E y3 (ns+1) y4);refine⟨rfl,_,⟨nj.o.hB,f5.set _,?_⟩,?_⟩
  ·rw[dA];exact vx.own fY rfl
  ·exact(((bq.alloc W _).trans (bq.drew _)).trans (h0.mono (aZ _) (λt an=>by unfold RH at an;unfold wW;simp at an⊢;exact an.1))).trans (vx.mono (aZ _) (λt an=>by unfold RH at an;unfold wW;simp at an⊢;exact an.2))
end LT
end Go.Proofs.YtopfefhenfineaaGreat
namespace Go.Proofs.YtopfefhenfineaaGreat
open Go.Proofs.Tryz Go.RowKit bh
namespace LT
open oh (jo eF yt)
variable{a i m cM:Nat}{b i2 dZ:Bool}{U d':List dQ}{v w:bn}{α pn:Type}{aH:α->pn->pn->Prop}
def mE{α pn:Type}(aH:α->pn->pn->Prop):List α->pn->pn->Prop
 | [],s,t=>t=s
 |x::l,s,u=>∃t,aH x s t/\mE aH l t u
def mE.snoc:∀ {l:List α} {x:α} {s t u:pn},mE aH l s t->aH x t u->mE aH (l++[x]) s u
 | [],_,_,_,_,h,k=>by cases h;exact⟨_,k,rfl⟩
 |_::_,_,_,_,_,⟨A',h1,h2⟩,k=>⟨A',h1,h2.snoc k⟩
def mE.inv{P:pn->Prop}(e1:∀x s t,aH x s t->P s->P t):∀ {l:List α} {s t:pn},mE aH l s t->P s->P t
 | [],_,_,h,k=>by cases h;exact k
 |_::_,_,_,⟨_,h1,h2⟩,k=>h2.inv e1 (e1 _ _ _ h1 k)
def mE.take{l:List α}(hi:i<l){s t u:pn}(h:mE aH (l.take i) s t)(k:aH l[i] t u):mE aH (l.take (i+1)) s u:=by rw[mh hi];exact h.snoc k
abbrev qH:=List dQ×List dB
def RJ(e:Int)(w:List aL):dB:=⟨[],0,e.toNat,w.take 60⟩
def upd(m:Nat)(b:Bool)(a:Nat)(U:List dQ)(n:List aL):List dQ:=if b=true then AU m U n a else AR m U n
def vU(i2 dZ:Bool)(m:Nat)(w:bn)(s t:qH):Prop:=
 if (jo (bytes w)).2≠0 then t=(s.1,s.2++[RJ (jo (bytes w)).2 (bytes w)])
 else if uS (jo (bytes w)).1.1≠0 then t=(s.1,s.2++[RJ (uS (jo (bytes w)).1.1) (bytes w)])
 else∃l:List (List aL),(∀n∈l,oJ n=true)/\((jo (bytes w)).1.1.head?≠some 64->l=[(jo (bytes w)).1.1])/\
  t=if (jo (bytes w)).1.2.2=true then(if (i2&&dZ)=true then(l.foldl (upd m true (jo (bytes w)).1.2.1) s.1,s.2)else(l.foldl (upd m ((m==2)==dZ) 0) s.1,s.2++[RJ 161 (bytes w)]))
   else(l.foldl (upd m ((m==2)==dZ) (jo (bytes w)).1.2.1) s.1,s.2)
def pX(i2:Bool)(m:Nat)(U:List dQ)(v:bn)(cM:Nat)(d':List dQ)(ns:List dB):Prop:=
 if iE m U=false then cM=m/\d'=U/\ns=[]
 else if Lib.goFieldsP eF v=[]then cM=0/\d'=[]/\ns=[]
 else cM=(if m=0 then(if Lib.hasPrefix (bytes v) [126]=true then 2 else 1)else m)/\
  mE (vU i2 (Lib.hasPrefix (bytes v) [126]) cM) (Lib.goFieldsP eF (str (Lib.trimPrefix (bytes v) [126]))) (U,[]) (d',ns)
def XZ(s:List aL):wP (jo s).1.2.1=true:=by
 unfold jo;rcases yt (oh.tl1 58 s)with⟨h,k⟩|h
 ·have e:327680|||(oh.mZ (oh.tl1 58 s)).1=327680+(oh.mZ (oh.tl1 58 s)).1:=(Nat.two_pow_add_eq_or_of_lt (i:=12) aE 80).symm
  (repeat' split)<;>try rfl
  unfold wP;simp only[e,qM,dV,iM];right;right;omega
 · (repeat' split)<;>first|rfl|(rename_i ae;rw[h]at ae;cases ae)
def ayY{n:List aL}(h:iE m U=true)(hn:oJ n=true)(bT:wP a=true)(R:m≠0):iE m (upd m b a U n)=true:=by
 unfold upd;split
 ·exact ayR h hn bT R
 ·exact ayS h
def M6{m:Nat}{b:Bool}{a:Nat}(bT:wP a=true)(R:m≠0):∀(l:List (List aL)) {U:List dQ},iE m U=true->(∀n∈l,oJ n=true)->iE m (l.foldl (upd m b a) U)=true
 | [],_,h,_=>h
 |n::l,_,h,X=>M6 bT R l (ayY h (X n ay) bT R) (λx D=>X x Ip)
def GV(e:Nat):Bool:=e==160||e==161||e==90||e==110||e==111
def ahR(s:List aL):(jo s).2=0\/(jo s).2=160\/(jo s).2=161:=by unfold jo;exact FE
def ahS(s:List aL):uS s=0\/uS s=90\/uS s=110\/uS s=111:=by unfold uS Ez;exact FE
def ayZ(R:m≠0)(w:bn)(s t:qH)(h:vU i2 dZ m w s t)(ab:iE m s.1=true/\∀n∈s.2,GV n.er=true):iE m t.1=true/\(∀n∈t.2,GV n.er=true):=by
 unfold vU at h;have key:∀(e:Int) (x:List aL),GV e.toNat=true->∀n∈s.2++[RJ e x],GV n.er=true:=λe x bx n hn=>by
  rcases iZ.1 hn with h1|h1
  ·exact ab.2 n h1
  ·rw[pI.1 h1];exact bx
 split at h
 ·rename_i h1;subst h;refine⟨ab.1,key _ _ ?_⟩;rcases ahR (bytes w)with h|h|h
  ·exact absurd h h1
  ·rw[h];rfl
  ·rw[h];rfl
 split at h
 ·rename_i h1 h2;subst h;refine⟨ab.1,key _ _ ?_⟩;rcases ahS (jo (bytes w)).1.1 with h|h|h|h
  ·exact absurd h h2
  ·rw[h];rfl
  ·rw[h];rfl
  ·rw[h];rfl
 obtain⟨l,X,-,rfl⟩:=h;(repeat' split)
 ·exact⟨M6 (XZ _) R l ab.1 X,ab.2⟩
 ·exact⟨M6 rfl R l ab.1 X,key _ _ rfl⟩
 ·exact⟨M6 (XZ _) R l ab.1 X,ab.2⟩
def pX.inv{ns:List dB}(h:pX i2 m U v cM d' ns)(R:iE m U=true):iE cM d'=true/\∀n∈ns,GV n.er=true:=by
 unfold pX at h;rw[au (by rw[R];decide)]at h;split at h
 ·obtain⟨rfl,rfl,rfl⟩:=h;exact⟨rfl,λ_ h=>by cases h⟩
 obtain⟨h1,h2⟩:=h;have ae:cM≠0/\iE cM U=true:=by
  rw[h1];by_cases e:m=0
  ·rw[aF e];subst e;have aV:U=[]:=by unfold iE at R;simpa using(by simpa using R:_/\_).1
   subst aV;split<;>exact⟨Y,rfl⟩
  ·rw[au e];exact⟨e,R⟩
 exact h2.inv (P:=λs:qH=>iE cM s.1=true/\∀n∈s.2,GV n.er=true) (ayZ ae.1) ⟨ae.2,λ_ h=>by cases h⟩
def ay0{s t:qH}(h:vU i2 dZ m w s t):t.2.length<=s.2.length+1:=by
 unfold vU at h;split at h
 ·subst h;simp
 split at h
 ·subst h;simp
 obtain⟨l,-,-,rfl⟩:=h;exact FE
end LT
end Go.Proofs.YtopfefhenfineaaGreat
