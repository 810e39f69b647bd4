import Derived.Test.YtopfefhenfineaaGreatP4
import Derived.Test.YtopfefhenfineaaGreatP5
import Derived.Test.YtopfefhenfineaaGreatP8
import Derived.Laws.MakeOwn
set_option linter.all false
set_option maxRecDepth 100000
set_option maxHeartbeats 4000000
namespace Go.Proofs.YtopfefhenfineaaGreat
open Go.Proofs.Tryz Go.RowKit bh
namespace acC
open jG
open d5 (Bc Y6 Hr toks)
def U2(k:Nat):bn:=⟨(Bc.getD k []).toArray⟩
theorem Zt(i:Nat)(h:i<6)(w:G):(Instr.index 157 (bg Hr) (H i)).run prog w= .ok (bg #[N (U2 i),M (toks.getD i 0:Nat)]) w:=alQ
theorem Zu(nm:bn)(tk:Int)(w:G):(Instr.field 156 (bg #[N nm,M tk]) 0).run prog w= .ok (N nm) w:=by rfl
theorem Zv(nm:bn)(tk:Int)(w:G):(Instr.field 156 (bg #[N nm,M tk]) 1).run prog w= .ok (M tk) w:=by rfl
def uK(a:Int):Nat×Int:=if 0<=a/\a<6 then(toks.getD a.toNat 0,0)else(0,80)
theorem L6(a:Int)(w:G):aM 232 #[H a] w (bH #[M ((uK a).1:Nat),H (uK a).2]):=by
 by_cases ae:a<0
 ·have bl:uK a=(0,80):=by unfold uK;rw[au aE]
  have hd:decide (a<0)=true:=dH ae;rw[bl];have ee:=z bl;have n':=z ae;exact U0
 have hd:decide (a<0)=false:=dM ae;by_cases h1:6<=a
 ·have bl:uK a=(0,80):=by unfold uK;rw[au aE]
  have hd1:decide (6<=a)=true:=dH h1;rw[bl];have ee:=z bl;have n':=z ae;have tD:=z h1;exact U0
 have hd1:decide (6<=a)=false:=dM h1;have bl:uK a=(toks.getD a.toNat 0,0):=by unfold uK;rw[aF aE]
 obtain⟨i,rfl⟩:=Int.eq_ofNat_of_zero_le (by omega:0<=a);rw[kr]at bl;have Rm:=Zt i aE;rw[bl];dsimp only;generalize U2 i=nm at *;generalize toks.getD i 0=tk at *;have AB:=Zu nm (tk:Int);have va:=Zv nm (tk:Int);have ee:=z bl;unfold aM;go_in;go_wp2_with(go_at_call 77;refine ak (d5.qC _) ?_;intro I Q);go_ret2;exact⟨rfl,Q⟩
theorem DY:(Tryz.prog.info? 3).map (λi=>(i.zero,i.size,i.bytes))=some (some (H 0),1,8):=aj
def aKa(W:G)(A:List Int)(t g:Nat)(hg:g=W.heap.size):aS (W.alloc (J (A.flatMap qV).toArray t)) 1 qV (E (some g) A A) A:=jh En W A t g hg
def kY(a:Int):List Int->Nat->Int
 | [],_=> -1
 |x::r,k=>if (a==x)=true then(k:Int)else kY a r (k+1)
def SH{a:Int}{A:List Int}{k:Nat}(h:k<A):kY a (A.drop k) k=if (a==A[k])=true then(k:Int)else kY a (A.drop (k+1)) (k+1):=by rw[kQ h];rfl
def SI(a:Int)(A:List Int)(k:Nat):kY a (A.drop A) k= -1:=by rw[qy];rfl
def SG(a:Int):∀(A:List Int)(k:Nat),decide (0<=kY a A k)=A.contains a
 | [],k=>rfl
 |x::r,k=>by
  unfold kY;rw[y5];cases h:a==x
  ·rw[au ay,SG a r (k+1)];rfl
  ·rw[aF rfl];simp
theorem alS(v:K)(A:List Int)(a:Int)(X:A.length<=140737488351232)(w:G)(hv:aS w 1 qV v A):aM 46 #[v,H a] w (H (kY a A 0)):=by exact alT
theorem qm(v:K)(A:List Int)(a:Int)(X:A.length<=140737488351232)(w:G)(hv:aS w 1 qV v A):aM 24 #[v,H a] w (av (A.contains a)):=by exact alR
theorem NV(w:G):Calls prog 22 #[] w λe F=>∃g c,e=aI (E (some ⟨g,0,none⟩) 6 c)/\Ext w F/\(∃bm,F.heap[g]?=some (J bm 3 (0,0)))/\∀i,i<6->F.cell? ⟨g,i,none⟩=some (H (i:Int)):=by
 go_in;go_wp2;go_loopw [1,3] (λu i wr=>∃k:Nat,k<=6/\i=H k/\Ext w wr/\∃a c,u=E a k c/\wr.ownsRow w 3 1 (E a k c) k (((List.range k).map λj:Nat=>(j:Int)).flatMap qV)) (λ_ i _=>6-(intOf i).toNat)
 case atStart=>exact⟨0,aE,rfl,O _,none,0,rfl,jR _ _ _ _⟩
 case round=>
  obtain⟨k,hk,rfl,D,a,c,rfl,cc⟩:=hrel;have aT:=z D;have cx:=z cc;by_cases ad:k<6
  ·have uc:((List.range k).map λj:Nat=>(j:Int)).length=k:=ay;have o':((List.range k).map λj:Nat=>(j:Int)).length+[(k:Int)].length=k+1:=ay;have cQ:(((List.range k).map λj:Nat=>(j:Int))++[(k:Int)])=((List.range (k+1)).map λj:Nat=>(j:Int)):=by rw[List.range_succ];simp
   have Pe:=z uc;have aaT:=z cQ;go_wp2_with(at_builtin;refine Dr rfl (.tmp 6) (.tmp 8) _ rfl underlying28 DY rfl Y En aDy w _ _ ((List.range k).map λj:Nat=>(j:Int)) [(k:Int)] rfl rfl (by rw[Pe.o];exact pG cx.o _) (aKa _ [(k:Int)] _ _ rfl) (by rw[o'];omega) Y (by repeat(first|exact aT.o|apply Ext.alloc)) ?_;intro a2 c2 aO fv ag;rw[o',aaT.o]at fv;rw[o']);go_roundw
   case rel=>exact⟨k+1,aE,cZ,ag,a2,c2,rfl,fv⟩
   case measure=>exact eO
  ·obtain rfl:k=6:=aE;go_wp2;go_ret;have cX:=eD (n:=1) (enc:=qV) (A:=(List.range 6).map λj:Nat=>(j:Int)) En (by simpa using cx.o);obtain⟨g,c',e,-,af⟩:=tQ cX;simp only[eZ]at e;obtain⟨rfl,-,rfl⟩:=e;obtain⟨b,o,rfl,-⟩:=af 0 ay;have fN:o=0:=by
    rcases cx.o.2 with⟨hv,_⟩|⟨g,cap,bm,hv,_⟩
    ·cases hv
    ·simp only[eZ,jB,pJ]at hv;exact hv.1.2.1
   subst fN;refine⟨b,c,rfl,aT.o,j7.jw cx.o b rfl,λi hi=> ?_⟩;obtain⟨e4,fe,cU,aQ⟩:=af i Im;obtain⟨rfl,rfl⟩:b=e4/\0=fe:=by simpa using cU
   rw[gF]at aQ;simpa using aQ
end acC
namespace e2
open jG (aD)
open d5 (toks)
def DV(m:Nat->Bool)(a:Nat):Bool:=m a&&((a !=0&&a !=2)||((m 0&&m 2)&&a==0))
def iK(a:Nat):Nat:=toks.getD a 0
def chain(m:Nat->Bool)(k:Nat):List Nat:=((List.range k).filter (DV m)).map iK
def lS(m:Nat->Bool):Nat->Int
 |0=> -1
 |k+1=>if (m k&&((k==0||k==2)&& !(m 0&&m 2)))=true then(k:Int)else lS m k
def auV(m:Nat->Bool)(k:Nat):chain m (k+1)=chain m k++if DV m k=true then [iK k]else []:=by
 unfold chain;rw[List.range_succ,yZ,fQ]
 congr 1
 cases h:DV m k<;>simp[h]
def auU(m:Nat->Bool)(k:Nat):(chain m k).length<=k:=by unfold chain;rw[dL];exact cB (BH _ _) ay
end e2
namespace m9
open jG (aD dI gQ mR)
open j7 (nT qj jw Bg)
variable{B c g i KV k:Nat}{W aa w0:G}{j:gB}{bZ:List gB}{ls:List aD}{u v ct:K}
def fq.cell{bm:Array K}(hg:W.heap[g]?=some (J bm 407 (0,0)))(i:Nat)(u:K):fq (λ_=>False) W (W.setCell ⟨g,i,none⟩ u):=
 ⟨by rw[size_set];exact aZ _,λk U t fr _ ae h1 _ _=>(fI _ _ _ k (λe=>by rw[e]at ae;have:=gL (ae.symm.trans hg);simp only[vB]at this;exact h1 this.2.1)).trans ae⟩
def gY.patch(h:gY w0 B (E (some g) ls c) ct ls bZ W){y:aD}(hi:i<ls)(aKb:KV<4)(bx:dI y=(dI (ls[i]'hi)).set KV u):gY w0 B (E (some g) ls c) ct (ls.set i y) bZ (W.setCell ⟨g,i*4+KV,none⟩ u)/\fq (λ_=>False) W (W.setCell ⟨g,i*4+KV,none⟩ u):=by obtain⟨cc,hg⟩:=vD gQ h.own i KV u y hi aKb bx;obtain⟨bm,ao⟩:=jw h.own g rfl;have hk:=fq.cell ao (i*4+KV) u;have ad:=h.own.lt g rfl;refine⟨⟨h.ext.setCell (by have:=h.hB;dsimp only;omega) _,h.hB,(fI _ _ _ B (λe=>by dsimp only at e;omega)).trans h.box,by rw[kD];exact cc,J6 h.late hg (λb V=>J5 h.late h.own Y b V),λj Z=> ?_⟩,hk⟩;obtain⟨h1,h2⟩:=h.jok j Z;exact⟨h1.kept hk (λk hk=>hk.elim),by rw[kD];exact h2⟩
def hkb{aP:Nat->Prop}(h:fq aP W aa)(V:Boxed W k 339 v)(D:¬aP k):Boxed aa k 339 v:=h.boxed V D Y Y Y
theorem aKc(h:gY w0 B v ct ls bZ W)(Z:Hu W B j)(b8:j.at_<ls.length)(X:ls.length<=1000000)(n m:Int)(an:Boxed W j.th 339 (H n))(ho:j.code=5\/∃nn,j.el=some nn/\Boxed W nn 339 (H m)):Calls prog 282 #[fE j.bt,fE j.bw,fE j.ba,fE j.bc,fE j.bo] W λe F=>e=aI (bH #[])/\gY w0 B v ct (ls.set j.at_ ⟨(ls[j.at_]'b8).c,(ls[j.at_]'b8).k,n,if j.code=5 then(ls[j.at_]'b8).el else m⟩) bZ F/\fq (λ_=>False) W F:=by
 obtain⟨i,code,th,el,bt,bw,ba,bc,bo⟩:=j;dsimp only at *;have aKd:i<ls:=b8;obtain⟨g,c,rfl,Gh,tS,Ac⟩:=zV h.own aE;obtain⟨bu,c',cU,-,hG⟩:=jG.ig (eD gQ h.own);simp only[eZ]at cU;obtain⟨rfl,-,rfl⟩:=cU;obtain⟨e4,fe,cU,r0,dq,ei,eM⟩:=hG i b8;simp only[jB,pJ,and_true]at cU;obtain⟨rfl,rfl⟩:=cU;rw[gF]at ei eM;have hh:(0:Int)<=i:=aE;have ane:(i:Int)<ls:=aE;have y2:dI ⟨(ls[i]'b8).c,(ls[i]'b8).k,n,(ls[i]'b8).el⟩=(dI (ls[i]'b8)).set 2 (H n):=rfl;have cz:=z (h.patch b8 Y y2);have fg:=Ac (i*4+2);have bk:=Z.t.cell;have bW:=Z.w.cell;have d7:=Z.a.cell;have g3:=Z.c.cell;have hV:=an.cell;have b0:=h.b0;dsimp only at bk bW d7 g3;unfold fE at bk bW⊢;have bY:=z h;have h7:=z Z;have gz:=z an;have cx:=z ho;have eb:=z Ac;go_in;go_wp;go_region;generalize b7:World.drew _=az;have xt:Hid (gY w0 B (E (some g) ls c) ct (ls.set i ⟨(ls[i]'b8).c,(ls[i]'b8).k,n,(ls[i]'b8).el⟩) bZ az/\fq (λ_=>False) W az/\∀j,az.frozen? ⟨g,j,none⟩=false):=by rw[<-b7];exact z ⟨cz.o.1.kept ((O _).drew),cz.o.2.trans (fq.ext ((O _).drew)),λj=>(uE _ _ _ _).trans (eb.o j)⟩
 have Ch:=h7.o.kept xt.o.2.1 (λ_ h=>h.elim);have bk:=Ch.t.cell;have bW:=Ch.w.cell;have d7:=Ch.a.cell;have g3:=Ch.c.cell;have pS:=Ch.o.cell;have b0:=xt.o.1.b0;have fg:=xt.o.2.2 (i*4+3);dsimp only at bk bW d7 g3 pS;unfold fE at bk bW;have aQi:=z Ch;have hX:(ls.set i (⟨(ls[i]'b8).c,(ls[i]'b8).k,n,(ls[i]'b8).el⟩:aD)).length=ls.length:=kD;obtain⟨sb,Fo⟩:∃sb,sb=ls.set i (⟨(ls[i]'b8).c,(ls[i]'b8).k,n,(ls[i]'b8).el⟩:aD):=⟨_,rfl⟩;rw[<-Fo]at xt hX;have TZ:i<sb.length:=by rw[hX];exact aKd
 have vb:sb[i]'TZ=⟨(ls[i]'b8).c,(ls[i]'b8).k,n,(ls[i]'b8).el⟩:=by simp only[Fo,List.getElem_set_self]
 by_cases T0:code=5
 ·have aW:((code:Int) !=5)=false:=by rw[T0];rfl
  have dt:=z T0;go_wp;go_end0;refine⟨rfl,?_,xt.o.2.1⟩;have e:(⟨(ls[i]'b8).c,(ls[i]'b8).k,n,if code=5 then(ls[i]'b8).el else m⟩:aD)=⟨(ls[i]'b8).c,(ls[i]'b8).k,n,(ls[i]'b8).el⟩:=by rw[aF dt.o]
  first|(have kv:=xt.o.1;rw[Fo]at kv;exact kv)|(rw[e,<-Fo];exact xt.o.1)|(have kv:=xt.o.1;rw[Fo,<-e]at kv;exact kv)
 ·have aW:((code:Int) !=5)=true:=by simp;omega
  have cn:=cx.o;rcases cn with kv|⟨nn,rfl,x6⟩
  ·exact absurd kv T0
  have dt:=z T0;have xl:=(hkb xt.o.2.1 x6 (λh=>h.elim)).cell;simp only[kC]at pS;have tn:dI ⟨(ls[i]'b8).c,(ls[i]'b8).k,n,m⟩=(dI (sb[i]'TZ)).set 3 (H m):=by rw[vb];rfl
  have Af:=xt.o.1.own;obtain⟨bu,c',cU,-,hG⟩:=jG.ig (eD gQ (by rw[<-hX]at Af;exact Af));simp only[eZ]at cU;obtain⟨rfl,-,rfl⟩:=cU;obtain⟨e4,fe,cU,-,-,-,eM⟩:=hG i TZ;simp only[jB,pJ,and_true]at cU;obtain⟨rfl,rfl⟩:=cU;rw[gF]at eM;have aKe:=z tn;go_wp;go_region;go_wp;go_end0;have h1:gY w0 B (E (some g) sb c) ct sb bZ az:=by rw[hX];exact xt.o.1
  have h2:=h1.patch TZ Y aKe.o;have e:(⟨(ls[i]'b8).c,(ls[i]'b8).k,n,if code=5 then(ls[i]'b8).el else m⟩:aD)=⟨(ls[i]'b8).c,(ls[i]'b8).k,n,m⟩:=by rw[au dt.o]
  have aV:sb.set i ⟨(ls[i]'b8).c,(ls[i]'b8).k,n,m⟩=ls.set i ⟨(ls[i]'b8).c,(ls[i]'b8).k,n,m⟩:=by rw[Fo,List.set_set]
  rw[hX,aV]at h2;refine⟨rfl,?_,xt.o.2.1.trans (h2.2.trans (fq.ext ((O _).drew)))⟩;have T:=h2.1.kept ((O _).drew)
  first|exact T|(rw[e];exact T)|(simp only[dt.o,if_false];exact T)
def patch(mm pe:gB->Int)(ls:List aD)(j:gB):List aD:=
 match ls[j.at_]? with
 |none=>ls
 |some s=>ls.set j.at_ ⟨s.c,s.k,mm j,if j.code=5 then s.el else pe j⟩
def aKf(mm pe:gB->Int)(ls:List aD)(j:gB):(patch mm pe ls j).length=ls.length:=by unfold patch;split<;>simp
def HV(mm pe:gB->Int):∀(bZ:List gB)(ls:List aD),(bZ.foldl (patch mm pe) ls).length=ls.length
 | [],_=>rfl
 |j::bZ,ls=>by rw[xH,HV mm pe bZ,aKf]
def aqC(mm pe:gB->Int)(h:j.at_<ls.length):patch mm pe ls j=ls.set j.at_ ⟨(ls[j.at_]'h).c,(ls[j.at_]'h).k,mm j,if j.code=5 then(ls[j.at_]'h).el else pe j⟩:=by unfold patch;rw[dK h]
def aKg(mm pe:gB->Int)(h:k<bZ)(ls:List aD):(bZ.take (k+1)).foldl (patch mm pe) ls=patch mm pe ((bZ.take k).foldl (patch mm pe) ls) (bZ[k]'h):=by rw[mh h,uF];rfl
def age(W:G)(mm pe:gB->Int)(bZ:List gB):Prop:= ∀j∈bZ,Boxed W j.th 339 (H (mm j))/\(j.code=5\/∃nn,j.el=some nn/\Boxed W nn 339 (H (pe j)))
def age.kept{mm pe:gB->Int}(h:age W mm pe bZ)(hk:fq (λ_=>False) W aa):age aa mm pe bZ:=λj Z=>by
 obtain⟨h1,h2⟩:=h j Z;refine⟨hkb hk h1 (λh=>h.elim),?_⟩;rcases h2 with h2|⟨nn,h2,T⟩
 ·exact .inl h2
 ·exact .inr ⟨nn,h2,hkb hk T (λh=>h.elim)⟩
theorem mK(h:gY w0 B v ct ls bZ W)(X:ls.length<=1000000)(nw:bZ.length<=1000000)(mm pe:gB->Int)(aqD:age W mm pe bZ):Calls prog 236 #[fE B] W λe F=>e=aI v/\gY w0 B v ct (bZ.foldl (patch mm pe) ls) bZ F/\fq (λ_=>False) W F:=by
 have bY:=z h;have ec:=z aqD;have b1:=h.b1;obtain⟨bv,bp,rfl⟩:=dP h.own;obtain⟨Ks,Kw,rfl⟩:=dP h.late;clear h aqD;unfold fE;go_in;go_wp2_with fail;go_loopw [10] (λi wr=>∃k:Nat,k<=bZ/\i=H k/\gY w0 B (E bv ls bp) (E Ks bZ Kw) ((bZ.take k).foldl (patch mm pe) ls) bZ wr/\fq (λ_=>False) W wr) (λi _=>bZ.length-(intOf i).toNat)
 case atStart=>exact⟨0,aE,rfl,bY.o,fq.refl _ _⟩
 case round=>
  obtain⟨k,hk,rfl,ab,HG⟩:=hrel;clear b1;have b0:=ab.b0;have ey:((bZ.take k).foldl (patch mm pe) ls).length=ls.length:=HV _ _ _ _;by_cases ad:k<bZ
  ·have ID:(k:Int)<bZ:=aE;obtain⟨bu,c',cU,-,-,hG⟩:=eD SN ab.late;simp only[eZ]at cU;obtain⟨rfl,-,rfl⟩:=cU;obtain⟨dv,o2,rfl,ao⟩:=hG k ad;have c0:=ao 0 (by rw[SN];decide);obtain⟨aa8,HN⟩:=ab.jok _ (eB ad);have yy:=(ec.o.kept HG) _ (eB ad);have J1:=aKg mm pe ad ls;obtain⟨j,Z⟩:∃j,j=bZ[k]'ad:=⟨_,rfl⟩;rw[<-Z]at c0 aa8 HN yy J1;have e1:=aKc ab aa8 HN aE (mm j) (pe j) yy.1 yy.2;rw[<-aqC mm pe HN,<-J1]at e1;simp only[J4,gB.val,BG,qA,nO]at c0;have cz:=z e1;have aKh:=z HG;clear ab aa8 HN yy J1 e1 ao hG HG Z;unfold fE at c0;go_wp2_with fail;refine ak cz.o ?_;rintro F ⟨rh,oY⟩;have sr:=z (ah rh (aKh.o.trans oY));clear rh oY;go_wp2_with fail;go_roundw
   case rel=>exact⟨k+1,aE,cZ,sr.o⟩
   case measure=>exact eO
  ·obtain rfl:k=bZ.length:=aE;rw[iR]at ab;have sr:=z (ah ab HG);clear ab HG;go_wp2_with fail;go_ret;exact⟨rfl,sr.o⟩
end m9
variable{S:Prop}
def V8(h:S:=by
 generalize m 0=b0,m 1=b1,m 2=b2,m 3=cV,m 4=ky,m 5=mB
 revert b0 b1 b2 cV ky mB
 decide+kernel):S:=h
namespace m9
open jG (aD)
end m9
namespace e2
open jG (aD dx)
open d5 (toks)
def tC(p0:Int):List Nat->Nat->List aD
 | [],_=>[]
 |t::r,i=>⟨21,t,p0,((i+2:Nat):Int)⟩::tC p0 r (i+1)
def Pf(p0:Int):∀(cb:List Nat)(i:Nat),(tC p0 cb i).length=cb.length
 | [],_=>rfl
 |_::r,i=>by simp[tC,Pf p0 r (i+1)]
def aqE(p0:Int):∀(cb:List Nat)(hh i:Nat),(tC p0 cb hh)[i]?=cb[i]?.map (λt=>(⟨21,t,p0,((hh+i+2:Nat):Int)⟩:aD))
 | [],_,_=>by simp[tC]
 |t::r,hh,0=>by simp[tC]
 |t::r,hh,i+1=>by have:=aqE p0 r (hh+1) i;simp only[tC,List.getElem?_cons_succ];rw[this,show hh+1+i+2=hh+(i+1)+2 from aE]
def mid(la:Int)(p:Nat):List aD:=if la<0 then []else [⟨21,iK la.toNat,((p+1:Nat):Int),((p+3:Nat):Int)⟩,⟨32,0,0,0⟩,if la=2 then⟨69,1073741824,((p+4:Nat):Int),((p+3:Nat):Int)⟩else⟨69,1073741824,((p+3:Nat):Int),((p+4:Nat):Int)⟩]
def ends:List aD:= [⟨6,2147483648,0,0⟩,⟨6,2147418112,0,0⟩]
def vM(cb:List Nat)(la:Int):List aD:=⟨32,4,0,0⟩::(tC ((cb.length+(if la<0 then 0 else 3)+2:Nat):Int) cb 0++(mid la (cb+1)++ends))
def qw(m:Nat->Bool):List aD:=vM (chain m 6) (lS m 6)
def Ug(b0 b1 b2 cV ky mB:Bool)(a:Nat):Bool:=match a with|0=>b0|1=>b1|2=>b2|3=>cV|4=>ky|5=>mB|_=>false
def aqF(m:Nat->Bool):chain m 6=chain (Ug (m 0) (m 1) (m 2) (m 3) (m 4) (m 5)) 6:=by
 unfold chain
 congr 1
def aa9(m:Nat->Bool):lS m 6=lS (Ug (m 0) (m 1) (m 2) (m 3) (m 4) (m 5)) 6:=by rfl
def aez(m:Nat->Bool):qw m=qw (Ug (m 0) (m 1) (m 2) (m 3) (m 4) (m 5)):=by unfold qw;rw[aqF,aa9]
def zy(m:Nat->Bool):dx (qw m)=true/\(qw m).length<=30:=by rw[aez];exact V8
end e2
def abb(h:S:=by show(32:Nat)≠6;decide):S:=h
def abd(h:S:=by show(69:Nat)≠6;decide):S:=h
namespace e2
open jG
open d5 (toks uV bit fZ rP fU pE Y7)
variable{a i aw:Nat}{d:Dat}
def gdA(m:Nat->Bool)(ar nr:Nat):Nat:=if ((uV ar nr).2&&m (uV ar nr).1.toNat)=true then 2147418112 else 2147483648
def KW(m:Nat->Bool)(ar:Nat)(b:Bool):Nat:=
 if (chain m 6).contains ar=true then 2147418112 else if lS m 6<0 then 2147483648 else if (ar==iK (lS m 6).toNat)=true then(if b=true then(if lS m 6=2 then 2147418112 else 2147483648)else if lS m 6=2 then 2147483648 else 2147418112)else 2147483648
def aqG(b0 b1 b2 cV ky mB:Bool)(ar:Nat)(b:Bool):Nat:=KW (Ug b0 b1 b2 cV ky mB) ar b
def aKi(nr:Nat):((nr&&&1073741824) !=0)=bit nr:=by have e:(1073741824:Nat)=2^30:=Y;rw[e,Y7,Nat.testBit_eq_decide_div_mod_eq];exact alN
def aKj(m:Nat->Bool)(x:Nat)(h:x∈chain m 6):x∈toks:=by unfold chain at h;obtain⟨a,bT,rfl⟩:=iJ.1 h;have h1:=(List.mem_filter.1 bT).1;have h2:a<6:=List.mem_range.1 h1;unfold iK;rw[kR,dK (by exact h2)];exact eB _
def V3(m:Nat->Bool):lS m 6= -1\/lS m 6=0\/lS m 6=2:=by rw[aa9];exact V8
def aKk(m:Nat->Bool)(ar nr:Nat):KW m ar (bit nr)=gdA m ar nr:=by
 by_cases qe:ar∈toks
 ·have a9:ar=3221225534\/ar=1073741827\/ar=1073741864\/ar=3221225655\/ar=3221225715:=by simp[toks]at qe;omega
  have aK:KW m ar (bit nr)=aqG (m 0) (m 1) (m 2) (m 3) (m 4) (m 5) ar (bit nr):=by unfold aqG KW;rw[<-aqF,<-aa9]
  rw[aK];unfold gdA uV;rcases a9 with rfl|rfl|rfl|rfl|rfl
  ·have ai:fZ (rP 3221225534) 0=0:=Y;rw[ai];cases V:bit nr
   all_goals
    simp only[show¬((0:Int)<0)from Y,if_false,true_and,if_true,rM,and_false];simp only[jc,Int.toNat_zero,show Int.toNat 2=2 from rfl];generalize m 0=b0,m 1=b1,m 2=b2,m 3=cV,m 4=ky,m 5=mB
    revert b0 b1 b2 cV ky mB
    decide+kernel
  all_goals
   generalize bit nr=b;simp only[show fZ (rP 1073741827) 0=1 from Y,show fZ (rP 1073741864) 0=3 from Y,show fZ (rP 3221225655) 0=4 from Y,show fZ (rP 3221225715) 0=5 from Y];generalize jx:m 0=b0;generalize kz:m 1=b1;generalize eS:m 2=b2;generalize zj:m 3=cV;generalize Jo:m 4=ky;generalize Jp:m 5=mB;simp[kz,zj,Jo,Jp];clear aK jx kz eS zj Jo Jp
   revert b b0 b1 b2 cV ky mB
   decide+kernel
 ·have ao:(chain m 6).contains ar=false:=by rw[Bool.eq_false_iff];intro h;exact qe (aKj m ar tH)
  have ai:fZ (rP ar) 0= -1:=by
   have hn:∀k,k<6->rP ar k=false:=λk hk=>by unfold rP;rw[iH];intro e;refine qe ?_;rw[<-e,kR,dK (by exact hk)];exact eB _
   rw[fU aE,hn 0 aE,au ay,fU aE,hn 1 aE,au ay,fU aE,hn 2 aE,au ay,fU aE,hn 3 aE,au ay,fU aE,hn 4 aE,au ay,fU aE,hn 5 aE,au ay,pE]
  have ho:gdA m ar nr=2147483648:=by
   unfold gdA uV;rw[ai]
   rfl
  rw[ho];unfold KW;rw[ao,au ay];have X:∀x,x=0\/x=2->(ar==iK x)=false:=λx D=>by rw[iH];intro e;refine qe ?_;rw[e];rcases D with rfl|rfl<;>decide
  rcases V3 m with h|h|h
  ·rw[h];rfl
  ·rw[h,au Y,show(ar==iK (Int.toNat 0))=false from X 0 (.inl rfl),au ay]
  ·rw[h,au Y,show(ar==iK (Int.toNat 2))=false from X 2 (.inr rfl),au ay]
def yQ{L:List aD}(R:dx L=true){s:aD}(h:L[i]?=some s)(a9:s.c≠6):fF d L (L-i) i a aw=fF d L (L.length-nx s i a) (nx s i a) (na d s a) (aw+1):=by obtain⟨hi,e⟩:=List.getElem?_eq_some_iff.1 h;have:=Z9 (d:=d) R (a:=a) (aw:=aw) hi (by rw[e];exact a9);rw[e]at this;exact this
def Fw{L:List aD}{s:aD}(h:L[i]?=some s)(a9:s.c=6):fF d L (L-i) i a aw=(s.k,aw+1):=by obtain⟨hi,e⟩:=List.getElem?_eq_some_iff.1 h;have:=Z8 (d:=d) (l:=L) (a:=a) (aw:=aw) hi (by rw[e];exact a9);rw[e]at this;exact this
def aKl(cb:List Nat)(la:Int):(vM cb la).length=cb.length+(if la<0 then 0 else 3)+3:=by unfold vM mid ends;split<;>simp[Pf]<;>omega
def aKm(cb:List Nat)(la:Int)(i:Nat)(h:i<cb):(vM cb la)[1+i]?=some ⟨21,cb[i],((cb.length+(if la<0 then 0 else 3)+2:Nat):Int),((2+i:Nat):Int)⟩:=by unfold vM;rw[show 1+i=i+1 from aE,List.getElem?_cons_succ,abZ (by rw[Pf];exact h),aqE,dK h];simp only[kC];rw[show 0+i+2=2+i from aE]
def aKn(cb:List Nat)(la:Int)(i:Nat):(vM cb la)[cb.length+1+i]?=(mid la (cb+1)++ends)[i]?:=by unfold vM;rw[show cb.length+1+i=(cb.length+i)+1 from aE,List.getElem?_cons_succ,Dl (by rw[Pf];omega),Pf,show cb.length+i-cb.length=i from aE]
def afa(x y:Int)(a:Nat):hld ⟨69,1073741824,x,y⟩ a=bit a:=aKi a
def abQ(m:Nat->Bool)(d:Dat):(rz d (qw m)).1=gdA m d.ar d.nr:=by
 rw[<-aKk];obtain⟨R,-⟩:=zy m;unfold rz;rw[aF R];unfold qw at R⊢;unfold KW;have ie:=V3 m;generalize chain m 6=cb at *;generalize lS m 6=la at *;have ey:=aKl cb la;have ye:=aKm cb la;have e':=aKn cb la;have ae:(vM cb la)[0]?=some ⟨32,4,0,0⟩:=rfl;have tA:=yQ (d:=d) R (a:=0) (aw:=0) ae abb;rw[show nx ⟨32,4,0,0⟩ 0 0=1 from rfl,show na d ⟨32,4,0,0⟩ 0=d.ar from rfl,Nat.sub_zero]at tA;rw[tA];generalize vM cb la=L at *;have bl:L[cb.length+(if la<0 then 0 else 3)+2]?=some ⟨6,2147418112,0,0⟩:=by
  rcases ie with rfl|rfl|rfl
  ·exact e' 1
  ·exact e' 4
  ·exact e' 4
 obtain⟨qv,hr⟩:=aov (d:=d) R ye bl d.ar cb 0 1 aE aE;rw[nO,List.drop_zero]at hr;rw[show(0:Nat)+1=1 from rfl,hr];cases aQj:cb.contains d.ar
 case true=>simp
 rw[au ay,au ay];have xi:=e' 0;have f3:=e' 1;have e0:=e' 2;have q':=e' 3;have B7:=e' 4;have dT:∀(x:aD) i a,x.c=21\/x.c=69->nx x i a=if hld x a=true then x.th.toNat else x.el.toNat:=λx i a D=>aG6 aE aE
 have OS:∀(x:aD) a,x.c=21\/x.c=69->na d x a=a:=λx a D=>Ia aE aE
 rw[show 1+cb.length=cb+1 from aE];rw[show cb.length+1+0=cb.length+1 from aE]at xi;rcases ie with rfl|rfl|rfl
 ·rw[aF Y,Fw (s:=⟨6,2147483648,0,0⟩) xi rfl]
 all_goals
  rw[au Y];rw[yQ R xi (by show(21:Nat)≠6;decide),dT _ _ _ (.inl rfl),OS _ _ (.inl rfl)];simp only[hld,if_true];cases aW:d.ar==iK _
  ·simp only[rM,if_false,kr];rw[Fw (s:=⟨6,2147483648,0,0⟩) q' rfl]
  ·simp only[if_true,kr];rw[yQ R f3 abb];rw[show∀a,nx ⟨32,0,0,0⟩ (cb+1+1) a=cb.length+1+2 fromλ_=>rfl,show∀a,na d ⟨32,0,0,0⟩ a=d.nr fromλ_=>rfl]
   first
    |(rw[yQ (s:=⟨69,1073741824,((cb.length+1+3:Nat):Int),((cb.length+1+4:Nat):Int)⟩) R e0 abd,dT _ _ _ (.inr rfl),OS _ _ (.inr rfl),afa]
      cases bit d.nr
      ·simp only[rM,if_false,kr];rw[Fw (s:=⟨6,2147418112,0,0⟩) B7 rfl]
       rfl
      ·simp only[if_true,kr];rw[Fw (s:=⟨6,2147483648,0,0⟩) q' rfl]
       rfl)
    |(rw[yQ (s:=⟨69,1073741824,((cb.length+1+4:Nat):Int),((cb.length+1+3:Nat):Int)⟩) R e0 abd,dT _ _ _ (.inr rfl),OS _ _ (.inr rfl),afa]
      cases bit d.nr
      ·simp only[rM,if_false,kr];rw[Fw (s:=⟨6,2147483648,0,0⟩) q' rfl]
      ·simp only[if_true,kr];rw[Fw (s:=⟨6,2147418112,0,0⟩) B7 rfl])
end e2
def abe(h:S:=by rintro F ⟨e7,rh,hk⟩;exact⟨rfl,h.app (sX:= []) Z hk (by rw[qz];exact rh) rfl⟩):S:=h
namespace m9
open jG (aD dI gQ mR)
variable{B c k p t:Nat}{cj vn aP:Nat->Prop}{sX bZ:List gB}{W aa a b w0:G}{u v ct:K}
inductive dF where
 |pl (n:Nat)
 |lb (b:Nat)
structure bB where
 c:Nat
 k:Nat
 j:Option (dF×dF)
abbrev uy(k:Nat):bB:=⟨32,k,none⟩
abbrev ou(k:Nat):bB:=⟨6,k,none⟩
abbrev gy(c k:Nat)(t e:dF):bB:=⟨c,k,some (t,e)⟩
def dF.n:dF->Nat
 | .pl n=>n
 | .lb _=>0
def bB.sy0(s:bB):aD:=⟨s.c,s.k,0,0⟩
def bB.fin(s:bB):aD:=match s.j with
 |none=>⟨s.c,s.k,0,0⟩
 |some (t,e)=>⟨s.c,s.k,(t.n:Int),if s.c=5 then 0 else(e.n:Int)⟩
def dF.res(b p:Nat):dF->dF
 | .pl n=> .pl n
 | .lb x=>if x=b then .pl p else .lb x
def bB.mp(f:dF->dF)(s:bB):bB:=⟨s.c,s.k,s.j.map λq=>(f q.1,f q.2)⟩
def bB.aph(s:bB):s.mp (λt=>t)=s:=by obtain⟨c,k,j⟩:=s;cases j<;>rfl
def bB.map_id(bD:List bB):bD.map (bB.mp λt=>t)=bD:=by
 induction bD with
 |nil=>rfl
 |cons s r b9=>rw[fK,b9,bB.aph]
def yR(W:G)(cj:Nat->Prop):dF->Nat->Prop
 | .pl n,b=>¬cj b/\Boxed W b 339 (H n)
 | .lb x,b=>b=x/\cj x
def iY(W:G)(cj:Nat->Prop):Nat->List bB->List gB->Prop
 |_,[],bZ=>bZ=[]
 |i,s::r,bZ=>match s.j with
  |none=>iY W cj (i+1) r bZ
  |some (t,e)=>∃j sX,bZ=j::sX/\j.at_=i/\j.code=s.c/\yR W cj t j.th/\((s.c=5/\e= .pl 0)\/∃nn,j.el=some nn/\yR W cj e nn)/\iY W cj (i+1) r sX
def iY.app{W:G}{cj:Nat->Prop}:∀ {bD:List bB} {i:Nat} {bZ:List gB} {C4:List bB} {sX:List gB},iY W cj i bD bZ->iY W cj (i+bD.length) C4 sX->iY W cj i (bD++C4) (bZ++sX)
 | [],i,bZ,C4,sX,h,gm=>by have e:bZ=[]:=h;subst e;exact gm
 |⟨c,k,none⟩::r,i,bZ,C4,sX,h,gm=>by rw[dJ,show i+(r.length+1)=i+1+r.length from aE]at gm;exact iY.app (bD:=r) (i:=i+1) h gm
 |⟨c,k,some (t,e)⟩::r,i,bZ,C4,sX,h,gm=>by obtain⟨j,HO,rfl,h1,h2,T,af,aQ⟩:=h;rw[dJ,show i+(r.length+1)=i+1+r.length from aE]at gm;exact⟨j,HO++sX,rfl,h1,h2,T,af,iY.app (bD:=r) (i:=i+1) aQ gm⟩
def iY.to{W aa:G}{cj vn:Nat->Prop}{f:dF->dF}(AB:∀n,f (.pl n)= .pl n)(ai:∀t b,yR W cj t b->yR aa vn (f t) b):∀ {bD:List bB} {i:Nat} {bZ:List gB},iY W cj i bD bZ->iY aa vn i (bD.map (bB.mp f)) bZ
 | [],_,_,h=>h
 |⟨c,k,none⟩::r,i,bZ,h=>iY.to AB ai (bD:=r) (i:=i+1) h
 |⟨c,k,some (t,e)⟩::r,i,bZ,h=>by
  obtain⟨j,HO,rfl,h1,h2,T,af,aQ⟩:=h;refine⟨j,HO,rfl,h1,h2,ai _ _ T,?_,iY.to AB ai (bD:=r) (i:=i+1) aQ⟩;rcases af with af|⟨nn,af,a9⟩
  ·exact .inl ⟨af.1,by rw[af.2,AB]⟩
  ·exact .inr ⟨nn,af,ai _ _ a9⟩
def iY.len{W:G}{cj:Nat->Prop}:∀ {bD:List bB} {i:Nat} {bZ:List gB},iY W cj i bD bZ->bZ.length<=bD
 | [],_,bZ,h=>by have e:bZ=[]:=h;subst e;exact aZ _
 |⟨c,k,none⟩::r,i,bZ,h=>by have:=iY.len (bD:=r) (i:=i+1) h;rw[dJ];omega
 |⟨c,k,some (t,e)⟩::r,i,bZ,h=>by obtain⟨j,HO,rfl,h1,h2,T,af,aQ⟩:=h;have:=iY.len (bD:=r) (i:=i+1) aQ;rw[dJ,dJ];omega
def lval(W:G)(b:Nat):Int:=match W.cell? b with
 |some (.int _ n)=>n
 |_=>0
def aqH{b:Nat}{n:Int}(h:Boxed W b 339 (H n)):lval W b=n:=by unfold lval;rw[h.cell]
def Pg(W:G)(j:gB):Int:=lval W j.th
def Fx(W:G)(j:gB):Int:=match j.el with
 |some b=>lval W b
 |none=>0
def iY.gH{W:G}{cj:Nat->Prop}(cn:∀b,¬cj b):∀ {bD:List bB} {i:Nat} {bZ:List gB},iY W cj i bD bZ->age W (Pg W) (Fx W) bZ
 | [],_,bZ,h=>by have e:bZ=[]:=h;subst e;intro j Z;cases Z
 |⟨c,k,none⟩::r,i,bZ,h=>iY.gH cn (bD:=r) (i:=i+1) h
 |⟨c,k,some (t,e)⟩::r,i,bZ,h=>by
  obtain⟨j,HO,rfl,h1,h2,T,af,aQ⟩:=h;have b9:=iY.gH cn (bD:=r) (i:=i+1) aQ;have fL:∀t b,yR W cj t b->Boxed W b 339 (H (lval W b)):=λt b an=>by
   cases t with
   |pl n=>rw[aqH an.2];exact an.2
   |lb x=>exact absurd an.2 (cn x)
  intro i hi;rcases iA.1 hi with rfl|hi
  ·refine⟨fL _ _ T,?_⟩;rcases af with af|⟨nn,af,a9⟩
   ·exact .inl (h2.trans af.1)
   ·refine .inr ⟨nn,af,?_⟩;have aK:Fx W i=lval W nn:=by unfold Fx;rw[af]
    rw[aK];exact fL _ _ a9
  ·exact b9 i hi
def iY.fold{W:G}{cj:Nat->Prop}(cn:∀b,¬cj b):∀ {bD:List bB} {i:Nat} {bZ:List gB} (pre:List aD),iY W cj i bD bZ->pre.length=i->bZ.foldl (patch (Pg W) (Fx W)) (pre++bD.map bB.sy0)=pre++bD.map bB.fin
 | [],_,bZ,pre,h,_=>by
   have e:bZ=[]:=h;subst e
   rfl
 |⟨c,k,none⟩::r,i,bZ,pre,h,hi=>by have b9:=iY.fold cn (bD:=r) (i:=i+1) (pre++[⟨c,k,0,0⟩]) h (by simp[hi]);rw[gJ,gJ]at b9;exact b9
 |⟨c,k,some (t,e)⟩::r,i,bZ,pre,h,hi=>by
  obtain⟨j,HO,rfl,h1,h2,T,af,aQ⟩:=h;have fL:∀t b,yR W cj t b->lval W b=(t.n:Int):=λt b an=>by
   cases t with
   |pl n=>exact aqH an.2
   |lb x=>exact absurd an.2 (cn x)
  have ac:Pg W j=(t.n:Int):=fL _ _ T;have aW:(if j.code=5 then(0:Int)else Fx W j)=if c=5 then 0 else(e.n:Int):=by
   rw[h2];dsimp only at af⊢;by_cases aQ:c=5
   ·rw[aF aQ,aF aQ]
   ·rw[au aQ,au aQ];rcases af with af|⟨nn,af,a9⟩
    ·exact absurd af.1 aQ
    ·unfold Fx;rw[af];exact fL _ _ a9
  have Lo:patch (Pg W) (Fx W) (pre++(⟨c,k,0,0⟩:aD)::r.map bB.sy0) j=pre++(⟨c,k,(t.n:Int),if c=5 then 0 else(e.n:Int)⟩:aD)::r.map bB.sy0:=by
   have b8:j.at_<(pre++(⟨c,k,0,0⟩:aD)::r.map bB.sy0).length:=by rw[h1,<-hi];simp
   rw[aqC _ _ b8];have hg:(pre++(⟨c,k,0,0⟩:aD)::r.map bB.sy0)[j.at_]'b8=⟨c,k,0,0⟩:=by simp only[h1,<-hi];rw[List.getElem_append_right (aZ _)];simp
   rw[hg];dsimp only;rw[ac,aW,h1,<-hi,List.set_append_right _ _ (aZ _),Nat.sub_self,List.set_cons_zero]
  have b9:=iY.fold cn (bD:=r) (i:=i+1) (pre++[⟨c,k,(t.n:Int),if c=5 then 0 else(e.n:Int)⟩]) aQ (by simp[hi]);rw[gJ,gJ]at b9;rw[xH];rw[show List.map bB.sy0 (⟨c,k,some (t,e)⟩::r)=(⟨c,k,0,0⟩:aD)::r.map bB.sy0 from rfl,Lo];exact b9
structure cu(w0:G)(B:Nat)(cj:Nat->Prop)(bD:List bB)(W:G):Prop where
 ex:∃v ct bZ,gY w0 B v ct (bD.map bB.sy0) bZ W/\iY W cj 0 bD bZ
 op:∀b,cj b->w0.heap.size<=b/\∃u,Boxed W b 339 u
structure eH(W aa:G):Prop where
 size:W.heap.size<=aa
 kept:∀(k:Nat) (U:Array K) (t:dD) (fr:Nat×Nat),W.heap[k]?=some (J U t fr)->t≠407->t≠1->t≠336->t≠339->aa.heap[k]?=some (J U t fr)
def eH.refl(W:G):eH W W:=⟨aZ _,λ_ _ _ _ h _ _ _ _=>h⟩
def eH.trans{a b c:G}(h:eH a b)(k:eH b c):eH a c:=⟨cB h.size k.size,λi U t fr ae h1 h2 T af=>k.kept i U t fr (h.kept i U t fr ae h1 h2 T af) h1 h2 T af⟩
def eH.mI(h:Ext a b):eH a b:=⟨h.size,λ_ _ _ _ ae _ _ _ _=>(h.block (dG.1 ae).1).trans ae⟩
def eH.ajC(h:fq aP a b)(g9:∀k,aP k->∃v,Boxed a k 339 v):eH a b:=
 ⟨h.size,λk U t fr ae h1 h2 T af=>h.kept k U t fr (λD=>by obtain⟨u,a6⟩:=g9 k D;have e:=gL (ae.symm.trans a6);simp only[vB]at e;exact af e.2.1) ae h1 h2 T⟩
def eH.after(o:Obj)(h:eH (a.alloc o) b):eH a b:=(eH.mI ((O _).alloc o)).trans h
def eH.boxed(h:eH a b)(V:Boxed a k t v)(h1:t≠407)(h2:t≠1)(T:t≠336)(af:t≠339):Boxed b k t v:=h.kept k _ _ _ V h1 h2 T af
def yR.keep(hk:fq (λ_=>False) a b):∀t x,yR a cj t x->yR b cj t x
 | .pl _,_,h=>⟨h.1,hkb hk h.2 (λh=>h.elim)⟩
 | .lb _,_,h=>h
def cu.Zh{bD:List bB}(Z:iY W cj 0 bD bZ)(hk:fq (λ_=>False) W aa):iY aa cj 0 bD bZ:=by
 have:=iY.to (f:=λt=>t) (λ_=>rfl) (yR.keep hk) Z
 rwa [bB.map_id]at this
def cu.Zg(h:∀b,cj b->w0.heap.size<=b/\∃u,Boxed W b 339 u)(hk:fq (λ_=>False) W aa):∀b,cj b->w0.heap.size<=b/\∃u,Boxed aa b 339 u:=λb V=>by obtain⟨h1,u,h2⟩:=h b V;exact⟨h1,u,hkb hk h2 (λh=>h.elim)⟩
def cu.ext{bD:List bB}(h:cu w0 B cj bD W)(D:Ext W aa):cu w0 B cj bD aa:=by obtain⟨v,ct,bZ,ab,Z⟩:=h.ex;have hk:fq (λ_=>False) W aa:=fq.ext D;exact⟨⟨v,ct,bZ,ab.kept D,cu.Zh Z hk⟩,cu.Zg h.op hk⟩
def cu.Kh{bD:List bB}(h:cu w0 B cj bD W):Ext w0 W:=by obtain⟨v,ct,bZ,ab,Z⟩:=h.ex;exact ab.ext
def cu.start(w:G):cu w w (λ_=>False) [] (w.alloc (J #[E none 0 0,E none 0 0] 336)):=
 ⟨⟨_,_,[],gY.start w,rfl⟩,λ_ h=>h.elim⟩
def cu.mono{bD:List bB}(h:cu w0 B cj bD W)(bx:∀b,cj b↔vn b):cu w0 B vn bD W:=by
 have:cj=vn:=funext λb=>propext (bx b)
 rwa [<-this]
def cu.label{bD:List bB}(h:cu w0 B cj bD W)(u:K):cu w0 B (λb=>cj b\/b=W.heap.size) bD (W.alloc (J #[u] 339))/\¬cj W.heap.size:=by
 have D:Ext W (W.alloc (J #[u] 339)):=(O W).alloc _;have h2:=h.ext D;have pH:¬cj W.heap.size:=λho=>by obtain⟨_,u,a6⟩:=h.op _ ho;have:=a6.lt;omega
 obtain⟨v,ct,bZ,ab,Z⟩:=h.ex;refine⟨⟨⟨v,ct,bZ,ab.kept D,?_⟩,λb V=> ?_⟩,pH⟩
 ·have:=iY.to (aa:=W.alloc (J #[u] 339)) (vn:=λb=>cj b\/b=W.heap.size) (f:=λt=>t) (λ_=>rfl) (λt x an=>by
   cases t with
   |pl n=>exact⟨λho=>by
    rcases ho with ho|ho
    ·exact an.1 ho
    ·have:=an.2.lt;omega,hkb (fq.ext (aP:=λ_=>False) D) an.2 (λh=>h.elim)⟩
   |lb y=>exact⟨an.1,.inl an.2⟩) Z
  rwa [bB.map_id]at this
 ·rcases V with V|rfl
  ·exact h2.op b V
  ·exact⟨ab.ext.size,u,Boxed.new W _ u⟩
def cu.app{bD C4:List bB}(h:cu w0 B cj bD W)(Z:iY W cj 0 bD bZ)(hk:fq (λ_=>False) W aa)(ab:gY w0 B v ct (bD.map bB.sy0++C4.map bB.sy0) (bZ++sX) aa)(C':iY aa cj bD C4 sX):cu w0 B cj (bD++C4) aa/\eH W aa:=
 ⟨⟨⟨v,ct,bZ++sX,by rw[fQ];exact ab,iY.app (cu.Zh Z hk) (by rw[gF];exact C')⟩,cu.Zg h.op hk⟩,eH.ajC hk (λ_ h=>h.elim)⟩
theorem cu.nC{bD:List bB}(h:cu w0 B cj bD W)(X:bD.length<=100000)(k:Nat):Calls prog 231 #[fE B,M k] W λe F=>e=aI (bH #[])/\cu w0 B cj (bD++[⟨32,k,none⟩]) F/\eH W F:=by obtain⟨v,ct,bZ,ab,Z⟩:=h.ex;refine ak (m9.nC ab Dq k) ?_;exact abe
theorem cu.lZ{bD:List bB}(h:cu w0 B cj bD W)(X:bD.length<=100000)(k:Nat):Calls prog 235 #[fE B,M k] W λe F=>e=aI (bH #[])/\cu w0 B cj (bD++[⟨6,k,none⟩]) F/\eH W F:=by obtain⟨v,ct,bZ,ab,Z⟩:=h.ex;refine ak (m9.lZ ab Dq k) ?_;exact abe
theorem cu.lC{bD:List bB}(h:cu w0 B cj bD W)(X:bD.length<=100000)(a6:aS W 4 dI u [⟨c,k,0,0⟩]):Calls prog 281 #[fE B,u] W λe F=>e=aI (bH #[])/\cu w0 B cj (bD++[⟨c,k,none⟩]) F/\eH W F:=by obtain⟨v,ct,bZ,ab,Z⟩:=h.ex;refine ak (m9.lC ab a6 dU) ?_;exact abe
theorem cu.j5{bD:List bB}(h:cu w0 B cj bD W)(X:bD.length<=100000)(code k th nn:Nat)(an:cj th)(bx:cj nn):Calls prog 233 #[fE B,bf code,M k,fE th,fE nn] W λe F=>e=aI (bH #[])/\cu w0 B cj (bD++[⟨code,k,some (.lb th,.lb nn)⟩]) F/\eH W F:=by obtain⟨v,ct,bZ,ab,Z⟩:=h.ex;have nw:=Z.len;refine ak (m9.j5 ab Dq aE code k th (some nn)) ?_;rintro F ⟨e7,Z2,j,rh,hk,ef,cY,eh,hL⟩;refine⟨rfl,h.app (sX:= [j]) Z hk rh ⟨j,[],rfl,by rw[ef,dL],cY,⟨eh,an⟩,.inr ⟨nn,hL,rfl,bx⟩,rfl⟩⟩
theorem cu.aeQ{bD:List bB}(h:cu w0 B cj bD W)(X:bD.length<=100000)(k th:Nat)(an:cj th):Calls prog 233 #[fE B,bf 5,M k,fE th,aB none] W λe F=>e=aI (bH #[])/\cu w0 B cj (bD++[⟨5,k,some (.lb th,.pl 0)⟩]) F/\eH W F:=by obtain⟨v,ct,bZ,ab,Z⟩:=h.ex;have nw:=Z.len;refine ak (m9.j5 ab Dq aE 5 k th none) ?_;rintro F ⟨e7,Z2,j,rh,hk,ef,cY,eh,hL⟩;refine⟨rfl,h.app (sX:= [j]) Z hk rh ⟨j,[],rfl,by rw[ef,dL],cY,⟨eh,an⟩,.inl ⟨rfl,rfl⟩,rfl⟩⟩
theorem cu.iI{b:Nat}{bD:List bB}(h:cu w0 B cj bD W)(V:cj b):Calls prog 234 #[fE B,fE b] W λe F=>e=aI (bH #[])/\cu w0 B (λx=>cj x/\x≠b) (bD.map (bB.mp (dF.res b bD))) F/\eH W F:=by
 obtain⟨v,ct,bZ,ab,Z⟩:=h.ex;obtain⟨hZ,u,a6⟩:=h.op b V;refine ak (m9.iI ab a6 hZ) ?_;rintro F ⟨rh,hk,OV⟩;rw[dL]at OV;have R:(bD.map (bB.mp (dF.res b bD))).map bB.sy0=bD.map bB.sy0:=by rw[List.map_map];rfl
 refine⟨rfl,⟨⟨v,ct,bZ,by rw[R];exact rh,iY.to (λ_=>rfl) (λt x an=> ?_) Z⟩,λx D=> ?_⟩,eH.ajC hk (λk hk=>⟨u,by rw[hk];exact a6⟩)⟩
 ·cases t with
  |pl n=>exact⟨λho=>an.1 ho.1,hkb hk an.2 (λe=>an.1 (by rw[e];exact V))⟩
  |lb y=>
   obtain⟨rfl,bN⟩:=an;show yR _ _ (if x=b then .pl bD else .lb x) x;by_cases e:x=b
   ·rw[aF e];subst e;exact⟨λho=>ho.2 rfl,OV⟩
   ·rw[au e];exact⟨rfl,bN,e⟩
 ·obtain⟨h1,eR,h2⟩:=h.op x D.1;exact⟨h1,eR,hkb hk h2 D.2⟩
theorem cu.mK{bD:List bB}(h:cu w0 B cj bD W)(X:bD.length<=100000)(cn:∀b,¬cj b):Calls prog 236 #[fE B] W λe F=>∃v,e=aI v/\Ext w0 F/\aS F 4 dI v (bD.map bB.fin):=by obtain⟨v,ct,bZ,ab,Z⟩:=h.ex;have nw:=Z.len;refine ak (m9.mK ab dU aE (Pg W) (Fx W) (Z.gH cn)) ?_;rintro F ⟨rh,hk⟩;have ai:=iY.fold cn [] Z rfl;rw[iq,iq]at ai;rw[ai]at rh;exact⟨v,rfl,rh.ext,eD gQ rh.own⟩
def Ui{b:Nat}{bD:List bB}(h:cu w0 B cj bD W)(V:¬cj b):bD.map (bB.mp (dF.res b p))=bD:=by
 obtain⟨v,ct,bZ,ab,Z⟩:=h.ex;clear h ab
 revert Z
 generalize 0=i
 induction bD generalizing i bZ with
 |nil=>intro _;rfl
 |cons s r b9=>
  obtain⟨c,k,j⟩:=s;have fL:∀t x,yR W cj t x->dF.res b p t=t:=λt x an=>by
   cases t with
   |pl n=>rfl
   |lb y=>exact au (λe=>V (by rw[<-e];exact an.2))
  intro Z;rw[fK];cases j with
  |none=>rw[b9 _ _ Z];rfl
  |some q=>
   obtain⟨t,e⟩:=q;obtain⟨j,HO,rfl,h1,h2,T,af,aQ⟩:=Z;rw[b9 _ _ aQ];have aK:=fL _ _ T;have aV:dF.res b p e=e:=by
    rcases af with af|⟨nn,af,a9⟩
    ·rw[af.2];rfl
    ·exact fL _ _ a9
   show(⟨c,k,some (dF.res b p t,dF.res b p e)⟩:bB)::r=_;rw[aK,aV]
end m9
namespace le
open jG (aD dx eU okW there gK none_ wu Dat fT fF rz nx na hld wd lo hi)
open m9 (bB dF uy ou gy)
open j7 (Test Rule Filter)
abbrev eu:=vZ.Node
open e2 (iK)
abbrev abf(k:Nat):bB:=⟨84,k,none⟩
def jg(a:Int):Nat:=if a=0\/a=2 then 4 else 3
def ql(nt:dF)(a:Int):List bB:= [uy 4,gy 21 (iK a.toNat) (.pl 2) nt,uy 0]++if a=0 then [gy 69 1073741824 nt (.pl 4)]else if a=2 then [gy 69 1073741824 (.pl 4) nt]else []
def GI(nt:dF)(a:Int):(ql nt a).length=jg a:=by
 unfold ql jg;by_cases ae:a=0
 ·rw[aF ae,aF (.inl ae)];rfl
 ·rw[au ae];by_cases h2:a=2
  ·rw[aF h2,aF (.inr h2)];rfl
  ·rw[au h2,au aE];rfl
def nK(mask:Nat):Nat:=if mask=0 then 0 else if mask=4294967295 then 2 else 3
def mO(p at_ mask value:Nat)(fl:dF):List bB:=if mask=0 then []else if mask=4294967295 then [uy at_,gy 21 value (.pl (p+2)) fl]else [uy at_,abf mask,gy 21 value (.pl (p+3)) fl]
def Ii(p at_ mask value:Nat)(fl:dF):(mO p at_ mask value fl).length=nK mask:=by
 unfold mO nK;split
 ·rfl
 ·split<;>rfl
def oZ(t:Test):Nat:=16+8*t.arg.toNat
def vk(t:Test):Nat:=20+8*t.arg.toNat
def rH(t:Test):Nat:=nK (lo t.mask)+nK (hi t.mask)+1
def wH(p:Nat)(t:Test):List bB:=mO p (oZ t) (lo t.mask) (lo t.value) (.pl (p+rH t))++(mO (p+nK (lo t.mask)) (vk t) (hi t.mask) (hi t.value) (.pl (p+rH t))++[ou t.action])
def Uj(p:Nat)(t:Test):(wH p t).length=rH t:=by unfold wH rH;rw[dA,dA,Ii,Ii];rfl
def Uk(t:Test):1<=rH t/\rH t<=7:=by unfold rH nK;split<;>split<;>(repeat' split)<;>omega
def qo:List Test->Nat
 | []=>1
 |t::r=>rH t+if t.mask=0 then 0 else qo r
def oz(p:Nat):List Test->Nat->List bB
 | [],x=>[ou x]
 |t::r,x=>wH p t++if t.mask=0 then []else oz (p+rH t) r x
def Ph:∀(ts:List Test)(p x:Nat),(oz p ts x).length=qo ts
 | [],_,_=>rfl
 |t::r,p,x=>by
  unfold oz qo;rw[dA,Uj];split
  ·rfl
  ·rw[Ph r]
def Um:∀ts:List Test,1<=qo ts/\qo ts<=1+7*ts.length
 | []=>⟨aZ _,aZ _⟩
 |t::r=>by have h1:=Uk t;have h2:=Um r;unfold qo;rw[dJ];split<;>omega
def lN:List Rule->Nat->Nat->Nat
 |_,p,0=>p
 | [],p,_+1=>p
 |r::l,p,k+1=>lN l (p+qo r.tests) k
def l9(p:Nat):List Rule->List bB
 | []=>[]
 |r::l=>oz p r.tests r.action++l9 (p+qo r.tests) l
def abg:∀(aN:List Rule)(p:Nat),p+(l9 p aN).length=lN aN p aN.length
 | [],_=>rfl
 |r::l,p=>by unfold l9;rw[dA,Ph,dJ];show _=lN l (p+qo r.tests) l.length;rw[<-abg l];omega
def aqI:∀ {aN:List Rule} {p k:Nat} (h:k<aN),lN aN p (k+1)=lN aN p k+qo aN[k].tests
 |r::l,p,0,_=>by simp[lN]
 |r::l,p,k+1,h=>by show lN l _ (k+1)=lN l _ k+_;rw[aqI (aN:=l) tH];rfl
def KY{aN:List Rule}{p:Nat}:∀(d:Nat) {k:Nat},k+d<=aN.length->lN aN p k+d<=lN aN p (k+d)
 |0,_,_=>aZ _
 |d+1,k,h=>by have h1:=KY d (k:=k) (aN:=aN) (p:=p) aE;have h2:=aqI (aN:=aN) (p:=p) (k:=k+d) aE;have T:=(Um (aN[k+d]' aE).tests).1;rw[show k+(d+1)=k+d+1 from aE,h2];omega
def abh(aN:List Rule)(p:Nat):lN aN p 0=p:=by cases aN<;>rfl
def aKo{aN:List Rule}{k:Nat}(p:Nat)(h:k<aN):l9 p (aN.take (k+1))=l9 p (aN.take k)++oz (lN aN p k) aN[k].tests aN[k].action:=by
 induction aN generalizing p k with
 |nil=>simp at h
 |cons r l b9=>
  cases k with
  |zero=>simp[l9,lN]
  |succ k=>
   have gm:k<l:=by simpa using h
   have e:=b9 (k:=k) (p+qo r.tests) gm;simp only[List.take_succ_cons,l9,yV];rw[e,gJ]
   rfl
def aKp{aN:List Rule}{k:Nat}(p:Nat)(h:k<=aN):p+(l9 p (aN.take k)).length=lN aN p k:=by
 induction aN generalizing p k with
 |nil=>simp at h;subst h;rfl
 |cons r l b9=>
  cases k with
  |zero=>rfl
  |succ k=>have e:=b9 (k:=k) (p+qo r.tests) tH;simp only[List.take_succ_cons,l9,dA,Ph];show _=lN l (p+qo r.tests) k;omega
def inner(n:eu):Bool:= !n.leaf
def root(t:List eu):Bool:=match t with
 |n::_=>n.leaf
 | []=>false
def mg(aY:Nat->dF)(t:List eu):List bB:=(t.filter inner).map λn=>gy 53 n.at_ (aY n.more.toNat) (aY n.less.toNat)
def nL(aY:Nat->dF)(t:List eu):List bB:=(if root t=true then [gy 5 0 (aY 0) (.pl 0)]else [])++mg aY t
def rank(t:List eu)(i:Nat):Nat:=(if root t=true then 1 else 0)+((t.take i).filter inner).length
def Pj(aY:Nat->dF)(t:List eu):(nL aY t).length=rank t t.length:=by unfold nL rank mg;rw[dA,dL,iR];split<;>rfl
def DC{t:List eu}{i j:Nat}(h:i<=j):rank t i<=rank t j:=by unfold rank;have:(t.take i).Sublist (t.take j):=(List.take_prefix_take_left h).sublist;have:=(this.filter inner).length_le;omega
def aqJ{t:List eu}{i:Nat}(h:i<t)(X:t[i].leaf=false):rank t (i+1)=rank t i+1:=by
 unfold rank;rw[mh h,yZ,dA];have:inner t[i]=true:=by unfold inner;rw[X];rfl
 simp[this];omega
def abj(t:List eu):rank t t.length<=t+1:=by unfold rank;rw[iR];have:=BH inner t;split<;>omega
open jG (aD dx eU okW there gK none_ wu Dat fT fF rz nx na hld wd lo hi Qz)
open e2 (iK yQ Fw)
open j7 (Test Rule Filter Ce oW kN E9 J3 lK Ht qc kT)
def Has(L:List aD)(p:Nat)(A:List bB):Prop:= ∀j (h:j<A.length),L[p+j]?=some (A[j]).fin
def Has.app{L:List aD}{p:Nat}{a b:List bB}(h:Has L p (a++b)):Has L p a/\Has L (p+a.length) b:=by
 refine⟨λj Z=> ?_,λj Z=> ?_⟩
 ·have:=h j UL
  rwa [Uw Z]at this
 ·have:=h (a+j) UL;rw[List.getElem_append_right aE]at this;simp only[Nat.add_sub_cancel_left]at this
  rwa [Nat.add_assoc]
def Has.hd{L:List aD}{p:Nat}{s:bB}{r:List bB}(h:Has L p (s::r)):L[p]?=some s.fin:=h 0 ay
def Has.tl{L:List aD}{p:Nat}{s:bB}{r:List bB}(h:Has L p (s::r)):Has L (p+1) r:=(Has.app (a:= [s]) h).2
def Has.all(A:List bB):Has (A.map bB.fin) 0 A:=λj h=>by rw[gF,List.getElem?_map,dK h];rfl
section
variable {d:Dat} {L:List aD} {i a aw:Nat}
def Un{k:Nat}(R:dx L=true)(h:L[i]?=some (uy k).fin):fF d L (L-i) i a aw=fF d L (L.length-(i+1)) (i+1) (wd d k) (aw+1):=yQ R h abb
def aKq{k:Nat}(R:dx L=true)(h:L[i]?=some (abf k).fin):fF d L (L-i) i a aw=fF d L (L.length-(i+1)) (i+1) (a&&&k) (aw+1):=yQ R h (by show(84:Nat)≠6;decide)
def abk{k t e:Nat}(R:dx L=true)(h:L[i]?=some (gy 21 k (.pl t) (.pl e)).fin):fF d L (L-i) i a aw=fF d L (L.length-if a=k then t else e) (if a=k then t else e) a (aw+1):=by
 have D:nx (gy 21 k (.pl t) (.pl e)).fin i a=if a=k then t else e:=by
  show nx ⟨21,k,(t:Int),(e:Int)⟩ i a=_;unfold nx hld;rw[au ay,aF rfl];by_cases hk:a=k
  ·rw[aF K6,aF hk];simp
  ·rw[au K6,au hk];simp
 rw[yQ R h (by show(21:Nat)≠6;decide),D]
 rfl
def aKr{k t e:Nat}(R:dx L=true)(h:L[i]?=some (gy 53 k (.pl t) (.pl e)).fin):fF d L (L-i) i a aw=fF d L (L.length-if k<=a then t else e) (if k<=a then t else e) a (aw+1):=by
 have D:nx (gy 53 k (.pl t) (.pl e)).fin i a=if k<=a then t else e:=by show nx ⟨53,k,(t:Int),(e:Int)⟩ i a=_;by_cases hk:k<=a<;>simp[nx,hld,hk]
 rw[yQ R h (by show(53:Nat)≠6;decide),D]
 rfl
def aqK{t e:Nat}(R:dx L=true)(h:L[i]?=some (gy 69 1073741824 (.pl t) (.pl e)).fin):fF d L (L-i) i a aw=fF d L (L.length-if d5.bit a=true then t else e) (if d5.bit a=true then t else e) a (aw+1):=by
 have D:nx (gy 69 1073741824 (.pl t) (.pl e)).fin i a=if d5.bit a=true then t else e:=by show nx ⟨69,1073741824,(t:Int),(e:Int)⟩ i a=_;unfold nx;rw[au ay,e2.afa];split<;>simp
 rw[yQ R h abd,D]
 rfl
def aKs{t:Nat}(R:dx L=true)(h:L[i]?=some (gy 5 0 (.pl t) (.pl 0)).fin):fF d L (L-i) i a aw=fF d L (L-t) t a (aw+1):=by
 have D:nx (gy 5 0 (.pl t) (.pl 0)).fin i a=t:=by show nx ⟨5,0,(t:Int),0⟩ i a=_;simp[nx,hld]
 rw[yQ R h (by show(5:Nat)≠6;decide),D]
 rfl
def Uo{k:Nat}(h:L[i]?=some (ou k).fin):fF d L (L-i) i a aw=(k,aw+1):=Fw h rfl
end
def aKt(x:Nat)(h:x<4294967296):x&&&4294967295=x:=by have:=Nat.and_two_pow_sub_one_eq_mod x 32;rw[show(2:Nat)^32-1=4294967295 from rfl]at this;rw[this];exact Nat.mod_eq_of_lt h
def aqL{d:Dat}(hd:fT d){L:List aD}(R:dx L=true){p at_ mask value e:Nat}(h:Has L p (mO p at_ mask value (.pl e)))(a aw:Nat):∃bu qv,aw<=qv/\qv<=aw+nK mask/\fF d L (L-p) p a aw=fF d L (L.length-if mask=0\/wd d at_&&&mask=value then p+nK mask else e) (if mask=0\/wd d at_&&&mask=value then p+nK mask else e) bu qv:=by
 unfold mO at h;unfold nK;by_cases ae:mask=0
 ·rw[aF ae,aF (.inl ae)];exact⟨a,aw,aZ _,aE,rfl⟩
 rw[au ae]at h⊢;by_cases h1:mask=4294967295
 ·rw[aF h1]at h⊢;rw[Un R h.hd,abk R h.tl.hd];refine⟨wd d at_,aw+2,aE,aZ _,?_⟩;have e:(mask=0\/wd d at_&&&mask=value)=(wd d at_=value):=by rw[h1,aKt _ (Qz hd _)];simp
  simp only[e]
 ·rw[au h1]at h⊢;rw[Un R h.hd,aKq R h.tl.hd,abk R h.tl.tl.hd];refine⟨wd d at_&&&mask,aw+3,aE,aZ _,?_⟩;have e:(mask=0\/wd d at_&&&mask=value)=(wd d at_&&&mask=value):=by simp[ae]
  simp only[e]
def aqM(x m:Nat):lo (x&&&m)=lo x&&&lo m:=by unfold lo;rw[show(4294967296:Nat)=2^32 from rfl];exact Nat.and_mod_two_pow
def aqN(x m:Nat):hi (x&&&m)=hi x&&&hi m:=by unfold hi;rw[show(4294967296:Nat)=2^32 from rfl];exact Nat.and_div_two_pow
def aKu(x y:Nat):x=y↔lo x=lo y/\hi x=hi y:=by unfold lo hi;refine⟨λh=>by rw[h];exact⟨rfl,rfl⟩,λh=> ?_⟩;omega
def aKv(d:Dat):∀k,k<6->wd d (16+8*k)=lo (J3 d k)/\wd d (20+8*k)=hi (J3 d k)
 |0,_=>⟨rfl,rfl⟩
 |1,_=>⟨rfl,rfl⟩
 |2,_=>⟨rfl,rfl⟩
 |3,_=>⟨rfl,rfl⟩
 |4,_=>⟨rfl,rfl⟩
 |5,_=>⟨rfl,rfl⟩
def aKw{d:Dat}{t:Test}(h:oW t=true):kN d t=true↔(lo t.mask=0\/wd d (oZ t)&&&lo t.mask=lo t.value)/\(hi t.mask=0\/wd d (vk t)&&&hi t.mask=hi t.value):=by
 unfold oW at h;simp only[dV,iM,jC]at h;obtain⟨h1,h2,T,-⟩:=h;obtain⟨I,aO⟩:=aKv d t.arg.toNat aE;unfold oZ vk;rw[I,aO];unfold kN E9;simp only[dV,iM,jC];rw[aKu,aqM,aqN];have gv:lo t.value&&&lo t.mask=lo t.value:=by rw[<-aqM,T]
 have ct:hi t.value&&&hi t.mask=hi t.value:=by rw[<-aqN,T]
 constructor
 ·rintro⟨-,-,af,aQ⟩;exact⟨.inr af,.inr aQ⟩
 ·rintro⟨af,aQ⟩;refine⟨h1,h2,?_,?_⟩
  ·rcases af with af|af
   ·rw[af]at gv⊢;rw[Nat.and_zero]at gv⊢;exact gv
   ·exact af
  ·rcases aQ with aQ|aQ
   ·rw[aQ]at ct⊢;rw[Nat.and_zero]at ct⊢;exact ct
   ·exact aQ
def aKx{d:Dat}(hd:fT d){L:List aD}(R:dx L=true){p:Nat}{t:Test}(an:oW t=true)(h:Has L p (wH p t))(a aw:Nat):(kN d t=true/\∃qv,aw+1<=qv/\qv<=aw+7/\fF d L (L-p) p a aw=(t.action,qv))\/(kN d t=false/\∃bu qv,aw<=qv/\qv<=aw+7/\fF d L (L-p) p a aw=fF d L (L.length-(p+rH t)) (p+rH t) bu qv):=by
 have hn:=Uk t;have eV:rH t=nK (lo t.mask)+nK (hi t.mask)+1:=rfl;unfold wH at h;obtain⟨h1,h2⟩:=h.app;rw[Ii]at h2;obtain⟨T,af⟩:=h2.app;rw[Ii]at af;have be:=aKw (d:=d) an;obtain⟨a1,dl,afQ,b1,aK⟩:=aqL hd R h1 a aw;by_cases c1:lo t.mask=0\/wd d (oZ t)&&&lo t.mask=lo t.value
 ·rw[aF c1]at aK;obtain⟨a2,gS,aAA,b2,aV⟩:=aqL hd R T a1 dl;by_cases c2:hi t.mask=0\/wd d (vk t)&&&hi t.mask=hi t.value
  ·rw[aF c2]at aV;exact .inl ⟨be.2 ⟨c1,c2⟩,gS+1,aE,aE,by rw[aK,aV,Uo af.hd]⟩
  ·rw[au c2]at aV;refine .inr ⟨?_,a2,gS,aE,aE,by rw[aK,aV]⟩;rw[<-wz];exactλD=>c2 (be.1 D).2
 ·rw[au c1]at aK;refine .inr ⟨?_,a1,dl,aE,aE,aK⟩;rw[<-wz];exactλD=>c1 (be.1 D).1
def aqO{d:Dat}(hd:fT d){L:List aD}(R:dx L=true):∀(ts:List Test)(x p a aw:Nat),(∀t∈ts,oW t=true)->Has L p (oz p ts x)->∃qv,aw+1<=qv/\qv<=aw+7*ts.length+1/\fF d L (L-p) p a aw=(lK d ts x,qv)
 | [],x,p,a,aw,_,h=>⟨aw+1,aZ _,ay,by rw[Uo h.hd];rfl⟩
 |t::r,x,p,a,aw,an,h=>by
  have E7:=an t yY;unfold oz at h;obtain⟨h1,h2⟩:=h.app;rw[Uj]at h2;rw[Ht,dJ];rcases aKx hd R E7 h1 a aw with⟨aK,dl,c1,b1,aV⟩|⟨aK,a1,dl,c1,b1,aV⟩
  ·rw[aF aK];exact⟨dl,aE,aE,aV⟩
  ·have jx:¬t.mask=0:=λe=>by have:=j7.JW (d:=d) E7 (by simpa using e);rw[this]at aK;cases aK
   rw[au jx]at h2;rw[au (by rw[aK];decide)];obtain⟨gS,c2,b2,cC⟩:=aqO hd R r x (p+rH t) a1 dl (λt h=>an t (vv _ h)) h2;exact⟨gS,aE,aE,by rw[aV,cC]⟩
open j7 (Test Rule Filter Ce oW uj iE eT kN E9 J3 lK Ht qc kT zG)
open vZ (may qh goes)
def aKy(ar nr:Nat)(a:Int)(ae:0<=a)(a9:a<6):((d5.uV ar nr).2&&((d5.uV ar nr).1==a))=((ar==iK a.toNat)&&if a=0 then !d5.bit nr else if a=2 then d5.bit nr else true):=by
 have ai:d5.fZ (d5.rP ar) 0=if ar=3221225534 then 0 else if ar=1073741827 then 1 else if ar=1073741864 then 3 else if ar=3221225655 then 4 else if ar=3221225715 then 5 else-1:=by
  rw[d5.fU aE,d5.fU aE,d5.fU aE,d5.fU aE,d5.fU aE,d5.fU aE,d5.pE];simp only[d5.rP,d5.toks,List.getD_cons_zero,List.getD_cons_succ,jC,eq_comm (b:=ar)];by_cases cG:ar=3221225534
  ·simp[cG]
  ·simp[cG]
 unfold d5.uV;rw[ai];obtain rfl|rfl|rfl|rfl|rfl|rfl:a=0\/a=1\/a=2\/a=3\/a=4\/a=5:=aE
 all_goals
  simp only[iK,d5.toks,Int.toNat,List.getD_cons_zero,List.getD_cons_succ];by_cases cG:ar=3221225534
  ·subst cG;cases d5.bit nr<;>rfl
  by_cases aK:ar=1073741827
  ·subst aK;cases d5.bit nr<;>rfl
  by_cases aV:ar=1073741864
  ·subst aV;cases d5.bit nr<;>rfl
  by_cases cC:ar=3221225655
  ·subst cC;cases d5.bit nr<;>rfl
  by_cases gA:ar=3221225715
  ·subst gA;cases d5.bit nr<;>rfl
  simp[cG,aK,aV,cC,gA]
def aKz{d:Dat}{L:List aD}(R:dx L=true){cy:Nat}{a:Int}(h:Has L 0 (ql (.pl cy) a)):if (d.ar==iK a.toNat&&if a=0 then !d5.bit d.nr else if a=2 then d5.bit d.nr else true)=true then∃aw,aw<=4/\fF d L (L-0) 0 0 0=fF d L (L.length-jg a) (jg a) d.nr aw else∃x aw,aw<=4/\fF d L (L-0) 0 0 0=fF d L (L.length-cy) cy x aw:=by
 unfold ql at h;obtain⟨h1,h2⟩:=h.app;have aK:fF d L (L-0) 0 0 0=fF d L (L.length-if d.ar=iK a.toNat then 2 else cy) (if d.ar=iK a.toNat then 2 else cy) d.ar 2:=by rw[Un R h1.hd,show wd d 4=d.ar from rfl,abk R h1.tl.hd]
 by_cases an:d.ar=iK a.toNat
 ·rw[aF an]at aK;have aV:fF d L (L-2) 2 d.ar 2=fF d L (L-3) 3 d.nr 3:=by rw[Un R h1.tl.tl.hd];rfl
  rw[show(d.ar==iK a.toNat)=true by simpa using an,jc];by_cases ae:a=0
  ·rw[aF ae]at h2⊢;have cC:=aqK (d:=d) (a:=d.nr) (aw:=3) R h2.hd;rw[show jg a=4 by unfold jg;rw[aF (.inl ae)]];cases V:d5.bit d.nr
   ·rw[V,au Y]at cC;rw[aF Y];exact⟨4,aE,by rw[aK,aV];exact cC⟩
   ·rw[V,aF rfl]at cC;rw[au Y];exact⟨_,4,aE,by rw[aK,aV];exact cC⟩
  ·rw[au ae]at h2⊢;by_cases T:a=2
   ·rw[aF T]at h2⊢;have cC:=aqK (d:=d) (a:=d.nr) (aw:=3) R h2.hd;rw[show jg a=4 by unfold jg;rw[aF (.inr T)]];cases V:d5.bit d.nr
    ·rw[V,au Y]at cC;rw[au Y];exact⟨_,4,aE,by rw[aK,aV];exact cC⟩
    ·rw[V,aF rfl]at cC;rw[aF rfl];exact⟨4,aE,by rw[aK,aV];exact cC⟩
   ·rw[au T,aF rfl];rw[show jg a=3 by unfold jg;rw[au aE]];exact⟨3,aE,by rw[aK,aV]⟩
 ·rw[au an]at aK;rw[show(d.ar==iK a.toNat)=false by simpa using an,Bool.false_and,au Y];exact⟨_,2,aE,aK⟩
def aqP{d:Dat}{L:List aD}(R:dx L=true){t:List eu}(abl:may t=true){aY:Nat->Nat}(co:∀i (hi:i<t.length),t[i].leaf=false->L[aY i]?=some (gy 53 t[i].at_ (.pl (aY t[i].more.toNat)) (.pl (aY t[i].less.toNat))).fin)(n:Nat):∀(f i aw s:Nat),i<t->t.length-i<=f->∃(j:Nat)(Z:j<t)(k:Nat),t[j].leaf=true/\qh t n (t-i) i s=(t[j].way,s+k)/\fF d L (L.length-aY i) (aY i) n aw=fF d L (L.length-aY j) (aY j) n (aw+k)
 |0,i,aw,s,hi,ai=>aE
 |f+1,i,aw,s,hi,ai=>by
  cases X:t[i].leaf
  ·obtain⟨dc,dv⟩:=vZ.Pp abl hi X n;obtain⟨j,Z,k,aK,aV,cC⟩:=aqP R abl co n f (goes t[i] n) (aw+1) (s+1) dv aE;refine⟨j,Z,k+1,aK,?_,?_⟩
   ·rw[vZ.afp abl n hi (aZ _) X,aV,show s+1+k=s+(k+1)from aE]
   ·rw[aKr R (co i hi X)];have g1:(if t[i].at_<=n then aY t[i].more.toNat else aY t[i].less.toNat)=aY (goes t[i] n):=by unfold goes;split<;>rfl
    rw[g1,cC,show aw+1+k=aw+(k+1)from aE]
  ·exact⟨i,hi,0,X,by rw[vZ.S9 n hi aE X];rfl,rfl⟩
def gN(f:Filter)(t:List eu):Nat:=jg f.i6+rank t t.length
def mW(f:Filter)(t:List eu):Nat:=lN f.rules (gN f t+1) f.rules.length
def og(f:Filter)(t:List eu)(k:Nat):Nat:=if k=0 then gN f t else lN f.rules (gN f t+1) (k-1)
def qp(f:Filter)(t:List eu)(i:Nat):Nat:=match t[i]? with
 |some n=>if n.leaf=true then og f t n.way.toNat else jg f.i6+rank t i
 |none=>0
def lF(f:Filter)(t:List eu):List bB:=ql (.pl (mW f t)) f.i6++(nL (λi=> .pl (qp f t i)) t++(ou f.dflt::(l9 (gN f t+1) f.rules++[ou 2147418112])))
def Jc(f:Filter)(t:List eu):(lF f t).length=mW f t+1:=by unfold lF mW;rw[<-abg];simp only[dA,dJ,fu,GI,Pj];unfold gN;omega
def oV(len i:Nat)(s:bB):Prop:=(s.j=none/\((s.c=32/\okW s.k=true)\/s.c=84\/s.c=6))\/∃n m:Nat,s.j=some (.pl n,.pl m)/\i<n/\n<len/\((s.c=5/\s.k=0)\/((s.c=21\/s.c=53\/s.c=69)/\i<m/\m<len))
def aKA{len i:Nat}{s:bB}(h:oV len i s):eU len i s.fin=true:=by
 obtain⟨c,k,j⟩:=s;rcases h with⟨h1,h2⟩|⟨n,m,h1,h2,T,af⟩
 ·dsimp only at h1 h2;subst h1;unfold eU bB.fin;dsimp only;rcases h2 with⟨rfl,h2⟩|rfl|rfl
  ·rw[aF rfl,h2];rfl
  ·rfl
  ·rfl
 ·dsimp only at h1 af;subst h1;unfold eU bB.fin there;dsimp only[dF.n];rcases af with⟨rfl,rfl⟩|⟨aQ,a9,cF⟩
  ·rw[au Y,au Y,aF rfl];simp;omega
  ·rw[au aE,au aE,au aE];have:gK c=true:=by rcases aQ with rfl|rfl|rfl<;>rfl
   have eA:¬c=5:=aE;rw[this];simp[eA];omega
def kg(len p:Nat)(A:List bB):Prop:= ∀j (h:j<A.length),oV len (p+j) A[j]
def kg.nil(len p:Nat):kg len p []:=λj h=>by cases h
def kg.app{len p:Nat}{a b:List bB}(h:kg len p a)(gm:kg len (p+a.length) b):kg len p (a++b):=λj Z=>by
 rw[dA]at Z;by_cases HN:j<a
 ·rw[Uw HN];exact h j HN
 ·rw[List.getElem_append_right aE];have:=gm (j-a.length) aE
  rwa [show p+a.length+(j-a.length)=p+j from aE]at this
def kg.cons{len p:Nat}{s:bB}{b:List bB}(h:oV len p s)(gm:kg len (p+1) b):kg len p (s::b):=
 kg.app (a:= [s]) (λj Z=>by
  have:j=0:=by simpa using Z
  subst this;exact h) gm
def kg.may{len:Nat}:∀ {A:List bB} {p:Nat},kg len p A->jG.iE len (A.map bB.fin) p=true
 | [],_,_=>rfl
 |s::r,p,h=>by
  show(eU len p s.fin&&jG.iE len (r.map bB.fin) (p+1))=true;rw[aKA (by have:=h 0 ay;rwa [nO]at this),kg.may (p:=p+1) (λj Z=>by
   have:=h (j+1) (by simpa using Z)
   rwa [yV,show p+(j+1)=p+1+j from aE]at this)]
  rfl
def Dh{len i c k:Nat}(h:(c=32/\okW k=true)\/c=84\/c=6):oV len i ⟨c,k,none⟩:= .inl ⟨rfl,h⟩
def KZ{len i c k n m:Nat}(ao:c=21\/c=53\/c=69)(h1:i<n)(h2:n<len)(T:i<m)(af:m<len):oV len i (gy c k (.pl n) (.pl m)):= .inr ⟨n,m,rfl,h1,h2,.inr ⟨ao,T,af⟩⟩
def aKB{len cy:Nat}{a:Int}(h1:3<cy)(h2:cy<len):kg len 0 (ql (.pl cy) a):=by
 unfold ql;refine kg.app (.cons (Dh (.inl ⟨rfl,rfl⟩)) (.cons (KZ (.inl rfl) aE aE aE h2) (.cons (Dh (.inl ⟨rfl,rfl⟩)) (.nil _ _)))) ?_;split
 ·exact .cons (KZ (.inr (.inr rfl)) h1 h2 (by show 0+3<4;omega) aE) (.nil _ _)
 ·split
  ·exact .cons (KZ (.inr (.inr rfl)) (by show 0+3<4;omega) aE h1 h2) (.nil _ _)
  ·exact .nil _ _
def aqQ{len p at_ mask value e:Nat}(h1:p+nK mask<=e)(h2:mask≠0->e<len)(T:okW at_=true):kg len p (mO p at_ mask value (.pl e)):=by
 unfold mO;unfold nK at h1;split
 ·exact .nil _ _
 rename_i ae;rw[au ae]at h1;have h2:=h2 ae;split
 ·rename_i af;rw[aF af]at h1;exact .cons (Dh (.inl ⟨rfl,T⟩)) (.cons (KZ (.inl rfl) aE aE aE h2) (.nil _ _))
 ·rename_i af;rw[au af]at h1;exact .cons (Dh (.inl ⟨rfl,T⟩)) (.cons (Dh (.inr (.inl rfl))) (.cons (KZ (.inl rfl) aE aE aE h2) (.nil _ _)))
def aKC{len p:Nat}{t:Test}(an:oW t=true)(h:p+rH t<len):kg len p (wH p t):=by
 have eV:rH t=nK (lo t.mask)+nK (hi t.mask)+1:=rfl;unfold oW at an;simp only[dV,iM]at an;obtain⟨h1,h2,-⟩:=an;have aoI:okW (oZ t)=true:=by unfold okW oZ;simp;omega
 have aoJ:okW (vk t)=true:=by unfold okW vk;simp;omega
 unfold wH;refine kg.app (aqQ aE (λ_=>h) aoI) (kg.app ?_ ?_)
 ·rw[Ii];exact aqQ aE (λ_=>h) aoJ
 ·exact .cons (Dh (.inr (.inr rfl))) (.nil _ _)
def aqR{len:Nat}:∀(ts:List Test)(x p:Nat),(∀t∈ts,oW t=true)->p+qo ts<len->kg len p (oz p ts x)
 | [],_,_,_,_=> .cons (Dh (.inr (.inr rfl))) (.nil _ _)
 |t::r,x,p,an,h=>by
  unfold qo at h;unfold oz;refine kg.app (aKC (an t yY) aE) ?_;rw[Uj];split
  ·exact .nil _ _
  ·rename_i ae;rw[au ae]at h;exact aqR r x _ (λt h=>an t (vv _ h)) aE
def aqT{len:Nat}:∀(aN:List Rule)(p:Nat),(∀r∈aN,∀t∈r.tests,oW t=true)->lN aN p aN.length<len->kg len p (l9 p aN)
 | [],_,_,_=> .nil _ _
 |r::l,p,an,h=>by unfold l9;have h1:lN (r::l) p (r::l).length=lN l (p+qo r.tests) l.length:=rfl;rw[h1]at h;have h2:=KY (aN:=l) (p:=p+qo r.tests) l (k:=0) aE;rw[abh,gF]at h2;refine kg.app (aqR _ _ _ (an r yY) aE) ?_;rw[Ph];exact aqT l _ (λr h=>an r (vv _ h)) h
def abm(aY:Nat->dF)(t:List eu)(i:Nat)(h:i<t):mg aY (t.take (i+1))=mg aY (t.take i)++if t[i].leaf=true then []else [gy 53 t[i].at_ (aY t[i].more.toNat) (aY t[i].less.toNat)]:=by
 unfold mg;rw[mh h,yZ,fQ]
 congr 1
 cases X:t[i].leaf<;>simp[inner,X]
def aKD{L:List aD}{p:Nat}{aY:Nat->dF}{t:List eu}(h:Has L p (mg aY t)){i:Nat}(hi:i<t)(X:t[i].leaf=false):L[p+((t.take i).filter inner).length]?=some (gy 53 t[i].at_ (aY t[i].more.toNat) (aY t[i].less.toNat)).fin:=by
 have e:mg aY t=mg aY (t.take i)++gy 53 t[i].at_ (aY t[i].more.toNat) (aY t[i].less.toNat)::mg aY (t.drop (i+1)):=by
  have h1:t=t.take i++t[i]::t.drop (i+1):=by rw[<-kQ hi,List.take_append_drop]
  have h2:mg aY (t.take i++t[i]::t.drop (i+1))=mg aY (t.take i)++gy 53 t[i].at_ (aY t[i].more.toNat) (aY t[i].less.toNat)::mg aY (t.drop (i+1)):=by
   unfold mg;rw[yZ,List.filter_cons_of_pos (by unfold inner;rw[X];rfl),fQ]
   rfl
  rw[<-h2,<-h1]
 rw[e]at h;have:=h.app.2.hd;unfold mg at this
 rwa [dL]at this
structure zN(f:Filter)(t:List eu):Prop where
 may:may t=true
 ways:∀i (h:i<t.length),t[i].leaf=true->0<=t[i].way/\t[i].way<=(f.rules:Int)
 len:t.length<=2000
def abo(f:Filter){t:List eu}{i:Nat}(h:i<t)(X:t[i].leaf=false):jg f.i6+rank t i<gN f t:=by unfold gN;have h1:=aqJ h X;have h2:=DC (t:=t) (i:=i+1) (j:=t.length) h;omega
def Uq(f:Filter)(t:List eu):gN f t<mW f t:=by unfold mW;have:=KY (aN:=f.rules) (p:=gN f t+1) f.rules (k:=0) aE;rw[abh,gF]at this;omega
def aqU(f:Filter)(t:List eu){k:Nat}(h:k<=f.rules):gN f t<=og f t k/\og f t k<mW f t+1:=by
 have ae:=Uq f t;unfold og;split
 ·omega
 ·have h1:=KY (aN:=f.rules) (p:=gN f t+1) (k-1) (k:=0) aE;have h2:=KY (aN:=f.rules) (p:=gN f t+1) (f.rules.length-(k-1)) (k:=k-1) aE;rw[abh,gF]at h1;rw[show k-1+(f.rules.length-(k-1))=f.rules.length from aE]at h2;unfold mW;omega
def abp(f:Filter){t:List eu}{i:Nat}(h:i<t)(X:t[i].leaf=true):qp f t i=og f t t[i].way.toNat:=by unfold qp;rw[dK h];dsimp only;rw[aF X]
def abr(f:Filter){t:List eu}{i:Nat}(h:i<t)(X:t[i].leaf=false):qp f t i=jg f.i6+rank t i:=by unfold qp;rw[dK h];dsimp only;rw[au (by rw[X];decide)]
def aqV{f:Filter}{t:List eu}(bE:zN f t){i j:Nat}(hi:i<t)(X:t[i].leaf=false)(ox:i<j)(Z:j<t):jg f.i6+rank t i<qp f t j/\qp f t j<mW f t+1:=by
 have ae:=Uq f t;have h1:=abo f hi X;cases T1:t[j].leaf
 ·rw[abr f Z T1];have h2:=abo f Z T1;have T:=aqJ hi X;have af:=DC (t:=t) (i:=i+1) (j:=j) ox;omega
 ·rw[abp f Z T1];have aQ:=bE.ways j Z T1;have a9:=aqU f t (k:=t[j].way.toNat) aE;omega
def K3{t:List eu}(h:0<t.length):root t=t[0].leaf:=by
 cases t with
 |nil=>simp at h
 |cons a r=>rfl
def ack{f:Filter}{t:List eu}(bE:zN f t):kg (mW f t+1) (jg f.i6) (nL (λi=> .pl (qp f t i)) t):=by
 have ae:=Uq f t;have ac:=vZ.BQ bE.may;unfold nL;have Z:∀k,k<=t.length->kg (mW f t+1) (jg f.i6+(if root t=true then 1 else 0)) (mg (λi=> .pl (qp f t i)) (t.take k)):=by
  intro k
  induction k with
  |zero=>intro _;exact .nil _ _
  |succ k b9=>
   intro hk;rw[abm _ t k aE];refine kg.app (b9 aE) ?_;cases X:t[k].leaf
   ·rw[au (show¬(false=true)from Y)];obtain⟨eN,fS,zv,up⟩:=vZ.Ea bE.may (by omega:k<t) X;have aK:=aqV bE (by omega:k<t) X (j:=t[k].more.toNat) aE aE;have aV:=aqV bE (by omega:k<t) X (j:=t[k].less.toNat) aE aE;have hr:jg f.i6+(if root t=true then 1 else 0)+(mg (λi=> .pl (qp f t i)) (t.take k)).length=jg f.i6+rank t k:=by unfold rank mg;rw[dL];omega
    rw[hr];exact .cons (KZ (.inr (.inl rfl)) aK.1 aK.2 aV.1 aV.2) (.nil _ _)
   ·rw[aF (show true=true from rfl)];exact .nil _ _
 have Z:=Z t (aZ _);rw[iR]at Z;by_cases hr:root t=true
 ·rw[aF hr]at Z⊢;refine kg.app (.cons ?_ (.nil _ _)) Z;have X:t[0].leaf=true:=by rw[<-K3 ac];exact hr
  have aQ:=bE.ways 0 ac X;have a9:=aqU f t (k:=t[0].way.toNat) aE;show oV _ _ (gy 5 0 (.pl (qp f t 0)) (.pl 0));rw[abp f ac X];have cF:jg f.i6<gN f t:=by unfold gN rank;rw[aF hr];omega
  exact .inr ⟨_,0,rfl,aE,aE,.inl ⟨rfl,rfl⟩⟩
 ·rw[au hr]at Z⊢;exact Z
def abt:∀(aN:List Rule)(p:Nat),(∀r∈aN,r.tests.length<=32)->lN aN p aN.length<=p+225*aN.length
 | [],_,_=>aZ _
 |r::l,p,h=>by show lN l (p+qo r.tests) l.length<=_;have h1:=abt l (p+qo r.tests) (λr gm=>h r (vv _ gm));have h2:=(Um r.tests).2;have T:=h r yY;rw[dJ];omega
def xY{f:Filter}(h:eT f=true):0<=f.i6/\f.i6<6/\f.rules.length<=400/\iE none f.rules=true/\∀r∈f.rules,r.tests.length<=32/\∀t∈r.tests,oW t=true:=by unfold eT at h;simp only[dV,iM]at h;obtain⟨h1,h2,T,-,aQ⟩:=h;refine⟨h1,h2,T,aQ,λr hr=> ?_⟩;obtain⟨a9,-⟩:=j7.AO aQ r hr;obtain⟨cF,eA,-⟩:=j7.OU a9;exact⟨cF,eA⟩
def aqW{f:Filter}{t:List eu}(ai:eT f=true)(bE:zN f t):kg (mW f t+1) 0 (lF f t):=by
 obtain⟨h1,h2,T,af,aQ⟩:=xY ai;have ae:=Uq f t;have ac:=vZ.BQ bE.may;have hd:3<=jg f.i6/\jg f.i6+1<=gN f t:=by
  refine⟨by unfold jg;split<;>omega,?_⟩;by_cases hr:root t=true
  ·unfold gN rank;rw[aF hr];omega
  ·have X:t[0].leaf=false:=by rw[<-K3 ac];simpa using hr
   have:=abo f ac X;omega
 unfold lF;refine kg.app (aKB aE aE) ?_;rw[GI,gF];refine kg.app (ack bE) ?_;rw[Pj];refine .cons (Dh (.inr (.inr rfl))) (kg.app (aqT _ _ (λr hr=>(aQ r hr).2) ?_) (.cons (Dh (.inr (.inr rfl))) (.nil _ _)));show lN f.rules (gN f t+1) f.rules.length<mW f t+1;exact Nat.lt_succ_self _
def aqX{f:Filter}{t:List eu}(ai:eT f=true)(bE:zN f t):dx ((lF f t).map bB.fin)=true:=by
 obtain⟨h1,h2,T,af,aQ⟩:=xY ai;have ey:((lF f t).map bB.fin).length=mW f t+1:=by rw[dL,Jc]
 have V:=abt f.rules (gN f t+1) (λr hr=>(aQ r hr).1);have ck:mW f t<=gN f t+1+225*f.rules.length:=V;have aQk:gN f t<=4+(t.length+1):=by have:=abj t;unfold gN jg;split<;>omega
 have e':=bE.len;unfold dx;rw[ey];have m2:wu ((lF f t).map bB.fin)=6:=by
  unfold wu;rw[ey,yX];have e:lF f t=(ql (.pl (mW f t)) f.i6++(nL (λi=> .pl (qp f t i)) t++(ou f.dflt::l9 (gN f t+1) f.rules)))++[ou 2147418112]:=by unfold lF;simp
  have o':(ql (.pl (mW f t)) f.i6++(nL (λi=> .pl (qp f t i)) t++(ou f.dflt::l9 (gN f t+1) f.rules))).length=mW f t:=by have:=Jc f t;rw[e,dA]at this;exact wK
  rw[e,fQ,Dl (by rw[dL,o'];exact aZ _),dL,o',Nat.sub_self]
  rfl
 rw[m2,dH aE,dH aE,(aqW ai bE).may]
 rfl
def aqY{L:List aD}:∀ {aN:List Rule} {p k:Nat} (h:k<aN),Has L p (l9 p aN)->Has L (lN aN p k) (oz (lN aN p k) aN[k].tests aN[k].action)
 |r::l,p,0,_,be=>by unfold l9 at be;exact be.app.1
 |r::l,p,k+1,h,be=>by unfold l9 at be;have:=be.app.2;rw[Ph]at this;exact aqY (aN:=l) tH this
def Ur(d:Dat)(aN:List Rule):Nat:=match aN.find? (λr=>r.nr==d.nr)with
 |some r=>r.tests.length
 |none=>0
def abu(f:Filter)(t:List eu)(n:Nat):Prop:=((∀r∈f.rules,r.nr≠n)/\(qh t n t 0 0).1=0)\/∃k,∃h:k<f.rules.length,f.rules[k].nr=n/\(∀j (h:j<k),f.rules[j].nr≠n)/\(qh t n t 0 0).1=((k+1:Nat):Int)
def am7{d:Dat}(hd:fT d){f:Filter}{t:List eu}(ai:eT f=true)(bE:zN f t)(bJ:abu f t d.nr):∃aw,rz d ((lF f t).map bB.fin)=(kT f d,aw)/\1<=aw/\aw<=6+(qh t d.nr t 0 0).2+7*Ur d f.rules:=by
 have R:=aqX ai bE;obtain⟨h1,h2,T,af,aQ⟩:=xY ai;have ac:=vZ.BQ bE.may;have h9:Has ((lF f t).map bB.fin) 0 (lF f t):=Has.all _;unfold rz;rw[aF R];generalize da:(lF f t).map bB.fin=L at *;unfold lF at h9;obtain⟨cn,h9⟩:=h9.app;rw[GI,gF]at h9;obtain⟨hB,h9⟩:=h9.app;rw[Pj]at h9;have aKE:L[gN f t]?=some (ou f.dflt).fin:=h9.hd;obtain⟨xd,rN⟩:=h9.tl.app;have eV:L[mW f t]?=some (ou 2147418112).fin:=by have:=rN.hd;rw[show jg f.i6+rank t t.length+1+(l9 (gN f t+1) f.rules).length=mW f t from abg _ _]at this;exact this
 have xd:Has L (gN f t+1) (l9 (gN f t+1) f.rules):=xd;have ho:=aKz (d:=d) R cn;rw[<-aKy d.ar d.nr f.i6 h1 h2]at ho;have aKF:zG f d=((d5.uV d.ar d.nr).2&&((d5.uV d.ar d.nr).1==f.i6)):=rfl;rw[<-aKF]at ho;rw[Nat.sub_zero]at ho;by_cases cc:zG f d=true
 ·rw[aF cc]at ho;obtain⟨dl,b1,aK⟩:=ho;have aV:∃gS,gS<=dl+1/\fF d L (L.length-jg f.i6) (jg f.i6) d.nr dl=fF d L (L.length-qp f t 0) (qp f t 0) d.nr gS:=by
   unfold nL at hB;by_cases hr:root t=true
   ·rw[aF hr]at hB;exact⟨dl+1,aE,by rw[aKs R hB.app.1.hd]⟩
   ·have X:t[0].leaf=false:=by rw[<-K3 ac];simpa using hr
    refine⟨dl,aE,?_⟩;rw[abr f ac X];have:rank t 0=0:=by unfold rank;rw[au hr];rfl
    rw[this];rfl
  obtain⟨gS,b2,aV⟩:=aV;have co:∀i (hi:i<t.length),t[i].leaf=false->L[qp f t i]?=some (gy 53 t[i].at_ (.pl (qp f t t[i].more.toNat)) (.pl (qp f t t[i].less.toNat))).fin:=λi hi X=>by
   rw[abr f hi X];unfold nL at hB;have:=aKD (hB.app.2) hi X;rw[<-this]
   congr 1
   unfold rank;split<;>simp<;>omega
  obtain⟨j,Z,k,cC,gA,hR⟩:=aqP R bE.may (aY:=qp f t) co d.nr t 0 gS 0 ac aE;rw[Nat.sub_zero,gF]at gA;have G4:=bE.ways j Z cC;rw[abp f Z cC]at hR;rw[aK,aV,hR,j7.TD cc];unfold abu at bJ;rw[gA]at bJ⊢;dsimp only at bJ⊢;rcases bJ with⟨a9,cF⟩|⟨r,hr,a9,cF,eA⟩
  ·rw[cF];have kh:og f t (Int.toNat 0)=gN f t:=rfl;have m3:f.rules.find? (λr=>r.nr==d.nr)=none:=List.find?_eq_none.2 (λr hr=>by simpa using a9 r hr);rw[kh,Uo aKE];refine⟨gS+k+1,?_,aE,by unfold Ur;rw[m3];omega⟩;unfold qc;rw[m3]
  ·rw[eA];have kh:og f t (((r+1:Nat):Int).toNat)=lN f.rules (gN f t+1) r:=by unfold og;rw[au aE];congr 1
   rw[kh,j7.ZH hr a9 cF];obtain⟨nW,c3,cV,J7⟩:=aqO hd R f.rules[r].tests f.rules[r].action _ d.nr (gS+k) (aQ _ (eB hr)).2 (aqY hr xd);have VW:Ur d f.rules=f.rules[r].tests.length:=by unfold Ur;rw[List.find?_eq_some_iff_getElem.2 ⟨by simpa using a9,r,hr,rfl,λj Z=>by simpa using cF j Z⟩]
   exact⟨nW,J7,aE,by rw[VW];omega⟩
 ·rw[au cc]at ho;obtain⟨x,dl,b1,aK⟩:=ho;rw[aK,Uo eV,j7.Ko (by simpa using cc)];exact⟨dl+1,rfl,aE,aE⟩
open j7 (Test Rule Filter uj iE eT uY)
open vZ (may qh xE Ih)
open Co (Span merge pc nJ whole way TW put gap)
def lG(f:Filter):List Nat:=f.rules.map (·.nr)
def nH(f:Filter):List Int:=(List.range f.rules).map λi=>((i+1:Nat):Int)
def qZ(f:Filter):List Span:=merge (pc 0 (lG f) (nH f) 0)
def iF(f:Filter):List eu:=xE (qZ f) 0
def uO(f:Filter):(lG f).length=f.rules.length:=dL _
def zl(f:Filter):(nH f).length=f.rules.length:=by unfold nH;simp
def aqZ:∀ {aN:List Rule} {p:Option Nat} {next:Nat},iE p aN=true->(∀n,uY p n=true->next<=n)->nJ (aN.map (·.nr)) next=true
 | [],_,_,_,_=>rfl
 |r::l,p,next,h,hn=>by simp only[iE,dV]at h;show(decide (next<=r.nr)&&nJ (l.map (·.nr)) (r.nr+1))=true;rw[dH (hn _ h.1.2),jc];exact aqZ h.2 (λn be=>by have:=of_decide_eq_true be;omega)
def aKG{P:Int->Prop}{out:List Span}{s:Span}(h:∀x∈out,P x.way)(ab:P s.way):∀x∈put out s,P x.way:=by
 rcases Co.Az out with rfl|⟨i,l,rfl⟩
 ·rw[Co.ahH];intro x D;simp at D;subst D;exact ab
 ·rw[Co.Jk];split
  ·intro x D;rcases iZ.1 D with D|D
   ·exact h x (List.mem_append_left _ D)
   ·simp at D;subst D;exact h l ay
  ·intro x D;rcases iZ.1 D with D|D
   ·exact h x (List.mem_append_left _ D)
   ·simp at D;rcases D with rfl|rfl
    ·exact h _ ay
    ·exact ab
def aq0{P:Int->Prop}:∀ {ys out:List Span},(∀x∈out,P x.way)->(∀x∈ys,P x.way)->∀x∈ys.foldl put out,P x.way
 | [],_,h,_=>h
 |y::r,_,h,bN=>aq0 (ys:=r) (aKG h (bN y yY)) (λx D=>bN x (vv _ D))
def abv{P:Int->Prop}{o:Int}(ho:P o)(a b:Nat):∀x∈gap o a b,P x.way:=by
 unfold gap;split
 ·intro x D;simp at D;subst D;exact ho
 ·intro x D;cases D
def aq1{P:Int->Prop}{o:Int}(ho:P o):∀(ns:List Nat)(d3:List Int)(next:Nat),(∀x∈d3,P x)->∀x∈pc o ns d3 next,P x.way
 | [],d3,next,_,x,D=>by unfold pc at D;exact abv ho _ _ x D
 |n::ns,[],next,_,x,D=>by unfold pc at D;exact abv ho _ _ x D
 |n::ns,v::d3,next,h,x,D=>by
  unfold pc at D;rcases iZ.1 D with D|D
  ·exact abv ho _ _ x D
  ·rcases iA.1 D with rfl|D
   ·exact h v yY
   ·exact aq1 ho ns d3 _ (λx D=>h x (vv _ D)) x D
def AP{f:Filter}(ai:eT f=true)(hn:∀r∈f.rules,r.nr<4294967296):nJ (lG f) 0=true/\whole (qZ f)=true/\(qZ f).length<=2*f.rules.length+1/\(∀x∈qZ f,0<=x.way/\x.way<=(f.rules:Int))/\zN f (iF f):=by
 obtain⟨h1,h2,T,af,aQ⟩:=xY ai;have a6:nJ (lG f) 0=true:=aqZ af (λn _=>eG _);have jm:∀n∈lG f,n<4294967296:=λn be=>by obtain⟨r,hr,rfl⟩:=iJ.1 be;exact hn r hr
 have hX:(lG f).length=(nH f).length:=by rw[uO,zl]
 have bJ:whole (qZ f)=true:=Co.Qy (Co.Ri hX a6 jm);have ey:(qZ f).length<=2*f.rules.length+1:=by have aK:=Co.Nc (pc 0 (lG f) (nH f) 0);have aV:=Co.VJ 0 (lG f) (nH f) 0;rw[uO]at aV;exact cB aK aV
 have abw:∀x∈qZ f,0<=x.way/\x.way<=(f.rules:Int):=aq0 (P:=λy=>0<=y/\y<=(f.rules:Int)) (λx D=>by cases D) (aq1 (P:=λy=>0<=y/\y<=(f.rules:Int)) aE (lG f) (nH f) 0 (λx D=>by unfold nH at D;obtain⟨i,hi,rfl⟩:=iJ.1 D;have:=List.mem_range.1 hi;omega))
 have ac:=vZ.xK bJ;refine⟨a6,bJ,ey,abw,vZ.Yp ac,λi hi X=> ?_,?_⟩
 ·have e:=vZ.Vn (qZ f) ac 0;have R:(iF f)[i].way∈vZ.leaves (iF f):=by unfold vZ.leaves;exact iJ.2 ⟨(iF f)[i],List.mem_filter.2 ⟨eB hi,X⟩,rfl⟩
  have eS:(iF f)[i].way∈TW (qZ f):=by rw[<-e];exact R
  obtain⟨s,ab,aV⟩:=iJ.1 eS;rw[<-aV];exact abw s ab
 ·have:=vZ.sU (qZ f) ac 0;unfold iF;omega
def aq2{f:Filter}{k:Nat}(h:k<f.rules):(lG f)[k]'(by rw[uO];exact h)=f.rules[k].nr:=by unfold lG;rw[rQ]
def am8{f:Filter}(ai:eT f=true)(hn:∀r∈f.rules,r.nr<4294967296){n q:Nat}(V:n<4294967296)(aW:2*f.rules.length+1<=2^q):abu f (iF f) n/\(qh (iF f) n (iF f).length 0 0).2<=q:=by
 obtain⟨a6,bJ,ey,abw,bE⟩:=AP ai hn;have hX:(lG f).length=(nH f).length:=by rw[uO,zl]
 have jm:∀n∈lG f,n<4294967296:=λn be=>by obtain⟨r,hr,rfl⟩:=iJ.1 be;exact hn r hr
 obtain⟨aK,aV⟩:=vZ.Xr bJ V (q:=q) (cB ey aW);have cC:Ih (iF f) n=qh (iF f) n (iF f).length 0 0:=by unfold Ih;rw[aF bE.may]
 have gA:way (qZ f) n=(Co.look (lG f) (nH f) 0 n,true):=by unfold qZ;rw[Co.aaq (Co.Ri hX a6 jm)];exact Co.aea 0 _ _ 0 n hX a6 (eG _) V
 have hR:(qh (iF f) n (iF f).length 0 0).1=Co.look (lG f) (nH f) 0 n:=by rw[<-cC];show(Ih (xE (qZ f) 0) n).1=_;rw[aK,gA]
 refine⟨?_,by rw[<-cC];exact aV⟩;by_cases D:∀r∈f.rules,r.nr≠n
 ·refine .inl ⟨D,?_⟩;rw[hR];exact Co.Nf (λk hk=>by
   have oY:k<f.rules:=by rw[uO]at hk;exact hk
   rw[aq2 oY];exact D _ (eB oY))
 ·have ag:∃k,∃h:k<f.rules.length,f.rules[k].nr=n:=by
   refine Classical.byContradiction λao=>D λr hr e=>ao ?_
   obtain⟨k,hk,rfl⟩:=List.mem_iff_getElem.1 hr;exact⟨k,hk,e⟩
  obtain⟨k,hk,e⟩:=ag;have x8:∀j (Z:j<f.rules.length),Co.look (lG f) (nH f) 0 f.rules[j].nr=((j+1:Nat):Int):=λj Z=>by have:=Co.IB (ns:=lG f) (d3:=nH f) (o:=0) (next:=0) (k:=j) (by rw[uO];exact Z) (by rw[zl];exact Z) a6;rw[aq2 Z]at this;rw[this];unfold nH;rw[rQ,List.getElem_range]
  refine .inr ⟨k,hk,e,λj Z aV=> ?_,by rw[hR,<-e];exact x8 k hk⟩;have h1:=x8 k hk;have h2:=x8 j aE;rw[aV]at h2;rw[e]at h1;omega
end le
def aq3(h:S:=by have wa:=z ac;unfold aM;go_in;go_wp2_with fail;refine ak (wa.o _) ?_;intro I D;go_wp2_with fail;go_ret2;exact⟨rfl,D⟩):S:=h
namespace le
open jG (aD dI gQ mR lo hi PL)
open m9
open j7 (Test Rule Ce oW)
variable{B b base c e g i k nt p e9 t x:Nat}{cy cj:Nat->Prop}{W aa w F w0:G}{U:Array K}{ls:List (Option Nat)}{pl:Nat->Nat}
theorem aq4(a b:Int)(ae:0<=a)(a9:a<6)(V:0<=b)(f5:b<=4)(w:G):aM 400 #[H a,H b] w (bH #[M (16+8*a+b),av true]):=by
 have dc:decide (a<0)=false:=dM aE;have dv:decide (5<a)=false:=dM aE;have bJ:IntKind.u32.wrap (16+8*a+b)=16+8*a+b:=by simp[IntKind.wrap,IntKind.signed,IntKind.bits];omega
 unfold aM;go_in;go_wp;go_ret2;exact K8
theorem aKH(t:Test)(h:oW t=true)(w:G):aM 372 #[H t.arg] w (bH #[M (oZ t:Int),av true]):=by
 obtain⟨ae,a9,-⟩:=j7.yT h;have ac:=λW=>aq4 t.arg 0 ae a9 aE aE W
 have e:16+8*t.arg+0=(oZ t:Int):=by unfold oZ;omega
 rw[e]at ac;generalize(oZ t:Int)=x at *;exact aq3
theorem aKI(t:Test)(h:oW t=true)(w:G):aM 373 #[H t.arg] w (bH #[M (vk t:Int),av true]):=by
 obtain⟨ae,a9,-⟩:=j7.yT h;have ac:=λW=>aq4 t.arg 4 ae a9 aE aE W
 have e:16+8*t.arg+4=(vk t:Int):=by unfold vk;omega
 rw[e]at ac;generalize(vk t:Int)=x at *;exact aq3
def Fy(b p n:Nat):dF.res b p (.pl n)= .pl n:=rfl
def Di(b p:Nat):dF.res b p (.lb b)= .pl p:=aF rfl
def vK(h:x≠b):dF.res b p (.lb x)= .lb x:=au h
def K4{n:Nat}{bD:List bB}(h:cu w0 B (λx=>(cj x\/x=n)/\x≠n) bD W)(hn:¬cj n):cu w0 B cj bD W:=
 h.mono (λx=>⟨λh=>by rcases h.1 with h1|h1;exact h1;exact absurd h1 h.2,λh=>⟨.inl h,λe=>hn (e▸h)⟩⟩)
theorem aq5{bD:List bB}(h:cu w0 B cj bD W)(X:bD.length<=99000)(at_ mask value fl:Nat)(ma:cj fl):Calls prog 374 #[fE B,M at_,M mask,M value,fE fl] W λe F=>e=aI (bH #[])/\cu w0 B cj (bD++mO bD at_ mask value (.lb fl)) F/\eH W F:=by
 have bY:=z h;have cx:=z ma;by_cases ae:mask=0
 ·subst ae;go_in;go_wp2_with fail
  first|go_end0|refine cO (gq rfl _ _ _) rfl ?_
  exact⟨rfl,by show cu w0 B cj (bD++[]) W;rw[qz];exact bY.o,eH.refl _⟩
 have hs:((mask:Int)==0)=false:=by rw[iH];omega
 have hS:mO bD at_ mask value (.lb fl)=if mask=4294967295 then [uy at_,gy 21 value (.pl (bD+2)) (.lb fl)]else [uy at_,abf mask,gy 21 value (.pl (bD+3)) (.lb fl)]:=by unfold mO;rw[au ae]
 rw[hS];by_cases h1:mask=4294967295
 ·rw[aF h1];subst h1;go_in;go_wp2_with fail;refine ak (cu.nC bY.o aE at_) ?_;rintro aO ⟨eC,hJ⟩;have eW:=z eC;have kx:=z hJ;have sv:=z (eC.label (H 0));go_wp2_with fail;refine ak (cu.j5 sv.o.1 dU 21 value aO fl (.inr rfl) (.inl cx.o)) ?_;rintro bj ⟨gj,qt⟩;have hC:=z gj;have un:=z (kx.o.trans (eH.after _ qt));go_wp2_with fail;refine ak (cu.iI hC.o (b:=aO.heap.size) (.inr rfl)) ?_;rintro dC ⟨vx,AT⟩;have hn:=sv.o.2;have bO:fl≠aO.heap.size:=λe=>hn (e▸cx.o)
  have i1:=K4 vx hn;rw[fQ,fQ,Ui bY.o hn]at i1;simp only[fK,kE,bB.mp,kC,Option.map_none,Di,vK bO,gJ,gZ,iq,dA,dJ,fu]at i1;have eb:=z i1;have HP:=z (un.o.trans AT);go_wp2_with fail
  first|go_end0|refine cO (gq rfl _ _ _) rfl ?_
  exact⟨rfl,eb.o,HP.o⟩
 ·rw[au h1];have dc:((mask:Int) !=4294967295)=true:=by rw[bne,Bool.not_eq_true',iH];omega
  go_in;go_wp2_with fail;refine ak (cu.nC bY.o aE at_) ?_;rintro aO ⟨eC,hJ⟩;have eW:=z (eC.ext ((O _).alloc (J #[bf 84,M mask,H 0,H 0] 407)));have kx:=z (hJ.trans (eH.mI ((O _).alloc (J #[bf 84,M mask,H 0,H 0] 407))));go_wp2_with fail;refine ak (cu.lC eW.o dU (c:=84) (k:=mask) (jh gQ aO [⟨84,mask,0,0⟩] 407 aO rfl)) ?_;rintro bj ⟨gj,qt⟩;have I0:=z (gj.label (H 0));have un:=z (kx.o.trans qt);go_wp2_with fail;refine ak (cu.j5 I0.o.1 dU 21 value bj fl (.inr rfl) (.inl cx.o)) ?_;rintro dC ⟨vx,AT⟩;have q6:=z vx;have HP:=z (un.o.trans (eH.after _ AT));go_wp2_with fail;refine ak (cu.iI q6.o (b:=bj.heap.size) (.inr rfl)) ?_;rintro bQ ⟨i1,B9⟩;have hn:=I0.o.2;have bO:fl≠bj.heap.size:=λe=>hn (e▸cx.o)
  have ks:=K4 i1 hn;rw[fQ,fQ,fQ,Ui bY.o hn]at ks;simp only[fK,kE,bB.mp,kC,Option.map_none,Di,vK bO,gJ,gZ,iq,dA,dJ,fu]at ks;have eb:=z ks;have HQ:=z (HP.o.trans B9);go_wp2_with fail
  first|go_end0|refine cO (gq rfl _ _ _) rfl ?_
  exact⟨rfl,eb.o,HQ.o⟩
open j7 (Test Rule Ce sZ oW kW qY)
open acC (uK L6)
open e2 (iK)
def aG(h:w.heap[b]?=some (J U t (0,0)))(i:Nat):w.cell? ⟨b,i,none⟩=U[i]?:=by simp[World.cell?,h]
def aJ(h:w.heap[b]?=some (J U t (0,0)))(D:Ext w F):F.heap[b]?=some (J U t (0,0)):=(D.block (dG.1 h).1).trans h
def api(x:Nat):lo x<4294967296:=Nat.mod_lt _ aE
def aKJ{n:Nat}{bD:List bB}(h:cu w0 B cj bD W)(hn:¬cj n)(t:Test):(bD++(mO bD (oZ t) (lo t.mask) (lo t.value) (.lb n)++(mO (bD.length+nK (lo t.mask)) (vk t) (hi t.mask) (hi t.value) (.lb n)++[ou t.action]))).map (bB.mp (dF.res n (bD.length+rH t)))=bD++wH bD t:=by
 rw[fQ,Ui h hn];have be:∀p a m v q,(mO p a m v (.lb n)).map (bB.mp (dF.res n q))=mO p a m v (.pl q):=by
  intro p a m v q;unfold mO;split
  ·rfl
  ·split<;>simp[bB.mp,dF.res]
 rw[fQ,fQ,be,be]
 rfl
theorem aKK{bD:List bB}(h:cu w0 B cj bD W)(X:bD.length<=98000)(t:Test)(an:oW t=true)(hk:Ce t):Calls prog 295 #[fE B,bg #[H t.arg,aA (t.mask:Int),aA (t.value:Int),M t.action]] W λe F=>e=aI (bH #[])/\cu w0 B cj (bD++wH bD t) F/\eH W F:=by
 have R:=hk.m;have hv:=hk.v;have aq6:=λW=>aKH t an W
 have aq7:=λW=>aKI t an W
 have em:=λW=>PL t.mask R W
 have p6:=λW=>PL t.value hv W
 have fN:(W.alloc (J #[H t.arg,aA (t.mask:Int),aA (t.value:Int),M t.action] 137)).heap[W.heap.size]?=some (J #[H t.arg,aA (t.mask:Int),aA (t.value:Int),M t.action] 137 (0,0)):=bA W _;have z':=h.ext ((O W).alloc (J #[H t.arg,aA (t.mask:Int),aA (t.value:Int),M t.action] 137));have dp:=z'.label (H 0);rw[dR]at dp;have hn:¬cj (W+1):=dp.2;obtain⟨az,b7⟩:∃az,az=(W.alloc (J #[H t.arg,aA (t.mask:Int),aA (t.value:Int),M t.action] 137)).alloc (J #[H 0] 339):=⟨_,rfl⟩;have cH:az.heap[W.heap.size]?=some (J #[H t.arg,aA (t.mask:Int),aA (t.value:Int),M t.action] 137 (0,0)):=by rw[b7];exact aJ fN ((O _).alloc _)
 have ki:eH W az:=by rw[b7];exact eH.mI (((O _).alloc _).alloc _)
 have Ff:cu w0 B (λb=>cj b\/b=W.heap.size+1) bD az:=by rw[b7];exact dp.1
 have mN:=aKJ h hn t;have ft:=Uk t;have eV:rH t=nK (lo t.mask)+nK (hi t.mask)+1:=rfl;have abx:(bD++mO bD (oZ t) (lo t.mask) (lo t.value) (.lb (W+1))).length=bD.length+nK (lo t.mask):=by rw[dA,Ii]
 have aq8:((bD++mO bD (oZ t) (lo t.mask) (lo t.value) (.lb (W+1)))++mO (bD.length+nK (lo t.mask)) (vk t) (hi t.mask) (hi t.value) (.lb (W+1))).length=bD.length+nK (lo t.mask)+nK (hi t.mask):=by rw[dA,abx,Ii]
 have sh:=z b7;have ev:=z hn;have aKL:=z aq6;clear b7 h z' dp fN hk an R hv aq6;have aKM:=z aq7;have pf:=z em;clear aq7 em;have HL:=z p6;have TO:=z mN;clear p6 mN;have si:=z eV;have aq9:=z abx;clear eV abx;have ara:=z aq8;have aKN:=z Ff;clear aq8 Ff;have aby:=z ki;have I8:=z cH;go_in;go_upto_region 2 with fail;rw[<-sh.o];have c0:=aG I8.o 0;simp at c0;go_wp2_with fail;refine ak (aKL.o _) ?_;intro aO ag;have ca:=z ag;replace c0:=ag.cell c0;go_wp2_with fail;refine ak (aKM.o _) ?_;intro bj a';have cL:=z (ca.o.trans a');have c1:bj.cell? ⟨W,1,none⟩=some (aA (t.mask:Int)):=cL.o.cell (aG I8.o 1);go_wp2_with fail;refine ak (pf.o _) ?_;intro dC cN;have hK:=z (cL.o.trans cN);have c2:dC.cell? ⟨W,2,none⟩=some (aA (t.value:Int)):=hK.o.cell (aG I8.o 2);go_wp2_with fail;refine ak (HL.o _) ?_;intro bQ bR;have ia:=z (aKN.o.ext (hK.o.trans bR));have qr:=z (aJ I8.o (hK.o.trans bR));have HQ:=z (aby.o.trans (eH.mI (hK.o.trans bR)));go_wp2_with fail;refine ak (aq5 ia.o aE (oZ t) (lo t.mask) (lo t.value) (W+1) (.inr rfl)) ?_;rintro cT ⟨ks,n7⟩;have vr:=z ks;have Hp:=z (n7.kept _ _ _ _ qr.o Y Y Y Y);have Er:=z (HQ.o.trans n7);go_wp2_with fail;refine ak (aq5 vr.o (by rw[aq9.o];have:=si.o;omega) (vk t) (hi t.mask) (hi t.value) (W+1) (.inr rfl)) ?_;rintro dy ⟨tU,qn⟩;rw[aq9.o]at tU;have oA:=z tU;have Es:=z (Er.o.trans qn);have c3:dy.cell? ⟨W,3,none⟩=some (M t.action):=aG (qn.kept _ _ _ _ Hp.o Y Y Y Y) 3;go_wp2_with fail;refine ak (cu.lZ oA.o (by rw[ara.o];have:=si.o;omega) t.action) ?_;rintro hz ⟨mz,oy⟩;have sn:=z mz;have yi:=z (Es.o.trans oy);go_wp2_with fail;refine ak (cu.iI sn.o (b:=W.heap.size+1) (.inr rfl)) ?_;rintro gn ⟨ic,An⟩;have mA:=K4 ic ev.o;have ge:((bD++mO bD (oZ t) (lo t.mask) (lo t.value) (.lb (W+1)))++mO (bD.length+nK (lo t.mask)) (vk t) (hi t.mask) (hi t.value) (.lb (W+1))++[ou t.action]).length=bD.length+rH t:=by rw[dA,ara.o];have:=si.o;simp;omega
 rw[ge,gJ,gJ,TO.o]at mA;have eb:=z mA;have L3:=z (yi.o.trans An);go_wp2_with fail
 first|go_end0|refine cO (gq rfl _ _ _) rfl ?_
 exact⟨rfl,eb.o,L3.o⟩
theorem uP{bD:List bB}(h:cu w0 B cj bD W)(X:bD.length<=97000)(nr x:Nat)(ts:List Test)(v:K)(hv:aS w0 4 kW v ts)(hn:ts.length<=32)(an:∀t∈ts,oW t=true/\Ce t):Calls prog 246 #[fE B,bg #[M nr,v,M x]] W λe F=>e=aI (bH #[])/\cu w0 B cj (bD++oz bD ts x) F/\eH W F:=by
 obtain⟨a,c,rfl,ep,hG⟩:=qY hv;have fN:(W.alloc (J #[M nr,E a ts c,M x] 110)).heap[W.heap.size]?=some (J #[M nr,E a ts c,M x] 110 (0,0)):=bA W _;have z':=h.ext ((O W).alloc (J #[M nr,E a ts c,M x] 110));have E7:eH W (W.alloc (J #[M nr,E a ts c,M x] 110)):=eH.mI ((O W).alloc _);have aKO:=z fN;have aKP:=z z';have amv:=z E7;have B6:=z hG;have I1:=z an;go_in;go_wp2_with fail;go_loopw [9] (λi wr=>∃(k:Nat) (pre:List bB),k<=ts/\i=H k/\pre.length<=7*k/\oz bD ts x=pre++oz (bD.length+pre) (ts.drop k) x/\cu w0 B cj (bD++pre) wr/\eH W wr/\wr.heap[W.heap.size]?=some (J #[M nr,E a ts c,M x] 110 (0,0))) (λi _=>ts.length-(intOf i).toNat)
 case atStart=>exact⟨0,[],aE,rfl,ay,ay,by rw[qz];exact aKP.o,amv.o,aKO.o⟩
 case round=>
  obtain⟨k,pre,hk,rfl,nS,zz,ab,w8,hx⟩:=hrel;have bY:=z ab;have gz:=z w8;have ce:=z hx;have arb:=z zz;by_cases ad:k<ts
  ·obtain⟨b,o,rfl,dm,cs,eg,h6⟩:=B6.o k ad;have d6:=bY.o.Kh;replace dm:=d6.cell dm;replace cs:=d6.cell cs;replace eg:=d6.cell eg;replace h6:=d6.cell h6;obtain⟨eN,fS⟩:=I1.o _ (eB ad);have dT:oz bD ts x=(pre++wH (bD.length+pre) ts[k])++if ts[k].mask=0 then []else oz (bD.length+pre+rH ts[k]) (ts.drop (k+1)) x:=by rw[arb.o,kQ ad,gJ];rfl
   have aQl:(0:Int)<=k/\(k:Int)<ts:=aE;have C1:(bD++pre).length=bD.length+pre:=dA;have e':=Uj (bD.length+pre) ts[k];have D2:=Uk ts[k];generalize ts[k]=t at *;have bE:=aKK (bY.o.ext ((O wr).alloc (J #[H t.arg,aA (t.mask:Int),aA (t.value:Int),M t.action] 137))) (by rw[C1];omega) t eN fS;rw[C1]at bE;have adf:(wr.alloc (J #[H t.arg,aA (t.mask:Int),aA (t.value:Int),M t.action] 137)).heap[wr.heap.size]?=some (J #[H t.arg,aA (t.mask:Int),aA (t.value:Int),M t.action] 137 (0,0)):=bA wr _;have hl:=z bE;have aKQ:=z adf;have sd:=z dT;have Tl:=z C1;have K2:=z e';go_wp2_with fail;refine ak hl.o ?_;rintro aO ⟨eC,hJ⟩;have eW:=z eC;have kx:=z (gz.o.trans (eH.after _ hJ));have js:=z ((eH.after _ hJ).kept _ _ _ _ ce.o Y Y Y Y);have ef:aO.cell? ⟨wr,1,none⟩=some (aA (t.mask:Int)):=aG (hJ.kept _ _ _ _ aKQ.o Y Y Y Y) 1;by_cases jx:t.mask=0
   ·have dT:=sd.o;rw[aF jx,qz]at dT;have hs:((t.mask:Int)==0)=true:=by rw[jx];rfl
    have sd:=z dT;go_wp2_with fail
    first|go_end0|refine cO (gq rfl _ _ _) rfl ?_
    exact⟨rfl,by rw[sd.o,<-gJ];exact eW.o,kx.o⟩
   ·have dT:=sd.o;rw[au jx]at dT;have hs:((t.mask:Int)==0)=false:=by rw[iH];omega
    have sd:=z dT;go_wp2_with fail;go_roundw
    case rel=>exact⟨k+1,pre++wH (bD.length+pre) t,aE,cZ,by rw[dA,K2.o];omega,by rw[sd.o,dA,K2.o,Nat.add_assoc],by rw[<-gJ];exact eW.o,kx.o,js.o⟩
    case measure=>exact eO
  ·obtain rfl:k=ts.length:=aE;have cY:wr.cell? ⟨W,2,none⟩=some (M x):=aG ce.o 2;have t0:oz bD ts x=pre++[ou x]:=by rw[arb.o,qy];rfl
   have aKR:=z t0;have C1:(bD++pre).length=bD.length+pre:=dA;have Tl:=z C1;go_wp2_with fail;refine ak (cu.lZ bY.o (by rw[Tl.o];omega) x) ?_;rintro aO ⟨eC,hJ⟩;have eW:=z eC;have kx:=z (gz.o.trans hJ);go_wp2_with fail
   first|go_end0|refine cO (gq rfl _ _ _) rfl ?_
   exact⟨rfl,by rw[aKR.o,<-gJ];exact eW.o,kx.o⟩
theorem awY(h:cu w0 B cj [] W)(a:Int)(ae:0<=a)(a9:a<6)(nt:Nat)(cn:cj nt):Calls prog 242 #[fE B,H a,fE nt] W λe F=>e=aI (bH #[])/\cu w0 B cj (ql (.lb nt) a) F/\eH W F:=by
 have bE:=λW=>L6 a W
 have fi:uK a=(iK a.toNat,0):=by unfold uK iK;rw[aF ⟨ae,a9⟩]
 rw[fi]at bE;dsimp only at bE;have dp:=h.label (H 0);have eC:=dp.1.label (H 0);rw[dR]at eC;have ft:=dp.2;have kj:=eC.2;have aK:nt≠W.heap.size:=λe=>ft (e▸cn)
 have aV:nt≠W.heap.size+1:=λe=>kj (.inl (e▸cn))
 have cC:W.heap.size+1≠W.heap.size:=aE;have cc:ql (.lb nt) a=[uy 4,gy 21 (iK a.toNat) (.pl 2) (.lb nt),uy 0]++if a=0 then [gy 69 1073741824 (.lb nt) (.pl 4)]else if a=2 then [gy 69 1073741824 (.pl 4) (.lb nt)]else []:=rfl
 rw[cc];clear cc;obtain⟨row,oR⟩:∃row,row=[uy 4,gy 21 (iK a.toNat) (.pl 2) (.lb nt),uy 0]++if a=0 then [gy 69 1073741824 (.lb nt) (.pl 4)]else if a=2 then [gy 69 1073741824 (.pl 4) (.lb nt)]else []:=⟨_,rfl⟩
 rw[<-oR];generalize iK a.toNat=tk at *;obtain⟨az,b7⟩:∃az,az=(W.alloc (J #[H 0] 339)).alloc (J #[H 0] 339):=⟨_,rfl⟩;have ki:eH W az:=by rw[b7];exact eH.mI (((O _).alloc _).alloc _)
 rw[<-b7]at eC;have sh:=z b7;have jp:=z eC.1;have rm:=z ft;have x3:=z kj;have hl:=z bE;have i':=z cn;clear bE cn;have aby:=z ki;have OY:=z oR;clear ki oR;have xx:=z aK;have tz:=z aV;clear aK aV b7 dp eC ft kj h fi;go_in;go_upto_region 1 with fail;rw[<-sh.o];go_wp2_with fail;refine ak (hl.o _) ?_;intro aO ag;have eW:=z (jp.o.ext ag);have kx:=z (aby.o.trans (eH.mI ag));clear ag;go_wp2_with fail;refine ak (cu.nC eW.o ay 4) ?_;rintro bj ⟨gj,qt⟩;have hC:=z gj;have un:=z (kx.o.trans qt);clear gj qt;go_wp2_with fail;refine ak (cu.j5 hC.o ay 21 tk W nt (.inl (.inr rfl)) (.inl (.inl i'.o))) ?_;rintro dC ⟨vx,AT⟩;have q6:=z vx;have HP:=z (un.o.trans AT);clear vx AT;go_wp2_with fail;refine ak (cu.iI q6.o (b:=W.heap.size) (.inl (.inr rfl))) ?_;rintro bQ ⟨i1,B9⟩;simp only[iq,gZ,fK,kE,bB.mp,kC,Option.map_none,Di,vK xx.o,dJ,fu]at i1;have ia:=z (i1.mono (vn:=λb=>cj b\/b=W.heap.size+1) (λb=>⟨λh=>by
  rcases h.1 with(h1|h1)|h1
  ·exact .inl h1
  ·exact absurd h1 h.2
  ·exact .inr h1,λh=>by
  rcases h with h1|h1
  ·exact⟨.inl (.inl h1),λe=>rm.o (e▸h1)⟩
  ·exact⟨.inr h1,aE⟩⟩))
 have HQ:=z (HP.o.trans B9);have s3:Hid (¬cj (W+1)):=z (λe=>x3.o (.inl e));go_wp2_with fail;refine ak (cu.nC ia.o ay 0) ?_;rintro cT ⟨ks,n7⟩;have vr:=z ks;have Er:=z (HQ.o.trans n7);by_cases Pi:a=0
 ·have hs:(a==0)=true:=by simpa using Pi
  have Pk:=z Pi;go_wp2_with fail;refine ak (cu.j5 vr.o ay 69 1073741824 nt (W+1) (.inl i'.o) (.inr rfl)) ?_;rintro dy ⟨tU,qn⟩;have oA:=z tU;have Es:=z (Er.o.trans qn);go_wp2_with fail;refine ak (cu.iI oA.o (b:=W.heap.size+1) (.inr rfl)) ?_;rintro hz ⟨mz,oy⟩;have ic:=K4 mz s3.o;simp only[iq,gZ,fK,kE,bB.mp,kC,Option.map_none,Di,vK tz.o,dJ,fu,Fy]at ic;have eb:=z ic;have yi:=z (Es.o.trans oy);go_wp2_with fail
  first|go_end0|refine cO (gq rfl _ _ _) rfl ?_
  exact⟨rfl,by rw[OY.o,aF Pk.o];exact eb.o,yi.o⟩
 ·have hs:(a==0)=false:=by simpa using Pi
  by_cases DX:a=2
  ·have dv:(a==2)=true:=by simpa using DX
   have Pk:=z Pi;have abz:=z DX;go_wp2_with fail;refine ak (cu.j5 vr.o ay 69 1073741824 (W+1) nt (.inr rfl) (.inl i'.o)) ?_;rintro dy ⟨tU,qn⟩;have oA:=z tU;have Es:=z (Er.o.trans qn);go_wp2_with fail;refine ak (cu.iI oA.o (b:=W.heap.size+1) (.inr rfl)) ?_;rintro hz ⟨mz,oy⟩;have ic:=K4 mz s3.o;simp only[iq,gZ,fK,kE,bB.mp,kC,Option.map_none,Di,vK tz.o,dJ,fu,Fy]at ic;have eb:=z ic;have yi:=z (Es.o.trans oy);go_wp2_with fail
   first|go_end0|refine cO (gq rfl _ _ _) rfl ?_
   exact⟨rfl,by rw[OY.o,au Pk.o,aF abz.o];exact eb.o,yi.o⟩
  ·have dv:(a==2)=false:=by simpa using DX
   have Pk:=z Pi;have abz:=z DX;go_wp2_with fail;refine ak (cu.iI vr.o (b:=W.heap.size+1) (.inr rfl)) ?_;rintro hz ⟨mz,oy⟩;have ic:=K4 mz s3.o;simp only[iq,gZ,fK,kE,bB.mp,kC,Option.map_none,vK tz.o,dJ,fu,Fy]at ic;have eb:=z ic;have yi:=z (Er.o.trans oy);go_wp2_with fail
   first|go_end0|refine cO (gq rfl _ _ _) rfl ?_
   exact⟨rfl,by rw[OY.o,au Pk.o,au abz.o,qz];exact eb.o,yi.o⟩
def Fz(o:Option Nat):List K:= [.pointer (o.map λb=>⟨b,0,none⟩)]
def MB(o:Option Nat):(Fz o).length=1:=rfl
def aw3(o:Option Nat):∀u∈Fz o,u.oneCell'=true:=by intro u a6;simp[Fz]at a6;subst a6;cases o<;>rfl
theorem agD:(Tryz.prog.info? 337).map (λi=>(i.zero,i.size,i.bytes))=some (some (aB none),1,8):=aj
def aet(n:Nat):(madeCells (Value.pointer none).cells (n*1)).toList=(List.replicate n (none:Option Nat)).flatMap Fz:=by
 rw[qA];apply List.ext_getElem?;intro i;rw[show((List.replicate n (none:Option Nat)).flatMap Fz)=List.replicate n (Value.pointer none)by
  induction n with
  |zero=>rfl
  |succ n b9=>rw[List.replicate_succ,sI,b9];rfl]
 unfold madeCells;by_cases h:i<n
 ·simp[h,Value.cells,Nat.mod_one]
 ·simp[h]
def nM(w:G)(base g:Nat)(ls:List (Option Nat))(c:Nat):Prop:=w.ownsRow base 337 1 (E (some g) ls c) ls (ls.flatMap Fz)
def nM.cell(h:nM w base g ls c)(j:Nat)(Z:j<ls):w.cell? ⟨g,j,none⟩=some (.pointer (ls[j].map λb=>⟨b,0,none⟩)):=by
 obtain⟨a,c',h1,h2,T,af⟩:=eD (n:=1) MB h;simp only[eZ]at h1;obtain⟨b,o,aV,k⟩:=af j Z;rw[<-h1.1]at aV;obtain⟨rfl,rfl⟩:g=b/\0=o:=by simpa using aV
 have:=k 0 (by simp[Fz]);rw[qA,gF]at this;exact this
def nM.typed(h:nM w base g ls c):∃bm,w.heap[g]?=some (J bm 337 (0,0)):=j7.jw h g rfl
def nM.frozen(h:nM w base g ls c)(j:Nat):w.frozen? ⟨g,j,none⟩=false/\g<w.heap.size:=by obtain⟨bm,ao⟩:=h.typed;exact⟨by simp[World.frozen?,ao],(dG.1 ao).1⟩
def nM.adN(h:nM w base g ls c)(j b:Nat)(Z:j<ls):nM (w.setCell ⟨g,j,none⟩ (fE b)) base g (ls.set j (some b)) c:=by have bU:=vD (e:=337) MB h j 0 (fE b) (some b) Z Y rfl;rw[qA,nO]at bU;unfold nM;rw[kD];exact bU.1
def nM.ext(h:nM w base g ls c)(D:Ext w F):nM F base g ls c:=j7.qj h D
def nM.wt(h:nM w base g ls c)(D:eH w F):nM F base g ls c:=by
 refine⟨h.1,?_⟩;rcases h.2 with⟨h2,-⟩|⟨dv,cap,bm,hv,T,af,r⟩
 ·cases h2
 ·exact .inr ⟨dv,cap,bm,hv,T,D.kept _ _ _ _ af Y Y Y Y,r⟩
def aKS{n:Nat}{v:K}{b3:List K}(h:w.ownsRow base e n v k b3)(D:eH w F)(h1:e≠407)(h2:e≠1)(T:e≠336)(af:e≠339):F.ownsRow base e n v k b3:=by
 refine⟨h.1,?_⟩;rcases h.2 with aQ|⟨dv,cap,bm,hv,a9,cF,r⟩
 ·exact .inl aQ
 ·exact .inr ⟨dv,cap,bm,hv,a9,D.kept _ _ _ _ cF h1 h2 T af,r⟩
def cu.labels{bD:List bB}(h:cu w0 B cj bD W)(D:Ext W aa)(eV:∀b,cy b->W.heap.size<=b/\∃u,Boxed aa b 339 u):cu w0 B (λb=>cj b\/cy b) bD aa:=by
 have h2:=h.ext D;obtain⟨v,ct,bZ,ab,Z⟩:=h.ex;refine⟨⟨v,ct,bZ,ab.kept D,?_⟩,λb V=> ?_⟩
 ·have:=iY.to (aa:=aa) (vn:=λb=>cj b\/cy b) (f:=λt=>t) (λ_=>rfl) (λt x an=>by
   cases t with
   |pl n=>exact⟨λho=>by
    rcases ho with ho|ho
    ·exact an.1 ho
    ·have:=an.2.lt;have:=(eV x ho).1;omega,hkb (fq.ext (aP:=λ_=>False) D) an.2 (λh=>h.elim)⟩
   |lb y=>exact⟨an.1,.inl an.2⟩) Z
  rwa [bB.map_id]at this
 ·rcases V with V|V
  ·exact h2.op b V
  ·obtain⟨T,af⟩:=eV b V;exact⟨cB ab.ext.size T,af⟩
def cu.olt{bD:List bB}(h:cu w0 B cj bD W)(V:cj b):b<W.heap.size:=by obtain⟨-,u,a6⟩:=h.op b V;exact a6.lt
open j7 (Test Rule Filter)
open vZ (may)
def wI(t:List eu)(pl:Nat->Nat)(e9 k i:Nat):dF:=match t[i]? with
 |some n=>if n.leaf=false/\i<k then .pl (e9+rank t i)else .lb (pl i)
 |none=> .lb (pl i)
def qx(t:List eu)(pl:Nat->Nat)(e9 k:Nat):List bB:=(if root t=true then [gy 5 0 (.lb (pl 0)) (.pl 0)]else [])++mg (wI t pl e9 k) (t.take k)
def abA(t:List eu)(pl:Nat->Nat)(e9 k:Nat):(qx t pl e9 k).length=rank t k:=by unfold qx rank mg;rw[dA,dL];split<;>rfl
def Us{aY ff:Nat->dF}{t r:List eu}(R:may t=true)(ab:∀n∈r,n∈t)(h:∀x,x<t.length->aY x=ff x):mg aY r=mg ff r:=by
 unfold mg;refine List.map_congr_left λn hn=> ?_
 obtain⟨h1,h2⟩:=List.mem_filter.1 hn;obtain⟨j,Z,rfl⟩:=List.mem_iff_getElem.1 (ab n h1);have X:t[j].leaf=false:=by unfold inner at h2;simpa using h2
 obtain⟨eN,fS,zv,up⟩:=vZ.Ea R Z X;rw[h _ aE,h _ aE]
def ard(f:dF->dF)(aY:Nat->dF)(r:List eu):(mg aY r).map (bB.mp f)=mg (λx=>f (aY x)) r:=by
 unfold mg;rw[List.map_map]
 rfl
def Pm{t:List eu}(h:i<t)(X:t[i].leaf=true):wI t pl e9 k i= .lb (pl i):=by unfold wI;rw[dK h];dsimp only;rw[au (by rw[X];simp)]
def K5{t:List eu}(h:i<t)(X:t[i].leaf=false)(hk:i<k):wI t pl e9 k i= .pl (e9+rank t i):=by unfold wI;rw[dK h];dsimp only;rw[aF ⟨X,hk⟩]
def Ij{t:List eu}(hk:k<=i):wI t pl e9 k i= .lb (pl i):=by
 unfold wI;cases t[i]? with
 |none=>rfl
 |some n=>dsimp only;rw[au aE]
def aKT{t:List eu}(R:may t=true)(hk:k<t)(X:t[k].leaf=false)(bO:∀i (h:i<t.length),(t[i].leaf=true\/k<i)->pl i≠pl k):(qx t pl e9 k).map (bB.mp (dF.res (pl k) (e9+rank t k)))++[gy 53 t[k].at_ (.lb (pl t[k].more.toNat)) (.lb (pl t[k].less.toNat))]=qx t pl e9 (k+1):=by
 have ac:0<t.length:=aE;unfold qx;rw[fQ,ard,abm _ _ _ hk,X,au (show¬(false=true)from Y)];have co:∀x,x<t.length->dF.res (pl k) (e9+rank t k) (wI t pl e9 k x)=wI t pl e9 (k+1) x:=λx D=>by
  cases mS:t[x].leaf
  ·rcases Nat.lt_trichotomy x k with h|h|h
   ·rw[K5 D mS h,K5 D mS aE];rfl
   ·subst h;rw[Ij (aZ _),K5 D mS aE,Di]
   ·rw[Ij aE,Ij aE,vK (bO x D (.inr h))]
  ·rw[Pm D mS,Pm D mS,vK (bO x D (.inl mS))]
 rw[Us (aY:=λx=>dF.res (pl k) (e9+rank t k) (wI t pl e9 k x)) (ff:=wI t pl e9 (k+1)) R (λn hn=>zT hn) co];obtain⟨eN,fS,zv,up⟩:=vZ.Ea R hk X;rw[Ij (by omega:k+1<=t[k].more.toNat),Ij (by omega:k+1<=t[k].less.toNat)];by_cases hr:root t=true
 ·rw[aF hr];have ae:t[0].leaf=true:=by rw[<-K3 ac];exact hr
  simp only[fK,kE,bB.mp,kC,vK (bO 0 ac (.inl ae)),Fy,gJ]
 ·rw[au hr];simp only[kE,iq]
def aKU{t:List eu}(R:may t=true)(hk:k<t)(X:t[k].leaf=true):qx t pl e9 (k+1)=qx t pl e9 k:=by
 unfold qx;rw[abm _ _ _ hk,X,aF rfl,qz];rw[Us (aY:=wI t pl e9 (k+1)) (ff:=wI t pl e9 k) R (λn hn=>zT hn) (λx D=>by
  cases mS:t[x].leaf
  ·rcases Nat.lt_trichotomy x k with h|h|h
   ·rw[K5 D mS h,K5 D mS aE]
   ·subst h;rw[X]at mS;cases mS
   ·rw[Ij aE,Ij aE]
  ·rw[Pm D mS,Pm D mS])]
def yS(t:List eu)(e9:Nat)(g:Nat->dF)(i:Nat):dF:=match t[i]? with
 |some n=>if n.leaf=true then g n.way.toNat else .pl (e9+rank t i)
 |none=> .pl 0
def Ut{t:List eu}{g:Nat->dF}(h:i<t)(X:t[i].leaf=true):yS t e9 g i=g t[i].way.toNat:=by unfold yS;rw[dK h];dsimp only;rw[aF X]
def abB{t:List eu}{g:Nat->dF}(h:i<t)(X:t[i].leaf=false):yS t e9 g i= .pl (e9+rank t i):=by unfold yS;rw[dK h];dsimp only;rw[au (by rw[X];decide)]
def arf{aY ff:Nat->dF}{t:List eu}(R:may t=true)(h:∀x,x<t.length->aY x=ff x):nL aY t=nL ff t:=by unfold nL;rw[Us R (λn hn=>hn) h,h 0 (vZ.BQ R)]
def aKV(f:dF->dF)(ai:f (.pl 0)= .pl 0)(aY:Nat->dF)(t:List eu):(nL aY t).map (bB.mp f)=nL (λx=>f (aY x)) t:=by
 unfold nL;rw[fQ,ard];split
 ·simp only[fK,kE,bB.mp,kC,ai]
 ·rfl
def aKW{t:List eu}{g:Nat->Nat}(R:may t=true)(h:∀i (h:i<t.length),t[i].leaf=true->pl i=g t[i].way.toNat):qx t pl e9 t.length=nL (yS t e9 λk=> .lb (g k)) t:=by
 have ac:=vZ.BQ R;unfold qx nL;rw[iR];have co:∀x,x<t.length->wI t pl e9 t x=yS t e9 (λk=> .lb (g k)) x:=λx D=>by
  cases X:t[x].leaf
  ·rw[K5 D X D,abB D X]
  ·rw[Pm D X,Ut D X,h x D X]
 rw[Us R (λn hn=>hn) co];by_cases hr:root t=true
 ·rw[aF hr,aF hr];have ae:t[0].leaf=true:=by rw[<-K3 ac];exact hr
  rw[Ut ac ae,h 0 ac ae]
 ·rw[au hr,au hr]
def abC{t:List eu}{g jX:Nat->dF}(R:may t=true)(h:∀i (h:i<t.length),t[i].leaf=true->dF.res b p (g t[i].way.toNat)=jX t[i].way.toNat):(nL (yS t e9 g) t).map (bB.mp (dF.res b p))=nL (yS t e9 jX) t:=by
 rw[aKV _ rfl];refine arf R λx D=> ?_
 cases X:t[x].leaf
 ·rw[abB D X,abB D X];rfl
 ·rw[Ut D X,Ut D X];exact h x D X
def arh(a:Int)(h:nt≠b):(ql (.lb nt) a).map (bB.mp (dF.res b p))=ql (.lb nt) a:=by
 unfold ql;rw[fQ];split
 ·simp only[fK,kE,bB.mp,kC,Option.map_none,vK h,Fy]
 ·split<;>simp only[fK,kE,bB.mp,kC,Option.map_none,vK h,Fy]
def aKX(nt p:Nat)(a:Int):(ql (.lb nt) a).map (bB.mp (dF.res nt p))=ql (.pl p) a:=by
 unfold ql;rw[fQ];split
 ·simp only[fK,kE,bB.mp,kC,Option.map_none,Di,Fy]
 ·split<;>simp only[fK,kE,bB.mp,kC,Option.map_none,Di,Fy]
def ari(b q p at_ m v e:Nat):(mO p at_ m v (.pl e)).map (bB.mp (dF.res b q))=mO p at_ m v (.pl e):=by
 unfold mO;split
 ·rfl
 ·split<;>rfl
def arj(b q:Nat):∀(ts:List Test)(x p:Nat),(oz p ts x).map (bB.mp (dF.res b q))=oz p ts x
 | [],_,_=>rfl
 |t::r,x,p=>by
  unfold oz wH;rw[fQ,fQ,fQ,ari,ari];split
  ·rfl
  ·rw[arj b q r];rfl
def abD(b q:Nat):∀(aN:List Rule)(p:Nat),(l9 p aN).map (bB.mp (dF.res b q))=l9 p aN
 | [],_=>rfl
 |r::l,p=>by unfold l9;rw[fQ,arj,abD b q l]
end le
def abE(h:S:=by rw[h.len];exact hk):S:=h
namespace le
open m9
open vZ (may oI yL nG Fu)
variable{P b base c k x:Nat}{W wr A4:G}{ls:List (Option Nat)}{pl:Nat->Nat}
structure uz(W wr:G)(base P c:Nat)(t:List eu)(gH:List Nat)(k:Nat)(ls:List (Option Nat))(pl:Nat->Nat):Prop where
 ext:Ext W wr
 len:ls.length=t
 row:nM wr base P ls c
 get:∀i,i<k->ls[i]?=some (some (pl i))
 leaf:∀i (h:i<t.length),i<k->t[i].leaf=true->pl i=gH.getD t[i].way.toNat 0
 inn:∀i (h:i<t.length),i<k->t[i].leaf=false->W.heap.size<=pl i/\∃u,Boxed wr (pl i) 339 u
 ris:∀i j (hi:i<t.length) (Z:j<t.length),i<j->j<k->t[i].leaf=false->t[j].leaf=false->pl i<pl j
def uz.to{t:List eu}{gH:List Nat}(h:uz W wr base P c t gH k ls pl)(D:Ext wr A4):uz W A4 base P c t gH k ls pl:=
 ⟨h.ext.trans D,h.len,h.row.ext D,h.get,h.leaf,λi hi hk X=>by obtain⟨h1,u,h2⟩:=h.inn i hi hk X;exact⟨h1,u,(D.block h2.lt).trans h2⟩,h.ris⟩
def uz.boxed{t:List eu}{gH:List Nat}{u v:K}(h:uz W wr base P c t gH k ls pl)(V:Boxed wr b 339 u):Boxed (wr.setCell ⟨P,x,none⟩ v) b 339 u:=by obtain⟨bm,ao⟩:=h.row.typed;refine(fI _ _ _ b (λe=> ?_)).trans V;have e:b=P:=e;subst e;have aV:=gL (ao.symm.trans V);simp only[vB]at aV;exact absurd aV.2.1 Y
def uz.pre{t:List eu}{gH:List Nat}(h:uz W wr base P c t gH k ls pl)(e1:W.heap.size<=P)(hk:k<t)(b:Nat):uz W (wr.setCell ⟨P,k,none⟩ (fE b)) base P c t gH k (ls.set k (some b)) pl:=
 ⟨h.ext.setCell e1 _,by rw[kD];exact h.len,h.row.adN k b abE,λi hi=>by rw[List.getElem?_set_ne aE];exact h.get i hi,h.leaf,λi hi oY X=>by obtain⟨h1,u,h2⟩:=h.inn i hi oY X;exact⟨h1,u,h.boxed h2⟩,h.ris⟩
def uz.step{t:List eu}{gH:List Nat}(h:uz W wr base P c t gH k ls pl)(e1:W.heap.size<=P)(hk:k<t)(b:Nat)(h1:t[k].leaf=true->b=gH.getD t[k].way.toNat 0)(h2:t[k].leaf=false->W.heap.size<=b/\(∃u,Boxed wr b 339 u)/\∀i (hi:i<t.length),i<k->t[i].leaf=false->pl i<b):uz W (wr.setCell ⟨P,k,none⟩ (fE b)) base P c t gH (k+1) (ls.set k (some b)) (λi=>if i=k then b else pl i):=
 ⟨h.ext.setCell e1 _,by rw[kD];exact h.len,h.row.adN k b abE,λi hi=>by
  try dsimp only
  by_cases e:i=k
  ·subst e;rw[aF rfl,List.getElem?_set_self abE]
  ·rw[au e,List.getElem?_set_ne aE];exact h.get i aE,λi hi abF X=>by
  try dsimp only
  by_cases e:i=k
  ·subst e;rw[aF rfl];exact h1 X
  ·rw[au e];exact h.leaf i hi aE X,λi hi abF X=>by
  try dsimp only
  by_cases e:i=k
  ·subst e;rw[aF rfl];obtain⟨eN,⟨u,fS⟩,-⟩:=h2 X;exact⟨eN,u,h.boxed fS⟩
  ·rw[au e];obtain⟨eN,u,fS⟩:=h.inn i hi aE X;exact⟨eN,u,h.boxed fS⟩,λi j hi Z ox lw X Q0=>by
  try dsimp only
  rw[au (show i≠k from aE)];by_cases e:j=k
  ·subst e;rw[aF rfl];exact(h2 Q0).2.2 i hi aE X
  ·rw[au e];exact h.ris i j hi Z ox aE X Q0⟩
def uz.rise{t:List eu}{gH:List Nat}(h:uz W wr base P c t gH k ls pl)(i:Nat)(hi:i<t)(hk:i<k)(X:t[i].leaf=false):pl i<wr.heap.size:=by obtain⟨-,u,h2⟩:=h.inn i hi hk X;exact h2.lt
def xC(t:List eu)(pl:Nat->Nat)(k b:Nat):Prop:= ∃i,∃hi:i<t.length,k<=i/\t[i].leaf=false/\b=pl i
def aKY{t:List eu}(hk:k<t)(X:t[k].leaf=true):xC t pl k b↔xC t pl (k+1) b:=
 ⟨λ⟨i,hi,h1,h2,T⟩=>⟨i,hi,(by
  rcases Nat.lt_or_eq_of_le h1 with h1|h1
  ·exact h1
  ·subst h1;rw[X]at h2;cases h2),h2,T⟩,λ⟨i,hi,h1,h2,T⟩=>⟨i,hi,aE,h2,T⟩⟩
def aKZ{t:List eu}{cj:Nat->Prop}(cn:¬cj (pl k))(bO:∀i,i<t.length->k<i->pl i≠pl k):((cj b\/xC t pl k b)/\b≠pl k)↔(cj b\/xC t pl (k+1) b):=by
 constructor
 ·rintro⟨h|⟨i,hi,h1,h2,T⟩,af⟩
  ·exact .inl h
  ·refine .inr ⟨i,hi,?_,h2,T⟩;rcases Nat.lt_or_eq_of_le h1 with h1|h1
   ·exact h1
   ·subst h1;exact absurd T af
 ·rintro(h|⟨i,hi,h1,h2,T⟩)
  ·exact⟨.inl h,λe=>cn (e▸h)⟩
  ·exact⟨.inr ⟨i,hi,aE,h2,T⟩,by rw[T];exact bO i hi aE⟩
def alt{t:List eu}:¬xC t pl t b:=λ⟨_,hi,h1,_⟩=>aE
end le
end Go.Proofs.YtopfefhenfineaaGreat
namespace Go.Proofs.YtopfefhenfineaaGreat
open Go.Proofs.Tryz Go.RowKit bh
attribute[local go_sem] Oper.semAt_some Option.isSome_some
variable{S:Prop}
def ark(h:S:=by rw[vo _ _ _ _ arl,b'];exact Ext.cell ((O _).alloc _) (aG (bA wr _) 0)):S:=h
def arn(h:S:=by
 go_wp2_with fail;go_roundw
 case rel=>exact⟨k+1,_,_,aE,cZ,jp.o⟩
 case measure=>exact eO):S:=h
def Uu(h:S:=by rw[cz.o.len];exact hi):S:=h
def arl(h:S:=by first|(simp;done)|(simp;omega)|omega):S:=h
namespace le
open m9
open vZ (may oI yL nG Fu)
def aro(wr:G)(o:Obj)(t:Nat)(v:K):Boxed ((wr.alloc o).alloc (J #[v] t)) (wr+1) t v:=by
 have:=Boxed.new (wr.alloc o) t v
 rwa [dR]at this
theorem axi{w0 W:G}{B:Nat}{cj:Nat->Prop}{bD:List bB}(h:cu w0 B cj bD W)(X:bD.length<=90000)(t:List eu)(R:may t=true)(e':t.length<=5000)(T2:K)(bt:Nat)(an:nG W bt T2 t)(gH:List Nat)(cn:∀b∈gH,cj b)(Fi g MA:Nat)(hg:nM W Fi g (gH.map some) MA)(bJ:∀n∈t,n.leaf=true->0<=n.way/\n.way.toNat<gH.length):Calls prog 245 #[fE B,T2,E (some g) gH MA] W λe F=>e=aI (bH #[])/\cu w0 B cj (bD++nL (yS t bD λk=> .lb (gH.getD k 0)) t) F/\eH W F:=by
 obtain⟨a,c,rfl,ep,hG⟩:=Fu an.rd;have ac:=vZ.BQ R;have To:=λj (Z:j<t.length) X=>vZ.Ea R Z X
 have arc:=λj (Z:j<gH.length)=>by have:=hg.cell j (by rw[dL];exact Z);rw[rQ]at this;exact this
 have w8:∀j (Z:j<t.length),t[j].leaf=true->∃(m:Nat) (R:m<gH),t[j].way=(m:Int)/\gH.getD t[j].way.toNat 0=gH[m]:=λj Z X=>by obtain⟨eN,fS⟩:=bJ _ (eB Z) X;refine⟨t[j].way.toNat,fS,aE,?_⟩;rw[kR,dK fS];rfl
 have are:∀b,cj b->b<W.heap.size:=λb V=>cu.olt h V
 obtain⟨hh,kw,nv,pw,hj⟩:=sJ agD;have bY:=z h;have I1:=z an;have adK:=z hg;clear an hg;have aK0:=z arc;have abG:=z w8;clear arc w8;have i':=z cn;have arm:=z are;clear cn are;have B6:=z hG;have aK1:=z To;have gl:=z R;clear hG To R bJ h;go_in;go_wp2_with(first
  |(at_make;refine wpList_make_full _ rfl _ _ 359 rfl W.heap.size 337 hh (aB none) 1 underlying359 kw nv pw _ _ _ _ t rfl rfl aE aE (by rw[hj];omega) y9 (aZ _) ?_;intro aO ym m4;have Hb:Ext W aO:=Ext.grown (O _) m4 (by intro k hk;cases hk)))
 rw[aet]at ym;have abH:uz W aO W W t t gH 0 (List.replicate t none) (λ_=>0):=
  ⟨Hb,zQ,by unfold nM;rw[zQ];exact ym,λi hi=>aE,λi _ hi=>aE,λi _ hi=>aE,λi j _ _ _ Z=>aE⟩
 obtain⟨P,T3⟩:∃P,P=W.heap.size:=⟨_,rfl⟩;rw[<-T3]at abH;rw[<-T3];have arp:uz W aO P P t t gH 0 (List.replicate t none) (λ_=>0):=abH;clear ym m4 Hb abH;have aK2:=z arp;have amp:W.heap.size<=P:=aE;have aQm:=z T3;clear arp T3;go_loopw [16] (λi wr=>∃(k:Nat) (ls:List (Option Nat)) (pl:Nat->Nat),k<=t/\i=H k/\uz W wr P P t t gH k ls pl) (λi _=>t.length-(intOf i).toNat)
 case atStart=>exact⟨0,_,_,aE,rfl,aK2.o⟩
 case round=>
  obtain⟨k,ls,pl,hk,rfl,arq⟩:=hrel;have cz:=z arq;clear arq;by_cases ad:k<t
  ·obtain⟨b,o,rfl,n1,n2,n3,n4,n5⟩:=B6.o k ad;replace n1:=cz.o.ext.cell n1;replace n2:=cz.o.ext.cell n2;replace n3:=cz.o.ext.cell n3;replace n4:=cz.o.ext.cell n4;replace n5:=cz.o.ext.cell n5;have AE:=abG.o k ad;obtain⟨-,ars⟩:=nM.frozen cz.o.row k;have v8:∀lf:Bool,t[k].leaf=lf->∃a8,a8=(wr.alloc (J #[av lf,H t[k].way,M (t[k].at_:Int),H t[k].less,H t[k].more] 422)).alloc (J #[H 0] 339):=λ_ _=>⟨_,rfl⟩
   cases pZ:t[k].leaf
   case false=>
    obtain⟨a8,b'⟩:=v8 _ pZ;rw[pZ]at n1;have Pl:Ext wr a8:=by rw[b'];exact((O wr).alloc _).alloc _
    have zO:=cz.o.to Pl;obtain⟨cf,abI⟩:=nM.frozen zO.row k;obtain⟨ti,mi⟩:∃v,a8.cell? ⟨P,k,none⟩=some v:=⟨_,zO.row.cell k (by rw[zO.len];exact ad)⟩;have hx:Boxed a8 (wr+1) 339 (H 0):=by rw[b'];exact aro wr _ _ _
    have e3:(a8.setCell ⟨P,k,none⟩ (aB (some ⟨wr+1,0,none⟩))).cell? wr=some (av false):=ark
    have hS:=zO.step amp ad (wr+1) (λe=>by rw[pZ]at e;cases e) (λ_=>⟨by have:=cz.o.ext.size;omega,⟨_,hx⟩,λi hi abF X=>by have:=cz.o.rise i hi abF X;omega⟩);unfold fE at hS;have jp:=z hS;rw[b']at cf mi abI;have h':=z b';clear hS hx b' zO Pl v8 ars;go_upto_region 5 with fail;rw[<-h'.o];exact arn
   case true=>
    obtain⟨m,pk,Tr,jV⟩:=AE pZ;have MA:=aK0.o m pk;obtain⟨a8,b'⟩:=v8 _ pZ;rw[pZ]at n1;rw[Tr]at n2 b';have Pl:Ext wr a8:=by rw[b'];exact((O wr).alloc _).alloc _
    have zO:=cz.o.to Pl;obtain⟨cf,abI⟩:=nM.frozen zO.row k;obtain⟨ti,mi⟩:∃v,a8.cell? ⟨P,k,none⟩=some v:=⟨_,zO.row.cell k (by rw[zO.len];exact ad)⟩;have zz:=zO.pre amp ad (wr+1);have e3:(a8.setCell ⟨P,k,none⟩ (aB (some ⟨wr+1,0,none⟩))).cell? wr=some (av true):=ark
    have ef:(a8.setCell ⟨P,k,none⟩ (aB (some ⟨wr+1,0,none⟩))).cell? ⟨wr,1,none⟩=some (H m):=by rw[vo _ _ _ _ arl,b'];exact Ext.cell ((O _).alloc _) (aG (bA wr _) 1)
    unfold fE at zz;have aQn:=zz.ext.cell MA;have aQo:=(nM.frozen zz.row k).1;obtain⟨aQp,aQq⟩:∃v,(a8.setCell ⟨P,k,none⟩ (aB (some ⟨wr+1,0,none⟩))).cell? ⟨P,k,none⟩=some v:=⟨_,zz.row.cell k (by rw[zz.len];exact ad)⟩;have hS:=zz.step amp ad gH[m] (λ_=>jV.symm) (λe=>by rw[pZ]at e;cases e);unfold fE at hS;have jp:=z hS;rw[b']at cf mi abI;have h':=z b';have jx:(0:Int)<=m/\(m:Int)<gH:=aE;clear hS b' zz zO Pl v8 ars;go_upto_region 5 with fail;rw[<-h'.o];generalize a8.setCell ⟨P,k,none⟩ (aB (some ⟨wr+1,0,none⟩))=cd at *;exact arn
  ·obtain rfl:k=t.length:=aE;generalize wr=A5 at *;have eV:∀b,xC t pl 0 b->W.heap.size<=b/\∃u,Boxed A5 b 339 u:=by rintro b ⟨i,hi,-,pZ,rfl⟩;exact cz.o.inn i hi hi pZ
   have Fh:=cu.labels (cy:=λb=>xC t pl 0 b) bY.o cz.o.ext eV;have bO:∀i (hi:i<t.length) k (hk:k<t.length),t[k].leaf=false->(t[i].leaf=true\/k<i)->pl i≠pl k:=λi hi k hk i0 D e=>by
    have h1:=(cz.o.inn k hk hk i0).1;cases C5:t[i].leaf
    ·rcases D with D|D
     ·rw[C5]at D;cases D
     ·have:=cz.o.ris k i hk hi D hi i0 C5;omega
    ·obtain⟨m,pk,-,jV⟩:=abG.o i hi C5;have h2:=cz.o.leaf i hi hi C5;rw[jV]at h2;have:=arm.o _ (i'.o _ (eB pk));omega
   have oR:∀i (hi:i<t.length),A5.cell? ⟨P,i,none⟩=some (fE (pl i)):=λi hi=>by have h1:=cz.o.row.cell i Uu;have h2:=cz.o.get i hi;rw[dK Uu]at h2;rw[h1,gL h2];rfl
   obtain⟨b,o,rfl,n1,-,-,-,-⟩:=B6.o 0 ac;have art:∀xv,eH A5 xv->∀i (hi:i<t.length),xv.cell? ⟨b,o+i*5,none⟩=some (av t[i].leaf)/\xv.cell? ⟨b,o+i*5+1,none⟩=some (H t[i].way)/\xv.cell? ⟨b,o+i*5+2,none⟩=some (M (t[i].at_:Int))/\xv.cell? ⟨b,o+i*5+3,none⟩=some (H t[i].less)/\xv.cell? ⟨b,o+i*5+4,none⟩=some (H t[i].more):=λxv bJ i hi=>by
    have h1:nG xv bt (E (some ⟨b,o,none⟩) t c) t:=aKS (I1.o.ext cz.o.ext) bJ Y Y Y Y;obtain⟨bu,c',e,-,h2⟩:=Fu h1.rd;simp only[eZ]at e;obtain⟨e4,fe,aV,T⟩:=h2 i hi;rw[<-e.1]at aV;obtain⟨rfl,rfl⟩:b=e4/\o=fe:=by simpa using aV
    exact T
   have abJ:∀xv,eH A5 xv->∀i (hi:i<t.length),xv.cell? ⟨P,i,none⟩=some (aB (some ⟨pl i,0,none⟩)):=λxv bJ i hi=>by have h1:=(cz.o.row.wt bJ).cell i Uu;have h2:=cz.o.get i hi;rw[dK Uu]at h2;rw[h1,gL h2];rfl
   rw[Nat.zero_mul,nO]at n1;replace n1:=cz.o.ext.cell n1;have r0:=abJ A5 (eH.refl A5) 0 ac;have sz:=K3 ac;have m6:qx t pl bD 0=if root t=true then [gy 5 0 (.lb (pl 0)) (.pl 0)]else []:=by unfold qx mg;simp
   have ey:=λk=> @abA t pl bD k
   have Eu:∀k,k<=t.length->rank t k<=5001:=λk hk=>by have:=DC (t:=t) hk;have:=abj t;omega
   have aru:∀i (hi:i<t.length),t[i].leaf=true->cj (pl i):=λi hi C5=>by obtain⟨m,pk,-,jV⟩:=abG.o i hi C5;rw[cz.o.leaf i hi hi C5,jV];exact i'.o _ (eB pk)
   have aK3:=z art;have abK:=z abJ;clear art abJ;have aQr:=z ey;have aK4:=z Eu;clear ey Eu;have arv:=z aru;have El:=z bO;clear aru bO;have arw:=z Fh;have OY:=z oR;clear Fh oR;have R0:=z (eH.refl A5);clear eV;cases pZ:t[0].leaf
   focus
    rw[pZ]at n1 sz;have k2:qx t pl bD 0=[]:=by rw[m6,sz];rfl
    have jp:Hid (cu w0 B (λb=>cj b\/xC t pl 0 b) (bD++qx t pl bD 0) A5):=z (by rw[k2,qz];exact arw.o);have DB:=z (eH.refl A5);clear m6 k2 sz;go_wp2_with fail
   rotate_left 1
   focus
    rw[pZ]at n1 sz;have k2:qx t pl bD 0=[gy 5 0 (.lb (pl 0)) (.pl 0)]:=by rw[m6,sz];rfl
    have pB:=z k2;have aK5:=z (arv.o 0 ac pZ);clear m6 k2 sz;go_wp2_with fail;refine ak (cu.aeQ arw.o aE 0 (pl 0) (.inl aK5.o)) ?_;rintro az ⟨dp,ki⟩;have jp:Hid (cu w0 B (λb=>cj b\/xC t pl 0 b) (bD++qx t pl bD 0) az):=z (by rw[pB.o];exact dp);have DB:=z ki;clear dp ki;go_wp2_with fail
   all_goals
    go_loopw [48] (λi wr=>∃k:Nat,k<=t/\i=H k/\cu w0 B (λb=>cj b\/xC t pl k b) (bD++qx t pl bD k) wr/\eH A5 wr) (λi _=>t.length-(intOf i).toNat)
    case atStart=>exact⟨0,aE,rfl,jp.o,DB.o⟩
    case round=>
     obtain⟨k,hk,rfl,ab,w8⟩:=hrel;have eW:=z ab;have kx:=z w8;clear ab w8 jp DB;by_cases ad:k<t
     ·obtain⟨n1,n2,n3,n4,n5⟩:=aK3.o wr kx.o k ad;cases i0:t[k].leaf
      case true=>
       rw[i0]at n1;have yo:=aKU (pl:=pl) (e9:=bD.length) gl.o ad i0;have g0:=(eW.o.ext ((O wr).alloc (J #[av true,H t[k].way,M (t[k].at_:Int),H t[k].less,H t[k].more] 422)));rw[<-yo]at g0;have gj:=g0.mono (vn:=λb=>cj b\/xC t pl (k+1) b) (λb=>or_congr Iff.rfl (aKY ad i0));have hC:=z gj;have un:=z (kx.o.trans (eH.mI ((O wr).alloc (J #[av true,H t[k].way,M (t[k].at_:Int),H t[k].less,H t[k].more] 422))));clear g0 gj yo;go_wp2_with fail;go_roundw
       case rel=>exact⟨k+1,aE,cZ,hC.o,un.o⟩
       case measure=>simp[intOf];omega
      case false=>
       rw[i0]at n1;obtain⟨eN,fS,zv,up⟩:=aK1.o k ad i0;obtain⟨sb,Fo,aK6⟩:∃x:Nat,t[k].less=(x:Int)/\t[k].less.toNat=x:=⟨t[k].less.toNat,aE,rfl⟩;obtain⟨Fr,aK7,aK8⟩:∃x:Nat,t[k].more=(x:Int)/\t[k].more.toNat=x:=⟨t[k].more.toNat,aE,rfl⟩;rw[Fo]at n4 eN zv;rw[aK7]at n5 fS up;have tB:sb<t.length:=aE;have o':Fr<t.length:=aE;have arx:¬cj (pl k):=λho=>by have:=arm.o _ ho;have:=(cz.o.inn k ad ad i0).1;omega
       have GE:=aKT (pl:=pl) (e9:=bD.length) gl.o ad i0 (λi hi D=>El.o i hi k ad i0 D);rw[aK6,aK8]at GE;have Pn:∀x,k<x->x<t.length->cj (pl x)\/xC t pl (k+1) (pl x):=λx D xn=>by
        cases mS:t[x].leaf
        ·exact .inr ⟨x,xn,aE,mS,rfl⟩
        ·exact .inl (arv.o x xn mS)
       have ary:=Pn sb aE tB;have rg:=Pn Fr aE o';have V:(λb=>cj b\/xC t pl k b) (pl k):= .inr ⟨k,ad,aZ _,i0,rfl⟩;have arz:=cu.iI (eW.o.ext ((O wr).alloc (J #[av false,H t[k].way,M (t[k].at_:Int),H sb,H Fr] 422))) V;have pH:=bA wr (J #[av false,H t[k].way,M (t[k].at_:Int),H sb,H Fr] 422);have gi:=eH.mI ((O wr).alloc (J #[av false,H t[k].way,M (t[k].at_:Int),H sb,H Fr] 422));have IN:=abK.o _ (kx.o.trans gi) k ad;have rI:(bD++qx t pl bD k).map (bB.mp (dF.res (pl k) (bD++qx t pl bD k).length))=bD++(qx t pl bD k).map (bB.mp (dF.res (pl k) (bD.length+rank t k))):=by rw[fQ,Ui bY.o arx,dA,abA]
       have BB:=λb=>aKZ (t:=t) (pl:=pl) (k:=k) (b:=b) arx (λi hi D=>El.o i hi k ad i0 (.inr D))
       have uc:(bD++(qx t pl bD k).map (bB.mp (dF.res (pl k) (bD.length+rank t k)))).length<=96000:=by rw[dA,dL,abA];have:=aK4.o k aE;omega
       have aK9:=z arz;have aLa:=z pH;clear arz pH;have aLb:=z rI;have aLc:=z BB;clear rI BB;have Pe:=z uc;have aLd:=z gi;clear uc gi;have W8:=z GE;have aLe:=z ary;have KK:=z rg;clear GE ary rg Pn V;go_wp2_with fail;refine ak aK9.o ?_;rintro aO ⟨eC,hJ⟩;have abL:=eC.mono aLc.o;rw[aLb.o]at abL;have hC:=z abL;have un:=z (kx.o.trans (aLd.o.trans hJ));have k6:=hJ.kept _ _ _ _ aLa.o Y Y Y Y;have cY:aO.cell? ⟨wr,2,none⟩=some (M (t[k].at_:Int)):=aG k6 2;have eh:aO.cell? ⟨wr,3,none⟩=some (H sb):=aG k6 3;have hL:aO.cell? ⟨wr,4,none⟩=some (H Fr):=aG k6 4;have et:=abK.o _ un.o sb tB;have fp:=abK.o _ un.o Fr o';clear eC abL hJ k6;go_wp2_with fail;go_still_tail 13,aj
       change wpList _ _ _ _ _ aO.drew
       have q6:=z (hC.o.ext ((O aO).drew));have HP:=z (un.o.trans (eH.mI ((O aO).drew)));replace cY:=((O aO).drew).cell cY;replace eh:=((O aO).drew).cell eh;replace hL:=((O aO).drew).cell hL;replace et:=((O aO).drew).cell et;replace fp:=((O aO).drew).cell fp;generalize aO.drew=dC at *;go_wp2_with fail;refine ak (cu.j5 q6.o (by have:=Pe.o;omega) 53 t[k].at_ (pl Fr) (pl sb) KK.o aLe.o) ?_;rintro bQ ⟨i1,B9⟩;have Ja:=i1;rw[gJ,W8.o]at Ja;have ia:=z Ja;have HQ:=z (HP.o.trans B9);clear i1 Ja B9;go_wp2_with fail;go_roundw
       case rel=>exact⟨k+1,aE,cZ,ia.o,HQ.o⟩
       case measure=>simp[intOf];omega
     ·obtain rfl:k=t.length:=aE;have t0:=eW.o.mono (vn:=cj) (λb=>⟨λh=>h.elim id (λh=>absurd h alt),.inl⟩);rw[aKW (g:=λk=>gH.getD k 0) gl.o (λi hi C5=>cz.o.leaf i hi hi C5)]at t0;have eb:=z t0;have aLf:=z ((eH.mI cz.o.ext).trans kx.o);clear t0;go_wp2_with fail
      first|go_end0|refine cO (gq rfl _ _ _) rfl ?_
      exact⟨rfl,eb.o,aLf.o⟩
end le
end Go.Proofs.YtopfefhenfineaaGreat
namespace Go.Proofs.YtopfefhenfineaaGreat
open Go.Proofs.Tryz Go.RowKit bh
variable{S:Prop}
def arA(h:S:=by rw[<-e,Array.toArray_toList,zQ]at h;unfold je;rw[zQ,<-e];exact h):S:=h
namespace le
open m9
open j7 (Test Rule Filter)
open Co (fV pO)
variable{dj sf w F I wr A4:G}{b e4 base c e g jX me j k:Nat}{u v:K}{ys:List Int}{α:Type}{enc:α->List K}{A:List α}
def qD(n:Nat):(fV n).length=1:=rfl
def En(n:Int):(pO n).length=1:=rfl
theorem awU:(Tryz.prog.info? 32).map (λi=>(i.zero,i.size,i.bytes))=some (some (M 0),1,4):=aj
theorem awW:(Tryz.prog.info? 3).map (λi=>(i.zero,i.size,i.bytes))=some (some (H 0),1,8):=aj
def IV(aR:K)(bL:aR.cells= #[aR])(enc:α->List K)(x:α)(bx:enc x=[aR])(n:Nat):(madeCells aR.cells (n*1)).toList=(List.replicate n x).flatMap enc:=by
 rw[qA];apply List.ext_getElem?;intro i;rw[show((List.replicate n x).flatMap enc)=List.replicate n aR by
  induction n with
  |zero=>rfl
  |succ n b9=>rw[List.replicate_succ,sI,b9,bx];rfl]
 rw[bL];unfold madeCells;by_cases h:i<n
 ·simp[h,Nat.mod_one]
 ·simp[h]
def je(w:G)(base e g:Nat)(enc:α->List K)(A:List α)(c:Nat):Prop:=w.ownsRow base e 1 (E (some g) A c) A (A.flatMap enc)
def je.cell(h:je w base e g enc A c)(bx:∀x,(enc x).length=1)(j:Nat)(Z:j<A):∃u,w.cell? ⟨g,j,none⟩=some u:=by
 obtain⟨a,c',h1,h2,T,af⟩:=eD (n:=1) bx h;simp only[eZ]at h1;obtain⟨b,o,aV,k⟩:=af j Z;rw[<-h1.1]at aV;obtain⟨rfl,rfl⟩:g=b/\0=o:=by simpa using aV
 have:=k 0 (by rw[bx];omega);rw[qA,gF]at this;exact⟨_,this⟩
def je.frozen(h:je w base e g enc A c)(j:Nat):w.frozen? ⟨g,j,none⟩=false/\g<w.heap.size:=by obtain⟨bm,ao⟩:=j7.jw h g rfl;exact⟨by simp[World.frozen?,ao],(dG.1 ao).1⟩
def je.adN(h:je w base e g enc A c)(bx:∀x,(enc x).length=1)(j:Nat)(y:α)(u:K)(a6:enc y=[u])(Z:j<A):je (w.setCell ⟨g,j,none⟩ u) base e g enc (A.set j y) c:=by
 have bU:=vD (e:=e) bx h j 0 u y Z Y (by
  have h2:=bx A[j];rw[a6]
  match D:enc A[j]with
  | [a]=>rfl
  | []=>rw[D]at h2;cases h2
  |a::b::l=>rw[D]at h2;simp at h2)
 rw[qA,nO]at bU;unfold je;rw[kD];exact bU.1
def je.far{e:Nat}(h:je w base e g enc A c)(hg:jX≠g)(j:Nat)(u:K):je (w.setCell ⟨jX,j,none⟩ u) base e g enc A c:=ownsRow_setCell_other (a:=⟨jX,j,none⟩) h (λe=>hg (by simpa[Value.ownBlock]using e.symm)) u
def je.ext(h:je w base e g enc A c)(D:Ext w F):je F base e g enc A c:=j7.qj h D
def fl(A:List α)(aR:α)(k:Nat):List α:=A.take k++List.replicate (A-k) aR
def agy(A:List α)(aR:α)(h:k<=A):(fl A aR k).length=A.length:=by unfold fl;simp;omega
def agu(A:List α)(aR:α):fl A aR 0=List.replicate A aR:=rfl
def agG(A:List α)(aR:α):fl A aR A.length=A:=by unfold fl;simp
def agB(A:List α)(aR:α)(h:k<A):(fl A aR k).set k A[k]=fl A aR (k+1):=by
 unfold fl;have e:(A.take k).length=k:=by simp;omega
 rw[List.set_append_right _ _ aE,e,Nat.sub_self,show A.length-k=(A.length-(k+1))+1 from aE,List.replicate_succ,List.set_cons_zero,mh h,gJ]
 rfl
structure LL(dj wr:G)(gH:List Nat):Prop where
 nd:gH.Nodup
 each:∀b∈gH,dj.heap.size<=b/\∃u,Boxed wr b 339 u
def LL.ext{gH:List Nat}(h:LL dj wr gH)(D:Ext wr A4):LL dj A4 gH:=⟨h.nd,λb V=>by obtain⟨h1,u,h2⟩:=h.each b V;exact⟨h1,u,(D.block h2.lt).trans h2⟩⟩
def LL.keep{gH:List Nat}(h:LL dj wr gH)(hk:∀b u,Boxed wr b 339 u->Boxed A4 b 339 u):LL dj A4 gH:=⟨h.nd,λb V=>by obtain⟨h1,u,h2⟩:=h.each b V;exact⟨h1,u,hk b u h2⟩⟩
def LL.add{gH:List Nat}(h:LL dj wr gH)(D:Ext wr A4)(h1:dj.heap.size<=b)(h2:wr.heap.size<=b)(T:Boxed A4 b 339 u):LL dj A4 (gH++[b]):=
 ⟨List.nodup_append.2 ⟨h.nd,ay,λx qi y bN e=>by
  simp at bN;obtain⟨-,v,aQ⟩:=h.each x qi;have:=aQ.lt;omega⟩,λx qi=>by
  rcases iZ.1 qi with qi|qi
  ·exact(h.ext D).each x qi
  ·simp at qi;subst qi;exact⟨h1,u,T⟩⟩
def arB(h:je w base e g enc A c)(bx:e≠339)(V:Boxed w b 339 u):Boxed (w.setCell ⟨g,j,none⟩ v) b 339 u:=by obtain⟨bm,ao⟩:=j7.jw h g rfl;refine(fI _ _ _ b (λcU=> ?_)).trans V;have cU:b=g:=cU;subst cU;have aV:=gL (ao.symm.trans V);simp only[vB]at aV;exact bx aV.2.1
def agn(W:G)(n base:Nat)(hn:n<=400)(V:base<=W.heap.size):je (W.alloc (J (madeCells #[Value.int .u32 0] n) 32)) base 32 W fV (List.replicate n 0) n:=by have e:=IV (Value.int .u32 0) rfl fV 0 rfl n;rw[qA]at e;have h:=qQ qD W (List.replicate n 0) 32 W base rfl V (by simp[maxLen];omega);exact arA
def agm(W:G)(n base:Nat)(hn:n<=400)(V:base<=W.heap.size):je (W.alloc (J (madeCells #[Value.int .i64 0] n) 3)) base 3 W pO (List.replicate n 0) n:=by have e:=IV (Value.int .i64 0) rfl pO 0 rfl n;rw[qA]at e;have h:=qQ En W (List.replicate n 0) 3 W base rfl V (by simp[maxLen];omega);exact arA
def pQ(w:G)(base:Nat)(v:K)(gH:List Nat):Prop:=w.ownsRow base 337 1 v (gH.map some).length ((gH.map some).flatMap Fz)
def pQ.ext{gH:List Nat}(h:pQ w base v gH)(D:Ext w F):pQ F base v gH:=j7.qj h D
def pQ.far{gH:List Nat}(h:pQ w base v gH)(h1:je w e4 e g enc A c)(bx:e≠337):pQ (w.setCell ⟨g,j,none⟩ u) base v gH:=ownsRow_setCell_other (a:=⟨g,j,none⟩) h (λcU=>J5 h1 h bx g rfl cU.symm) u
def pQ.one(w:G)(b base:Nat)(V:base<=w.heap.size):pQ (w.alloc (J #[aB (some b)] 337)) base (E (some w) 1 1) [b]:=qQ MB w [some b] 337 w base rfl V (by simp[maxLen])
def pQ.lp{gH:List Nat}(h:pQ w base v gH)(ac:0<gH.length):∃g c,v=E (some ⟨g,0,none⟩) gH c/\nM w base g (gH.map some) c:=by obtain⟨g,c,rfl,-⟩:=zV h (by rw[dL];exact ac);exact⟨g,c,by rw[dL],h⟩
def pQ.ne{gH:List Nat}(h:pQ w base v gH)(V:Boxed w b 339 u):(some b:Option Nat)≠v.ownBlock:=λe=>by obtain⟨bm,ao⟩:=j7.jw h b e.symm;have aV:=gL (ao.symm.trans V);simp only[vB]at aV;exact absurd aV.2.1 Y
def aw0{kL n:Nat}{A:List Nat}{gH:List Nat}(nr:Nat)(kk:Int)(mc lit:Obj)(D:Ext I wr)(eV:je wr I 32 me fV A n)(cJ:je wr I 3 kL pO ys n)(bO:me≠kL)(h1:I.heap.size<=me)(h2:I.heap.size<=kL)(da:LL I wr gH)(bd:pQ wr I v gH)(hk:k<A)(qT:k<ys):let sf:=(((((wr.setCell ⟨me,k,none⟩ (M nr)).setCell ⟨kL,k,none⟩ (H kk)).alloc mc).alloc (J #[H 0] 339)).alloc lit)
 Ext I sf/\je sf I 32 me fV (A.set k nr) n/\je sf I 3 kL pO (ys.set k kk) n/\LL I sf (gH++[wr.heap.size+1])/\pQ sf I v gH:=by
 intro sf;have aLg:je (wr.setCell ⟨me,k,none⟩ (M nr)) I 32 me fV (A.set k nr) n:=eV.adN qD k nr _ rfl hk;have abM:je (wr.setCell ⟨me,k,none⟩ (M nr)) I 3 kL pO ys n:=cJ.far bO k _;have aLh:pQ (wr.setCell ⟨me,k,none⟩ (M nr)) I v gH:=bd.far eV Y;have aLi:LL I (wr.setCell ⟨me,k,none⟩ (M nr)) gH:=da.keep λb u V=>arB eV Y V
 have nU:Ext I (wr.setCell ⟨me,k,none⟩ (M nr)):=D.setCell h1 _;have Pn:=aLg.far (j:=k) (λe=>bO e.symm) (H kk);have aLj:=abM.adN En k kk (H kk) rfl qT;have afj:=aLh.far (j:=k) (u:=H kk) abM Y;have GA:LL I _ gH:=aLi.keep λb u V=>arB (j:=k) (v:=H kk) abM Y V
 have ak6:=nU.setCell (p:=⟨kL,k,none⟩) h2 (H kk);have ci:((wr.setCell ⟨me,k,none⟩ (M nr)).setCell ⟨kL,k,none⟩ (H kk)).heap.size=wr.heap.size:=by rw[size_set,size_set]
 have cA:Ext ((wr.setCell ⟨me,k,none⟩ (M nr)).setCell ⟨kL,k,none⟩ (H kk)) sf:=(((O _).alloc _).alloc _).alloc _;have pT:=aro ((wr.setCell ⟨me,k,none⟩ (M nr)).setCell ⟨kL,k,none⟩ (H kk)) mc 339 (H 0);rw[ci]at pT;have Sb:Boxed sf (wr+1) 339 (H 0):=aJ pT ((O _).alloc lit);exact⟨ak6.trans cA,Pn.ext cA,aLj.ext cA,GA.add cA (by have:=D.size;omega) (by rw[ci];omega) Sb,afj.ext cA⟩
def aw4{kL n:Nat}{A:List Nat}{gH l2:List Nat}(D:Ext I sf)(eV:je sf I 32 me fV A n)(cJ:je sf I 3 kL pO ys n)(da:LL I sf l2)(bd:pQ sf I v gH)(hg:sf.grownBy F v.ownBlock):Ext I F/\je F I 32 me fV A n/\je F I 3 kL pO ys n/\LL I F l2:=
 ⟨D.grown hg (λk e=>(bd.lt k e).1),J6 eV hg (J5 eV bd Y),J6 cJ hg (J5 cJ bd Y),da.keep λb u V=>(hg.block b V.lt (bd.ne V)).trans V⟩
end le
def arC(h:S:=by
 unfold gN;have:=abj t;have:=bE.len;have:jg f.i6<=5:=by unfold jg;split<;>omega
 omega):S:=h
namespace le
open m9
open j7 (Test Rule Filter eT)
open Co (Span Dz fV pO chain whole uV)
open vZ (may Dg)
variable{f:Filter}{k m nt p v:Nat}{fk:Nat->Nat}
def arD:∀ {A:List Span} {a m:Nat},chain A a=some m->a<=m/\∀s∈A,s.lo<=s.hi/\s.hi<m
 | [],a,m,h=>⟨by simp[chain]at h;omega,λs ab=>by cases ab⟩
 |s::r,a,m,h=>by
  obtain⟨h1,h2,T⟩:=Co.mM h;obtain⟨af,aQ⟩:=arD T;refine⟨aE,λx D=> ?_⟩;rcases iA.1 D with rfl|D
  ·exact⟨h2,aE⟩
  ·exact aQ x D
def agI(R:eT f=true)(hn:∀r∈f.rules,r.nr<4294967296):∀s∈qZ f,Dz s:=λs ab=>by obtain⟨-,h2,-,af,-⟩:=AP R hn;obtain⟨-,-,aQ,-⟩:=xY R;obtain⟨a9,cF⟩:=(arD ((Co.uR _).1 h2)).2 s ab;obtain⟨eA,kv⟩:=af s ab;exact⟨aE,aE,aE,aE⟩
def axa(R:eT f=true)(hn:∀r∈f.rules,r.nr<4294967296):uV (lG f) (nH f) 0=(qZ f,0):=by
 obtain⟨h1,-⟩:=AP R hn;unfold uV;rw[aF ⟨by rw[uO,zl],h1⟩]
 rfl
def axb(R:eT f=true)(hn:∀r∈f.rules,r.nr<4294967296):Dg (qZ f)=(iF f,0):=by
 obtain⟨-,h2,-⟩:=AP R hn;unfold Dg;rw[aF h2]
 rfl
def row0(f:Filter)(t:List eu)(nt:Nat)(fk:Nat->Nat):List bB:=ql (.lb nt) f.i6++nL (yS t (jg f.i6) λj=> .lb (fk j)) t
def zm(f:Filter)(t:List eu)(nt:Nat)(fk:Nat->Nat)(k:Nat):List bB:=ql (.lb nt) f.i6++(nL (yS t (jg f.i6) λj=>if j<k+1 then .pl (og f t j)else .lb (fk j)) t++(ou f.dflt::l9 (gN f t+1) (f.rules.take k)))
def axm(f:Filter)(t:List eu)(nt:Nat)(fk:Nat->Nat):(row0 f t nt fk).length=gN f t:=by unfold row0 gN;rw[dA,GI,Pj]
def Jb(f:Filter)(t:List eu)(nt:Nat)(fk:Nat->Nat)(hk:k<=f.rules):(zm f t nt fk k).length=og f t (k+1):=by unfold zm og;rw[au aE,yX,dA,dA,dJ,GI,Pj];have h2:=aKp (gN f t+1) hk;rw[<-h2];unfold gN;omega
structure I9(f:Filter)(t:List eu)(nt:Nat)(fk:Nat->Nat):Prop where
 inj:∀i j,i<=f.rules.length->j<=f.rules.length->fk i=fk j->i=j
 nt:∀i,i<=f.rules.length->nt≠fk i
def axn{t:List eu}(bE:zN f t)(h:I9 f t nt fk):(row0 f t nt fk).map (bB.mp (dF.res (fk 0) (gN f t)))++[ou f.dflt]=zm f t nt fk 0:=by
 unfold row0 zm;rw[fQ,arh _ (h.nt 0 aE),abC bE.may (jX:=λj=>if j<0+1 then .pl (og f t j)else .lb (fk j)),gJ]
 ·rfl
 ·intro i hi X;obtain⟨h1,h2⟩:=bE.ways i hi X;generalize Z:t[i].way.toNat=j;have so:j<=f.rules:=aE;show(if fk j=fk 0 then dF.pl (gN f t)else .lb (fk j))=_;by_cases e:j=0
  ·subst e;rw[aF rfl,aF aE];rfl
  ·rw[au (λcU=>e (h.inj j 0 so aE cU)),au aE]
def axy{t:List eu}(bE:zN f t)(h:I9 f t nt fk)(hk:k<f.rules):(zm f t nt fk k).map (bB.mp (dF.res (fk (k+1)) (og f t (k+1))))++oz (og f t (k+1)) f.rules[k].tests f.rules[k].action=zm f t nt fk (k+1):=by
 have hr:l9 (gN f t+1) (f.rules.take (k+1))=l9 (gN f t+1) (f.rules.take k)++oz (og f t (k+1)) f.rules[k].tests f.rules[k].action:=by have h:=aKo (gN f t+1) hk;rw[h];unfold og;rw[au aE,yX]
 unfold zm;rw[fQ,fQ,fK,arh _ (h.nt (k+1) aE),abD,abC bE.may (jX:=λj=>if j<k+1+1 then .pl (og f t j)else .lb (fk j)),hr,gJ,gJ]
 ·rfl
 ·intro i hi X;obtain⟨h1,h2⟩:=bE.ways i hi X;generalize Z:t[i].way.toNat=j;have so:j<=f.rules:=aE
  try dsimp only
  rcases Nat.lt_trichotomy j (k+1)with e|e|e
  ·rw[aF e,aF aE];rfl
  ·subst e;rw[au aE,aF aE,Di]
  ·rw[au aE,au aE,vK (λcU=>by have:=h.inj j (k+1) so aE cU;omega)]
def axA{t:List eu}(bE:zN f t):(zm f t nt fk f.rules).map (bB.mp (dF.res nt (mW f t)))++[ou 2147418112]=lF f t:=by
 unfold zm lF;rw[fQ,fQ,fK,aKX,abD,abC bE.may (jX:=λj=> .pl (og f t j)),iR,gJ,gJ]
 ·rw[arf (ff:=λi=> .pl (qp f t i)) bE.may]
  ·rfl
  ·intro x D;unfold yS qp;rw[dK D]
   try dsimp only
   split<;>rfl
 ·intro i hi X;obtain⟨h1,h2⟩:=bE.ways i hi X
  try dsimp only
  rw[aF aE];rfl
def GJ(f:Filter)(nt:Nat)(fk:Nat->Nat)(k b:Nat):Prop:=b=nt\/∃j,k+1<=j/\j<=f.rules.length/\b=fk j
def axk{t:List eu}{gH:List Nat}(X:gH.length=f.rules+1)(h:I9 f t nt λj=>gH.getD j 0)(b:Nat):((b=nt\/b∈gH)/\b≠gH.getD 0 0)↔GJ f nt (λj=>gH.getD j 0) 0 b:=by
 have hg:∀j (Z:j<gH.length),gH.getD j 0=gH[j]:=λj Z=>by rw[kR,dK Z];rfl
 constructor
 ·rintro⟨h1|h1,h2⟩
  ·exact .inl h1
  ·obtain⟨j,Z,rfl⟩:=List.mem_iff_getElem.1 h1;rw[<-hg j Z]at h2⊢;refine .inr ⟨j,?_,aE,rfl⟩;rcases Nat.eq_zero_or_pos j with e|e
   ·subst e;exact absurd rfl h2
   ·omega
 ·rintro(h1|⟨j,h1,h2,T⟩)
  ·exact⟨.inl h1,λe=>h.nt 0 aE (h1.symm.trans e)⟩
  ·refine⟨.inr (by rw[T];show gH.getD j 0∈gH;rw[hg j aE];exact eB _),λe=> ?_⟩;have:=h.inj j 0 h2 aE (T.symm.trans e);omega
def axx{t:List eu}(h:I9 f t nt fk)(hk:k<f.rules)(b:Nat):(GJ f nt fk k b/\b≠fk (k+1))↔GJ f nt fk (k+1) b:=by
 constructor
 ·rintro⟨h1|⟨j,h1,h2,T⟩,af⟩
  ·exact .inl h1
  ·refine .inr ⟨j,?_,h2,T⟩;rcases Nat.lt_or_eq_of_le h1 with e|e
   ·omega
   ·subst e;exact absurd T af
 ·rintro(h1|⟨j,h1,h2,T⟩)
  ·exact⟨.inl h1,λe=>h.nt (k+1) aE (h1.symm.trans e)⟩
  ·refine⟨.inr ⟨j,aE,h2,T⟩,λe=> ?_⟩;have:=h.inj j (k+1) h2 aE (T.symm.trans e);omega
def axB(b:Nat):¬(GJ f nt fk f.rules b/\b≠nt):=by
 rintro⟨h1|⟨j,h1,h2,-⟩,af⟩
 ·exact af h1
 ·omega
def axc{t:List eu}{gH:List Nat}(X:gH.length=f.rules+1)(hn:gH.Nodup)(Ek:nt∉gH):I9 f t nt λj=>gH.getD j 0:=by
 have hg:∀j (Z:j<gH.length),gH.getD j 0=gH[j]:=λj Z=>by rw[kR,dK Z];rfl
 refine⟨λi j hi Z e=> ?_,λi hi e=> ?_⟩
 ·try dsimp only at e
  rw[hg i aE,hg j aE]at e;have ac:=zS.1 hn;rcases Nat.lt_trichotomy i j with h|h|h
  ·exact absurd e (ac i j aE aE h)
  ·exact h
  ·exact absurd e.symm (ac j i aE aE h)
 ·try dsimp only at e
  rw[hg i aE]at e;exact Ek (by rw[e];exact eB _)
def agR{t:List eu}(R:eT f=true)(bE:zN f t)(hk:k<=f.rules):(zm f t nt fk k).length<=93000:=by
 obtain⟨-,-,T,-,aQ⟩:=xY R;rw[Jb _ _ _ _ hk];unfold og;rw[au aE,yX];have h1:=KY (aN:=f.rules) (p:=gN f t+1) (f.rules-k) (k:=k) aE;rw[show k+(f.rules.length-k)=f.rules.length from aE]at h1;have h2:=abt f.rules (gN f t+1) (λr hr=>(aQ r hr).1);have af:gN f t<=5+2001:=arC
 have:225*f.rules.length<=90000:=aE;omega
def axr{t:List eu}(bE:zN f t):gN f t<=6006:=arC
open jG (aD dI sP Dat fT dx rz)
open e2 (iK)
open j7 (Test Rule Filter gI Ce sZ eT kT)
open Co (Span Dz)
def sF(A:List bB):Prop:= ∀s∈A,s.k<4294967296
def sF.app{A ys:List bB}(h:sF A)(gm:sF ys):sF (A++ys):=λs ab=>by
 rcases iZ.1 ab with ab|ab
 ·exact h s ab
 ·exact gm s ab
def sF.nil:sF []:=λs ab=>by cases ab
def sF.cons{s:bB}{A:List bB}(ab:s.k<4294967296)(h:sF A):sF (s::A):=λx D=>by
 rcases iA.1 D with rfl|D
 ·exact ab
 ·exact h x D
def arE{a:Nat}{e:dF}(bT:a<4294967296)(R:m<4294967296)(hv:v<4294967296):sF (mO p a m v e):=by
 unfold mO;split
 ·exact .nil
 ·split
  ·exact .cons bT (.cons hv .nil)
  ·exact .cons bT (.cons R (.cons hv .nil))
def aLk{t:Test}(p:Nat)(h:Ce t)(R:j7.oW t=true):sF (wH p t):=by
 have X:=λx=>api x
 have be:∀x,x<18446744073709551616->jG.hi x<4294967296:=λx D=>by unfold jG.hi;omega
 have bT:t.arg<6:=by unfold j7.oW at R;simp only[dV,iM]at R;omega
 unfold wH;exact(arE (by unfold oZ;omega) (X _) (X _)).app ((arE (by unfold vk;omega) (be _ h.m) (be _ h.v)).app (.cons h.x .nil))
def arF:∀(ts:List Test)(p x:Nat),x<4294967296->(∀t∈ts,Ce t/\j7.oW t=true)->sF (oz p ts x)
 | [],p,x,D,_=> .cons D .nil
 |t::r,p,x,D,h=>by
  unfold oz;refine(aLk p (h t yY).1 (h t yY).2).app ?_;split
  ·exact .nil
  ·exact arF r _ x D (λt an=>h t (vv _ an))
def arG:∀(aN:List Rule)(p:Nat),(∀r∈aN,sZ r/\∀t∈r.tests,j7.oW t=true)->sF (l9 p aN)
 | [],p,_=> .nil
 |r::l,p,h=>by unfold l9;obtain⟨h1,h2⟩:=h r yY;exact(arF _ _ _ h1.x (λt an=>⟨h1.t t an,h2 t an⟩)).app (arG l _ (λr hr=>h r (vv _ hr)))
def aLl:∀l:List Span,0<l.length->(∀s∈l,s.lo<4294967296)->∀a,∀n∈vZ.xE l a,n.at_<4294967296:=by
 refine vZ.BZ (λl h ab a n hn=> ?_) (λl h xp xs ab a n hn=> ?_)
 ·rw[vZ.yM h]at hn;simp at hn;subst hn;exact(by decide:(0:Nat)<4294967296)
 ·rw[vZ.DJ h]at hn;rcases iA.1 hn with rfl|hn
  ·show vZ.oZ l (l.length/2)<4294967296;rw[vZ.Si aE];exact ab _ (eB _)
  ·rcases iZ.1 hn with hn|hn
   ·exact xp (λs rh=>ab s (zT rh)) _ n hn
   ·exact xs (λs rh=>ab s (List.mem_of_mem_drop rh)) _ n hn
def aLm{aY:Nat->dF}{t:List eu}(h:∀n∈t,n.at_<4294967296):sF (nL aY t):=by
 unfold nL mg;refine sF.app ?_ (λs ab=> ?_)
 ·split
  ·exact .cons (show(0:Nat)<4294967296 from Y) .nil
  ·exact .nil
 ·obtain⟨n,hn,rfl⟩:=iJ.1 ab;exact h n (List.mem_filter.1 hn).1
def aim(nt:dF){a:Int}(ae:0<=a)(a9:a<6):sF (ql nt a):=by
 have an:iK a.toNat<4294967296:=by rcases(show a=0\/a=1\/a=2\/a=3\/a=4\/a=5 from aE)with rfl|rfl|rfl|rfl|rfl|rfl<;>decide
 unfold ql;refine sF.app (.cons Y (.cons an (.cons Y .nil))) ?_;split
 ·exact .cons (show(1073741824:Nat)<4294967296 from Y) .nil
 ·split
  ·exact .cons (show(1073741824:Nat)<4294967296 from Y) .nil
  ·exact .nil
def aLn(ai:gI f)(R:eT f=true):sF (lF f (iF f)):=by obtain⟨h1,h2,T,af,aQ⟩:=xY R;have kt:=agI R (λr hr=>(ai.r r hr).n);have bJ:=(AP R (λr hr=>(ai.r r hr).n)).2.1;unfold lF;exact(aim _ h1 h2).app ((aLm (aLl _ (vZ.xK bJ) (λs ab=>(kt s ab).l) 0)).app (.cons ai.d ((arG _ _ (λr hr=>⟨ai.r r hr,(aQ r hr).2⟩)).app (.cons Y .nil))))
def Dm(ai:gI f)(R:eT f=true):dx ((lF f (iF f)).map bB.fin)=true/\(∀s∈(lF f (iF f)).map bB.fin,sP s)/\((lF f (iF f)).map bB.fin).length<=97000:=by
 have j3:∀r∈f.rules,r.nr<4294967296:=λr hr=>(ai.r r hr).n
 obtain⟨-,-,-,-,bE⟩:=AP R j3;have ey:(lF f (iF f)).length<=97000:=by
  have h1:=agR (nt:=0) (fk:=λj=>j+1) R bE (aZ f.rules);rw[Jb _ _ _ _ (aZ _)]at h1;rw[Jc];have:og f (iF f) (f.rules+1)=mW f (iF f):=by unfold og mW;rw[au aE,yX]
  omega
 refine⟨aqX R bE,λs ab=> ?_,by rw[dL];exact ey⟩;obtain⟨x,D,rfl⟩:=iJ.1 ab;have hk:=aLn ai R x D;obtain⟨j,Z,rfl⟩:=List.mem_iff_getElem.1 D;have ho:=aqW R bE j Z;rw[<-Jc]at ho;generalize(lF f (iF f))[j]=s at *;obtain⟨c,k,q⟩:=s;rcases ho with⟨h1,h2⟩|⟨n,m,h1,h2,T,af⟩
 ·dsimp only at h1 h2 hk;subst h1;exact⟨by show c<65536;omega,hk,by show(-9223372036854775808:Int)<=0;decide,by show(0:Int)<=_;decide,by show(-9223372036854775808:Int)<=0;decide,by show(0:Int)<=_;decide⟩
 ·dsimp only at h1 af hk;subst h1;refine⟨by show c<65536;omega,hk,by show(-9223372036854775808:Int)<=(n:Int);omega,by show(n:Int)<=_;omega,?_,?_⟩
  ·show(-9223372036854775808:Int)<=(if c=5 then 0 else(m:Int));split<;>omega
  ·show(if c=5 then(0:Int)else(m:Int))<=9223372036854775807;split<;>omega
open j7 (Test Rule Filter gI eT)
open Co (Span)
def aLo:∀l:List Span,0<l.length->∀a,((vZ.xE l a).filter inner).length=l.length-1:=by
 refine vZ.BZ (λl h a=> ?_) (λl h xp xs a=> ?_)
 ·rw[vZ.yM h,h];rfl
 ·rw[vZ.DJ h,List.filter_cons,aF (by rfl),yZ,dJ,dA,xp,xs,gV,mP];omega
def most:List Rule->Nat
 | []=>0
 |r::l=>3+7*r.tests.length+most l
def arH:∀(aN:List Rule)(p:Nat),lN aN p aN.length+2*aN.length<=p+most aN
 | [],_=>by show _+0<=_+0;exact aZ _
 |r::l,p=>by show lN l (p+qo r.tests) l.length+2*(l.length+1)<=p+(3+7*r.tests.length+most l);have h1:=arH l (p+qo r.tests);have h2:=(Um r.tests).2;omega
def ah4(ai:gI f)(R:eT f=true):((lF f (iF f)).map bB.fin).length<=10+most f.rules:=by
 have j3:∀r∈f.rules,r.nr<4294967296:=λr hr=>(ai.r r hr).n
 obtain⟨-,bJ,X,-,bE⟩:=AP R j3;have ac:=vZ.xK bJ;rw[dL,Jc];have h1:=arH f.rules (gN f (iF f)+1);have h2:gN f (iF f)<=5+(1+2*f.rules.length):=by
  unfold gN rank;have T:=aLo (qZ f) ac 0;have af:jg f.i6<=5:=by unfold jg;split<;>omega
  rw[iR];have aQ:((iF f).filter inner).length<=2*f.rules.length:=by unfold iF;rw[T];omega
  split<;>omega
 unfold mW;omega
end le
def arI(h:S:=by
 go_wp2_with(go_quiet (fail));go_wp2;obtain⟨ki,hJ⟩:=abN.o _ K0.o;refine cO (v:=bg #[M eE,E (some g) k mi,M x]) abO rfl ?_;obtain⟨ef,cY,eh⟩:=(bY.o.kept ((O wr).drewN nq)).done (M eE) (E (some g) k mi) (M x);refine⟨(some g),mi,by rw[ki],ef,?_,?_⟩
 ·rw[hJ];exact cY
 ·rw[hJ];exact eh):S:=h
def arJ(h:S:=by
 rw[nU]at bU aW;simp only[if_true]at bU;have arK:=z nU;have arL:=z gA;clear nU gA;have h7:=z Z;have aLp:=z hR;clear Z hR;have Ru:=z (b4.trans bU);clear b4 bU ae;go_wp2_with(go_quiet (fail));go_wp2;go_roundw
 case rel=>exact⟨j,by rw[aLp.o],by have:=(bY.o.kept ((O wr).drewN nq)).cut (k':=j) (c':=mi) arM arM (λh=>by cases h);have e:=h7.o;rw[show k-1=j from aE];exact this,Ru.o⟩
 case measure=>exact eO):S:=h
def abO(h:S:=by first|(simp[results,results247,go_sem,y0,y1,y2];done)|(simp[results,results247,go_sem,y0,y1,y2];rfl)):S:=h
def arM(h:S:=by have:=h7.o;omega):S:=h
namespace j7
theorem aLq(r:Rule)(v:K)(hr:sZ r)(X:r.tests.length<=1000)(w:G)(hv:aS w 4 kW v r.tests):Calls prog 247 #[bg #[M r.nr,v,M r.action]] w λe F=>∃a c,e=aI (bg #[M ((j6 r).nr:Int),E a (j6 r).tests.length c,M ((j6 r).action:Int)])/\Ext w F/\n6 F ⟨j6 r,a,c⟩/\jM F w ⟨j6 r,a,c⟩:=by
 have eV:j6 r=⟨r.nr,tq (iw r.tests r.action).1 (iw r.tests r.action).2,(iw r.tests r.action).2⟩:=rfl;rw[eV];obtain⟨eE,ts,oc⟩:=r;dsimp only at *;have bE:=λW (D:Ext w W)=>aDD ⟨eE,ts,oc⟩ v uG W (hv.ext D)
 have bS:=λe7 W (h:aS W 4 kW e7 ts)=>aDf e7 ts hr.l hr.t W h
 dsimp only at bE;obtain⟨vz,ti,rfl,-,-⟩:=qY hv;obtain⟨U,x,hcut⟩:∃U x,iw ts oc=(U,x):=⟨_,_,rfl⟩;rw[hcut];dsimp only;have Cu:=GX ts oc;rw[hcut]at Cu;dsimp only at Cu;have sA:∀k,qI U x U.length=k->(tq U x).length=k/\tq U x=U.take k:=λk hk=>by have:=al7 U x U.length;unfold tq;rw[hk];exact⟨by rw[gV];omega,rfl⟩
 have Am:=amk ts oc 0;simp only[gF]at Am;rcases Am with⟨hi,ao⟩|⟨i,rn,hi,ao⟩
 all_goals
  rw[hi]at bS;rw[hcut]at ao;clear hi;have abN:=z sA;clear sA;have HB:=z (Prod.mk.inj ao).1;have xb:=z (Prod.mk.inj ao).2;clear ao;have arN:=z Cu;have aQs:=z hcut;clear Cu hcut;have hl:=z bE;have it:=z bS;clear bE bS;have si:=z eV;have aQt:=z hr;clear eV hr hv;go_in;go_wp2_with fail;refine(hl.o _ (((O _).alloc _).alloc _)).mono ?_;rintro e I ⟨a1,c1,rfl,ho,Q⟩;have fR:=Q.cell (p:=w) fD;have ed:=Q.cell (p:=⟨w,1,none⟩) fD;have eq:=Q.cell (p:=⟨w,2,none⟩) fD;have f:∀j,I.frozen? ⟨w,j,none⟩=false:=λj=>(kS (Q.block dU)).trans fC
  have y0:=Q.cell (p:=⟨w+1,0,none⟩) fD;have y1:=Q.cell (p:=⟨w+1,1,none⟩) fD;have y2:=Q.cell (p:=⟨w+1,2,none⟩) fD;have fy:∀j,I.frozen? ⟨w+1,j,none⟩=false:=λj=>(kS (Q.block ay)).trans fC
  have vp:=z (lW.start (eE:=eE) (x:=oc) ((((O w).alloc _).alloc _).trans Q) (aZ _) fR ed eq f y0 y1 y2 fy (kU ho ay));have f0:=f 0;have dg:=f 1;have fg:=f 2;clear Q ho f fy y0 y1 y2;go_wp2_with fail;generalize b':World.setCell _ _ _=a8;rw[b']at vp;clear b' fR ed eq f0 dg fg;refine ak (it.o _ _ (by have:=vp.o.good;rw[iR]at this;exact this)) ?_;intro aO ag;have eW:=z (vp.o.kept ag);clear ag;have b1:=eW.o.b1;have V:=gD _ _ b1
 ·go_wp2_with fail;obtain⟨cd,fh⟩:∃cd,cd=aO:=⟨_,rfl⟩;rw[<-fh];obtain⟨mi,z9⟩:∃mi,mi=c1:=⟨_,rfl⟩;have hC:Hid (lW w w eE a1 U mi x U cd):=by rw[fh,HB.o,xb.o,z9];exact eW
  have ec:Hid ((ts:Int)=U):=z (by rw[HB.o]);rw[ec.o];clear z9 fh b1 V;go_loopw [4] (λn wr=>∃k:Nat,n=H k/\lW w w eE a1 k mi x U wr/\qI U x U.length=qI U x k) (λn _=>(intOf n).toNat)
  case atStart=>exact⟨U.length,rfl,hC.o,rfl⟩
  case round=>
   obtain⟨k,rfl,ab,b4⟩:=hrel;have bY:=z ab;have hk:=ab.hk;have b0:=ab.b0;have b1:=ab.b1;have b2:=ab.b2;have dg:=ab.f 1;have y0:=ab.y0;have y1:=ab.y1;have y2:=ab.y2;have abP:=ab.fy 0;have abS:=ab.fy 1;have abT:=ab.fy 2;have kc:=ab.kc;have mC:=gD _ _ b1;have T4:=gD _ _ y1;have Ep:=arN.o;rcases Nat.eq_zero_or_pos k with ae|ae
   ·have dm:decide (0<k)=false:=dM aE;have cs:decide ((0:Int)<k)=false:=dM aE;have ut:qI U x U.length=k:=by rw[b4,ae];rfl
    clear ab;have h8:=z b4;have K0:=z ut;have n':=z ae;clear b4 ut ae;go_wp2_with(go_quiet (fail));go_wp2;obtain⟨ki,hJ⟩:=abN.o _ K0.o;refine cO (v:=bg #[M eE,E a1 k mi,M x]) abO rfl ?_;obtain⟨ef,cY,eh⟩:=(bY.o.kept ((O wr).drewN nq)).done (M eE) (E a1 k mi) (M x);refine⟨a1,mi,by rw[ki],ef,?_,?_⟩
    ·rw[hJ];exact cY
    ·rw[hJ];exact eh
   ·obtain⟨j,Z⟩:∃j,k=j+1:=⟨k-1,aE⟩;have nw:j<U:=aE;have dm:decide (0<k)=true:=dH aE;have cs:decide ((0:Int)<k)=true:=dH aE;obtain⟨jX,pA,q'⟩:=ab.afO (j:=j) aE;subst pA;have bU:=aml (x:=x) nw;rw[<-Z]at bU;have ky:(0:Int)<=k-1:=aE;have mB:(k:Int)-1<k:=aE;have gA:k-1=j:=aE;have hR:(k:Int)-1=j:=aE;generalize(U[j]'nw).action=HR at *;rw[<-gA]at q';have aW:((HR:Int)==(x:Int))=(HR==x):=by rw[dW];simp;omega
    clear ab;cases nU:(HR==x)
    ·rw[nU]at bU aW;have ut:qI U x U.length=k:=by rw[b4,bU];rfl
     have h8:=z b4;have K0:=z ut;clear b4 ut;have n':=z ae;have S7:=z bU;clear ae bU;have arK:=z nU;have aoR:=z Z;clear nU Z;have arL:=z gA;have aLr:=z hR;clear gA hR;go_wp2_with(go_quiet (fail));go_wp2;obtain⟨ki,hJ⟩:=abN.o _ K0.o;refine cO (v:=bg #[M eE,E (some jX) k mi,M x]) abO rfl ?_;obtain⟨ef,cY,eh⟩:=(bY.o.kept ((O wr).drewN nq)).done (M eE) (E (some jX) k mi) (M x);refine⟨(some jX),mi,by rw[ki],ef,?_,?_⟩
     ·rw[hJ];exact cY
     ·rw[hJ];exact eh
    ·exact arJ
 ·obtain⟨g,rfl,qt⟩:=eW.o.afO rn;have b2:=eW.o.b2;have dg:=eW.o.f 1;have fg:=eW.o.f 2;have kc:=eW.o.kc;obtain⟨mi,z9⟩:∃mi,mi=i:=⟨_,rfl⟩;rw[<-xb.o]at qt;go_wp2_with fail;generalize fh:World.setCell _ _ _=cd;have hC:Hid (lW w w eE (some g) U mi x U cd):=by
   have Rg:U.length=i:=by rw[HB.o,gV];omega
   have hk:i<=ts:=aE;have h1:=((eW.o.act x).cut (k':=i) (c':=i) hk (aZ _) (λh=>by cases h)).pre (i:=i) (aZ _);rw[fh,<-HB.o]at h1;rw[Rg,z9];exact h1
  have ec:Hid ((i:Int)=U):=z (by rw[HB.o,gV];omega);rw[ec.o];clear z9 fh b1 V b2 dg fg kc qt;go_loopw [4] (λn wr=>∃k:Nat,n=H k/\lW w w eE (some g) k mi x U wr/\qI U x U.length=qI U x k) (λn _=>(intOf n).toNat)
  case atStart=>exact⟨U.length,rfl,hC.o,rfl⟩
  case round=>
   obtain⟨k,rfl,ab,b4⟩:=hrel;have bY:=z ab;have hk:=ab.hk;have b0:=ab.b0;have b1:=ab.b1;have b2:=ab.b2;have dg:=ab.f 1;have y0:=ab.y0;have y1:=ab.y1;have y2:=ab.y2;have abP:=ab.fy 0;have abS:=ab.fy 1;have abT:=ab.fy 2;have kc:=ab.kc;have mC:=gD _ _ b1;have T4:=gD _ _ y1;have Ep:=arN.o;rcases Nat.eq_zero_or_pos k with ae|ae
   ·have dm:decide (0<k)=false:=dM aE;have cs:decide ((0:Int)<k)=false:=dM aE;have ut:qI U x U.length=k:=by rw[b4,ae];rfl
    clear ab;have h8:=z b4;have K0:=z ut;have n':=z ae;clear b4 ut ae;exact arI
   ·obtain⟨j,Z⟩:∃j,k=j+1:=⟨k-1,aE⟩;have nw:j<U:=aE;have dm:decide (0<k)=true:=dH aE;have cs:decide ((0:Int)<k)=true:=dH aE;obtain⟨jX,pA,q'⟩:=ab.afO (j:=j) aE;obtain rfl:g=jX:=by simpa using pA
    have bU:=aml (x:=x) nw;rw[<-Z]at bU;have ky:(0:Int)<=k-1:=aE;have mB:(k:Int)-1<k:=aE;have gA:k-1=j:=aE;have hR:(k:Int)-1=j:=aE;generalize(U[j]'nw).action=HR at *;rw[<-gA]at q';have aW:((HR:Int)==(x:Int))=(HR==x):=by rw[dW];simp;omega
    clear ab;cases nU:(HR==x)
    ·rw[nU]at bU aW;have ut:qI U x U.length=k:=by rw[b4,bU];rfl
     have h8:=z b4;have K0:=z ut;clear b4 ut;have n':=z ae;have S7:=z bU;clear ae bU;have arK:=z nU;have aoR:=z Z;clear nU Z;have arL:=z gA;have aLr:=z hR;clear gA hR;exact arI
    ·exact arJ
end j7
def ah5(h:S:=by have:=GX r.tests r.action;show(tq (iw r.tests r.action).1 _).length<=_;unfold tq;rw[gV];omega):S:=h
def ah6(h:S:=by
 show(iw r.tests r.action).2<_;rcases RP r.tests r.action with e|⟨t,an,e⟩
 ·rw[e];exact h.x
 ·rw[e];exact(h.t t an).x):S:=h
def arO(h:S:=by first|(simp[results,results179,go_sem,y0,y1,y2];done)|(simp[results,results179,go_sem,y0,y1,y2];rfl)):S:=h
namespace j7
def aLs{b5:Nat}{aN:List Rule}{k:Nat}(h:k<aN):nI b5 (aN.take (k+1))=nI b5 (aN.take k)++if Bf b5 (j6 aN[k])=true then [j6 aN[k]]else []:=by
 rw[mh h];unfold nI;rw[fQ,yZ]
 congr 1
 rw[List.map_singleton,List.filter_cons]
 rfl
theorem acA(f:Filter)(u:K)(ai:gI f)(R:eT f=false)(w:G)(a6:mU w 3 (EU w) u f.rules):Calls prog 179 #[bg #[H f.i6,u,M f.dflt]] w λe F=>e=aI (bH #[bg #[H 0,E none 0 0,M 0],H 210])/\Ext w F:=by
 have em:=λW (D:Ext w W)=>pK f u ai W (lD D a6)
 rw[R]at em;obtain⟨vz,ti,rfl,-,-⟩:=xW a6;have pf:=z em;have gl:=z R;go_in;go_wp2_with fail;refine ak (pf.o _ (((O _).alloc _).alloc _)) ?_;intro I Q;have y0:=Q.cell (p:=⟨w+1,0,none⟩) fD;have y1:=Q.cell (p:=⟨w+1,1,none⟩) fD;have y2:=Q.cell (p:=⟨w+1,2,none⟩) fD;have fy:∀j,I.frozen? ⟨w+1,j,none⟩=false:=λj=>(kS (Q.block ay)).trans fC
 have abP:=fy 0;have abS:=fy 1;have abT:=fy 2;have T4:=gD _ _ y1;have bF:=z ((((O w).alloc _).alloc _).trans Q);go_wp2_with fail;refine cO (v:=bH #[bg #[H 0,E none 0 0,M 0],H 210]) arO rfl ⟨rfl,?_⟩
 repeat(first|exact bF.o|refine Ext.setCell ?_ xL _)
theorem XG(f:Filter)(u:K)(ai:gI f)(uc:∀r∈f.rules,r.tests.length<=1000)(R:eT f=true)(w:G)(a6:mU w 3 (EU w) u f.rules):Calls prog 179 #[bg #[H f.i6,u,M f.dflt]] w λe F=>∃a c ap,e=aI (bH #[bg #[H f.i6,E a (ap:List PR).length c,M f.dflt],H 0])/\ap.map PR.r=nI f.dflt f.rules/\RF F w (E a ap.length c) ap/\Ext w F:=by
 have em:=λW (D:Ext w W)=>pK f u ai W (lD D a6)
 rw[R]at em;have x1:f.rules.length<=400:=by unfold eT at R;simp only[dV,iM]at R;exact R.2.2.1
 have cv:=ai.r;obtain⟨ar,aN,b5⟩:=f;dsimp only at *;obtain⟨vz,ti,rfl,-,bV⟩:=xW a6;have pf:=z em;have gl:=z R;have sC:=z cv;have Pe:=z uc;have k4:=z bV;go_in;go_wp2_with fail;refine ak (pf.o _ (((O _).alloc _).alloc _)) ?_;intro I Q;have fR:=Q.cell (p:=w) fD;have ed:=Q.cell (p:=⟨w,1,none⟩) fD;have eq:=Q.cell (p:=⟨w,2,none⟩) fD;have y0:=Q.cell (p:=⟨w+1,0,none⟩) fD;have y1:=Q.cell (p:=⟨w+1,1,none⟩) fD;have y2:=Q.cell (p:=⟨w+1,2,none⟩) fD;have fy:∀j,I.frozen? ⟨w+1,j,none⟩=false:=λj=>(kS (Q.block ay)).trans fC
 have T4:=gD _ _ y1;have bF:=z ((((O w).alloc _).alloc _).trans Q);have dp:w.heap.size+2<=I.heap.size:=by have:=Q.size;simp at this;omega
 have ef:=λo=>((O I).alloc o).cell ed
 have aQu:=z ed;have aLt:=z eq;have aLu:=z y0;have aLv:=z y1;have aLw:=z y2;have aLx:=z fy;go_wp2_with fail;have vp:=z (rF.start I ar b5 73);go_loopw [19] (λi wr=>∃(k:Nat) (v:K) (ap:List PR),k<=aN/\i=H k/\rF I ar b5 v ap wr/\ap.map PR.r=nI b5 (aN.take k)) (λi _=>aN.length-(intOf i).toNat)
 case atStart=>exact⟨0,_,_,aE,rfl,vp.o,rfl⟩
 case round=>
  obtain⟨k,v,ap,hk,rfl,ab,Lo⟩:=hrel;have T5:=z Lo;have bY:=z ab;by_cases ad:k<aN
  ·obtain⟨b,o,T2,rfl,dc,dv,g',k3⟩:=k4.o k ad;replace dc:=(bF.o.trans ab.ext).cell dc;replace dv:=(bF.o.trans ab.ext).cell dv;replace g':=(bF.o.trans ab.ext).cell g';replace k3:=k3.ext (bF.o.trans ab.ext);have eq:=ab.ext.cell aLt.o;have hn:=λW (D:Ext wr W)=>aLq aN[k] T2 (sC.o _ (eB ad)) (Pe.o _ (eB ad)) W (k3.ext D)
   obtain⟨at',Em,rfl,-,-⟩:=qY k3;have Ek:=aLs (b5:=b5) ad;have nS:ap.length<=400:=by have e:=congrArg List.length T5.o;have aV:=M8 b5 (aN.take k);rw[dL]at e;rw[gV]at aV;omega
   generalize j6 (aN[k]'ad)=nr at *;generalize aN[k]'ad=r at *;obtain⟨eE,ts,oc⟩:=r;obtain⟨nB,pu,nx⟩:=nr;dsimp only at *;have St:=z hn;have T6:=z Ek;obtain⟨bv,bp,rfl⟩:=dP ab.own;have b1:=bY.o.b1;have b2:=bY.o.b2;have mC:=gD _ _ b1;go_wp2_with fail;refine(St.o _ ((O _).alloc _)).mono ?_;rintro e aO ⟨a2,c2,rfl,ag,m4,fv⟩;have e9:=ag.cell (p:=wr) fD;have et:=ag.cell (p:=⟨wr,1,none⟩) fD;have fp:=ag.cell (p:=⟨wr,2,none⟩) fD;have abU:∀j,aO.frozen? ⟨wr,j,none⟩=false:=λj=>(kS (ag.block ay)).trans fC
   have aQv:=abU 0;have aQw:=abU 1;have aQx:=abU 2;have vm:=gD _ _ et;have f1:=((O wr).alloc (J #[M eE,E at' ts Em,M oc] 110)).trans ag;replace eq:=f1.cell eq;have jL:=z f1;have z4:=z m4;have F7:=z (fv.base (e4:=wr.heap.size+1) ay);have aQy:=jL.o.cell b1;have Am:(decide (0<pu.length)=true/\decide ((0:Int)<pu)=true/\Bf b5 ⟨nB,pu,nx⟩=true)\/(decide (0<pu.length)=false/\decide ((0:Int)<pu)=false/\((nx:Int) !=(b5:Int))=true/\Bf b5 ⟨nB,pu,nx⟩=true)\/
    (decide (0<pu.length)=false/\decide ((0:Int)<pu)=false/\((nx:Int) !=(b5:Int))=false/\Bf b5 ⟨nB,pu,nx⟩=false):=by
    have e:Bf b5 ⟨nB,pu,nx⟩=(!pu.isEmpty|| !(nx==b5)):=rfl;rw[e];have aW:((nx:Int) !=(b5:Int))= !(nx==b5):=by rw[dW];simp;omega
    rw[aW];cases pu with
    |nil=>cases(nx==b5)<;>simp
    |cons t l=>refine .inl ⟨dH ay,dH (by simp only[dJ];omega),rfl⟩
   rcases Am with⟨dm,cs,hkb⟩|⟨dm,cs,eg,hkb⟩|⟨dm,cs,eg,hkb⟩
   case inr.inr=>
    rw[hkb]at T6;have aLy:=z hkb;go_wp2_with fail;go_roundw
    case rel=>
     refine⟨k+1,_,ap,aE,cZ,bY.o.kept ?_,by rw[T5.o,T6.o];simp⟩
     repeat(first|exact jL.o|refine Ext.setCell ?_ xL _)
    case measure=>exact eO
   all_goals
    rw[hkb]at T6;have aLy:=z hkb;go_wp2_with(
     (at_builtin
      generalize fw:World.setCell _ _ _=dj;have q6:Hid (rF I ar b5 (E bv ap bp) ap dj):=by
       rw[<-fw];refine z (bY.o.kept ?_)
       repeat(first|exact jL.o|refine Ext.setCell ?_ xL _)
      have ua:Hid (n6 dj ⟨⟨nB,pu,nx⟩,a2,c2⟩/\jM dj (I+1) ⟨⟨nB,pu,nx⟩,a2,c2⟩):=by rw[<-fw];have h1:=Od z4.o F7.o (q:=wr) ay (M nB);have h2:=Od h1.1 h1.2 (q:=⟨wr,1,none⟩) ay (E a2 pu c2);have T:=Od h2.1 h2.2 (q:=⟨wr,2,none⟩) ay (M nx);exact z ⟨T.1,T.2.base (by have:=bY.o.lt;omega)⟩
      have arP:aO.heap.size=dj:=by rw[<-fw];simp
      have aLz:=q6.o.lt;refine vG rfl (.tmp 37) (.tmp 39) _ rfl underlying71 Yx rfl Y yw Nu (I+1) _ _ ap [⟨⟨nB,pu,nx⟩,a2,c2⟩] rfl rfl (q6.o.own.alloc _) (jh yw dj [⟨⟨nB,pu,nx⟩,a2,c2⟩] _ _ arP) dU Y dU ?_;intro ri rj bQ d0 hA;have ia:=z (q6.o.kept ((O dj).alloc (J ([(⟨⟨nB,pu,nx⟩,a2,c2⟩:PR)].flatMap kX).toArray 110)));have aLA:=ia.o.size hA 1 _ ia.o.b1;have aQz:=ia.o.frz hA 1;have lE:=gD _ _ aLA;have rk:=z d0;have ta:=z hA;have aLB:=z (n6.ext ((O dj).alloc (J ([(⟨⟨nB,pu,nx⟩,a2,c2⟩:PR)].flatMap kX).toArray 110)) ua.o.1);have aLC:=z (jM.ext ((O dj).alloc (J ([(⟨⟨nB,pu,nx⟩,a2,c2⟩:PR)].flatMap kX).toArray 110)) ua.o.2);clear d0 hA aLz arP))
    go_roundw
    case rel=>refine⟨k+1,_,ap++[⟨⟨nB,pu,nx⟩,a2,c2⟩],aE,cZ,ia.o.grown aLB.o aLC.o ta.o rk.o,?_⟩;rw[fQ,T5.o,T6.o];rfl
    case measure=>simp[intOf];omega
  ·obtain rfl:k=aN.length:=aE;have b0:=ab.b0;have b1:=ab.b1;have b2:=ab.b2;have y0:=ab.ext.cell aLu.o;have y1:=ab.ext.cell aLv.o;have y2:=ab.ext.cell aLw.o;have fy:∀j,wr.frozen? ⟨w+1,j,none⟩=false:=λj=>(kS (a:=⟨w+1,j,none⟩) (ab.ext.block T4)).trans (aLx.o j)
   have abP:=fy 0;have abS:=fy 1;have abT:=fy 2;have aQA:=gD _ _ y1;have mC:=gD _ _ b1;have aLD:=ab.ext;obtain⟨bv,bp,rfl⟩:=dP ab.own;go_wp2_with fail;refine cO (v:=bH #[bg #[H ar,E bv ap bp,M b5],H 0]) arO rfl ⟨bv,bp,ap,rfl,by rw[T5.o,iR],?_,?_⟩
   ·refine RF.base (b:=I.heap.size+1) ?_ aE
    repeat(first|exact bY.o.rf|refine RF.set ?_ xL _)
   ·repeat(first|exact bF.o.trans aLD|refine Ext.setCell ?_ xL _)
end j7
def arQ(h:S:=by simp only[gJ,gZ,iq,fQ,Ik,eM,dA,vL,dJ,fu,fK,kE,bB.mp,kC,Option.map_none,r4,wA]):S:=h
namespace e2
open jG (aD dI gQ mR)
open m9
def mkS(bz:dF):List Nat->Nat->List bB
 | [],_=>[]
 |t::r,i=>gy 21 t bz (.pl (i+2))::mkS bz r (i+1)
def hS(bz:dF)(cb:List Nat):List bB:=uy 4::mkS bz cb 0
def arR(bz:dF):∀(cb:List Nat)(i:Nat),(mkS bz cb i).length=cb.length
 | [],_=>rfl
 |_::r,i=>by simp[mkS,arR bz r (i+1)]
def arS(bz:dF)(t:Nat):∀(cb:List Nat)(i:Nat),mkS bz (cb++[t]) i=mkS bz cb i++[gy 21 t bz (.pl (i+cb.length+2))]
 | [],_=>rfl
 |x::r,i=>by simp only[gZ,mkS,arS bz t r (i+1),dJ];rw[show i+1+r.length+2=i+(r.length+1)+2 from aE]
def arT(bz:dF)(b p:Nat):∀(cb:List Nat)(i:Nat),(mkS bz cb i).map (bB.mp (dF.res b p))=mkS (bz.res b p) cb i
 | [],_=>rfl
 |x::r,i=>by simp[mkS,arT bz b p r (i+1),bB.mp,dF.res]
def arU(p:Nat):∀(cb:List Nat)(i:Nat),(mkS (.pl p) cb i).map bB.fin=tC (p:Int) cb i
 | [],_=>rfl
 |x::r,i=>by simp only[mkS,tC,fK,arU p r (i+1),bB.fin,dF.n];rw[au Y]
def vL(bz:dF)(cb:List Nat):(hS bz cb).length=cb.length+1:=by simp[hS,arR]
def Ik(bz:dF)(b p:Nat)(cb:List Nat):(hS bz cb).map (bB.mp (dF.res b p))=hS (bz.res b p) cb:=by simp only[hS,fK,arT];rfl
def abV(p:Nat)(cb:List Nat):(hS (.pl p) cb).map bB.fin=⟨32,4,0,0⟩::tC (p:Int) cb 0:=by simp only[hS,fK,arU];rfl
def auX(bz:dF)(cb:List Nat)(t b:Nat)(V:bz.res b (cb+2)=bz):(hS bz cb++[gy 21 t bz (.lb b)]).map (bB.mp (dF.res b (hS bz cb++[gy 21 t bz (.lb b)]).length))=hS bz (cb++[t]):=by
 have X:(hS bz cb++[gy 21 t bz (.lb b)]).length=cb.length+2:=by rw[dA,vL];rfl
 rw[X,fQ,Ik,V];simp only[hS,arS,gZ,fK,kE,bB.mp,kC,V,gF];rw[show dF.res b (cb+2) (.lb b)= .pl (cb+2)from aF rfl]
def auY(cb:List Nat)(aX aq:Nat)(h:aq≠aX)(la:Int)(ie:la<0):((((hS (.lb aq) cb).map (bB.mp (dF.res aX (hS (.lb aq) cb).length))++[ou 2147483648]).map (bB.mp (dF.res aq ((hS (.lb aq) cb).map (bB.mp (dF.res aX (hS (.lb aq) cb).length))++[ou 2147483648]).length))++[ou 2147418112]).map bB.fin)=vM cb la:=by
 have aK:dF.res aX (hS (.lb aq) cb).length (.lb aq)= .lb aq:=au h;have aV:∀p,dF.res aq p (.lb aq)= .pl p:=λp=>aF rfl
 rw[Ik,aK];simp only[fQ,Ik,aV,abV,dA,vL,fK,kE,dJ,fu];unfold vM mid ends;rw[aF ie,aF ie,show cb.length+1+(0+1)=cb.length+0+2 from aE,iq,gZ,gZ,gJ]
 rfl
abbrev Ga(tok on aX:Nat):bB:=gy 21 tok (.lb on) (.lb aX)
def aex(cb:List Nat)(aX aq on tok:Nat)(h:aq≠aX)(h1:aq≠on)(h2:aX≠on)(la:Int)(ie:¬la<0)(aLE:tok=iK la.toNat)(abW:bB)(Re:abW=if la=2 then gy 69 1073741824 (.lb aq) (.lb aX)else gy 69 1073741824 (.lb aX) (.lb aq))(qf HC arV:List bB)(w3:qf=(hS (.lb aq) cb++[Ga tok on aX]).map (bB.mp (dF.res on (hS (.lb aq) cb++[Ga tok on aX]).length)))(Hb:HC=(qf++[uy 0]++[abW]).map (bB.mp (dF.res aX (qf++[uy 0]++[abW]).length)))(GP:arV=(HC++[ou 2147483648]).map (bB.mp (dF.res aq (HC++[ou 2147483648]).length))):(arV++[ou 2147418112]).map bB.fin=vM cb la:=by
 have r0:∀p,dF.res on p (.lb aq)= .lb aq:=λp=>au h1
 have dq:∀p,dF.res on p (.lb aX)= .lb aX:=λp=>au h2
 have ei:∀p,dF.res on p (.lb on)= .pl p:=λp=>aF rfl
 have eM:∀p,dF.res aX p (.lb aq)= .lb aq:=λp=>au h
 have r4:∀p,dF.res aX p (.lb aX)= .pl p:=λp=>aF rfl
 have r5:∀p,dF.res aq p (.lb aq)= .pl p:=λp=>aF rfl
 have wA:∀b p q,dF.res b p (.pl q)= .pl q:=λ_ _ _=>rfl
 have dg:qf=hS (.lb aq) cb++[gy 21 tok (.pl (cb+2)) (.lb aX)]:=by rw[w3,fQ,Ik,r0,dA,vL];simp only[Ga,fK,kE,bB.mp,kC,dq,ei,dJ,fu]
 have fg:HC=hS (.lb aq) cb++[gy 21 tok (.pl (cb+2)) (.pl (cb+4)),uy 0,if la=2 then gy 69 1073741824 (.lb aq) (.pl (cb+4))else gy 69 1073741824 (.pl (cb+4)) (.lb aq)]:=by
  rw[Hb,dg,Re];by_cases h2:la=2
  ·rw[aF h2,aF h2];exact arQ
  ·rw[au h2,au h2];exact arQ
 rw[GP,fg];unfold vM mid ends;rw[au ie,au ie,aLE];have hn:cb.length+1+(0+1+1+1+1)=cb.length+3+2:=aE;by_cases h2:la=2
 ·simp only[aF h2,gJ,gZ,iq,fQ,Ik,r5,abV,dA,vL,dJ,fu,fK,kE,hn];simp only[bB.mp,kC,r5,wA]
  rfl
 ·simp only[au h2,gJ,gZ,iq,fQ,Ik,r5,abV,dA,vL,dJ,fu,fK,kE,hn];simp only[bB.mp,kC,r5,wA]
  rfl
end e2
namespace le
open j7
def aLF{r:Rule}(h:sZ r):sZ (j6 r):=by
 have X:(j6 r).tests.length<=r.tests.length:=ah5
 refine⟨h.n,?_,cB X h.l,λt an=>h.t t (Da an).1⟩;exact ah6
def aLG{b5:Nat}{aN:List Rule}{r:Rule}(h:r∈nI b5 aN):∃s∈aN,r=j6 s:=by obtain⟨h,-⟩:=List.mem_filter.1 h;obtain⟨s,ab,rfl⟩:=iJ.1 h;exact⟨s,ab,rfl⟩
def am9{f:Filter}(h:gI f):gI (uU f):=by refine⟨h.a1,h.a2,h.d,cB (M8 _ _) h.l,λr hr=> ?_⟩;obtain⟨s,ab,rfl⟩:=aLG hr;exact aLF (h.r s ab)
end le
end Go.Proofs.YtopfefhenfineaaGreat
