import Derived.Test.YtopfefhenfineaaGreatP0
set_option linter.all false
set_option maxRecDepth 100000
set_option maxHeartbeats 1000000
namespace Go.Proofs.YtopfefhenfineaaGreat
open Go.Proofs.Tryz Go.RowKit bh
variable{S:Prop}
def ada(h:S:=by rcases adb j Z with rfl|rfl|rfl|rfl|rfl|rfl|rfl|rfl|rfl|rfl|rfl|rfl|rfl|rfl|rfl|rfl<;>simp[go_sem]):S:=h
namespace jG
variable{B k:Nat}{d:Dat}{w:G}
def tb(d:Dat)(k j:Nat):Nat:=if j<2+2*k then(BL d).getD j 0 else 0
def adb(j:Nat)(h:j<16):j=0\/j=1\/j=2\/j=3\/j=4\/j=5\/j=6\/j=7\/j=8\/j=9\/j=10\/j=11\/j=12\/j=13\/j=14\/j=15:=aE
def lt7(j:Nat)(h:j<7):j=0\/j=1\/j=2\/j=3\/j=4\/j=5\/j=6:=aE
def asN(d:Dat)(k:Nat)(h:k<7):(BL d).getD (2+2*k) 0=lo ((wide d)[k]'h)/\(BL d).getD (3+2*k) 0=hi ((wide d)[k]'h):=by rcases lt7 k h with rfl|rfl|rfl|rfl|rfl|rfl|rfl<;>exact⟨rfl,rfl⟩
def asO(hd:fT d)(k:Nat)(h:k<7):(wide d)[k]'h<18446744073709551616:=by
 rcases lt7 k h with rfl|rfl|rfl|rfl|rfl|rfl|rfl
 ·exact hd.ip
 ·exact hd.a0
 ·exact hd.a1
 ·exact hd.a2
 ·exact hd.a3
 ·exact hd.a4
 ·exact hd.a5
def Vf(d:Dat):Array K:=((BL d).map λn:Nat=>Value.int .u32 n).toArray
def Vg(d:Dat):K:=bg (Vf d)
def asP(h:k<7)(ao:∀j,j<16->w.cell? ⟨B,j,none⟩=some (M (tb d k j:Nat))):∀j,j<16->((w.setCell ⟨B,2+2*k,none⟩ (M (lo ((wide d)[k]'h):Nat))).setCell ⟨B,3+2*k,none⟩ (M (hi ((wide d)[k]'h):Nat))).cell? ⟨B,j,none⟩=some (M (tb d (k+1) j:Nat)):=by
 intro j Z;obtain⟨aK,aV⟩:=asN d k h;by_cases T:j=3+2*k
 ·subst T;rw[World.cell?_setCell_same' _ _ _ (by rw[vo _ _ _ _ xL,ao _ Z];rfl)];unfold tb;rw[aF aE,aV]
 rw[vo _ _ _ _ xL];by_cases h2:j=2+2*k
 ·subst h2;rw[World.cell?_setCell_same' _ _ _ (by rw[ao _ Z];rfl)];unfold tb;rw[aF aE,aK]
 rw[vo _ _ _ _ xL,ao j Z];unfold tb;by_cases h1:j<2+2*k
 ·rw[aF h1,aF aE]
 ·rw[au h1,au aE]
def asQ(d:Dat)(ae:w.cell? ⟨B,3,none⟩=some (aA (d.a0:Int)))(h1:w.cell? ⟨B,4,none⟩=some (aA (d.a1:Int)))(h2:w.cell? ⟨B,5,none⟩=some (aA (d.a2:Int)))(T:w.cell? ⟨B,6,none⟩=some (aA (d.a3:Int)))(af:w.cell? ⟨B,7,none⟩=some (aA (d.a4:Int)))(aQ:w.cell? ⟨B,8,none⟩=some (aA (d.a5:Int))):aS w 1 fV (E (some ⟨B,3,none⟩) 6 6) [d.a0,d.a1,d.a2,d.a3,d.a4,d.a5]:=by
 refine⟨_,_,rfl,aZ _,(λh=>by cases h),λi hi=>⟨B,3,rfl,λj Z=> ?_⟩⟩;obtain rfl:j=0:=by simp[fV]at Z;omega
 rcases(show i=0\/i=1\/i=2\/i=3\/i=4\/i=5 by simp at hi;omega)with rfl|rfl|rfl|rfl|rfl|rfl
 ·exact ae
 ·exact h1
 ·exact h2
 ·exact T
 ·exact af
 ·exact aQ
theorem qC(d:Dat)(hd:fT d)(w:G):aM 256 #[gW d] w (Vg d):=by
 have asR:=ar3 d;have h9:=λ(k:Nat) (h:k<7) (W:G)=>PL _ (asO hd k h) W
 have bd:=λ(W:G) (B:Nat)=>asQ (w:=W) (B:=B) d
 have ade:∀(v:K) (W:G),aS W 1 fV v [d.a0,d.a1,d.a2,d.a3,d.a4,d.a5]->Calls prog 308 #[aA (d.ip:Int),v] W λe F=>∃a c,e=aI (E a 7 c)/\aS F 1 fV (E a 7 c) (wide d)/\(∀b o,a=some ⟨b,o,none⟩->W.heap.size<=b)/\Ext W F:=
  λv W hv=>ar5 d.ip v _ ay W hv
 have bE:∀j,j<16->tb d 0 j=if j=0 then d.nr else if j=1 then d.ar else 0:=by
  intro j Z;unfold tb;by_cases h:j<2
  ·rw[aF aE];rcases(show j=0\/j=1 from aE)with rfl|rfl<;>rfl
  ·rw[au aE,au aE,au aE]
 have UT:=z h9;have k0:=z bd;clear h9 bd;have asS:=z ade;have hl:=z bE;clear ade bE asR;unfold gW;unfold aM;go_in;go_wp2_with fail;refine ar9 (λaz=>Ext w az/\az.heap.size=w.heap.size+3/\az.cell? ⟨w,2,none⟩=some (aA (d.ip:Int))/\aS az 1 fV (E (some ⟨w,3,none⟩) 6 6) [d.a0,d.a1,d.a2,d.a3,d.a4,d.a5]/\(∀j,j<16->az.cell? ⟨w+2,j,none⟩=some (M (tb d 0 j:Nat)))/\(∀j,j<16->az.cell? ⟨w+1,j,none⟩=some (M 0))/\qU az (w+2)/\qU az (w+1)) ⟨?_,?_,?_,?_,?_,?_,?_,?_⟩ ?_
 ·exact(((O _).alloc _).alloc _).alloc _
 ·simp
 ·simp[go_sem]
 ·refine k0.o _ _ ?_ ?_ ?_ ?_ ?_ ?_<;>simp[go_sem]
 ·intro j Z;rw[hl.o j Z];exact ada
 ·intro j Z;exact ada
 ·intro j;simp[go_sem]
 ·intro j;simp[go_sem]
 rintro az ⟨Q,dp,c2,k2,ki,pw,va,vb⟩;have asT:=z va;have UV:=z vb;clear va vb;have bF:=z Q;have pB:=z k2;have DB:=z ki;have asU:=z pw;clear Q k2 ki pw;rw[show w.heap.size+1+1=w.heap.size+2 from aE]
 (go_region_held3 (λF=>F.cell? ⟨w,2,none⟩=some (aA (d.ip:Int))) (first|exact c2|exact ag.cell c2)
  ((go_at_call 308;refine(asS.o _ _ (pB.o.ext ((O _).drewN 1))).mono ?_;rintro e aO ⟨bv,bp,rfl,a6,kj,ag⟩)))
 have pd:=z a6;have ca:=z (((bF.o.drewN 1).trans ag));have hJ:∀j,j<16->aO.cell? ⟨w+2,j,none⟩=some (M (tb d 0 j:Nat)):=λj Z=>ag.cell (DB.o j Z)
 have hj:∀j,j<16->aO.cell? ⟨w+1,j,none⟩=some (M 0):=λj Z=>ag.cell (asU.o j Z)
 have eC:w.heap.size+3<=aO.heap.size:=by have:=ag.size;rw[heap_drewN]at this;omega
 have Ls:qU aO (w+2):=qU.ext ag (by rw[heap_drewN];omega) (λj=>(World.frozen?_drewN _ _ _).trans (asT.o j));have m4:qU aO (w+1):=qU.ext ag (by rw[heap_drewN];omega) (λj=>(World.frozen?_drewN _ _ _).trans (UV.o j));have Lt:=z Ls;have z4:=z m4;clear Ls m4;have kx:=z hJ;have sg:=z hj;have oj:∀b o,bv=some ⟨b,o,none⟩->w.heap.size+3<=b:=λb o h=>by have:=kj b o h;rw[heap_drewN]at this;omega
 have s3:=z oj;clear a6 ag hJ hj c2 kj oj;go_wp2_with fail;go_loopw [17] (λi wr=>∃k:Nat,k<=7/\i=H k/\Ext w wr/\Keep (λb=>b≠w.heap.size+2/\b<aO.heap.size) aO wr/\qU wr (w+2)/\∀j,j<16->wr.cell? ⟨w+2,j,none⟩=some (M (tb d k j:Nat))) (λi _=>7-(intOf i).toNat)
 case atStart=>exact⟨0,aE,rfl,ca.o,Keep.refl _ _,Lt.o,kx.o⟩
 case round=>
  obtain⟨k,hk,rfl,D,hT,wn,ol⟩:=hrel;have aT:=z D;by_cases ad:k<7
  ·obtain⟨a,c,e,-,-,b8⟩:=pd.o;obtain⟨rfl,-,rfl⟩:=Value.slice.inj e;obtain⟨b,o,rfl,ao⟩:=b8 k ad;have wq:aO.cell? ⟨b,o+k,none⟩=some (aA ((wide d)[k]'ad:Nat)):=by have:=ao 0 UK;simpa[fV]using this
   have adf:=s3.o b o rfl;have m5:=gD _ _ wq;have aLQ:wr.cell? ⟨b,o+k,none⟩=some (aA ((wide d)[k]'ad:Nat)):=by rw[hT.cell ⟨by simp only;omega,m5⟩];exact wq
   have ws:=λ(W:G) (h:∀j,j<16->W.cell? ⟨w+2,j,none⟩=some (M (tb d k j:Nat)))=>asP (d:=d) ad h
   have adg:=UT.o k ad;have ef:=ol (2+2*k) aE;have cY:=ol (3+2*k) aE;have adh:=ol;have FF:w.heap.size+2<wr.heap.size:=gD _ _ ef;have asV:=z ws;have asW:=z adh;clear ws adh;have UX:=z hT;have mu:=z ao;clear hT ao b8 wq e D ol;generalize(wide d)[k]'ad=x at *;have asX:=z adg;clear adg;go_wp2_with((go_at_call 309;refine ak (asX.o _) ?_;intro dC cN;have hK:=z cN;have hL:=cN.cell ef;have s4:=cN.cell cY;have PM:=qU.ext cN FF wn;have dg:=PM (2+2*k);have fg:=PM (3+2*k);have asY:=z PM;clear cN PM));refine⟨?_,?_⟩
   ·refine⟨k+1,aE,cZ,((aT.o.trans hK.o).setCell rT _).setCell rT _,?_,(asY.o.set _ _).set _ _,asV.o _ λj Z=>hK.o.cell (asW.o j Z)⟩;refine(UX.o.trans (Keep.of_below hK.o λb V=>by have:=UX.o.size;omega)).trans ((Keep.setCell _ (λh=>h.1 rfl) _).trans (Keep.setCell _ (λh=>h.1 rfl) _))
   ·exact eO
  ·obtain rfl:k=7:=aE;have c0:wr.cell? ⟨w+2,0,none⟩=some (M (d.nr:Nat)):=ol 0 aE;have fR:wr.cell? ⟨w+1,0,none⟩=some (M 0):=(hT.cell ⟨by simp only;omega,by simp only;omega⟩).trans (sg.o 0 aE);have c1:wr.cell? ⟨w+2,1,none⟩=some (M (d.ar:Nat)):=ol 1 aE;have ed:wr.cell? ⟨w+1,1,none⟩=some (M 0):=(hT.cell ⟨by simp only;omega,by simp only;omega⟩).trans (sg.o 1 aE);have c2:wr.cell? ⟨w+2,2,none⟩=some (M (lo d.ip:Nat)):=ol 2 aE;have eq:wr.cell? ⟨w+1,2,none⟩=some (M 0):=(hT.cell ⟨by simp only;omega,by simp only;omega⟩).trans (sg.o 2 aE);have c3:wr.cell? ⟨w+2,3,none⟩=some (M (hi d.ip:Nat)):=ol 3 aE;have q2:wr.cell? ⟨w+1,3,none⟩=some (M 0):=(hT.cell ⟨by simp only;omega,by simp only;omega⟩).trans (sg.o 3 aE);have c4:wr.cell? ⟨w+2,4,none⟩=some (M (lo d.a0:Nat)):=ol 4 aE;have DD:wr.cell? ⟨w+1,4,none⟩=some (M 0):=(hT.cell ⟨by simp only;omega,by simp only;omega⟩).trans (sg.o 4 aE);have c5:wr.cell? ⟨w+2,5,none⟩=some (M (hi d.a0:Nat)):=ol 5 aE;have HU:wr.cell? ⟨w+1,5,none⟩=some (M 0):=(hT.cell ⟨by simp only;omega,by simp only;omega⟩).trans (sg.o 5 aE);have c6:wr.cell? ⟨w+2,6,none⟩=some (M (lo d.a1:Nat)):=ol 6 aE;have Lv:wr.cell? ⟨w+1,6,none⟩=some (M 0):=(hT.cell ⟨by simp only;omega,by simp only;omega⟩).trans (sg.o 6 aE);have c7:wr.cell? ⟨w+2,7,none⟩=some (M (hi d.a1:Nat)):=ol 7 aE;have Lw:wr.cell? ⟨w+1,7,none⟩=some (M 0):=(hT.cell ⟨by simp only;omega,by simp only;omega⟩).trans (sg.o 7 aE);have c8:wr.cell? ⟨w+2,8,none⟩=some (M (lo d.a2:Nat)):=ol 8 aE;have HW:wr.cell? ⟨w+1,8,none⟩=some (M 0):=(hT.cell ⟨by simp only;omega,by simp only;omega⟩).trans (sg.o 8 aE);have vc:wr.cell? ⟨w+2,9,none⟩=some (M (hi d.a2:Nat)):=ol 9 aE;have Lx:wr.cell? ⟨w+1,9,none⟩=some (M 0):=(hT.cell ⟨by simp only;omega,by simp only;omega⟩).trans (sg.o 9 aE);have DE:wr.cell? ⟨w+2,10,none⟩=some (M (lo d.a3:Nat)):=ol 10 aE;have Ly:wr.cell? ⟨w+1,10,none⟩=some (M 0):=(hT.cell ⟨by simp only;omega,by simp only;omega⟩).trans (sg.o 10 aE);have DF:wr.cell? ⟨w+2,11,none⟩=some (M (hi d.a3:Nat)):=ol 11 aE;have Lz:wr.cell? ⟨w+1,11,none⟩=some (M 0):=(hT.cell ⟨by simp only;omega,by simp only;omega⟩).trans (sg.o 11 aE);have DH:wr.cell? ⟨w+2,12,none⟩=some (M (lo d.a4:Nat)):=ol 12 aE;have LA:wr.cell? ⟨w+1,12,none⟩=some (M 0):=(hT.cell ⟨by simp only;omega,by simp only;omega⟩).trans (sg.o 12 aE);have wv:wr.cell? ⟨w+2,13,none⟩=some (M (hi d.a4:Nat)):=ol 13 aE;have asZ:wr.cell? ⟨w+1,13,none⟩=some (M 0):=(hT.cell ⟨by simp only;omega,by simp only;omega⟩).trans (sg.o 13 aE);have z5:wr.cell? ⟨w+2,14,none⟩=some (M (lo d.a5:Nat)):=ol 14 aE;have as0:wr.cell? ⟨w+1,14,none⟩=some (M 0):=(hT.cell ⟨by simp only;omega,by simp only;omega⟩).trans (sg.o 14 aE);have LB:wr.cell? ⟨w+2,15,none⟩=some (M (hi d.a5:Nat)):=ol 15 aE;have as1:wr.cell? ⟨w+1,15,none⟩=some (M 0):=(hT.cell ⟨by simp only;omega,by simp only;omega⟩).trans (sg.o 15 aE);have p4:qU wr (w+1):=qU.keep hT ⟨aE,aE⟩ z4.o;have hs:wr.frozen? ⟨w+1,0,none⟩=false:=p4 0;have dc:wr.frozen? ⟨w+1,1,none⟩=false:=p4 1;have dv:wr.frozen? ⟨w+1,2,none⟩=false:=p4 2;have g':wr.frozen? ⟨w+1,3,none⟩=false:=p4 3;have k3:wr.frozen? ⟨w+1,4,none⟩=false:=p4 4;have mb:wr.frozen? ⟨w+1,5,none⟩=false:=p4 5;have p5:wr.frozen? ⟨w+1,6,none⟩=false:=p4 6;have s5:wr.frozen? ⟨w+1,7,none⟩=false:=p4 7;have vd:wr.frozen? ⟨w+1,8,none⟩=false:=p4 8;have aLR:wr.frozen? ⟨w+1,9,none⟩=false:=p4 9;have aLS:wr.frozen? ⟨w+1,10,none⟩=false:=p4 10;have aLT:wr.frozen? ⟨w+1,11,none⟩=false:=p4 11;have aLU:wr.frozen? ⟨w+1,12,none⟩=false:=p4 12;have aLV:wr.frozen? ⟨w+1,13,none⟩=false:=p4 13;have as2:wr.frozen? ⟨w+1,14,none⟩=false:=p4 14;have as3:wr.frozen? ⟨w+1,15,none⟩=false:=p4 15;have aLW:=z p4;have aLX:=z wn;clear p4 wn;have aLY:=z ol;have UX:=z hT;clear ol hT D;go_wp2_with fail;refine cO (v:=Vg d) (by simp[results,results256,go_sem,fR,ed,eq,q2,DD,HU,Lv,Lw,HW,Lx,Ly,Lz,LA,asZ,as0,as1];rfl) rfl ⟨rfl,?_⟩
   repeat(refine Ext.setCell ?_ rT _)
   exact aT.o
end jG
def adi(h:S:=by unfold aM;go_in;go_wp2;go_ret2;exact⟨rfl,((O _).alloc _)⟩):S:=h
namespace jG
theorem as4(d:Dat)(k:Nat)(h:k<64)(w:G):(Instr.index 165 (bg (Vf d)) (M ((k:Int)/4))).run prog w= .ok (M (wd d k:Nat)) w:=by have Z:k/4<16:=aE;have e:((k:Int)/4)=((k/4:Nat):Int):=aE;have bJ:wd d k=(BL d).getD (k/4) 0:=rfl;rw[e,bJ];generalize k/4=j at *;rcases adb j Z with rfl|rfl|rfl|rfl|rfl|rfl|rfl|rfl|rfl|rfl|rfl|rfl|rfl|rfl|rfl|rfl<;>rfl
theorem Vh(d:Dat)(hd:fT d)(k:Nat)(w:G):aM 191 #[gW d,M k] w (bH #[M ((zR d k).1:Nat),H (zR d k).2]):=by
 have bE:=λW=>qC d hd W
 unfold gW Vg at bE;unfold gW;by_cases h1:k%4=0
 ·have cs:((k:Int)%4 !=0)=false:=by simp;omega
  by_cases h2:k<64
  ·have bl:zR d k=(wd d k,0):=by unfold zR;rw[aF (by simp[okW,h1,h2])]
   have eg:decide (64<=(k:Int))=false:=dM aE;have U':decide (64<=k)=false:=dM aE;have bS:=as4 d k h2;rw[bl];have ee:=z bl;have hl:=z bE;have tD:=z h1;generalize Vf d=bz at *;unfold aM;go_in;go_wp2_with((go_at_call 256;refine ak (hl.o _) ?_;intro I Q));go_ret2;exact UF
  ·have bl:zR d k=(0,41):=by unfold zR;rw[au (by simp[okW];omega)]
   have eg:decide (64<=(k:Int))=true:=dH aE;have U':decide (64<=k)=true:=dH aE;rw[bl];have ee:=z bl;have hl:=z bE;have tD:=z h1;have HX:=z h2;exact adi
 ·have cs:((k:Int)%4 !=0)=true:=by simp;omega
  have bl:zR d k=(0,41):=by unfold zR;rw[au (by simp[okW];omega)]
  rw[bl];have ee:=z bl;have hl:=z bE;have tD:=z h1;exact adi
end jG
end Go.Proofs.YtopfefhenfineaaGreat
