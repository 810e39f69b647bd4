import Derived.Test.YtopfefhenfineaaGreatP3
import Derived.Test.YtopfefhenfineaaGreatP1
set_option linter.all false
set_option maxRecDepth 100000
set_option maxHeartbeats 8000000
namespace Go.Proofs.YtopfefhenfineaaGreat
open Go.Proofs.Tryz Go.RowKit bh
namespace jG
def WQ:Dat:=⟨0,0,0,0,0,0,0,0,0⟩
def awz:fT WQ:=by constructor<;>decide
theorem awC(k:Nat)(w:G):Calls prog 191 #[bg #[M 0,M 0,aA 0,aA 0,aA 0,aA 0,aA 0,aA 0,aA 0],M k] w λe F=>∃x:Int,e=aI (bH #[M x,H (if okW k=true then 0 else 41)])/\Ext w F:=
 (Vh WQ awz k w).mono λe F ⟨h1,h2⟩=>⟨((zR WQ k).1:Nat),h1.trans (by unfold zR;split<;>rfl),h2⟩
theorem yU(s:aD)(i len:Nat)(w:G):aM 356 #[bg #[bf s.c,M s.k,H s.th,H s.el],H i,H len] w (av (eU len i s)):=by
 obtain⟨c,k,th,el⟩:=s;have R:eU len i ⟨c,k,th,el⟩=if c=32 then((th==0)&&(el==0))&&okW k else if c=84\/c=6 then((th==0)&&(el==0))else if c=5 then(k==0)&&((el==0)&&there len i th)else gK c&&(there len i th&&there len i el):=rfl
 have nX:∀(B C:Nat) (W:G) (hB:W.cell? ⟨B,0,none⟩=some (H i)) (cq:W.cell? ⟨C,0,none⟩=some (H len)),Calls prog 396 #[H th,aB (some ⟨B,0,none⟩),aB (some ⟨C,0,none⟩)] W λe F=>e=aI (av (there len i th))/\Ext W F:=λB C W hB cq=>afR th len i B C W hB cq
 have IX:∀(B C:Nat) (W:G) (hB:W.cell? ⟨B,0,none⟩=some (H i)) (cq:W.cell? ⟨C,0,none⟩=some (H len)),Calls prog 396 #[H el,aB (some ⟨B,0,none⟩),aB (some ⟨C,0,none⟩)] W λe F=>e=aI (av (there len i el))/\Ext W F:=λB C W hB cq=>afR el len i B C W hB cq
 have cJ:=λ(W:G)=>awC k W
 have pm:=λ(W:G)=>Mf c W
 have rl:((k:Int)==0)=(k==0):=by rw[dW];simp
 dsimp only;cases cH:(th==0)
 all_goals cases ck:(el==0)
 all_goals
  rw[cH,ck]at R;by_cases c1:c=32
  ·subst c1;rw[aF rfl]at R;cases bJ:okW k
   all_goals
    rw[bJ]at R cJ;simp only[if_true,if_false,rM]at cJ;have gl:=z R;have rq:=z cJ;clear R cJ;have WR:=z bJ;have B5:=z pm;have Gy:=z nX;clear bJ pm nX;unfold aM;go_in;go_wp2_with(first
     |(go_at_call 191;refine(rq.o _).mono ?_;rintro e I ⟨x,rfl,Q⟩))
    go_ret;(first|(refine⟨by rw[gl.o];simp,?_⟩;(repeat(first|exact O _|apply Ext.alloc));done)|(refine⟨by rw[gl.o];simp,gP ?_ Q⟩;(repeat(first|exact O _|apply Ext.alloc));done)|(refine⟨by rw[gl.o];simp,gP (gP ?_ Q) ag⟩;(repeat(first|exact O _|apply Ext.alloc));done)|(refine⟨by rw[gl.o];simp,gP (gP (gP ?_ Q) ag) a'⟩;(repeat(first|exact O _|apply Ext.alloc));done))
  by_cases WS:c=84
  ·subst WS;rw[au Y,aF Y]at R;have gl:=z R;have rq:=z cJ;clear R cJ;have B5:=z pm;have Gy:=z nX;clear pm nX;unfold aM;go_in;go_wp2;go_ret;(first|(refine⟨by rw[gl.o];simp,?_⟩;(repeat(first|exact O _|apply Ext.alloc));done)|(refine⟨by rw[gl.o];simp,gP ?_ Q⟩;(repeat(first|exact O _|apply Ext.alloc));done)|(refine⟨by rw[gl.o];simp,gP (gP ?_ Q) ag⟩;(repeat(first|exact O _|apply Ext.alloc));done)|(refine⟨by rw[gl.o];simp,gP (gP (gP ?_ Q) ag) a'⟩;(repeat(first|exact O _|apply Ext.alloc));done))
  by_cases c6:c=6
  ·subst c6;rw[au Y,aF Y]at R;have gl:=z R;have rq:=z cJ;clear R cJ;have B5:=z pm;have Gy:=z nX;clear pm nX;unfold aM;go_in;go_wp2;go_ret;(first|(refine⟨by rw[gl.o];simp,?_⟩;(repeat(first|exact O _|apply Ext.alloc));done)|(refine⟨by rw[gl.o];simp,gP ?_ Q⟩;(repeat(first|exact O _|apply Ext.alloc));done)|(refine⟨by rw[gl.o];simp,gP (gP ?_ Q) ag⟩;(repeat(first|exact O _|apply Ext.alloc));done)|(refine⟨by rw[gl.o];simp,gP (gP (gP ?_ Q) ag) a'⟩;(repeat(first|exact O _|apply Ext.alloc));done))
  rw[au c1,au aE]at R;by_cases c5:c=5
  ·subst c5;rw[aF rfl]at R;clear c1 WS c6;cases hk:(k==0)
   all_goals
    rw[hk]at R rl;have gl:=z R;have rq:=z cJ;clear R cJ;have Gz:=z hk;have B5:=z pm;have Gy:=z nX;clear hk pm nX;unfold aM;go_in;go_wp2_with(first
     |(go_at_call 396;(with_reducible refine(Gy.o _ _ _ (by(first|(simp[go_sem];done)|exact Q.cell fC|exact(Q.trans ag).cell fC)) (by(first|(simp[go_sem];done)|exact Q.cell fC|exact(Q.trans ag).cell fC))).mono ?_);rintro e I ⟨rfl,Q⟩))
    go_ret;(first|(refine⟨by rw[gl.o];simp,?_⟩;(repeat(first|exact O _|apply Ext.alloc));done)|(refine⟨by rw[gl.o];simp,gP ?_ Q⟩;(repeat(first|exact O _|apply Ext.alloc));done)|(refine⟨by rw[gl.o];simp,gP (gP ?_ Q) ag⟩;(repeat(first|exact O _|apply Ext.alloc));done)|(refine⟨by rw[gl.o];simp,gP (gP (gP ?_ Q) ag) a'⟩;(repeat(first|exact O _|apply Ext.alloc));done))
  rw[au c5]at R;have aMD:((c:Int)==32)=false:=by simp;omega
  have aME:((c:Int)==84)=false:=by simp;omega
  have kh:((c:Int)==6)=false:=by simp;omega
  have hR:((c:Int)==5)=false:=by simp;omega
  clear c1 WS c6 c5 rl;cases bT:gK c
  ·rw[bT]at R pm;have gl:=z R;have rq:=z cJ;clear R cJ;have Eg:=z bT;have B5:=z pm;clear bT pm;have Gy:=z nX;have afS:=z IX;clear nX IX;unfold aM;go_in;go_wp2_with(first
    |(go_at_call 397;refine ak (B5.o _) ?_;intro I Q;have cY:=Q.cell (p:=⟨w,2,none⟩) (v:=H th) fC;have eh:=Q.cell (p:=⟨w,3,none⟩) (v:=H el) fC))
   go_ret;(first|(refine⟨by rw[gl.o];simp,?_⟩;(repeat(first|exact O _|apply Ext.alloc));done)|(refine⟨by rw[gl.o];simp,gP ?_ Q⟩;(repeat(first|exact O _|apply Ext.alloc));done)|(refine⟨by rw[gl.o];simp,gP (gP ?_ Q) ag⟩;(repeat(first|exact O _|apply Ext.alloc));done)|(refine⟨by rw[gl.o];simp,gP (gP (gP ?_ Q) ag) a'⟩;(repeat(first|exact O _|apply Ext.alloc));done))
  ·rw[bT]at R pm;cases an:there len i th
   all_goals
    rw[an]at R nX;have gl:=z R;have rq:=z cJ;clear R cJ;have Eg:=z bT;have B5:=z pm;clear bT pm;have I1:=z an;have Gy:=z nX;have afS:=z IX;clear an nX IX;unfold aM;go_in;go_wp2_with(first
     |(go_at_call 397;refine ak (B5.o _) ?_;intro I Q;have cY:=Q.cell (p:=⟨w,2,none⟩) (v:=H th) fC;have eh:=Q.cell (p:=⟨w,3,none⟩) (v:=H el) fC)
     |(go_at_call 396;(with_reducible refine(Gy.o _ _ _ (by(first|(simp[go_sem];done)|exact Q.cell fC|exact(Q.trans ag).cell fC)) (by(first|(simp[go_sem];done)|exact Q.cell fC|exact(Q.trans ag).cell fC))).mono ?_);rintro e aO ⟨rfl,ag⟩;have hL:=ag.cell eh)
     |(go_at_call 396;(with_reducible refine(afS.o _ _ _ (by(first|(simp[go_sem];done)|exact Q.cell fC|exact(Q.trans ag).cell fC)) (by(first|(simp[go_sem];done)|exact Q.cell fC|exact(Q.trans ag).cell fC))).mono ?_);rintro e bj ⟨rfl,a'⟩))
    go_ret;(first|(refine⟨by rw[gl.o];simp,?_⟩;(repeat(first|exact O _|apply Ext.alloc));done)|(refine⟨by rw[gl.o];simp,gP ?_ Q⟩;(repeat(first|exact O _|apply Ext.alloc));done)|(refine⟨by rw[gl.o];simp,gP (gP ?_ Q) ag⟩;(repeat(first|exact O _|apply Ext.alloc));done)|(refine⟨by rw[gl.o];simp,gP (gP (gP ?_ Q) ag) a'⟩;(repeat(first|exact O _|apply Ext.alloc));done))
end jG
end Go.Proofs.YtopfefhenfineaaGreat
