import Derived.Test.YtopfefhenfineaaGreatP2
import Derived.Test.YtopfefhenfineaaGreatP13
set_option linter.all false
set_option maxRecDepth 100000
set_option maxHeartbeats 8000000
namespace Go.Proofs.YtopfefhenfineaaGreat
open Go.Proofs.Tryz Go.RowKit V
namespace jO
def aa6:Dat:=⟨0,0,0,0,0,0,0,0,0⟩
def okZ:EU aa6:=by constructor<;>decide
theorem Rz(k:Nat)(w:ay):Calls prog 191 #[.agg #[.int .u32 0,.int .u32 0,.int .u64 0,.int .u64 0,.int .u64 0,.int .u64 0,.int .u64 0,.int .u64 0,.int .u64 0],.int .u32 k] w λe w'=>∃x:Int,e= .returned (.tuple #[.int .u32 x,.int .i64 (if okW k=true then 0 else 41)])/\Ext w w':=
 (Cg aa6 okZ k w).mono λe w' ⟨h1,h2⟩=>⟨((yB aa6 k).1:Nat),h1.trans (by unfold yB;split<;>rfl),h2⟩
theorem xJ(s:Sy)(i len:Nat)(w:ay):Rt 356 #[.agg #[.int .u16 s.c,.int .u32 s.k,.int .i64 s.th,.int .i64 s.el],.int .i64 i,.int .i64 len] w (.bool (jk len i s)):=by
 obtain⟨c,k,th,el⟩:=s;have hm:jk len i ⟨c,k,th,el⟩=if c=32 then((th==0)&&(el==0))&&okW k else if c=84\/c=6 then((th==0)&&(el==0))else if c=5 then(k==0)&&((el==0)&&there len i th)else gF c&&(there len i th&&there len i el):=rfl
 have hth:∀(B C:Nat) (W:ay) (hB:W.cell? ⟨B,0,none⟩=some (.int .i64 i)) (hC:W.cell? ⟨C,0,none⟩=some (.int .i64 len)),Calls prog 396 #[.int .i64 th,.pointer (some ⟨B,0,none⟩),.pointer (some ⟨C,0,none⟩)] W λe w'=>e= .returned (.bool (there len i th))/\Ext W w':=λB C W hB hC=>Fa th len i B C W hB hC
 have hte:∀(B C:Nat) (W:ay) (hB:W.cell? ⟨B,0,none⟩=some (.int .i64 i)) (hC:W.cell? ⟨C,0,none⟩=some (.int .i64 len)),Calls prog 396 #[.int .i64 el,.pointer (some ⟨B,0,none⟩),.pointer (some ⟨C,0,none⟩)] W λe w'=>e= .returned (.bool (there len i el))/\Ext W w':=λB C W hB hC=>Fa el len i B C W hB hC
 have hW:=λ(W:ay)=>Rz k W
 have hAs:=λ(W:ay)=>uD c W
 have hk0:((k:Int)==0)=(k==0):=by rw[bB];simp
 dsimp only;cases hb1:(th==0)
 all_goals cases hb2:(el==0)
 all_goals
  rw[hb1,hb2]at hm;by_cases c1:c=32
  ·subst c1;rw[aV rfl]at hm;cases hw:okW k
   all_goals
    rw[hw]at hm hW;simp only[if_true,if_false,iI]at hW;have tF:=ah hm;have Sl:=ah hW;clear hm hW;have Hhw:=ah hw;have N4:=ah hAs;have VB:=ah hth;clear hw hAs hth;unfold Rt;go_in;go_wp2_with(first
     |(go_at_call 191;refine(Sl.o _).mono ?_;rintro e w1 ⟨x,rfl,hx1⟩))
    go_ret;(first|(refine⟨by rw[tF.o];simp,?_⟩;(repeat(first|exact aj _|apply Ext.alloc));done)|(refine⟨by rw[tF.o];simp,aag ?_ hx1⟩;(repeat(first|exact aj _|apply Ext.alloc));done)|(refine⟨by rw[tF.o];simp,aag (aag ?_ hx1) hx2⟩;(repeat(first|exact aj _|apply Ext.alloc));done)|(refine⟨by rw[tF.o];simp,aag (aag (aag ?_ hx1) hx2) hx3⟩;(repeat(first|exact aj _|apply Ext.alloc));done))
  by_cases c84:c=84
  ·subst c84;rw[aN az,aV az]at hm;have tF:=ah hm;have Sl:=ah hW;clear hm hW;have N4:=ah hAs;have VB:=ah hth;clear hAs hth;unfold Rt;go_in;go_wp2;go_ret;(first|(refine⟨by rw[tF.o];simp,?_⟩;(repeat(first|exact aj _|apply Ext.alloc));done)|(refine⟨by rw[tF.o];simp,aag ?_ hx1⟩;(repeat(first|exact aj _|apply Ext.alloc));done)|(refine⟨by rw[tF.o];simp,aag (aag ?_ hx1) hx2⟩;(repeat(first|exact aj _|apply Ext.alloc));done)|(refine⟨by rw[tF.o];simp,aag (aag (aag ?_ hx1) hx2) hx3⟩;(repeat(first|exact aj _|apply Ext.alloc));done))
  by_cases c6:c=6
  ·subst c6;rw[aN az,aV az]at hm;have tF:=ah hm;have Sl:=ah hW;clear hm hW;have N4:=ah hAs;have VB:=ah hth;clear hAs hth;unfold Rt;go_in;go_wp2;go_ret;(first|(refine⟨by rw[tF.o];simp,?_⟩;(repeat(first|exact aj _|apply Ext.alloc));done)|(refine⟨by rw[tF.o];simp,aag ?_ hx1⟩;(repeat(first|exact aj _|apply Ext.alloc));done)|(refine⟨by rw[tF.o];simp,aag (aag ?_ hx1) hx2⟩;(repeat(first|exact aj _|apply Ext.alloc));done)|(refine⟨by rw[tF.o];simp,aag (aag (aag ?_ hx1) hx2) hx3⟩;(repeat(first|exact aj _|apply Ext.alloc));done))
  rw[aN c1,aN aq]at hm;by_cases c5:c=5
  ·subst c5;rw[aV rfl]at hm;clear c1 c84 c6;cases hk:(k==0)
   all_goals
    rw[hk]at hm hk0;have tF:=ah hm;have Sl:=ah hW;clear hm hW;have Hhk:=ah hk;have N4:=ah hAs;have VB:=ah hth;clear hk hAs hth;unfold Rt;go_in;go_wp2_with(first
     |(go_at_call 396;(with_reducible refine(VB.o _ _ _ (by(first|(simp[go_sem];done)|exact hx1.cell cq|exact(hx1.trans hx2).cell cq)) (by(first|(simp[go_sem];done)|exact hx1.cell cq|exact(hx1.trans hx2).cell cq))).mono ?_);rintro e w1 ⟨rfl,hx1⟩))
    go_ret;(first|(refine⟨by rw[tF.o];simp,?_⟩;(repeat(first|exact aj _|apply Ext.alloc));done)|(refine⟨by rw[tF.o];simp,aag ?_ hx1⟩;(repeat(first|exact aj _|apply Ext.alloc));done)|(refine⟨by rw[tF.o];simp,aag (aag ?_ hx1) hx2⟩;(repeat(first|exact aj _|apply Ext.alloc));done)|(refine⟨by rw[tF.o];simp,aag (aag (aag ?_ hx1) hx2) hx3⟩;(repeat(first|exact aj _|apply Ext.alloc));done))
  rw[aN c5]at hm;have e32:((c:Int)==32)=false:=by simp;omega
  have e84:((c:Int)==84)=false:=by simp;omega
  have e6:((c:Int)==6)=false:=by simp;omega
  have e5:((c:Int)==5)=false:=by simp;omega
  clear c1 c84 c6 c5 hk0;cases ha:gF c
  ·rw[ha]at hm hAs;have tF:=ah hm;have Sl:=ah hW;clear hm hW;have Hha:=ah ha;have N4:=ah hAs;clear ha hAs;have VB:=ah hth;have apc:=ah hte;clear hth hte;unfold Rt;go_in;go_wp2_with(first
    |(go_at_call 397;refine ap (N4.o _) ?_;intro w1 hx1;have q2:=hx1.cell (p:=⟨w,2,none⟩) (v:= .int .i64 th) cq;have q3:=hx1.cell (p:=⟨w,3,none⟩) (v:= .int .i64 el) cq))
   go_ret;(first|(refine⟨by rw[tF.o];simp,?_⟩;(repeat(first|exact aj _|apply Ext.alloc));done)|(refine⟨by rw[tF.o];simp,aag ?_ hx1⟩;(repeat(first|exact aj _|apply Ext.alloc));done)|(refine⟨by rw[tF.o];simp,aag (aag ?_ hx1) hx2⟩;(repeat(first|exact aj _|apply Ext.alloc));done)|(refine⟨by rw[tF.o];simp,aag (aag (aag ?_ hx1) hx2) hx3⟩;(repeat(first|exact aj _|apply Ext.alloc));done))
  ·rw[ha]at hm hAs;cases ht:there len i th
   all_goals
    rw[ht]at hm hth;have tF:=ah hm;have Sl:=ah hW;clear hm hW;have Hha:=ah ha;have N4:=ah hAs;clear ha hAs;have Hht:=ah ht;have VB:=ah hth;have apc:=ah hte;clear ht hth hte;unfold Rt;go_in;go_wp2_with(first
     |(go_at_call 397;refine ap (N4.o _) ?_;intro w1 hx1;have q2:=hx1.cell (p:=⟨w,2,none⟩) (v:= .int .i64 th) cq;have q3:=hx1.cell (p:=⟨w,3,none⟩) (v:= .int .i64 el) cq)
     |(go_at_call 396;(with_reducible refine(VB.o _ _ _ (by(first|(simp[go_sem];done)|exact hx1.cell cq|exact(hx1.trans hx2).cell cq)) (by(first|(simp[go_sem];done)|exact hx1.cell cq|exact(hx1.trans hx2).cell cq))).mono ?_);rintro e w2 ⟨rfl,hx2⟩;have q4:=hx2.cell q3)
     |(go_at_call 396;(with_reducible refine(apc.o _ _ _ (by(first|(simp[go_sem];done)|exact hx1.cell cq|exact(hx1.trans hx2).cell cq)) (by(first|(simp[go_sem];done)|exact hx1.cell cq|exact(hx1.trans hx2).cell cq))).mono ?_);rintro e w3 ⟨rfl,hx3⟩))
    go_ret;(first|(refine⟨by rw[tF.o];simp,?_⟩;(repeat(first|exact aj _|apply Ext.alloc));done)|(refine⟨by rw[tF.o];simp,aag ?_ hx1⟩;(repeat(first|exact aj _|apply Ext.alloc));done)|(refine⟨by rw[tF.o];simp,aag (aag ?_ hx1) hx2⟩;(repeat(first|exact aj _|apply Ext.alloc));done)|(refine⟨by rw[tF.o];simp,aag (aag (aag ?_ hx1) hx2) hx3⟩;(repeat(first|exact aj _|apply Ext.alloc));done))
end jO
end Go.Proofs.YtopfefhenfineaaGreat
