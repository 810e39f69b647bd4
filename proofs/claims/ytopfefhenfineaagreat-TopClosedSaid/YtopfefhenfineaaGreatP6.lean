import Derived.Test.YtopfefhenfineaaGreatP2
import Derived.Test.YtopfefhenfineaaGreatP5
import Derived.StillTail
import Derived.StillTactics
import Derived.OrdersIn
import Derived.TacticsIn
set_option linter.all false
set_option maxRecDepth 100000
namespace Go.Proofs.YtopfefhenfineaaGreat
open Go.Proofs.Tryz Go Go.RowKit
variable{zP:Prop}
def vA(h:zP:=by subst hji;exact hy.wpOpIn hF hi (hdef _ _ hi) hS ⟨λ_=>hS,H⟩):zP:=h
def vu(h:zP:=by have:o'=oj:=bV (ho'.symm.trans hoj);subst this;exact hnot e he hb hon):zP:=h
def vp(h:zP:=by have h1:=hall e he hb;have h0:=(mem_ready.1 hr).1;rw[heq]at h1;exact ur):zP:=h
def rr(h:zP:=by
 cases fuel with
 |zero=>exact⟨hr,h⟩
 |succ f=>exact⟨λ_=>h,by rw[hr];simp⟩):zP:=h
def vh(h:zP:=by rw[Array.setIfInBounds_comm _ _ hji];exact h3.2.2):zP:=h
def uC(h:zP:=by
 cases e with
 |returned u=>exact⟨keep a hy u,by rw[<-Act.put_comm a v u h2];exact he⟩
 |panicked c=>exact he
 |outgrown=>exact he):zP:=h
def ur(h:zP:=by
 rcases Nat.lt_or_ge i listed.size with h'|h'
 ·simp[h']at h0 h1;rw[h0]at h1;cases h1
 ·simp[jG h']at h1):zP:=h
def dm(h:zP:=by simpa using hr):zP:=h
def dy(h:zP:=by rw[h]at hr;cases hr):zP:=h
namespace V
section
variable {P:Program} {ops:Array Oper} {md:Region.Mode} {w:ay} {l n:Nat}
def uU(r:List Oper):Bool:=r.all λo=>match o.op with| .defer _=>false|_=>true
def sZ{r:List Oper}(h:uU r=true):∀(i:Nat)(o:Oper),r.toArray[i]?=some o->∀c,o.op≠ .defer c:=by
 intro i o ho c hc;have hm:o∈r:=by rw[List.getElem?_toArray]at ho;exact List.mem_of_getElem? ho
 have:=List.all_eq_true.1 h o hm;simp only[hc]at this;cases this
def Calm(Q:Exit->Act->ay->Prop):Exit->Act->ay->Prop
 | .panic _,_,_=>False
 |e,a,w=>Q e a w
def Calm.imp{Q:Exit->Act->ay->Prop}:∀(e:Exit)(a:Act)(w:ay),Calm Q e a w->Q e a w:=λe a w h=>by cases e<;>first|exact h|exact(h:False).elim
def Oper.jM(w:ay)(v:aA):Result Next->Prop
 | .ok (.value u) w'=>w'=w/\u=v
 | .ok .skip w'=>w'=w/\v=undef
 |_=>False
def Oper.mE(P:Program)(o:Oper)(a:Act)(w:ay)(v:aA):Prop:=Oper.jM w v ((execOp a.eval o).run P w)
def Oper.idle(P:Program)(o:Oper)(a:Act)(S:ay->Prop)(next:Act->Prop):Prop:= ∃v,(∀w,S w->Oper.mE P o a w v)/\next (a.put o.dst v)
def wX(P:Program)(ops:Array Oper)(S:ay->Prop)(o:Oper)(v:aA)(a:Act):Prop:=
 (Region.wanted o (yielded ops a.tmps)=true/\∀w,S w->Oper.mE P o a w v)\/(Region.wanted o (yielded ops a.tmps)=false/\v=undef)
def wX.of_same{S:ay->Prop}{o:Oper}{v:aA}{a a':Act}(hy:wX P ops S o v a)(he:execOp a'.eval o=execOp a.eval o)(hw:Region.wanted o (yielded ops a'.tmps)=Region.wanted o (yielded ops a.tmps)):wX P ops S o v a':=by unfold wX Oper.mE at *;rw[he,hw];exact hy
theorem wX.wpOpIn{F:Fence}(hF:∀f,F.fn f){S:ay->Prop}{Q:Exit->Act->ay->Prop}{i:Nat}{o:Oper}{v:aA}{a:Act}(hi:ops[i]?=some o)(hd:∀c,o.op≠ .defer c)(hy:wX P ops S o v a){K:Act->ay->Prop}(hS:S w)(h:K (a.put o.dst v) w):wpOpIn F n P ops Q i K a w:=by
 unfold Go.wpOpIn;simp only[hi];rcases hy with⟨hw,hv⟩|⟨hw,rfl⟩
 ·simp only[hw,if_true];refine⟨λ_ _=>hF _,?_⟩;rw[Oper.semAt_eq _ _ _ hd];have h3:=hv w hS;unfold Oper.mE at h3;generalize(execOp a.eval o).run P w=r at *;cases r with
  |ok x w'=>
   cases x<;>simp only[Oper.jM]at h3<;>simp only[Oper.uponIn]
   case value u=>rw[h3.1,h3.2];exact h
   case skip=>rw[h3.1,<-h3.2];exact h
  |halt x w'=>simp only[Oper.jM]at h3
 ·simp only[hw,iI,if_false];exact⟨λ_ _=>hF _,h⟩
def sF(F:Fence)(n:Nat)(P:Program)(md:Region.Mode)(ops:Array Oper)(Q:Exit->Act->ay->Prop)(S:ay->Prop)(last:Nat):Nat->Array Bool->Act->ay->Prop
 |0,listed,a,w=>Region.ready md ops listed=[]/\Q .normal a w
 |fuel+1,listed,a,w=>(Region.ready md ops listed=[]->Q .normal a w)/\
  ∀i∈Region.ready md ops listed,wpOpIn F n P ops Q i (λa' w'=>(i≠last->S w')/\sF F n P md ops Q S last fuel (listed.setIfInBounds i true) a' w') a w
theorem Cr{F:Fence}{Q:Exit->Act->ay->Prop}{S:ay->Prop}{last:Nat}:∀(fuel:Nat)(listed:Array Bool)(a:Act)(w:ay),sF F n P md ops Q S last fuel listed a w->wpAnyIn F n P md ops Q fuel listed a w
 |0,_,_,_,h=>h
 |fuel+1,_,_,_,h=>⟨h.1,λi hi=>wpOpIn_mono (λa' w' hh=>Cr fuel _ a' w' hh.2) (h.2 i hi)⟩
theorem MZ{F:Fence}(hF:∀f,F.fn f){S:ay->Prop}{Q:Exit->Act->ay->Prop}{j:Nat}{oi oj:Oper}{v:aA}(hj:ops[j]?=some oj)(hdj:∀c,oj.op≠ .defer c)(hap:oi.apart ops oj=true)(hsi:∀cs b,oi.op≠ .select cs b)(hsj:∀cs b,oj.op≠ .select cs b){K:Act->ay->Prop}{a:Act}(hy:wX P ops S oi v a)(h:wpOpIn F n P ops (Calm Q) j K (a.put oi.dst v) w):wpOpIn F n P ops (Calm Q) j (λa' w'=>wX P ops S oi v a'/\K (a'.put oi.dst v) w') a w:=by
 obtain⟨h1,h2,h3⟩:=Oper.apart_spec hap;have keep:∀(a:Act),wX P ops S oi v a->∀u,wX P ops S oi v (a.put oj.dst u):=λa hy u=>hy.of_same (execOp_put oi hsi a oj.dst u h3) (wanted_put oi a oj.dst u h3)
 unfold wpOpIn at *;simp only[hj]at *;rw[wanted_put oj a oi.dst v h1]at h;split
 ·rename_i hw;simp only[hw,if_true]at h;unfold Oper.wpIn at *;refine⟨λ_ _=>hF _,?_⟩;have h:=h.2;rw[Oper.semAt_eq _ _ _ hdj,execOp_put oj hsj a oi.dst v h1]at h;rw[Oper.semAt_eq _ _ _ hdj];generalize(execOp a.eval oj).run P w=r at *;cases r with
  |ok x w'=>
   cases x<;>simp only[Oper.uponIn]at h⊢
   case value u=>exact⟨keep a hy u,by rw[<-Act.put_comm a v u h2];exact h⟩
   case skip=>exact⟨keep a hy _,by rw[<-Act.put_comm a v undef h2];exact h⟩
   case defer d=>refine⟨keep {a with defers:=d::a.defers} (hy.of_same rfl rfl) _,?_⟩;rw[<-Act.put_comm _ v undef h2,<-Act.put_defers];exact h
   case enter f args=>refine⟨h.1,CallsIn.mono h.2 λe w'' he=> ?_⟩;exact uC
   case row row args=>exact⟨h.1,RowsIn.mono h.2 λu w'' he=>⟨keep a hy u,by rw[<-Act.put_comm a v u h2];exact he⟩⟩
   case round l f tmps assign body=>refine⟨h.1,RoundIn.mono h.2 λe w'' he=> ?_⟩;exact uC
  |halt x w'=>
   cases x<;>simp only[Oper.uponIn]at h⊢
   case panic u=>exact h
 ·rename_i hw;simp only[hw]at h;exact⟨λ_ _=>hF _,keep a hy _,by rw[<-Act.put_comm a v undef h2];exact h.2⟩
def yA{F:Fence}(hF:∀f,F.fn f){S:ay->Prop}{Q:Exit->Act->ay->Prop}{i last:Nat}{oi:Oper}{v:aA}(hi:ops[i]?=some oi)(hdef:∀(i:Nat)(o:Oper),ops[i]?=some o->∀c,o.op≠ .defer c)(hsel:∀(j:Nat)(o:Oper) cs b,ops[j]?=some o->o.op≠ .select cs b)(hil:i≠last)(hlast:Region.waitsFor md ops last i=true):∀(fuel:Nat)(listed:Array Bool)(a:Act)(w:ay),(∀j oj,ops[j]?=some oj->j≠i->listed.getD j true=false->(∀e∈oj.after,Region.binds md e=true->e.on≠i)->oi.apart ops oj=true)->i∈Region.ready md ops listed->wX P ops S oi v a->S w->sF F n P md ops (Calm Q) S last fuel (listed.setIfInBounds i true) (a.put oi.dst v) w->sF F n P md ops (Calm Q) S last (fuel+1) listed a w:=by
 intro fuel
 induction fuel with
 |zero=>
  intro listed a w _ hr hy hS H;refine⟨λh=>dy,λj hj=> ?_⟩;by_cases hji:j=i
  ·exact vA
  ·have:=ready_mono hj hji;rw[H.1]at this;cases this
 |succ fuel ih=>
  intro listed a w hfree hr hy hS H;refine⟨λh=>dy,λj hj=> ?_⟩;by_cases hji:j=i
  ·exact vA
  ·have h1:=H.2 j (ready_mono hj hji);obtain⟨hjun,oj,hoj,hall⟩:=mem_ready.1 hj;have hnot:∀e∈oj.after,Region.binds md e=true->e.on≠i:=λe he hb heq=>vp
   have hjl:j≠last:=λe=>by subst e;obtain⟨o',ho',e,he,hb,hon⟩:=Region.waitsFor_spec hlast;exact vu
   have h2:=MZ hF hoj (hdef _ _ hoj) (hfree j oj hoj hji hjun hnot) (λcs b=>hsel i oi cs b hi) (λcs b=>hsel j oj cs b hoj) hy h1;have hfree':∀k ok,ops[k]?=some ok->k≠i->(listed.setIfInBounds j true).getD k true=false->
    (∀e∈ok.after,Region.binds md e=true->e.on≠i)->oi.apart ops ok=true:=λk ok hk hki hun hno=>by
    refine hfree k ok hk hki ?_ hno;by_cases hjk:j=k
    ·subst hjk;exact hjun
    ·rw[getD_set_ne true hjk]at hun;exact hun
   refine wpOpIn_mono (λa' w' h3=>⟨h3.2.1,ih (listed.setIfInBounds j true) a' w' hfree' (ready_mono hr (Ne.symm hji)) h3.1 (h3.2.1 hjl) ?_⟩) h2;exact vh
def Mf{F:Fence}(hF:∀f,F.fn f){S:ay->Prop}{Q:Exit->Act->ay->Prop}(i:Nat){last:Nat}{oi:Oper}{fuel:Nat}{listed:Array Bool}{a:Act}(hi:ops[i]?=some oi)(hdef:uU ops.toList=true)(hs:Region.noSelect ops=true)(hf:Region.free md ops listed i=true)(hr:(Region.ready md ops listed).contains i=true)(hil:decide (i≠last)=true)(hlast:Region.waitsFor md ops last i=true)(hS:S w)(h:∀K:Act->Prop,(∀a,sF F n P md ops (Calm Q) S last fuel (listed.setIfInBounds i true) a w->K a)->if Region.wanted oi (yielded ops a.tmps)then Oper.idle P oi a S K else K (a.put oi.dst undef)):sF F n P md ops (Calm Q) S last (fuel+1) listed a w:=by
 have h1:=h _ (λ_ h=>h);have hd:=sZ hdef;rw[Array.toArray_toList]at hd;split at h1
 ·rename_i hw;obtain⟨v,hv,hn⟩:=h1;exact yA hF hi hd (Region.noSelect_spec hs) (of_decide_eq_true hil) hlast fuel listed a w (Region.free_spec hi hf) dm (.inl ⟨hw,hv⟩) hS hn
 ·rename_i hw;exact yA hF hi hd (Region.noSelect_spec hs) (of_decide_eq_true hil) hlast fuel listed a w (Region.free_spec hi hf) dm (.inr ⟨by simpa using hw,rfl⟩) hS h1
def fV{F:Fence}{S:ay->Prop}{Q:Exit->Act->ay->Prop}(i:Nat){last:Nat}{oi:Oper}{fuel:Nat}{listed:Array Bool}{a:Act}(hi:ops[i]?=some oi)(hS:S w)(h:∀K:Act->Prop,(∀a,sF F n P md ops (Calm Q) S last fuel (listed.setIfInBounds i true) a w->K a)->if Region.wanted oi (yielded ops a.tmps)then Oper.idle P oi a S K else K (a.put oi.dst undef))(hF:∀f,F.fn f:=by exactλ_=>trivial)(hdef:uU ops.toList=true:=by kernel_rfl)(hs:Region.noSelect ops=true:=by kernel_rfl)(hf:Region.free md ops listed i=true:=by kernel_rfl)(hr:(Region.ready md ops listed).contains i=true:=by kernel_rfl)(hil:decide (i≠last)=true:=by rfl)(hlast:Region.waitsFor md ops last i=true:=by kernel_rfl):sF F n P md ops (Calm Q) S last (fuel+1) listed a w:=Mf hF i hi hdef hs hf hr hil hlast hS h
def ai{F:Fence}{S:ay->Prop}{Q:Exit->Act->ay->Prop}(i:Nat){last:Nat}{oi:Oper}{fuel:Nat}{listed:Array Bool}{a:Act}(hi:ops[i]?=some oi)(hS:S w){zQ:Prop}(q:zQ)(h:ae zQ->∀K:Act->Prop,(∀a,sF F n P md ops (Calm Q) S last fuel (listed.setIfInBounds i true) a w->K a)->if Region.wanted oi (yielded ops a.tmps)then Oper.idle P oi a S K else K (a.put oi.dst undef):=by intro zq K hK;go_simp;exact hK _ zq.o)(hF:∀f,F.fn f:=by exactλ_=>trivial)(hdef:uU ops.toList=true:=by kernel_rfl)(hs:Region.noSelect ops=true:=by kernel_rfl)(hf:Region.free md ops listed i=true:=by kernel_rfl)(hr:(Region.ready md ops listed).contains i=true:=by kernel_rfl)(hil:decide (i≠last)=true:=by rfl)(hlast:Region.waitsFor md ops last i=true:=by kernel_rfl):sF F n P md ops (Calm Q) S last (fuel+1) listed a w:=Mf hF i hi hdef hs hf hr hil hlast hS (h ⟨q⟩)
theorem jP{F:Fence}{S:ay->Prop}{Q:Exit->Act->ay->Prop}(k:Nat){last:Nat}{o:Oper}{fuel:Nat}{listed:Array Bool}{a:Act}(hr:Region.ready md ops listed=[k])(ho:ops[k]?=some o)(h:∀K:Act->ay->Prop,(∀a w,(k≠last->S w)->sF F n P md ops Q S last fuel (listed.setIfInBounds k true) a w->K a w)->if Region.wanted o (yielded ops a.tmps)=true then Oper.wpIn F n P o a w K Q else(∀f,o.about P w a.eval=some f->F.fn f)/\K (a.put o.dst undef) w):sF F n P md ops Q S last (fuel+1) listed a w:=by
 refine⟨(λh0=>by rw[hr]at h0;cases h0),λi hi=> ?_⟩;rw[hr]at hi;obtain rfl:i=k:=by simpa using hi
 unfold wpOpIn;rw[ho];exact h _ (λa w h1 h2=>⟨h1,h2⟩)
def yV{F:Fence}{S:ay->Prop}{Q:Exit->Act->ay->Prop}{last fuel:Nat}{listed:Array Bool}{a:Act}(hr:Region.ready md ops listed=[])(h:Q .normal a w):sF F n P md ops Q S last fuel listed a w:=rr
theorem vH{F:Fence}{id:Nat}{Q:Exit->Act->ay->Prop}{a:Act}{r:List Oper}(last:Nat)(S:ay->Prop)(hm:P.follows .mixedOrders=true)(h:sF F n P .any r.toArray (Calm Q) S last r.toArray.size (Array.replicate r.toArray.size false) a w.drew):(Code.region id r.toArray true).wpIn F n P Q a w:=
 wpIn_mono (wpIn_region_any hm (Cr _ _ _ _ h)) Calm.imp
end
end V
def vd(h:zP:=by
 refine⟨λh=>dy,λj hj=> ?_⟩;by_cases hji:j=i
 ·exact ux
 ·have:=ready_mono hj hji;rw[H.1]at this;cases this):zP:=h
def ux(h:zP:=by subst hji;exact hy.wpOpIn hF hi (hdef _ _ hi) hS ⟨λ_ h=>h,H⟩):zP:=h
namespace V
section
variable {P:Program} {ops:Array Oper} {md:Region.Mode} {w:ay} {n:Nat}
def kr(F:Fence)(n:Nat)(P:Program)(md:Region.Mode)(ops:Array Oper)(Q:Exit->Act->ay->Prop)(S:ay->Prop)(late:List Nat):Nat->Array Bool->Act->ay->Prop
 |0,listed,a,w=>Region.ready md ops listed=[]/\Q .normal a w
 |fuel+1,listed,a,w=>(Region.ready md ops listed=[]->Q .normal a w)/\
  ∀i∈Region.ready md ops listed,wpOpIn F n P ops Q i (λa' w'=>(i∉late->S w->S w')/\kr F n P md ops Q S late fuel (listed.setIfInBounds i true) a' w') a w
theorem Cq{F:Fence}{Q:Exit->Act->ay->Prop}{S:ay->Prop}{late:List Nat}:∀(fuel:Nat)(listed:Array Bool)(a:Act)(w:ay),kr F n P md ops Q S late fuel listed a w->wpAnyIn F n P md ops Q fuel listed a w
 |0,_,_,_,h=>h
 |fuel+1,_,_,_,h=>⟨h.1,λi hi=>wpOpIn_mono (λa' w' hh=>Cq fuel _ a' w' hh.2) (h.2 i hi)⟩
def pz{F:Fence}(hF:∀f,F.fn f){S S2:ay->Prop}{Q:Exit->Act->ay->Prop}{i:Nat}{late:List Nat}{oi:Oper}{v:aA}(hi:ops[i]?=some oi)(hdef:∀(i:Nat)(o:Oper),ops[i]?=some o->∀c,o.op≠ .defer c)(hsel:∀(j:Nat)(o:Oper) cs b,ops[j]?=some o->o.op≠ .select cs b)(hcase:(∀w,S2 w)\/(S2=S/\∀l∈late,Region.waitsFor md ops l i=true)):∀(fuel:Nat)(listed:Array Bool)(a:Act)(w:ay),(∀j oj,ops[j]?=some oj->j≠i->listed.getD j true=false->(∀e∈oj.after,Region.binds md e=true->e.on≠i)->oi.apart ops oj=true)->i∈Region.ready md ops listed->wX P ops S2 oi v a->S2 w->kr F n P md ops (Calm Q) S late fuel (listed.setIfInBounds i true) (a.put oi.dst v) w->kr F n P md ops (Calm Q) S late (fuel+1) listed a w:=by
 intro fuel
 induction fuel with
 |zero=>intro listed a w _ hr hy hS H;exact vd
 |succ fuel ih=>
  intro listed a w hfree hr hy hS H;refine⟨λh=>dy,λj hj=> ?_⟩;by_cases hji:j=i
  ·exact ux
  ·have h1:=H.2 j (ready_mono hj hji);obtain⟨hjun,oj,hoj,hall⟩:=mem_ready.1 hj;have hnot:∀e∈oj.after,Region.binds md e=true->e.on≠i:=λe he hb heq=>vp
   have hkeep:∀w',(j∉late->S w->S w')->S2 w':=λw' hk=>by
    rcases hcase with hc|⟨rfl,hc⟩
    ·exact hc w'
    ·refine hk (λhjl=> ?_) hS;obtain⟨o',ho',e,he,hb,hon⟩:=Region.waitsFor_spec (hc j hjl);exact vu
   have h2:=MZ hF hoj (hdef _ _ hoj) (hfree j oj hoj hji hjun hnot) (λcs b=>hsel i oi cs b hi) (λcs b=>hsel j oj cs b hoj) hy h1;have hfree':∀k ok,ops[k]?=some ok->k≠i->(listed.setIfInBounds j true).getD k true=false->
    (∀e∈ok.after,Region.binds md e=true->e.on≠i)->oi.apart ops ok=true:=λk ok hk hki hun hno=>by
    refine hfree k ok hk hki ?_ hno;by_cases hjk:j=k
    ·subst hjk;exact hjun
    ·rw[getD_set_ne true hjk]at hun;exact hun
   refine wpOpIn_mono (λa' w' h3=>⟨h3.2.1,ih (listed.setIfInBounds j true) a' w' hfree' (ready_mono hr (Ne.symm hji)) h3.1 (hkeep w' h3.2.1) ?_⟩) h2;exact vh
def nW{F:Fence}(hF:∀f,F.fn f){S:ay->Prop}{Q:Exit->Act->ay->Prop}(i:Nat){late:List Nat}{oi:Oper}{fuel:Nat}{listed:Array Bool}{a:Act}(hi:ops[i]?=some oi)(hdef:uU ops.toList=true)(hs:Region.noSelect ops=true)(hf:Region.free md ops listed i=true)(hr:(Region.ready md ops listed).contains i=true)(hlast:(late.all λl=>Region.waitsFor md ops l i)=true)(hS:S w)(h:∀K:Act->Prop,(∀a,kr F n P md ops (Calm Q) S late fuel (listed.setIfInBounds i true) a w->K a)->if Region.wanted oi (yielded ops a.tmps)then Oper.idle P oi a S K else K (a.put oi.dst undef)):kr F n P md ops (Calm Q) S late (fuel+1) listed a w:=by
 have h1:=h _ (λ_ h=>h);have hd:=sZ hdef;rw[Array.toArray_toList]at hd;have hc:(∀w,S w)\/(S=S/\∀l∈late,Region.waitsFor md ops l i=true):= .inr ⟨rfl,λl hl=>List.all_eq_true.1 hlast l hl⟩;split at h1
 ·rename_i hw;obtain⟨v,hv,hn⟩:=h1;exact pz hF hi hd (Region.noSelect_spec hs) hc fuel listed a w (Region.free_spec hi hf) dm (.inl ⟨hw,hv⟩) hS hn
 ·rename_i hw;exact pz hF hi hd (Region.noSelect_spec hs) hc fuel listed a w (Region.free_spec hi hf) dm (.inr ⟨by simpa using hw,rfl⟩) hS h1
def JX{F:Fence}(hF:∀f,F.fn f){S:ay->Prop}{Q:Exit->Act->ay->Prop}(i:Nat){late:List Nat}{oi:Oper}{fuel:Nat}{listed:Array Bool}{a:Act}(hi:ops[i]?=some oi)(hdef:uU ops.toList=true)(hs:Region.noSelect ops=true)(hf:Region.free md ops listed i=true)(hr:(Region.ready md ops listed).contains i=true)(h:∀K:Act->Prop,(∀a,kr F n P md ops (Calm Q) S late fuel (listed.setIfInBounds i true) a w->K a)->if Region.wanted oi (yielded ops a.tmps)then Oper.idle P oi a (λ_=>True) K else K (a.put oi.dst undef)):kr F n P md ops (Calm Q) S late (fuel+1) listed a w:=by
 have h1:=h _ (λ_ h=>h);have hd:=sZ hdef;rw[Array.toArray_toList]at hd;have hc:(∀w,(λ_:ay=>True) w)\/((λ_:ay=>True)=S/\∀l∈late,Region.waitsFor md ops l i=true):= .inl λ_=>trivial
 split at h1
 ·rename_i hw;obtain⟨v,hv,hn⟩:=h1;exact pz hF hi hd (Region.noSelect_spec hs) hc fuel listed a w (Region.free_spec hi hf) dm (.inl ⟨hw,hv⟩) trivial hn
 ·rename_i hw;exact pz hF hi hd (Region.noSelect_spec hs) hc fuel listed a w (Region.free_spec hi hf) dm (.inr ⟨by simpa using hw,rfl⟩) trivial h1
def fT{F:Fence}{S:ay->Prop}{Q:Exit->Act->ay->Prop}(i:Nat){late:List Nat}{oi:Oper}{fuel:Nat}{listed:Array Bool}{a:Act}(hi:ops[i]?=some oi)(h:∀K:Act->Prop,(∀a,kr F n P md ops (Calm Q) S late fuel (listed.setIfInBounds i true) a w->K a)->if Region.wanted oi (yielded ops a.tmps)then Oper.idle P oi a (λ_=>True) K else K (a.put oi.dst undef))(hF:∀f,F.fn f:=by exactλ_=>trivial)(hdef:uU ops.toList=true:=by kernel_rfl)(hs:Region.noSelect ops=true:=by kernel_rfl)(hf:Region.free md ops listed i=true:=by kernel_rfl)(hr:(Region.ready md ops listed).contains i=true:=by kernel_rfl):kr F n P md ops (Calm Q) S late (fuel+1) listed a w:=JX hF i hi hdef hs hf hr h
def af{F:Fence}{S:ay->Prop}{Q:Exit->Act->ay->Prop}(i:Nat){late:List Nat}{oi:Oper}{fuel:Nat}{listed:Array Bool}{a:Act}(hi:ops[i]?=some oi){zQ:Prop}(q:zQ)(h:ae zQ->∀K:Act->Prop,(∀a,kr F n P md ops (Calm Q) S late fuel (listed.setIfInBounds i true) a w->K a)->if Region.wanted oi (yielded ops a.tmps)then Oper.idle P oi a (λ_=>True) K else K (a.put oi.dst undef):=by intro zq K hK;go_simp;exact hK _ zq.o)(hF:∀f,F.fn f:=by exactλ_=>trivial)(hdef:uU ops.toList=true:=by kernel_rfl)(hs:Region.noSelect ops=true:=by kernel_rfl)(hf:Region.free md ops listed i=true:=by kernel_rfl)(hr:(Region.ready md ops listed).contains i=true:=by kernel_rfl):kr F n P md ops (Calm Q) S late (fuel+1) listed a w:=JX hF i hi hdef hs hf hr (h ⟨q⟩)
theorem gP{F:Fence}{S:ay->Prop}{Q:Exit->Act->ay->Prop}(k:Nat){late:List Nat}{o:Oper}{fuel:Nat}{listed:Array Bool}{a:Act}(hr:Region.ready md ops listed=[k])(ho:ops[k]?=some o)(hk:late.contains k=true)(h:∀K:Act->ay->Prop,(∀a w,kr F n P md ops Q S late fuel (listed.setIfInBounds k true) a w->K a w)->if Region.wanted o (yielded ops a.tmps)=true then Oper.wpIn F n P o a w K Q else(∀f,o.about P w a.eval=some f->F.fn f)/\K (a.put o.dst undef) w):kr F n P md ops Q S late (fuel+1) listed a w:=by
 refine⟨(λh0=>by rw[hr]at h0;cases h0),λi hi=> ?_⟩;rw[hr]at hi;obtain rfl:i=k:=by simpa using hi
 unfold wpOpIn;rw[ho];exact h _ (λa w h2=>⟨λh9=>absurd (by simpa using hk) h9,h2⟩)
def lG{F:Fence}{S:ay->Prop}{Q:Exit->Act->ay->Prop}{late:List Nat}{fuel:Nat}{listed:Array Bool}{a:Act}(hr:Region.ready md ops listed=[])(h:Q .normal a w):kr F n P md ops Q S late fuel listed a w:=rr
theorem vG{F:Fence}{id:Nat}{Q:Exit->Act->ay->Prop}{a:Act}{r:List Oper}(late:List Nat)(S:ay->Prop)(hm:P.follows .mixedOrders=true)(h:kr F n P .any r.toArray (Calm Q) S late r.toArray.size (Array.replicate r.toArray.size false) a w.drew):(Code.region id r.toArray true).wpIn F n P Q a w:=
 wpIn_mono (wpIn_region_any hm (Cq _ _ _ _ h)) Calm.imp
theorem rQ{id:Nat}{Q:Exit->Act->ay->Prop}{a:Act}{r:List Oper}(late:List Nat)(S:ay->Prop)(hm:P.follows .mixedOrders=true)(h:kr Fence.wide n P .any r.toArray (Calm Q) S late r.toArray.size (Array.replicate r.toArray.size false) a w.drew):(Code.region id r.toArray true).wp P Q a w:=
 wpIn_wide.1 (vG (n:=n) late S hm h)
end
section
variable {P:Program} {ops:Array Oper} {md:Region.Mode} {w:ay} {n:Nat}
theorem yX{F:Fence}{Q:Exit->Act->ay->Prop}(I:Array Bool->Act->ay->Prop)(hstep:∀listed a w,I listed a w->∀i∈Region.ready md ops listed,wpOpIn F n P ops Q i (λa' w'=>I (listed.setIfInBounds i true) a' w') a w)(hend:∀listed a w,I listed a w->Region.ready md ops listed=[]->Q .normal a w):∀(fuel:Nat)(listed:Array Bool)(a:Act)(w:ay),listed.toList.countP (λb=> !b)<=fuel->I listed a w->wpAnyIn F n P md ops Q fuel listed a w
 |0,listed,a,w,hc,hI=>by
  have hr:Region.ready md ops listed=[]:=by
   apply List.eq_nil_iff_forall_not_mem.2;intro i hi;have h0:=(mem_ready.1 hi).1;have hlt:i<listed.size:=by
    rcases Nat.lt_or_ge i listed.size with h|h
    ·exact h
    ·simp[jG h]at h0
   have:false∈listed.toList:=by
    have e:listed[i]=false:=by simpa[hlt]using h0
    rw[<-e];simp
   have hp:0<listed.toList.countP (λb=> !b):=List.countP_pos_iff.2 ⟨false,this,rfl⟩;omega
  exact⟨hr,hend _ _ _ hI hr⟩
 |fuel+1,listed,a,w,hc,hI=>by
  refine⟨λhr=>hend _ _ _ hI hr,λi hi=>wpOpIn_mono (λa' w' h=>yX I hstep hend fuel _ a' w' ?_ h) (hstep _ _ _ hI i hi)⟩;have h0:=(mem_ready.1 hi).1;have hlt:i<listed.size:=by
   rcases Nat.lt_or_ge i listed.size with h|h
   ·exact h
   ·simp[jG h]at h0
  have e:listed[i]=false:=by simpa[hlt]using h0
  have e2:listed.toList[i]'(by simpa using hlt)=false:=by simpa using e
  rw[Array.toList_setIfInBounds,List.countP_set (by simpa using hlt),e2];have hp:0<listed.toList.countP (λb=> !b):=List.countP_pos_iff.2 ⟨false,by rw[<-e2];exact aW _,rfl⟩;simp;simp at hc hp;omega
theorem JW{F:Fence}{id:Nat}{Q:Exit->Act->ay->Prop}{a:Act}{r:List Oper}(hm:P.follows .mixedOrders=true)(I:Array Bool->Act->ay->Prop)(h0:I (Array.replicate r.toArray.size false) a w.drew)(hstep:∀listed a w,I listed a w->∀i∈Region.ready .any r.toArray listed,wpOpIn F n P r.toArray Q i (λa' w'=>I (listed.setIfInBounds i true) a' w') a w)(hend:∀listed a w,I listed a w->Region.ready .any r.toArray listed=[]->Q .normal a w):(Code.region id r.toArray true).wpIn F n P Q a w:=
 wpIn_region_any hm (yX I hstep hend _ _ _ _ (aL List.countP_le_length aE) h0)
theorem mW{F:Fence}{Q:Exit->Act->ay->Prop}{i:Nat}{o:Oper}{K:Act->ay->Prop}{a:Act}(ho:ops[i]?=some o)(h:if Region.wanted o (yielded ops a.tmps)=true then Oper.wpIn F n P o a w K Q else(∀f,o.about P w a.eval=some f->F.fn f)/\K (a.put o.dst undef) w):wpOpIn F n P ops Q i K a w:=by unfold wpOpIn;rw[ho];exact h
def abM{listed:Array Bool}{i:Nat}(h:i∈Region.ready md ops listed):i<ops.size/\listed.getD i true=false:=by obtain⟨h1,o,h2,-⟩:=mem_ready.1 h;exact⟨(aB.1 h2).1,h1⟩
def jQ{listed:Array Bool}{i j:Nat}(h:i∈Region.ready md ops listed)(hw:Region.waitsFor md ops i j=true):listed.getD j false=true:=by obtain⟨h1,o,h2,h3⟩:=mem_ready.1 h;obtain⟨o',ho',e,he,hb,hon⟩:=Region.waitsFor_spec hw;have:o'=o:=bV (ho'.symm.trans h2);subst this;rw[<-hon];exact h3 e he hb
def Bv{listed:Array Bool}{i:Nat}(h:i<listed.size):(listed.setIfInBounds i true).getD i false=true:=by simp[h]
def ain{listed:Array Bool}{i:Nat}(h:i<listed.size)(k:Nat):(k=i\/listed.getD k false=true)↔(listed.setIfInBounds i true).getD k false=true:=by
 by_cases e:i=k
 ·subst e;exact⟨λ_=>Bv h,λ_=> .inl rfl⟩
 ·rw[getD_set_ne false e];exact⟨λhk=>hk.resolve_left (λe2=>e e2.symm),.inr⟩
def Ka{listed:Array Bool}(hr:Region.ready md ops listed=[])(hs:listed.size=ops.size)(hb:((List.range ops.size).all λk=>match ops[k]? with|some o=>o.after.all (λe=>decide (e.on<k))|none=>true)=true):∀k,k<ops.size->listed.getD k false=true:=by
 intro k
 induction k using Nat.strongRecOn with
 |ind k ih=>
  intro hk;by_cases h:listed.getD k false=true
  ·exact h
  exfalso;have hb2:=List.all_eq_true.1 hb k (List.mem_range.2 hk);rw[dL hk]at hb2;have hmem:k∈Region.ready md ops listed:=by
   refine mem_ready.2 ⟨?_,ops[k],dL hk,λe he _=> ?_⟩
   ·have hk':k<listed.size:=aq;simpa[hk']using h
   ·have:=of_decide_eq_true ((Array.all_eq_true'.1 hb2) e he);exact ih _ this aq
  rw[hr]at hmem;cases hmem
def Yv{listed:Array Bool}{i j:Nat}(h:(listed.setIfInBounds i true).getD j false=true):j=i\/listed.getD j false=true:=by
 by_cases e:i=j
 ·exact .inl e.symm
 ·right;rw[getD_set_ne false e]at h;exact h
def A2(md:Region.Mode)(ops:Array Oper)(listed:Array Bool):Prop:= ∀(j:Nat)(o:Oper),listed.getD j false=true->ops[j]?=some o->∀e∈o.after,Region.binds md e=true->listed.getD e.on false=true
def NI(md:Region.Mode)(ops:Array Oper)(listed:Array Bool):Bool:=(List.range ops.size).all λj=> !listed.getD j false||match ops[j]? with|some o=>o.after.all (λe=> !Region.binds md e||listed.getD e.on false)|none=>true
def LZ{listed:Array Bool}(h:NI md ops listed=true):A2 md ops listed:=λj o hj ho e he hb=>by have h1:=List.all_eq_true.1 h j (List.mem_range.2 (aB.1 ho).1);rw[hj,ho]at h1;have h2:=(Array.all_eq_true'.1 (show o.after.all (λe=> !Region.binds md e||listed.getD e.on false)=true from h1)) e he;rw[hb]at h2;exact h2
def A2.set{listed:Array Bool}(h:A2 md ops listed){j:Nat}(hj:j∈Region.ready md ops listed):A2 md ops (listed.setIfInBounds j true):=λk o hk ho e he hb=>by
 obtain⟨-,o',ho',hall⟩:=mem_ready.1 hj;have hm:listed.getD e.on false=true:=by
  rcases Yv hk with rfl|h1
  ·have:o'=o:=bV (ho'.symm.trans ho);subst this;exact hall e he hb
  ·exact h k o h1 ho e he hb
 by_cases e2:j=e.on
 ·rw[<-e2];by_cases hl:j<listed.size
  ·exact Bv hl
  ·rw[<-e2]at hm;simp[jG (Nat.le_of_not_lt hl)]at hm
 ·rw[getD_set_ne false e2];exact hm
def wTB(md:Region.Mode)(ops:Array Oper):Nat->Nat->Nat->Bool
 |0,_,_=>false
 |f+1,l,i=>match ops[l]? with|some o=>o.after.any (λe=>Region.binds md e&&(e.on==i||wTB md ops f e.on i))|none=>false
def GQ{listed:Array Bool}(h:A2 md ops listed){i:Nat}:∀(f l:Nat)(o:Oper),ops[l]?=some o->(∀e∈o.after,Region.binds md e=true->listed.getD e.on false=true)->wTB md ops f l i=true->listed.getD i false=true
 |0,_,_,_,_,hw=>by cases hw
 |f+1,l,o,ho,hl,hw=>by
  unfold wTB at hw;rw[ho]at hw;obtain⟨e,he,h1⟩:=Array.any_eq_true'.1 hw;simp only[bA,gq,fU]at h1;rcases h1.2 with h2|h2
  ·rw[<-h2];exact hl e he h1.1
  ·have h3:=hl e he h1.1;cases ho2:ops[e.on]? with
   |none=>cases f with|zero=>cases h2|succ f=>simp[wTB,ho2]at h2
   |some o2=>exact GQ h f e.on o2 ho2 (λe2 he2 hb2=>h e.on o2 h3 ho2 e2 he2 hb2) h2
def vW{F:Fence}(hF:∀f,F.fn f){S:ay->Prop}{Q:Exit->Act->ay->Prop}{i:Nat}{late:List Nat}{oi:Oper}{v:aA}(hi:ops[i]?=some oi)(hdef:∀(i:Nat)(o:Oper),ops[i]?=some o->∀c,o.op≠ .defer c)(hsel:∀(j:Nat)(o:Oper) cs b,ops[j]?=some o->o.op≠ .select cs b)(hcase:∀l∈late,wTB md ops ops.size l i=true):∀(fuel:Nat)(listed:Array Bool)(a:Act)(w:ay),A2 md ops listed->(∀j oj,ops[j]?=some oj->j≠i->listed.getD j true=false->(∀e∈oj.after,Region.binds md e=true->e.on≠i)->oi.apart ops oj=true)->i∈Region.ready md ops listed->wX P ops S oi v a->S w->kr F n P md ops (Calm Q) S late fuel (listed.setIfInBounds i true) (a.put oi.dst v) w->kr F n P md ops (Calm Q) S late (fuel+1) listed a w:=by
 intro fuel
 induction fuel with
 |zero=>intro listed a w _ _ hr hy hS H;exact vd
 |succ fuel ih=>
  intro listed a w hcl hfree hr hy hS H;refine⟨λh=>dy,λj hj=> ?_⟩;by_cases hji:j=i
  ·exact ux
  ·have h1:=H.2 j (ready_mono hj hji);obtain⟨hjun,oj,hoj,hall⟩:=mem_ready.1 hj;have hun:∀b,listed.getD i b=true->listed.getD i true=false->b=true->False:=λb h1 h2 hb=>by subst hb;rw[h1]at h2;cases h2
   have h0:=(mem_ready.1 hr).1;have hno:¬listed.getD i false=true:=λh1=>ur
   have hnot:∀e∈oj.after,Region.binds md e=true->e.on≠i:=λe he hb heq=>hno (heq▸hall e he hb)
   have hjl:j∉late:=λhjl=>hno (GQ hcl ops.size j oj hoj hall (hcase j hjl))
   have h2:=MZ hF hoj (hdef _ _ hoj) (hfree j oj hoj hji hjun hnot) (λcs b=>hsel i oi cs b hi) (λcs b=>hsel j oj cs b hoj) hy h1;have hfree':∀k ok,ops[k]?=some ok->k≠i->(listed.setIfInBounds j true).getD k true=false->
    (∀e∈ok.after,Region.binds md e=true->e.on≠i)->oi.apart ops ok=true:=λk ok hk hki hun hno=>by
    refine hfree k ok hk hki ?_ hno;by_cases hjk:j=k
    ·subst hjk;exact hjun
    ·rw[getD_set_ne true hjk]at hun;exact hun
   refine wpOpIn_mono (λa' w' h3=>⟨h3.2.1,ih (listed.setIfInBounds j true) a' w' (hcl.set hj) hfree' (ready_mono hr (Ne.symm hji)) h3.1 (h3.2.1 hjl hS) ?_⟩) h2;exact vh
def JY{F:Fence}(hF:∀f,F.fn f){S:ay->Prop}{Q:Exit->Act->ay->Prop}(i:Nat){late:List Nat}{oi:Oper}{fuel:Nat}{listed:Array Bool}{a:Act}(hi:ops[i]?=some oi)(hdef:uU ops.toList=true)(hs:Region.noSelect ops=true)(hf:Region.free md ops listed i=true)(hr:(Region.ready md ops listed).contains i=true)(hc:NI md ops listed=true)(hlast:(late.all λl=>wTB md ops ops.size l i)=true)(hS:S w)(h:∀K:Act->Prop,(∀a,kr F n P md ops (Calm Q) S late fuel (listed.setIfInBounds i true) a w->K a)->if Region.wanted oi (yielded ops a.tmps)then Oper.idle P oi a S K else K (a.put oi.dst undef)):kr F n P md ops (Calm Q) S late (fuel+1) listed a w:=by
 have h1:=h _ (λ_ h=>h);have hd:=sZ hdef;rw[Array.toArray_toList]at hd;have hl:∀l∈late,wTB md ops ops.size l i=true:=λl hl=>List.all_eq_true.1 hlast l hl
 split at h1
 ·rename_i hw;obtain⟨v,hv,hn⟩:=h1;exact vW hF hi hd (Region.noSelect_spec hs) hl fuel listed a w (LZ hc) (Region.free_spec hi hf) dm (.inl ⟨hw,hv⟩) hS hn
 ·rename_i hw;exact vW hF hi hd (Region.noSelect_spec hs) hl fuel listed a w (LZ hc) (Region.free_spec hi hf) dm (.inr ⟨by simpa using hw,rfl⟩) hS h1
def fC{F:Fence}{S:ay->Prop}{Q:Exit->Act->ay->Prop}(i:Nat){late:List Nat}{oi:Oper}{fuel:Nat}{listed:Array Bool}{a:Act}(hi:ops[i]?=some oi)(hS:S w)(h:∀K:Act->Prop,(∀a,kr F n P md ops (Calm Q) S late fuel (listed.setIfInBounds i true) a w->K a)->if Region.wanted oi (yielded ops a.tmps)then Oper.idle P oi a S K else K (a.put oi.dst undef))(hF:∀f,F.fn f:=by exactλ_=>trivial)(hdef:uU ops.toList=true:=by kernel_rfl)(hs:Region.noSelect ops=true:=by kernel_rfl)(hf:Region.free md ops listed i=true:=by kernel_rfl)(hr:(Region.ready md ops listed).contains i=true:=by kernel_rfl)(hc:NI md ops listed=true:=by kernel_rfl)(hlast:(late.all λl=>wTB md ops ops.size l i)=true:=by kernel_rfl):kr F n P md ops (Calm Q) S late (fuel+1) listed a w:=JY hF i hi hdef hs hf hr hc hlast hS h
def am{F:Fence}{S:ay->Prop}{Q:Exit->Act->ay->Prop}(i:Nat){late:List Nat}{oi:Oper}{fuel:Nat}{listed:Array Bool}{a:Act}(hi:ops[i]?=some oi)(hS:S w){zQ:Prop}(q:zQ)(h:ae zQ->∀K:Act->Prop,(∀a,kr F n P md ops (Calm Q) S late fuel (listed.setIfInBounds i true) a w->K a)->if Region.wanted oi (yielded ops a.tmps)then Oper.idle P oi a S K else K (a.put oi.dst undef):=by intro zq K hK;go_simp;exact hK _ zq.o)(hF:∀f,F.fn f:=by exactλ_=>trivial)(hdef:uU ops.toList=true:=by kernel_rfl)(hs:Region.noSelect ops=true:=by kernel_rfl)(hf:Region.free md ops listed i=true:=by kernel_rfl)(hr:(Region.ready md ops listed).contains i=true:=by kernel_rfl)(hc:NI md ops listed=true:=by kernel_rfl)(hlast:(late.all λl=>wTB md ops ops.size l i)=true:=by kernel_rfl):kr F n P md ops (Calm Q) S late (fuel+1) listed a w:=JY hF i hi hdef hs hf hr hc hlast hS (h ⟨q⟩)
theorem jI{F:Fence}{S:ay->Prop}{Q:Exit->Act->ay->Prop}(k:Nat){late:List Nat}{o:Oper}{fuel:Nat}{listed:Array Bool}{a:Act}(hr:Region.ready md ops listed=[k])(ho:ops[k]?=some o)(h:∀K:Act->ay->Prop,(∀a w',(S w->S w')->kr F n P md ops Q S late fuel (listed.setIfInBounds k true) a w'->K a w')->if Region.wanted o (yielded ops a.tmps)=true then Oper.wpIn F n P o a w K Q else(∀f,o.about P w a.eval=some f->F.fn f)/\K (a.put o.dst undef) w):kr F n P md ops Q S late (fuel+1) listed a w:=by
 refine⟨(λh0=>by rw[hr]at h0;cases h0),λi hi=> ?_⟩;rw[hr]at hi;obtain rfl:i=k:=by simpa using hi
 unfold wpOpIn;rw[ho];exact h _ (λa w' hs h2=>⟨λ_=>hs,h2⟩)
end
variable {F:Fence} {n:Nat} {P:Program}
def L5{α:Type}(G:α->ay->Prop)(F:Fence)(n:Nat)(P:Program)(g:Nat)(lb:Array aA)(encs:α->Array aA)(Kp:ay->ay->Prop)(S Sp:List α->Prop)(N:Nat)(w:ay):Prop:=
 ∀(l:Nat) (J Jx:List α->ay->Prop) (W:ay),Below w w W->AbidesFrom W J->AbidesFrom W Jx->
  (∀pre x W1,J pre W1->G x W1->pre.length<N->YieldAt F (n-1) P l (encs x) W1 λe W'=>(e= .returned (.bool true)/\J (pre++[x]) W'/\Kp W1 W')\/(e= .returned (.bool false)/\Jx (pre++[x]) W'))->
  J [] W->
  CallsIn F n P g (#[.func (.yield l) #[] #[]]++lb) W λe W'=>(∃v,e= .returned v)/\((∃xs,S xs/\J xs W')\/(∃pre,Sp pre/\Jx pre W'))
theorem yU{α:Type}{g:Operand}{ps:Array Tmp}{assign body:Code}{Q:Exit->Act->ay->Prop}{a:Act}{w:ay}(hro:F.round=none)(h1:1<=n){gf:Nat}{lb:Array aA}(hg:a.eval g= .func (.func gf) #[] lb)(hFg:F.fn gf)(eg:∀args w,(callFunc gf args).run P w= .ok (.enter gf args) w){G:α->ay->Prop}{encs:α->Array aA}{Kp:ay->ay->Prop}{S Sp:List α->Prop}{N:Nat}{w0:ay}(hseq:L5 G F (n-1) P gf lb encs Kp S Sp N w0)(hKt:∀ {A B C:ay},Kp A B->Kp B C->Kp A C)(hKb:∀(W:ay)(l:Nat)(o o':Obj),w.heap.size<=l->W.heap[l]?=some o->o.isCells=false->o.isWalk=false->Kp W (W.putObj l o'))(hb0:Below w0 w0 w)(hps:∀x,(encs x).size=ps.size)(I:List α->ay->Prop)(Ix:Code->List α->ay->Prop)(hI:OwnFrom w I)(hIx:∀c,OwnFrom w (Ix c))(h0:I [] w)(Ax:α->Act->ay->Prop)(hAx:∀x a',OwnFrom w (λ(_:Unit) W=>Ax x a' W))(hassign:∀(l:Nat)(pre:List α)(x:α)(W:ay)(K:Act->ay->Prop),I pre W->G x W->(∀a' W',KeepsFrom w W W'->Kp W W'->I pre W'->Ax x a' W'->K a' W')->assign.wpIn (F.inRound l) (n-1-1) P (Exit.then K (λ_ _ _=>False)) {tmps:=(ps.zip (encs x)).foldl (λt (p,v)=>t.setIfInBounds p v) a.tmps,defers:= []} W)(hbody:∀(l:Nat)(pre:List α)(x:α)(a':Act)(W:ay),w.heap.size<=l->(∃r,W.heap[l]?=some (.loop r))->I pre W->Ax x a' W->pre.length<N->body.wpIn (F.inRound l) (n-1-1) P (ownPostG w Kp I Ix (pre++[x]) W) a' W)(hdone:∀(D:Nat)(xs:List α)(W:ay),w.heap.size<=D->S xs->I xs W->W.heap[D]?=some (.deferred (some []))->Q .normal {a with defers:= {target:= .collected D,args:= #[]}::a.defers} W)(hstop:∀(D:Nat)(c:Code)(pre:List α)(W:ay),w.heap.size<=D->Sp pre->Ix c pre W->W.heap[D]?=some (.deferred (some []))->c.wpIn F n P Q {a with defers:= {target:= .collected D,args:= #[]}::a.defers} W):(Code.rangeFunc g ps assign body).wpIn F n P Q a w:=by
 refine wpIn_rangeFunc ?_;intro fn hfn;rw[hro];obtain⟨rec,hrec⟩:∃rec:LoopState->Option Code->Loop,rec=λst pe=> {state:=st,pending:=pe,fn,tmps:=a.tmps,params:=ps,assign,body,defers:=w.heap.size}:=⟨_,rfl⟩
 obtain⟨W1,hW1⟩:∃W1,(w.alloc (.deferred (some []))).alloc (.loop (rec .ready none))=W1:=⟨_,rfl⟩;have hs1:W1.heap.size=w.heap.size+2:=by rw[<-hW1];simp
 have hL1:W1.heap[w.heap.size+1]?=some (.loop (rec .ready none)):=by rw[<-hW1];have:=World.alloc_heap_new (w.alloc (.deferred (some []))) (.loop (rec .ready none));rwa [aR]at this
 have hK1:W1.heap[w.heap.size]?=some (.deferred (some [])):=by rw[<-hW1];exact(Below.heap_alloc _ _ _ aE).trans (World.alloc_heap_new w _)
 have hI1:I [] W1:=by rw[<-hW1];exact hI.alloc _ (hI.alloc _ h0)
 have hb1:Below w0 w0 W1:=by rw[<-hW1];exact hb0.trans ((((Below.refl _ w).alloc (aD _) _).alloc aE _).mono hb0.size)
 refine⟨w.heap.size+1,[{target:= .collected w.heap.size,args:= #[]}],W1,{target:= .fn (.func gf) lb,args:= #[.func (.yield (w+1)) #[] #[]]},W1,gf,
  #[.func (.yield (w+1)) #[] #[]]++lb,W1,?_,?_,?_,?_,λ_=>h1,?_⟩
 ·rw[<-hW1,hrec];exact run_enterLoop_outer _ _ _ _ _
 ·simp only[resolve,hg];simp[go_sem]
 ·intro f' hf';simp[Target.leads]at hf';subst hf';exact hFg
 ·simp[invoke,go_sem,eg]
 have hnw:∀ {A:ay} {row:Option Nat},(∀r,row=some r->W1.heap.size<=r/\∃o:Obj,A.heap[r]?=some o/\o.isWalk=true)->(∀r,row=some r->w.heap.size<=r/\∃o:Obj,A.heap[r]?=some o/\o.isCells=false):=
  λhr r e=>by obtain⟨hB,o,ho,hw⟩:=hr r e;exact⟨aq,o,ho,Obj.not_cells_of_walk hw⟩
 refine(hseq (w+1)
  (λpre W=>I pre W/\W.heap[w.heap.size+1]?=some (.loop (rec .ready none))/\W.heap[w.heap.size]?=some (.deferred (some [])))
  (λpre W=>∃c,Ix c pre W/\W.heap[w.heap.size+1]?=some (.loop (rec .done (some c)))/\W.heap[w.heap.size]?=some (.deferred (some [])))
  W1 hb1
  (λs A B row hs hg' hr=>⟨hI s A B row hs.1 hg' (hnw hr),(grownBy_keeps hg' (λr e=>(hr r e).2) hs.2.1 rfl).trans hs.2.1,(grownBy_keeps hg' (λr e=>(hr r e).2) hs.2.2 rfl).trans hs.2.2⟩)
  (λs A B row hs hg' hr=>by obtain⟨c,hc,hl,hk⟩:=hs;exact⟨c,hIx c s A B row hc hg' (hnw hr),(grownBy_keeps hg' (λr e=>(hr r e).2) hl rfl).trans hl,(grownBy_keeps hg' (λr e=>(hr r e).2) hk rfl).trans hk⟩)
  ?_ ⟨hI1,hL1,hK1⟩).mono ?_
 ·rintro pre x W ⟨hi,hl,hk⟩ hG hlen;have hlt:w.heap.size+1<W.heap.size:=(aB.1 hl).1;have hy:=run_yield (P:=P) (args:=encs x) hl (by rw[hrec];exact hps x);rw[hrec]at hy;refine⟨fn,_,assign,body,hy,roundIn_of_wpIn hfn (hassign _ pre x W _ hi hG ?_)⟩;clear hy;intro a' Wa hkfa hkpa hia hax;replace hl:=hkfa.same _ _ aq hl rfl;replace hk:=hkfa.same _ _ (aD _) hk rfl;replace hlt:w.heap.size+1<Wa.heap.size:=(aB.1 hl).1;replace hi:=hia;clear hia
  revert hkpa hkfa
  generalize W=Wb;intro hkfa hkpa;obtain⟨W,rfl⟩:∃W,W=Wa:=⟨_,rfl⟩;refine⟨_,run_beginRound hl (by rw[hrec]),?_⟩;obtain⟨X,hX⟩:∃X,W.putObj (w+1) (.loop {rec .ready none with state:= .busy})=X:=⟨_,rfl⟩;have hl2:X.heap[w.heap.size+1]?=some (.loop {rec .ready none with state:= .busy}):=by rw[<-hX];exact World.putObj_heap_same hlt
  have hk2:X.heap[w.heap.size]?=some (.deferred (some [])):=by rw[<-hX];exact(World.putObj_heap_other aq).trans hk
  have hw2:Kp W X:=by rw[<-hX];exact hKb _ _ _ _ aq hl rfl rfl
  have hi2:I pre X:=by rw[<-hX];exact hI.putObj _ hi aq hl rfl
  have hx2:Ax x a' X:=by rw[<-hX];exact(hAx x a').putObj (s:=()) _ hax aq hl rfl
  rw[hX];refine wpIn_mono (hbody _ pre x a' _ aq ⟨_,hl2⟩ hi2 hx2 hlen) ?_;have fin:∀(jump:Option Code) (W3:ay),KeepsFrom w X W3->
   (Instr.endRound (w+1) jump).run P W3= .ok (.bool jump.isNone) (W3.putObj (w+1) (.loop (rec (if jump.isNone then .ready else .done) jump)))/\
   W3.heap[w.heap.size+1]?=some (.loop {rec .ready none with state:= .busy})/\
   (W3.putObj (w+1) (.loop (rec (if jump.isNone then .ready else .done) jump))).heap[w.heap.size+1]?=some (.loop (rec (if jump.isNone then .ready else .done) jump))/\
   (W3.putObj (w+1) (.loop (rec (if jump.isNone then .ready else .done) jump))).heap[w.heap.size]?=some (.deferred (some [])):=λjump W3 hk3=>by
   have hl3:=hk3.same _ _ aq hl2 rfl;have:=run_endRound (P:=P) jump hl3;rw[hrec]at this⊢;exact⟨this,by rw[hrec]at hl3;exact hl3,World.putObj_heap_same (aB.1 hl3).1,(World.putObj_heap_other aq).trans (hk3.same _ _ (aD _) hk2 rfl)⟩
  rintro e a3 W3 hp;cases e with
  |normal=>obtain⟨hk3,hkp3,hi3⟩:=hp;obtain⟨hr,hl3,hl4,hk4⟩:=fin none W3 hk3;exact⟨_,_,hr,.inl ⟨rfl,⟨hI.putObj _ hi3 aq hl3 rfl,hl4,hk4⟩,hKt hkpa (hKt (hKt hw2 hkp3) (hKb _ _ _ _ aq hl3 rfl rfl))⟩⟩
  |ret=>obtain⟨hk3,hi3⟩:=hp;obtain⟨hr,hl3,hl4,hk4⟩:=fin (some .ret) W3 hk3;exact⟨_,_,hr,.inr ⟨rfl,.ret,(hIx _).putObj _ hi3 aq hl3 rfl,hl4,hk4⟩⟩
  |exit id=>obtain⟨hk3,hi3⟩:=hp;obtain⟨hr,hl3,hl4,hk4⟩:=fin (some (.exit id)) W3 hk3;exact⟨_,_,hr,.inr ⟨rfl,.exit id,(hIx _).putObj _ hi3 aq hl3 rfl,hl4,hk4⟩⟩
  |goto t=>obtain⟨hk3,hi3⟩:=hp;obtain⟨hr,hl3,hl4,hk4⟩:=fin (some (.goto t)) W3 hk3;exact⟨_,_,hr,.inr ⟨rfl,.goto t,(hIx _).putObj _ hi3 aq hl3 rfl,hl4,hk4⟩⟩
  |panic ch=>exact hp.elim
  |outgrown=>exact hp.elim
 ·rintro e W2 ⟨⟨v,rfl⟩,(⟨xs,hS,hi,hl,hk⟩|⟨pre,hSp,c,hi,hl,hk⟩)⟩
  ·exact⟨none,_,by have:=run_endLoop (P:=P) hl (by rw[hrec];simp);rw[hrec]at this;exact this,hdone _ xs _ (aD _) hS (hI.putObj _ hi aq hl rfl) ((World.putObj_heap_other aq).trans hk)⟩
  ·exact⟨some c,_,by have:=run_endLoop (P:=P) hl (by rw[hrec];simp);rw[hrec]at this;exact this,hstop _ c pre _ (aD _) hSp ((hIx c).putObj _ hi aq hl rfl) ((World.putObj_heap_other aq).trans hk)⟩
end V
open Go.ChangeShapes Go.WideShapes Go.ChangeAt V
namespace gZ
def nD(w:ay)(p:PF):Prop:=Good w p/\p.nm.length<=maxLen/\p.bs.length<=maxLen
def wf_u8{x:Int}(h:(Lit.int .u8 x).wf=true):∃c:aZ,x=(c.toNat:Int):=by simp[Lit.wf,IntKind.min,IntKind.max,IntKind.signed,IntKind.bits]at h;refine⟨UInt8.ofNat x.toNat,?_⟩;rw[UInt8.toNat_ofNat'];omega
section
variable {H:Type} {enc:dz×aA->H} {W:ay}
theorem aoP(fuel:Nat)(cs:List aA)(y:DataW H×List MemPlace)(h:DataW.trod enc prog W 0 (λ_=>true) true fuel 5 cs=some y):∃n:aZ,cs=m9 n/\True:=by obtain⟨a,e0,_,wa⟩:=DataW.trod_int underlying5 h;obtain⟨c,rfl⟩:=wf_u8 wa;exact⟨c,e0,trivial⟩
theorem adH(fuel:Nat)(cs:List aA)(y:DataW H×List MemPlace)(h:DataW.trod enc prog W 0 (λ_=>true) true fuel 24 cs=some y)(hl:Light prog 24 y.1)(hn:cs.length=3):∃p:PF,cs=qy p/\nD W p:=by
 match cs,hn with
 | [c0,c1,c2],_=>
 obtain⟨n0,y0,h0,-⟩:=BP (i:=0) underlying24 rfl rfl ax h rfl hl;obtain⟨n1,y1,h1,-⟩:=BP (i:=1) underlying24 rfl rfl ax h rfl hl;obtain⟨n2,y2,h2,l2⟩:=BP (i:=2) underlying24 rfl rfl ax h rfl hl;obtain⟨fn,e0,-,w0⟩:=DataW.trod_string underlying9 h0;obtain⟨a1,e1,-,w1⟩:=DataW.trod_int underlying3 h1;simp only[List.cons.injEq,and_true]at e0 e1;subst e0 e1;obtain⟨bs,hR,hbl,-⟩:=Ww (n:=1) (λcs x=>cs=m9 x/\True) 0 underlying22 ax az (λfuel cs y hy hyl hyn=>aoP fuel cs y hy) h2 l2;obtain⟨hrd,-⟩:=hR.rd;obtain⟨a,c,rfl,h3,h4⟩:=hrd;refine⟨⟨bytes fn,a1,bs,a,c⟩,?_,⟨a,c,rfl,h3,h4⟩,?_,hbl⟩
 ·unfold qy PF.v;rw[nY]
 ·show(bytes fn).length<=maxLen;rw[eD];exact w0
theorem adG{base:Nat}{v:aA}{d:DataW H}{p:List MemPlace}(hv:Value.okWide prog W .any base 24 v)(h:DataW.Trod enc prog W 0 (λ_=>true) true 24 v d p)(hl:Light prog 24 d):∃q:PF,v=fV q/\nD W q:=by obtain⟨cs,rfl,hsz⟩:=okWide_struct underlying24 hv;rw[show Tryz.prog.cellsOf 24=3 from ax]at hsz;obtain⟨fuel,h⟩:=h;simp only[Value.cells]at h;obtain⟨l⟩:=cs;simp only[bW]at hsz h;obtain⟨q,rfl,hq⟩:=adH fuel l (d,p) h hl hsz;exact⟨q,rfl,hq⟩
end
end gZ
end Go.Proofs.YtopfefhenfineaaGreat
