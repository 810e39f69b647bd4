import Derived.Test.YtopfefhenfineaaGreatP15
import Derived.Test.YtopfefhenfineaaGreatP13
import Derived.Test.YtopfefhenfineaaGreatP17
import Derived.StillTailTactics
import Derived.Laws.MakeOwn
set_option linter.all false
set_option maxRecDepth 100000
set_option maxHeartbeats 4000000
namespace Go.Proofs.YtopfefhenfineaaGreat
open Go.Proofs.Tryz Go.RowKit V
namespace aaE
open jO
open vR (Ce G1 toks lt6)
def SV(k:Nat):aK:=⟨(Ce.getD k []).toArray⟩
theorem ED(i:Nat)(h:i<6)(w:ay):(Instr.index 157 (.agg G1) (.int .i64 i)).run prog w= .ok (.agg #[.string (SV i),.int .u32 (toks.getD i 0:Nat)]) w:=pS
theorem I1(nm:aK)(tk:Int)(w:ay):(Instr.field 156 (.agg #[.string nm,.int .u32 tk]) 0).run prog w= .ok (.string nm) w:=by rfl
theorem I0(nm:aK)(tk:Int)(w:ay):(Instr.field 156 (.agg #[.string nm,.int .u32 tk]) 1).run prog w= .ok (.int .u32 tk) w:=by rfl
def A3(a:Int):Nat×Int:=if 0<=a/\a<6 then(toks.getD a.toNat 0,0)else(0,80)
theorem pX(a:Int)(w:ay):Rt 232 #[.int .i64 a] w (.tuple #[.int .u32 ((A3 a).1:Nat),.int .i64 (A3 a).2]):=by
 by_cases h0:a<0
 ·have hA:A3 a=(0,80):=by unfold A3;rw[aN aq]
  have hd:decide (a<0)=true:=aQ h0;rw[hA];have pQ:=ah hA;have Oo:=ah h0;clear hA h0;exact tj
 have hd:decide (a<0)=false:=aT h0;by_cases h1:6<=a
 ·have hA:A3 a=(0,80):=by unfold A3;rw[aN aq]
  have hd1:decide (6<=a)=true:=aQ h1;rw[hA];have pQ:=ah hA;have Oo:=ah h0;have Hh1:=ah h1;clear hA h0 h1;exact tj
 have hd1:decide (6<=a)=false:=aT h1;have hA:A3 a=(toks.getD a.toNat 0,0):=by unfold A3;rw[aV aq]
 obtain⟨i,rfl⟩:=Int.eq_ofNat_of_zero_le (by omega:0<=a);rw[dR]at hA;have hidx:=ED i aq;rw[hA];dsimp only;generalize SV i=nm at *;generalize toks.getD i 0=tk at *;have hf0:=I1 nm (tk:Int);have hf1:=I0 nm (tk:Int);have pQ:=ah hA;clear hA;unfold Rt;go_in;go_wp2_with(go_at_call 77;refine ap (vR.rR _) ?_;intro w1 hx1);go_ret2;exact⟨rfl,hx1⟩
theorem FC:(Tryz.prog.info? 3).map (λi=>(i.zero,i.size,i.bytes))=some (some (.int .i64 0),1,8):=ax
def afv(W:ay)(xs:List Int)(t g:Nat)(hg:g=W.heap.size):Rd (W.alloc (.cells (xs.flatMap encI).toArray t)) 1 encI (.slice (some g) xs xs) xs:=gI su W xs t g hg
def oQ(a:Int):List Int->Nat->Int
 | [],_=> -1
 |x::r,k=>if (a==x)=true then(k:Int)else oQ a r (k+1)
def wG{a:Int}{xs:List Int}{k:Nat}(h:k<xs):oQ a (xs.drop k) k=if (a==xs[k])=true then(k:Int)else oQ a (xs.drop (k+1)) (k+1):=by rw[bJ h];rfl
def zQ(a:Int)(xs:List Int)(k:Nat):oQ a (xs.drop xs) k= -1:=by rw[dQ];rfl
def zO(a:Int):∀(xs:List Int)(k:Nat),decide (0<=oQ a xs k)=xs.contains a
 | [],k=>rfl
 |x::r,k=>by
  unfold oQ;rw[jA];cases h:a==x
  ·rw[aN aE,zO a r (k+1)];rfl
  ·rw[aV rfl];simp
theorem yw(v:aA)(xs:List Int)(a:Int)(hl:xs.length<=140737488351232)(w:ay)(hv:Rd w 1 encI v xs):Rt 46 #[v,.int .i64 a] w (.int .i64 (oQ a xs 0)):=by exact gA
theorem sI(v:aA)(xs:List Int)(a:Int)(hl:xs.length<=140737488351232)(w:ay)(hv:Rd w 1 encI v xs):Rt 24 #[v,.int .i64 a] w (.bool (xs.contains a)):=by exact lh
theorem xg(w:ay):Calls prog 22 #[] w λe w'=>∃g c,e= .returned (.slice (some ⟨g,0,none⟩) 6 c)/\Ext w w'/\(∃cur,w'.heap[g]?=some (.cells cur 3 (0,0)))/\∀i,i<6->w'.cell? ⟨g,i,none⟩=some (.int .i64 (i:Int)):=by
 go_in;go_wp2;go_loopw [1,3] (λu i wr=>∃k:Nat,k<=6/\i= .int .i64 k/\Ext w wr/\∃a c,u= .slice a k c/\wr.ownsRow w 3 1 (.slice a k c) k (((List.range k).map λj:Nat=>(j:Int)).flatMap encI)) (λ_ i _=>6-(intOf i).toNat)
 case atStart=>exact⟨0,aq,rfl,aj _,none,0,rfl,dB _ _ _ _⟩
 case round=>
  obtain⟨k,hk,rfl,hx,a,c,rfl,hown⟩:=hrel;have HX:=ah hx;have HO:=ah hown;clear hx;by_cases hlt:k<6
  ·have hlr:((List.range k).map λj:Nat=>(j:Int)).length=k:=aE;have hl2:((List.range k).map λj:Nat=>(j:Int)).length+[(k:Int)].length=k+1:=aE;have hr2:(((List.range k).map λj:Nat=>(j:Int))++[(k:Int)])=((List.range (k+1)).map λj:Nat=>(j:Int)):=by rw[List.range_succ];simp
   have aeh:=ah hlr;have akY:=ah hr2;clear hlr hr2 hown;go_wp2_with(at_builtin;refine jH rfl (.tmp 6) (.tmp 8) _ rfl underlying28 FC rfl az su ady w _ _ ((List.range k).map λj:Nat=>(j:Int)) [(k:Int)] rfl rfl (by rw[aeh.o];exact dM HO.o _) (afv _ [(k:Int)] _ _ rfl) (by rw[hl2];omega) az (by repeat(first|exact HX.o|apply Ext.alloc)) ?_;intro a2 c2 w2 ho2 hx2;rw[hl2,akY.o]at ho2;rw[hl2]);go_roundw
   case rel=>exact⟨k+1,aq,bm,hx2,a2,c2,rfl,ho2⟩
   case measure=>exact gO
  ·obtain rfl:k=6:=aq;clear hown;go_wp2;go_ret;have hrd:=bY (n:=1) (enc:=encI) (xs:=(List.range 6).map λj:Nat=>(j:Int)) su (by simpa using HO.o);obtain⟨g,c',e,-,h4⟩:=jX hrd;simp only[aU]at e;obtain⟨rfl,-,rfl⟩:=e;obtain⟨b,o,rfl,-⟩:=h4 0 aE;have hb0:o=0:=by
    rcases HO.o.2 with⟨hv,_⟩|⟨g,cap,cur,hv,_⟩
    ·cases hv
    ·simp only[aU,dw,gD]at hv;exact hv.1.2.1
   subst hb0;refine⟨b,c,rfl,HX.o,lC.jd HO.o b rfl,λi hi=> ?_⟩;obtain⟨b',o',e',h5⟩:=h4 i eJ;obtain⟨rfl,rfl⟩:b=b'/\0=o':=by simpa using e'
   rw[cO]at h5;simpa using h5
end aaE
namespace kN
open jO (Sy)
open vR (toks)
def Qz(m:Nat->Bool)(a:Nat):Bool:=m a&&((a !=0&&a !=2)||((m 0&&m 2)&&a==0))
def qD(a:Nat):Nat:=toks.getD a 0
def chain(m:Nat->Bool)(k:Nat):List Nat:=((List.range k).filter (Qz m)).map qD
def oH(m:Nat->Bool):Nat->Int
 |0=> -1
 |k+1=>if (m k&&((k==0||k==2)&& !(m 0&&m 2)))=true then(k:Int)else oH m k
def Va(m:Nat->Bool)(k:Nat):chain m (k+1)=chain m k++if Qz m k=true then [qD k]else []:=by
 unfold chain;rw[List.range_succ,jy,bL]
 congr 1
 cases h:Qz m k<;>simp[h]
def aak(m:Nat->Bool)(k:Nat):(chain m k).length<=k:=by unfold chain;rw[aS];exact aL (ji _ _) aE
end kN
namespace mV
open jO (Sy gB eH iM)
open lC (nk pE jd tX)
variable{B c g i jx k:Nat}{W W' w0:ay}{j:Jm}{js:List Jm}{ls:List Sy}{u v v2:aA}
def WK.cell{cur:Array aA}(hg:W.heap[g]?=some (.cells cur 407 (0,0)))(i:Nat)(u:aA):WK (λ_=>False) W (W.setCell ⟨g,i,none⟩ u):=
 ⟨by rw[size_set];exact aD _,λk cs t fr _ h0 h1 _ _=>(aX _ _ _ k (λe=>by rw[e]at h0;have:=bV (h0.symm.trans hg);simp only[iT]at this;exact h1 this.2.1)).trans h0⟩
def WS.patch(h:WS w0 B (.slice (some g) ls c) v2 ls js W){y:Sy}(hi:i<ls)(hjx:jx<4)(he:gB y=(gB (ls[i]'hi)).set jx u):WS w0 B (.slice (some g) ls c) v2 (ls.set i y) js (W.setCell ⟨g,i*4+jx,none⟩ u)/\WK (λ_=>False) W (W.setCell ⟨g,i*4+jx,none⟩ u):=by obtain⟨hown,hg⟩:=kE eH h.own i jx u y hi hjx he;obtain⟨cur,hc⟩:=jd h.own g rfl;have hk:=WK.cell hc (i*4+jx) u;have hlt:=h.own.lt g rfl;refine⟨⟨h.ext.setCell (by have:=h.hB;dsimp only;omega) _,h.hB,(aX _ _ _ B (λe=>by dsimp only at e;omega)).trans h.box,by rw[dO];exact hown,tK h.late hg (λb hb=>Ap h.late h.own az b hb),λj hj=> ?_⟩,hk⟩;obtain⟨h1,h2⟩:=h.jok j hj;exact⟨h1.kept hk (λk hk=>hk.elim),by rw[dO];exact h2⟩
def hkb{X:Nat->Prop}(h:WK X W W')(hb:Boxed W k 339 v)(hx:¬X k):Boxed W' k 339 v:=h.boxed hb hx az az az
theorem Pv(h:WS w0 B v v2 ls js W)(hj:JOk W B j)(hat:j.at_<ls.length)(hl:ls.length<=1000000)(n m:Int)(ht:Boxed W j.th 339 (.int .i64 n))(ho:j.code=5\/∃eb,j.el=some eb/\Boxed W eb 339 (.int .i64 m)):Calls prog 282 #[pv j.bt,pv j.bw,pv j.ba,pv j.bc,pv j.bo] W λe w'=>e= .returned (.tuple #[])/\WS w0 B v v2 (ls.set j.at_ ⟨(ls[j.at_]'hat).c,(ls[j.at_]'hat).k,n,if j.code=5 then(ls[j.at_]'hat).el else m⟩) js w'/\WK (λ_=>False) W w':=by
 obtain⟨i,code,th,el,bt,bw,ba,bc,bo⟩:=j;dsimp only at *;have hat':i<ls:=hat;obtain⟨g,c,rfl,hgB,hgl,hgf⟩:=mo h.own aq;obtain⟨a',c',e',-,hcell⟩:=jO.gJ (bY eH h.own);simp only[aU]at e';obtain⟨rfl,-,rfl⟩:=e';obtain⟨b',o',e',r0,r1,r2,r3⟩:=hcell i hat;simp only[dw,gD,and_true]at e';obtain⟨rfl,rfl⟩:=e';rw[cO]at r2 r3;have i0:(0:Int)<=i:=aq;have i1:(i:Int)<ls:=aq;have y2:gB ⟨(ls[i]'hat).c,(ls[i]'hat).k,n,(ls[i]'hat).el⟩=(gB (ls[i]'hat)).set 2 (.int .i64 n):=rfl;have HP:=ah (h.patch hat az y2);have f2:=hgf (i*4+2);have k1:=hj.t.cell;have k2:=hj.w.cell;have k3:=hj.a.cell;have k4:=hj.c.cell;have k5:=ht.cell;have b0:=h.b0;dsimp only at k1 k2 k3 k4;unfold pv at k1 k2⊢;have HS:=ah h;have HJ:=ah hj;have HT:=ah ht;have HO:=ah ho;have HF:=ah hgf;clear h hj ht ho hgf r0 r1 r3 hcell;go_in;go_wp2_with fail;go_region;generalize hW1:World.drew _=W1;have HP1:Hid (WS w0 B (.slice (some g) ls c) v2 (ls.set i ⟨(ls[i]'hat).c,(ls[i]'hat).k,n,(ls[i]'hat).el⟩) js W1/\WK (λ_=>False) W W1/\∀j,W1.frozen? ⟨g,j,none⟩=false):=by rw[<-hW1];exact ah ⟨HP.o.1.kept ((aj _).drew),HP.o.2.trans (WK.ext ((aj _).drew)),λj=>(fF _ _ _ _).trans (HF.o j)⟩
 clear hW1 k1 k2 k3 k4 k5 b0 f2 r2;have hj1:=HJ.o.kept HP1.o.2.1 (λ_ h=>h.elim);have k1:=hj1.t.cell;have k2:=hj1.w.cell;have k3:=hj1.a.cell;have k4:=hj1.c.cell;have k6:=hj1.o.cell;have b0:=HP1.o.1.b0;have f2:=HP1.o.2.2 (i*4+3);dsimp only at k1 k2 k3 k4 k6;unfold pv at k1 k2;have HJ1:=ah hj1;clear hj1;have hll:(ls.set i (⟨(ls[i]'hat).c,(ls[i]'hat).k,n,(ls[i]'hat).el⟩:Sy)).length=ls.length:=dO;obtain⟨Qf,QG⟩:∃Qf,Qf=ls.set i (⟨(ls[i]'hat).c,(ls[i]'hat).k,n,(ls[i]'hat).el⟩:Sy):=⟨_,rfl⟩;rw[<-QG]at HP1 hll;have agA:i<Qf.length:=by rw[hll];exact hat'
 have hg1:Qf[i]'agA=⟨(ls[i]'hat).c,(ls[i]'hat).k,n,(ls[i]'hat).el⟩:=by simp only[QG,List.getElem_set_self]
 by_cases hcode:code=5
 ·have hq:((code:Int) !=5)=false:=by rw[hcode];rfl
  have HC:=ah hcode;clear hcode;go_wp2_with fail;go_end0;refine⟨rfl,?_,HP1.o.2.1⟩;have e:(⟨(ls[i]'hat).c,(ls[i]'hat).k,n,if code=5 then(ls[i]'hat).el else m⟩:Sy)=⟨(ls[i]'hat).c,(ls[i]'hat).k,n,(ls[i]'hat).el⟩:=by rw[aV HC.o]
  first|(have h9:=HP1.o.1;rw[QG]at h9;exact h9)|(rw[e,<-QG];exact HP1.o.1)|(have h9:=HP1.o.1;rw[QG,<-e]at h9;exact h9)
 ·have hq:((code:Int) !=5)=true:=by simp;omega
  have hO:=HO.o;rcases hO with h9|⟨eb,rfl,hob⟩
  ·exact absurd h9 hcode
  have HC:=ah hcode;clear hcode;have k7:=(hkb HP1.o.2.1 hob (λh=>h.elim)).cell;simp only[dN]at k6;have y3:gB ⟨(ls[i]'hat).c,(ls[i]'hat).k,n,m⟩=(gB (Qf[i]'agA)).set 3 (.int .i64 m):=by rw[hg1];rfl
  have hown1:=HP1.o.1.own;obtain⟨a',c',e',-,hcell⟩:=jO.gJ (bY eH (by rw[<-hll]at hown1;exact hown1));simp only[aU]at e';obtain⟨rfl,-,rfl⟩:=e';obtain⟨b',o',e',-,-,-,r3⟩:=hcell i agA;simp only[dw,gD,and_true]at e';obtain⟨rfl,rfl⟩:=e';rw[cO]at r3;have Y3:=ah y3;clear y3 hown1 hcell hob;go_wp2_with fail;go_region;go_wp2_with fail;go_end0;have h1:WS w0 B (.slice (some g) Qf c) v2 Qf js W1:=by rw[hll];exact HP1.o.1
  have h2:=h1.patch agA az Y3.o;have e:(⟨(ls[i]'hat).c,(ls[i]'hat).k,n,if code=5 then(ls[i]'hat).el else m⟩:Sy)=⟨(ls[i]'hat).c,(ls[i]'hat).k,n,m⟩:=by rw[aN HC.o]
  have e2:Qf.set i ⟨(ls[i]'hat).c,(ls[i]'hat).k,n,m⟩=ls.set i ⟨(ls[i]'hat).c,(ls[i]'hat).k,n,m⟩:=by rw[QG,List.set_set]
  rw[hll,e2]at h2;refine⟨rfl,?_,HP1.o.2.1.trans (h2.2.trans (WK.ext ((aj _).drew)))⟩;have h3:=h2.1.kept ((aj _).drew)
  first|exact h3|(rw[e];exact h3)|(simp only[HC.o,if_false];exact h3)
def patch(pt pe:Jm->Int)(ls:List Sy)(j:Jm):List Sy:=
 match ls[j.at_]? with
 |none=>ls
 |some s=>ls.set j.at_ ⟨s.c,s.k,pt j,if j.code=5 then s.el else pe j⟩
def YM(pt pe:Jm->Int)(ls:List Sy)(j:Jm):(patch pt pe ls j).length=ls.length:=by unfold patch;split<;>simp
def uo(pt pe:Jm->Int):∀(js:List Jm)(ls:List Sy),(js.foldl (patch pt pe) ls).length=ls.length
 | [],_=>rfl
 |j::js,ls=>by rw[jD,uo pt pe js,YM]
def Pw(pt pe:Jm->Int)(h:j.at_<ls.length):patch pt pe ls j=ls.set j.at_ ⟨(ls[j.at_]'h).c,(ls[j.at_]'h).k,pt j,if j.code=5 then(ls[j.at_]'h).el else pe j⟩:=by unfold patch;rw[aJ h]
def ZM(pt pe:Jm->Int)(h:k<js)(ls:List Sy):(js.take (k+1)).foldl (patch pt pe) ls=patch pt pe ((js.take k).foldl (patch pt pe) ls) (js[k]'h):=by rw[bE h,gU];rfl
def ad8(W:ay)(pt pe:Jm->Int)(js:List Jm):Prop:= ∀j∈js,Boxed W j.th 339 (.int .i64 (pt j))/\(j.code=5\/∃eb,j.el=some eb/\Boxed W eb 339 (.int .i64 (pe j)))
def ad8.kept{pt pe:Jm->Int}(h:ad8 W pt pe js)(hk:WK (λ_=>False) W W'):ad8 W' pt pe js:=λj hj=>by
 obtain⟨h1,h2⟩:=h j hj;refine⟨hkb hk h1 (λh=>h.elim),?_⟩;rcases h2 with h2|⟨eb,h2,h3⟩
 ·exact .inl h2
 ·exact .inr ⟨eb,h2,hkb hk h3 (λh=>h.elim)⟩
theorem lY(h:WS w0 B v v2 ls js W)(hl:ls.length<=1000000)(hjl:js.length<=1000000)(pt pe:Jm->Int)(hlab:ad8 W pt pe js):Calls prog 236 #[pv B] W λe w'=>e= .returned v/\WS w0 B v v2 (js.foldl (patch pt pe) ls) js w'/\WK (λ_=>False) W w':=by
 have HS:=ah h;have HL:=ah hlab;have b1:=h.b1;obtain⟨au,cu,rfl⟩:=bU h.own;obtain⟨au2,cu2,rfl⟩:=bU h.late;clear h hlab;unfold pv;go_in;go_wp2_with fail;go_loopw [10] (λi wr=>∃k:Nat,k<=js/\i= .int .i64 k/\WS w0 B (.slice au ls cu) (.slice au2 js cu2) ((js.take k).foldl (patch pt pe) ls) js wr/\WK (λ_=>False) W wr) (λi _=>js.length-(intOf i).toNat)
 case atStart=>exact⟨0,aq,rfl,HS.o,WK.refl _ _⟩
 case round=>
  obtain⟨k,hk,rfl,hs,hkw⟩:=hrel;clear b1;have b0:=hs.b0;have hlen:((js.take k).foldl (patch pt pe) ls).length=ls.length:=uo _ _ _ _;by_cases hlt:k<js
  ·have hlt2:(k:Int)<js:=aq;obtain⟨a',c',e',-,-,hcell⟩:=bY Dt hs.late;simp only[aU]at e';obtain⟨rfl,-,rfl⟩:=e';obtain⟨g2,o2,rfl,hc⟩:=hcell k hlt;have c0:=hc 0 (by rw[Dt];decide);obtain⟨hjo,hja⟩:=hs.jok _ (aW hlt);have hlb:=(HL.o.kept hkw) _ (aW hlt);have hft:=ZM pt pe hlt ls;obtain⟨j,hj⟩:∃j,j=js[k]'hlt:=⟨_,rfl⟩;rw[<-hj]at c0 hjo hja hlb hft;have hP:=Pv hs hjo hja aq (pt j) (pe j) hlb.1 hlb.2;rw[<-Pw pt pe hja,<-hft]at hP;simp only[ZY,Jm.val,jc,eO,iB]at c0;have HP:=ah hP;have HKW:=ah hkw;clear hs hjo hja hlb hft hP hc hcell hkw hj;unfold pv at c0;go_wp2_with fail;refine ap HP.o ?_;rintro w' ⟨hs',hk'⟩;have HH:=ah (ak hs' (HKW.o.trans hk'));clear hs' hk';go_wp2_with fail;go_roundw
   case rel=>exact⟨k+1,aq,bm,HH.o⟩
   case measure=>exact gO
  ·obtain rfl:k=js.length:=aq;rw[bZ]at hs;have HH:=ah (ak hs hkw);clear hs hkw;go_wp2_with fail;go_ret;exact⟨rfl,HH.o⟩
end mV
variable{zP:Prop}
def mw(h:zP:=by
 generalize m 0=b0,m 1=b1,m 2=b2,m 3=b3,m 4=b4,m 5=b5
 revert b0 b1 b2 b3 b4 b5
 decide+kernel):zP:=h
namespace mV
open jO (Sy)
end mV
namespace kN
open jO (Sy iw)
open vR (toks)
def mkC(nA:Int):List Nat->Nat->List Sy
 | [],_=>[]
 |t::r,i=>⟨21,t,nA,((i+2:Nat):Int)⟩::mkC nA r (i+1)
def mid(la:Int)(p:Nat):List Sy:=if la<0 then []else [⟨21,qD la.toNat,((p+1:Nat):Int),((p+3:Nat):Int)⟩,⟨32,0,0,0⟩,if la=2 then⟨69,1073741824,((p+4:Nat):Int),((p+3:Nat):Int)⟩else⟨69,1073741824,((p+3:Nat):Int),((p+4:Nat):Int)⟩]
def ends:List Sy:= [⟨6,2147483648,0,0⟩,⟨6,2147418112,0,0⟩]
def EG(ks:List Nat)(la:Int):List Sy:=⟨32,4,0,0⟩::(mkC ((ks.length+(if la<0 then 0 else 3)+2:Nat):Int) ks 0++(mid la (ks+1)++ends))
def nN(m:Nat->Bool):List Sy:=EG (chain m 6) (oH m 6)
def fB(b0 b1 b2 b3 b4 b5:Bool)(a:Nat):Bool:=match a with|0=>b0|1=>b1|2=>b2|3=>b3|4=>b4|5=>b5|_=>false
def adK(m:Nat->Bool):chain m 6=chain (fB (m 0) (m 1) (m 2) (m 3) (m 4) (m 5)) 6:=by
 unfold chain
 congr 1
def Qq(m:Nat->Bool):oH m 6=oH (fB (m 0) (m 1) (m 2) (m 3) (m 4) (m 5)) 6:=by rfl
def LC(m:Nat->Bool):nN m=nN (fB (m 0) (m 1) (m 2) (m 3) (m 4) (m 5)):=by unfold nN;rw[adK,Qq]
def IK(m:Nat->Bool):iw (nN m)=true/\(nN m).length<=30:=by rw[LC];exact mw
open jO
open vR (toks ku kS xW)
def Qr(m:Nat->Bool):oH m 6= -1\/oH m 6=0\/oH m 6=2:=by rw[Qq];exact mw
end kN
def nf(h:zP:=by rintro w' ⟨v',hs',hk⟩;exact⟨rfl,h.app (Og:= []) hj hk (by rw[fH];exact hs') rfl⟩):zP:=h
namespace mV
open jO (Sy gB eH iM)
variable{B c k p t:Nat}{O O' X:Nat->Prop}{Og js:List Jm}{W W' a b w0:ay}{u v v2:aA}
inductive Tg where
 |pl (n:Nat)
 |lb (b:Nat)
structure SS where
 c:Nat
 k:Nat
 j:Option (Tg×Tg)
abbrev iL(k:Nat):SS:=⟨32,k,none⟩
abbrev iR(k:Nat):SS:=⟨6,k,none⟩
abbrev iJ(c k:Nat)(t e:Tg):SS:=⟨c,k,some (t,e)⟩
def Tg.n:Tg->Nat
 | .pl n=>n
 | .lb _=>0
def SS.sy0(s:SS):Sy:=⟨s.c,s.k,0,0⟩
def SS.fin(s:SS):Sy:=match s.j with
 |none=>⟨s.c,s.k,0,0⟩
 |some (t,e)=>⟨s.c,s.k,(t.n:Int),if s.c=5 then 0 else(e.n:Int)⟩
def Tg.res(b p:Nat):Tg->Tg
 | .pl n=> .pl n
 | .lb x=>if x=b then .pl p else .lb x
def SS.mp(f:Tg->Tg)(s:SS):SS:=⟨s.c,s.k,s.j.map λq=>(f q.1,f q.2)⟩
def SS.anb(s:SS):s.mp (λt=>t)=s:=by obtain⟨c,k,j⟩:=s;cases j<;>rfl
def SS.map_id(ss:List SS):ss.map (SS.mp λt=>t)=ss:=by
 induction ss with
 |nil=>rfl
 |cons s r ih=>rw[bS,ih,SS.anb]
def Ga(W:ay)(O:Nat->Prop):Tg->Nat->Prop
 | .pl n,b=>¬O b/\Boxed W b 339 (.int .i64 n)
 | .lb x,b=>b=x/\O x
def JS(W:ay)(O:Nat->Prop):Nat->List SS->List Jm->Prop
 |_,[],js=>js=[]
 |i,s::r,js=>match s.j with
  |none=>JS W O (i+1) r js
  |some (t,e)=>∃j Og,js=j::Og/\j.at_=i/\j.code=s.c/\Ga W O t j.th/\((s.c=5/\e= .pl 0)\/∃eb,j.el=some eb/\Ga W O e eb)/\JS W O (i+1) r Og
def JS.app{W:ay}{O:Nat->Prop}:∀ {ss:List SS} {i:Nat} {js:List Jm} {ss':List SS} {Og:List Jm},JS W O i ss js->JS W O (i+ss.length) ss' Og->JS W O i (ss++ss') (js++Og)
 | [],i,js,ss',Og,h,h'=>by have e:js=[]:=h;subst e;exact h'
 |⟨c,k,none⟩::r,i,js,ss',Og,h,h'=>by rw[aO,show i+(r.length+1)=i+1+r.length from aq]at h';exact JS.app (ss:=r) (i:=i+1) h h'
 |⟨c,k,some (t,e)⟩::r,i,js,ss',Og,h,h'=>by obtain⟨j,js1,rfl,h1,h2,h3,h4,h5⟩:=h;rw[aO,show i+(r.length+1)=i+1+r.length from aq]at h';exact⟨j,js1++Og,rfl,h1,h2,h3,h4,JS.app (ss:=r) (i:=i+1) h5 h'⟩
def JS.to{W W':ay}{O O':Nat->Prop}{f:Tg->Tg}(hf0:∀n,f (.pl n)= .pl n)(hf:∀t b,Ga W O t b->Ga W' O' (f t) b):∀ {ss:List SS} {i:Nat} {js:List Jm},JS W O i ss js->JS W' O' i (ss.map (SS.mp f)) js
 | [],_,_,h=>h
 |⟨c,k,none⟩::r,i,js,h=>JS.to hf0 hf (ss:=r) (i:=i+1) h
 |⟨c,k,some (t,e)⟩::r,i,js,h=>by
  obtain⟨j,js1,rfl,h1,h2,h3,h4,h5⟩:=h;refine⟨j,js1,rfl,h1,h2,hf _ _ h3,?_,JS.to hf0 hf (ss:=r) (i:=i+1) h5⟩;rcases h4 with h4|⟨eb,h4,h6⟩
  ·exact .inl ⟨h4.1,by rw[h4.2,hf0]⟩
  ·exact .inr ⟨eb,h4,hf _ _ h6⟩
def JS.len{W:ay}{O:Nat->Prop}:∀ {ss:List SS} {i:Nat} {js:List Jm},JS W O i ss js->js.length<=ss
 | [],_,js,h=>by have e:js=[]:=h;subst e;exact aD _
 |⟨c,k,none⟩::r,i,js,h=>by have:=JS.len (ss:=r) (i:=i+1) h;rw[aO];omega
 |⟨c,k,some (t,e)⟩::r,i,js,h=>by obtain⟨j,js1,rfl,h1,h2,h3,h4,h5⟩:=h;have:=JS.len (ss:=r) (i:=i+1) h5;rw[aO,aO];omega
def lval(W:ay)(b:Nat):Int:=match W.cell? b with
 |some (.int _ n)=>n
 |_=>0
def Ii{b:Nat}{n:Int}(h:Boxed W b 339 (.int .i64 n)):lval W b=n:=by unfold lval;rw[h.cell]
def ptW(W:ay)(j:Jm):Int:=lval W j.th
def peW(W:ay)(j:Jm):Int:=match j.el with
 |some b=>lval W b
 |none=>0
def JS.fP{W:ay}{O:Nat->Prop}(hO:∀b,¬O b):∀ {ss:List SS} {i:Nat} {js:List Jm},JS W O i ss js->ad8 W (ptW W) (peW W) js
 | [],_,js,h=>by have e:js=[]:=h;subst e;intro j hj;cases hj
 |⟨c,k,none⟩::r,i,js,h=>JS.fP hO (ss:=r) (i:=i+1) h
 |⟨c,k,some (t,e)⟩::r,i,js,h=>by
  obtain⟨j,js1,rfl,h1,h2,h3,h4,h5⟩:=h;have ih:=JS.fP hO (ss:=r) (i:=i+1) h5;have hone:∀t b,Ga W O t b->Boxed W b 339 (.int .i64 (lval W b)):=λt b ht=>by
   cases t with
   |pl n=>rw[Ii ht.2];exact ht.2
   |lb x=>exact absurd ht.2 (hO x)
  intro i hi;rcases dF.1 hi with rfl|hi
  ·refine⟨hone _ _ h3,?_⟩;rcases h4 with h4|⟨eb,h4,h6⟩
   ·exact .inl (h2.trans h4.1)
   ·refine .inr ⟨eb,h4,?_⟩;have e1:peW W i=lval W eb:=by unfold peW;rw[h4]
    rw[e1];exact hone _ _ h6
  ·exact ih i hi
def JS.fold{W:ay}{O:Nat->Prop}(hO:∀b,¬O b):∀ {ss:List SS} {i:Nat} {js:List Jm} (pre:List Sy),JS W O i ss js->pre.length=i->js.foldl (patch (ptW W) (peW W)) (pre++ss.map SS.sy0)=pre++ss.map SS.fin
 | [],_,js,pre,h,_=>by
   have e:js=[]:=h;subst e
   rfl
 |⟨c,k,none⟩::r,i,js,pre,h,hi=>by have ih:=JS.fold hO (ss:=r) (i:=i+1) (pre++[⟨c,k,0,0⟩]) h (by simp[hi]);rw[bI,bI]at ih;exact ih
 |⟨c,k,some (t,e)⟩::r,i,js,pre,h,hi=>by
  obtain⟨j,js1,rfl,h1,h2,h3,h4,h5⟩:=h;have hone:∀t b,Ga W O t b->lval W b=(t.n:Int):=λt b ht=>by
   cases t with
   |pl n=>exact Ii ht.2
   |lb x=>exact absurd ht.2 (hO x)
  have hp:ptW W j=(t.n:Int):=hone _ _ h3;have hq:(if j.code=5 then(0:Int)else peW W j)=if c=5 then 0 else(e.n:Int):=by
   rw[h2];dsimp only at h4⊢;by_cases h5:c=5
   ·rw[aV h5,aV h5]
   ·rw[aN h5,aN h5];rcases h4 with h4|⟨eb,h4,h6⟩
    ·exact absurd h4.1 h5
    ·unfold peW;rw[h4];exact hone _ _ h6
  have hps:patch (ptW W) (peW W) (pre++(⟨c,k,0,0⟩:Sy)::r.map SS.sy0) j=pre++(⟨c,k,(t.n:Int),if c=5 then 0 else(e.n:Int)⟩:Sy)::r.map SS.sy0:=by
   have hat:j.at_<(pre++(⟨c,k,0,0⟩:Sy)::r.map SS.sy0).length:=by rw[h1,<-hi];simp
   rw[Pw _ _ hat];have hg:(pre++(⟨c,k,0,0⟩:Sy)::r.map SS.sy0)[j.at_]'hat=⟨c,k,0,0⟩:=by simp only[h1,<-hi];rw[List.getElem_append_right (aD _)];simp
   rw[hg];dsimp only;rw[hp,hq,h1,<-hi,List.set_append_right _ _ (aD _),Nat.sub_self,List.set_cons_zero]
  have ih:=JS.fold hO (ss:=r) (i:=i+1) (pre++[⟨c,k,(t.n:Int),if c=5 then 0 else(e.n:Int)⟩]) h5 (by simp[hi]);rw[bI,bI]at ih;rw[jD];rw[show List.map SS.sy0 (⟨c,k,some (t,e)⟩::r)=(⟨c,k,0,0⟩:Sy)::r.map SS.sy0 from rfl,hps];exact ih
structure SW(w0:ay)(B:Nat)(O:Nat->Prop)(ss:List SS)(W:ay):Prop where
 ex:∃v v2 js,WS w0 B v v2 (ss.map SS.sy0) js W/\JS W O 0 ss js
 op:∀b,O b->w0.heap.size<=b/\∃u,Boxed W b 339 u
structure WT(W W':ay):Prop where
 size:W.heap.size<=W'
 kept:∀(k:Nat) (cs:Array aA) (t:dz) (fr:Nat×Nat),W.heap[k]?=some (.cells cs t fr)->t≠407->t≠1->t≠336->t≠339->W'.heap[k]?=some (.cells cs t fr)
def WT.refl(W:ay):WT W W:=⟨aD _,λ_ _ _ _ h _ _ _ _=>h⟩
def WT.trans{a b c:ay}(h:WT a b)(k:WT b c):WT a c:=⟨aL h.size k.size,λi cs t fr h0 h1 h2 h3 h4=>k.kept i cs t fr (h.kept i cs t fr h0 h1 h2 h3 h4) h1 h2 h3 h4⟩
def WT.lU(h:Ext a b):WT a b:=⟨h.size,λ_ _ _ _ h0 _ _ _ _=>(h.block (aB.1 h0).1).trans h0⟩
def WT.ahq(h:WK X a b)(hX:∀k,X k->∃v,Boxed a k 339 v):WT a b:=
 ⟨h.size,λk cs t fr h0 h1 h2 h3 h4=>h.kept k cs t fr (λhx=>by obtain⟨u,hu⟩:=hX k hx;have e:=bV (h0.symm.trans hu);simp only[iT]at e;exact h4 e.2.1) h0 h1 h2 h3⟩
def WT.after(o:Obj)(h:WT (a.alloc o) b):WT a b:=(WT.lU ((aj _).alloc o)).trans h
def WT.boxed(h:WT a b)(hb:Boxed a k t v)(h1:t≠407)(h2:t≠1)(h3:t≠336)(h4:t≠339):Boxed b k t v:=h.kept k _ _ _ hb h1 h2 h3 h4
def Ga.keep(hk:WK (λ_=>False) a b):∀t x,Ga a O t x->Ga b O t x
 | .pl _,_,h=>⟨h.1,hkb hk h.2 (λh=>h.elim)⟩
 | .lb _,_,h=>h
def SW.WY{ss:List SS}(hj:JS W O 0 ss js)(hk:WK (λ_=>False) W W'):JS W' O 0 ss js:=by
 have:=JS.to (f:=λt=>t) (λ_=>rfl) (Ga.keep hk) hj
 rwa [SS.map_id]at this
def SW.WX(h:∀b,O b->w0.heap.size<=b/\∃u,Boxed W b 339 u)(hk:WK (λ_=>False) W W'):∀b,O b->w0.heap.size<=b/\∃u,Boxed W' b 339 u:=λb hb=>by obtain⟨h1,u,h2⟩:=h b hb;exact⟨h1,u,hkb hk h2 (λh=>h.elim)⟩
def SW.ext{ss:List SS}(h:SW w0 B O ss W)(hx:Ext W W'):SW w0 B O ss W':=by obtain⟨v,v2,js,hs,hj⟩:=h.ex;have hk:WK (λ_=>False) W W':=WK.ext hx;exact⟨⟨v,v2,js,hs.kept hx,SW.WY hj hk⟩,SW.WX h.op hk⟩
def SW.I4{ss:List SS}(h:SW w0 B O ss W):Ext w0 W:=by obtain⟨v,v2,js,hs,hj⟩:=h.ex;exact hs.ext
def SW.start(w:ay):SW w w (λ_=>False) [] (w.alloc (.cells #[.slice none 0 0,.slice none 0 0] 336)):=
 ⟨⟨_,_,[],WS.start w,rfl⟩,λ_ h=>h.elim⟩
def SW.mono{ss:List SS}(h:SW w0 B O ss W)(he:∀b,O b↔O' b):SW w0 B O' ss W:=by
 have:O=O':=funext λb=>propext (he b)
 rwa [<-this]
def SW.label{ss:List SS}(h:SW w0 B O ss W)(u:aA):SW w0 B (λb=>O b\/b=W.heap.size) ss (W.alloc (.cells #[u] 339))/\¬O W.heap.size:=by
 have hx:Ext W (W.alloc (.cells #[u] 339)):=(aj W).alloc _;have h2:=h.ext hx;have hnew:¬O W.heap.size:=λho=>by obtain⟨_,u,hu⟩:=h.op _ ho;have:=hu.lt;omega
 obtain⟨v,v2,js,hs,hj⟩:=h.ex;refine⟨⟨⟨v,v2,js,hs.kept hx,?_⟩,λb hb=> ?_⟩,hnew⟩
 ·have:=JS.to (W':=W.alloc (.cells #[u] 339)) (O':=λb=>O b\/b=W.heap.size) (f:=λt=>t) (λ_=>rfl) (λt x ht=>by
   cases t with
   |pl n=>exact⟨λho=>by
    rcases ho with ho|ho
    ·exact ht.1 ho
    ·have:=ht.2.lt;omega,hkb (WK.ext (X:=λ_=>False) hx) ht.2 (λh=>h.elim)⟩
   |lb y=>exact⟨ht.1,.inl ht.2⟩) hj
  rwa [SS.map_id]at this
 ·rcases hb with hb|rfl
  ·exact h2.op b hb
  ·exact⟨hs.ext.size,u,Boxed.new W _ u⟩
def SW.app{ss ss':List SS}(h:SW w0 B O ss W)(hj:JS W O 0 ss js)(hk:WK (λ_=>False) W W')(hs:WS w0 B v v2 (ss.map SS.sy0++ss'.map SS.sy0) (js++Og) W')(hj':JS W' O ss ss' Og):SW w0 B O (ss++ss') W'/\WT W W':=
 ⟨⟨⟨v,v2,js++Og,by rw[bL];exact hs,JS.app (SW.WY hj hk) (by rw[cO];exact hj')⟩,SW.WX h.op hk⟩,WT.ahq hk (λ_ h=>h.elim)⟩
theorem SW.mO{ss:List SS}(h:SW w0 B O ss W)(hl:ss.length<=100000)(k:Nat):Calls prog 231 #[pv B,.int .u32 k] W λe w'=>e= .returned (.tuple #[])/\SW w0 B O (ss++[⟨32,k,none⟩]) w'/\WT W w':=by obtain⟨v,v2,js,hs,hj⟩:=h.ex;refine ap (mV.mO hs ek k) ?_;exact nf
theorem SW.lD{ss:List SS}(h:SW w0 B O ss W)(hl:ss.length<=100000)(k:Nat):Calls prog 235 #[pv B,.int .u32 k] W λe w'=>e= .returned (.tuple #[])/\SW w0 B O (ss++[⟨6,k,none⟩]) w'/\WT W w':=by obtain⟨v,v2,js,hs,hj⟩:=h.ex;refine ap (mV.lD hs ek k) ?_;exact nf
theorem SW.kT{ss:List SS}(h:SW w0 B O ss W)(hl:ss.length<=100000)(hu:Rd W 4 gB u [⟨c,k,0,0⟩]):Calls prog 281 #[pv B,u] W λe w'=>e= .returned (.tuple #[])/\SW w0 B O (ss++[⟨c,k,none⟩]) w'/\WT W w':=by obtain⟨v,v2,js,hs,hj⟩:=h.ex;refine ap (mV.kT hs hu bp) ?_;exact nf
theorem SW.jL{ss:List SS}(h:SW w0 B O ss W)(hl:ss.length<=100000)(code k th eb:Nat)(ht:O th)(he:O eb):Calls prog 233 #[pv B,.int .u16 code,.int .u32 k,pv th,pv eb] W λe w'=>e= .returned (.tuple #[])/\SW w0 B O (ss++[⟨code,k,some (.lb th,.lb eb)⟩]) w'/\WT W w':=by obtain⟨v,v2,js,hs,hj⟩:=h.ex;have hjl:=hj.len;refine ap (mV.jL hs ek aq code k th (some eb)) ?_;rintro w' ⟨v',v2',j,hs',hk,q1,q2,q3,q4⟩;refine⟨rfl,h.app (Og:= [j]) hj hk hs' ⟨j,[],rfl,by rw[q1,aS],q2,⟨q3,ht⟩,.inr ⟨eb,q4,rfl,he⟩,rfl⟩⟩
theorem SW.acI{ss:List SS}(h:SW w0 B O ss W)(hl:ss.length<=100000)(k th:Nat)(ht:O th):Calls prog 233 #[pv B,.int .u16 5,.int .u32 k,pv th,.pointer none] W λe w'=>e= .returned (.tuple #[])/\SW w0 B O (ss++[⟨5,k,some (.lb th,.pl 0)⟩]) w'/\WT W w':=by obtain⟨v,v2,js,hs,hj⟩:=h.ex;have hjl:=hj.len;refine ap (mV.jL hs ek aq 5 k th none) ?_;rintro w' ⟨v',v2',j,hs',hk,q1,q2,q3,q4⟩;refine⟨rfl,h.app (Og:= [j]) hj hk hs' ⟨j,[],rfl,by rw[q1,aS],q2,⟨q3,ht⟩,.inl ⟨rfl,rfl⟩,rfl⟩⟩
theorem SW.iy{b:Nat}{ss:List SS}(h:SW w0 B O ss W)(hb:O b):Calls prog 234 #[pv B,pv b] W λe w'=>e= .returned (.tuple #[])/\SW w0 B (λx=>O x/\x≠b) (ss.map (SS.mp (Tg.res b ss))) w'/\WT W w':=by
 obtain⟨v,v2,js,hs,hj⟩:=h.ex;obtain⟨hlo,u,hu⟩:=h.op b hb;refine ap (mV.iy hs hu hlo) ?_;rintro w' ⟨hs',hk,hb'⟩;rw[aS]at hb';have hm:(ss.map (SS.mp (Tg.res b ss))).map SS.sy0=ss.map SS.sy0:=by rw[List.map_map];rfl
 refine⟨rfl,⟨⟨v,v2,js,by rw[hm];exact hs',JS.to (λ_=>rfl) (λt x ht=> ?_) hj⟩,λx hx=> ?_⟩,WT.ahq hk (λk hk=>⟨u,by rw[hk];exact hu⟩)⟩
 ·cases t with
  |pl n=>exact⟨λho=>ht.1 ho.1,hkb hk ht.2 (λe=>ht.1 (by rw[e];exact hb))⟩
  |lb y=>
   obtain⟨rfl,hy⟩:=ht;show Ga _ _ (if x=b then .pl ss else .lb x) x;by_cases e:x=b
   ·rw[aV e];subst e;exact⟨λho=>ho.2 rfl,hb'⟩
   ·rw[aN e];exact⟨rfl,hy,e⟩
 ·obtain⟨h1,u2,h2⟩:=h.op x hx.1;exact⟨h1,u2,hkb hk h2 hx.2⟩
theorem SW.lY{ss:List SS}(h:SW w0 B O ss W)(hl:ss.length<=100000)(hO:∀b,¬O b):Calls prog 236 #[pv B] W λe w'=>∃v,e= .returned v/\Ext w0 w'/\Rd w' 4 gB v (ss.map SS.fin):=by obtain⟨v,v2,js,hs,hj⟩:=h.ex;have hjl:=hj.len;refine ap (mV.lY hs bp aq (ptW W) (peW W) (hj.fP hO)) ?_;rintro w' ⟨hs',hk⟩;have hf:=JS.fold hO [] hj rfl;rw[dA,dA]at hf;rw[hf]at hs';exact⟨v,rfl,hs'.ext,bY eH hs'.own⟩
def MI{b:Nat}{ss:List SS}(h:SW w0 B O ss W)(hb:¬O b):ss.map (SS.mp (Tg.res b p))=ss:=by
 obtain⟨v,v2,js,hs,hj⟩:=h.ex;clear h hs
 revert hj
 generalize 0=i
 induction ss generalizing i js with
 |nil=>intro _;rfl
 |cons s r ih=>
  obtain⟨c,k,j⟩:=s;have hone:∀t x,Ga W O t x->Tg.res b p t=t:=λt x ht=>by
   cases t with
   |pl n=>rfl
   |lb y=>exact aN (λe=>hb (by rw[<-e];exact ht.2))
  intro hj;rw[bS];cases j with
  |none=>rw[ih _ _ hj];rfl
  |some q=>
   obtain⟨t,e⟩:=q;obtain⟨j,js1,rfl,h1,h2,h3,h4,h5⟩:=hj;rw[ih _ _ h5];have e1:=hone _ _ h3;have e2:Tg.res b p e=e:=by
    rcases h4 with h4|⟨eb,h4,h6⟩
    ·rw[h4.2];rfl
    ·exact hone _ _ h6
   show(⟨c,k,some (Tg.res b p t,Tg.res b p e)⟩:SS)::r=_;rw[e1,e2]
end mV
namespace mJ
open jO (Sy iw jk okW there gF none_ um Dat EU nx hld wd lo hi)
open mV (SS Tg iL iR iJ)
open lC (Test Rule Filter)
variable{N at_ c e i j k m p:Nat}{P:Int->Prop}{a o:Int}{f:Filter}{rs:List Rule}
abbrev Nd:=xu.Node
open kN (qD)
abbrev iA(k:Nat):SS:=⟨84,k,none⟩
def oL(a:Int):Nat:=if a=0\/a=2 then 4 else 3
def xG(nt:Tg)(a:Int):List SS:= [iL 4,iJ 21 (qD a.toNat) (.pl 2) nt,iL 0]++if a=0 then [iJ 69 1073741824 nt (.pl 4)]else if a=2 then [iJ 69 1073741824 (.pl 4) nt]else []
def wu(nt:Tg)(a:Int):(xG nt a).length=oL a:=by
 unfold xG oL;by_cases h0:a=0
 ·rw[aV h0,aV (.inl h0)];rfl
 ·rw[aN h0];by_cases h2:a=2
  ·rw[aV h2,aV (.inr h2)];rfl
  ·rw[aN h2,aN aq];rfl
def qM(mask:Nat):Nat:=if mask=0 then 0 else if mask=4294967295 then 2 else 3
def nC(p at_ mask value:Nat)(fl:Tg):List SS:=if mask=0 then []else if mask=4294967295 then [iL at_,iJ 21 value (.pl (p+2)) fl]else [iL at_,iA mask,iJ 21 value (.pl (p+3)) fl]
def wJ(p at_ mask value:Nat)(fl:Tg):(nC p at_ mask value fl).length=qM mask:=by
 unfold nC qM;split
 ·rfl
 ·split<;>rfl
def uG(t:Test):Nat:=16+8*t.arg.toNat
def F7(t:Test):Nat:=20+8*t.arg.toNat
def tV(t:Test):Nat:=qM (lo t.mask)+qM (hi t.mask)+1
def yD(p:Nat)(t:Test):List SS:=nC p (uG t) (lo t.mask) (lo t.value) (.pl (p+tV t))++(nC (p+qM (lo t.mask)) (F7 t) (hi t.mask) (hi t.value) (.pl (p+tV t))++[iR t.action])
def Ec(p:Nat)(t:Test):(yD p t).length=tV t:=by unfold yD tV;rw[aH,aH,wJ,wJ];rfl
def Ed(t:Test):1<=tV t/\tV t<=7:=by unfold tV qM;split<;>split<;>(repeat' split)<;>omega
def oN:List Test->Nat
 | []=>1
 |t::r=>tV t+if t.mask=0 then 0 else oN r
def pU(p:Nat):List Test->Nat->List SS
 | [],x=>[iR x]
 |t::r,x=>yD p t++if t.mask=0 then []else pU (p+tV t) r x
def Ao:∀(ts:List Test)(p x:Nat),(pU p ts x).length=oN ts
 | [],_,_=>rfl
 |t::r,p,x=>by
  unfold pU oN;rw[aH,Ec];split
  ·rfl
  ·rw[Ao r]
def Cz:∀ts:List Test,1<=oN ts/\oN ts<=1+7*ts.length
 | []=>⟨aD _,aD _⟩
 |t::r=>by have h1:=Ed t;have h2:=Cz r;unfold oN;rw[aO];split<;>omega
def F4:List Rule->Nat->Nat->Nat
 |_,p,0=>p
 | [],p,_+1=>p
 |r::l,p,k+1=>F4 l (p+oN r.tests) k
def lq(p:Nat):List Rule->List SS
 | []=>[]
 |r::l=>pU p r.tests r.action++lq (p+oN r.tests) l
def G5:∀(rs:List Rule)(p:Nat),p+(lq p rs).length=F4 rs p rs.length
 | [],_=>rfl
 |r::l,p=>by unfold lq;rw[aH,Ao,aO];show _=F4 l (p+oN r.tests) l.length;rw[<-G5 l];omega
def O5:∀ {rs:List Rule} {p k:Nat} (h:k<rs),F4 rs p (k+1)=F4 rs p k+oN rs[k].tests
 |r::l,p,0,_=>by simp[F4]
 |r::l,p,k+1,h=>by show F4 l _ (k+1)=F4 l _ k+_;rw[O5 (rs:=l) cT];rfl
def v9{rs:List Rule}{p:Nat}:∀(d:Nat) {k:Nat},k+d<=rs.length->F4 rs p k+d<=F4 rs p (k+d)
 |0,_,_=>aD _
 |d+1,k,h=>by have h1:=v9 d (k:=k) (rs:=rs) (p:=p) aq;have h2:=O5 (rs:=rs) (p:=p) (k:=k+d) aq;have h3:=(Cz (rs[k+d]' aq).tests).1;rw[show k+(d+1)=k+d+1 from aq,h2];omega
def G7(rs:List Rule)(p:Nat):F4 rs p 0=p:=by cases rs<;>rfl
def afo(p:Nat)(h:k<rs):lq p (rs.take (k+1))=lq p (rs.take k)++pU (F4 rs p k) rs[k].tests rs[k].action:=by
 induction rs generalizing p k with
 |nil=>simp at h
 |cons r l ih=>
  cases k with
  |zero=>simp[lq,F4]
  |succ k=>
   have h':k<l:=by simpa using h
   have e:=ih (k:=k) (p+oN r.tests) h';simp only[List.take_succ_cons,lq,iW];rw[e,bI]
   rfl
def abE(p:Nat)(h:k<=rs):p+(lq p (rs.take k)).length=F4 rs p k:=by
 induction rs generalizing p k with
 |nil=>simp at h;subst h;rfl
 |cons r l ih=>
  cases k with
  |zero=>rfl
  |succ k=>have e:=ih (k:=k) (p+oN r.tests) cT;simp only[List.take_succ_cons,lq,aH,Ao];show _=F4 l (p+oN r.tests) k;omega
def inner(n:Nd):Bool:= !n.leaf
def root(t:List Nd):Bool:=match t with
 |n::_=>n.leaf
 | []=>false
def yK(F:Nat->Tg)(t:List Nd):List SS:=(t.filter inner).map λn=>iJ 53 n.at_ (F n.more.toNat) (F n.less.toNat)
def jU(F:Nat->Tg)(t:List Nd):List SS:=(if root t=true then [iJ 5 0 (F 0) (.pl 0)]else [])++yK F t
def rank(t:List Nd)(i:Nat):Nat:=(if root t=true then 1 else 0)+((t.take i).filter inner).length
def vB(F:Nat->Tg)(t:List Nd):(jU F t).length=rank t t.length:=by unfold jU rank yK;rw[aH,aS,bZ];split<;>rfl
def uT{t:List Nd}(h:i<=j):rank t i<=rank t j:=by unfold rank;have:(t.take i).Sublist (t.take j):=(List.take_prefix_take_left h).sublist;have:=(this.filter inner).length_le;omega
def K9{t:List Nd}(h:i<t)(hl:t[i].leaf=false):rank t (i+1)=rank t i+1:=by
 unfold rank;rw[bE h,jy,aH];have:inner t[i]=true:=by unfold inner;rw[hl];rfl
 simp[this];omega
def CS(t:List Nd):rank t t.length<=t+1:=by unfold rank;rw[bZ];have:=ji inner t;split<;>omega
open jO (Sy iw jk okW there gF none_ um Dat EU nx hld wd lo hi abd)
open kN (qD)
open lC (Test Rule Filter Gc qW BZ iq kU)
open xu (may)
def dP(f:Filter)(t:List Nd):Nat:=oL f.jh+rank t t.length
def nP(f:Filter)(t:List Nd):Nat:=F4 f.rules (dP f t+1) f.rules.length
def wP(f:Filter)(t:List Nd)(k:Nat):Nat:=if k=0 then dP f t else F4 f.rules (dP f t+1) (k-1)
def pN(f:Filter)(t:List Nd)(i:Nat):Nat:=match t[i]? with
 |some n=>if n.leaf=true then wP f t n.way.toNat else oL f.jh+rank t i
 |none=>0
def JL(f:Filter)(t:List Nd):List SS:=xG (.pl (nP f t)) f.jh++(jU (λi=> .pl (pN f t i)) t++(iR f.dflt::(lq (dP f t+1) f.rules++[iR 2147418112])))
def AV(f:Filter)(t:List Nd):(JL f t).length=nP f t+1:=by unfold JL nP;rw[<-G5];simp only[aH,aO,bD,wu,vB];unfold dP;omega
def JH(len i:Nat)(s:SS):Prop:=(s.j=none/\((s.c=32/\okW s.k=true)\/s.c=84\/s.c=6))\/∃n m:Nat,s.j=some (.pl n,.pl m)/\i<n/\n<len/\((s.c=5/\s.k=0)\/((s.c=21\/s.c=53\/s.c=69)/\i<m/\m<len))
def afL{len:Nat}{s:SS}(h:JH len i s):jk len i s.fin=true:=by
 obtain⟨c,k,j⟩:=s;rcases h with⟨h1,h2⟩|⟨n,m,h1,h2,h3,h4⟩
 ·dsimp only at h1 h2;subst h1;unfold jk SS.fin;dsimp only;rcases h2 with⟨rfl,h2⟩|rfl|rfl
  ·rw[aV rfl,h2];rfl
  ·rfl
  ·rfl
 ·dsimp only at h1 h4;subst h1;unfold jk SS.fin there;dsimp only[Tg.n];rcases h4 with⟨rfl,rfl⟩|⟨h5,h6,h7⟩
  ·rw[aN az,aN az,aV rfl];simp;omega
  ·rw[aN aq,aN aq,aN aq];have:gF c=true:=by rcases h5 with rfl|rfl|rfl<;>rfl
   have h8:¬c=5:=aq;rw[this];simp[h8];omega
def kW(len p:Nat)(xs:List SS):Prop:= ∀j (h:j<xs.length),JH len (p+j) xs[j]
def kW.nil(len p:Nat):kW len p []:=λj h=>by cases h
def kW.app{len:Nat}{a b:List SS}(h:kW len p a)(h':kW len (p+a.length) b):kW len p (a++b):=λj hj=>by
 rw[aH]at hj;by_cases hja:j<a
 ·rw[aqb hja];exact h j hja
 ·rw[List.getElem_append_right aq];have:=h' (j-a.length) aq
  rwa [show p+a.length+(j-a.length)=p+j from aq]at this
def kW.cons{len:Nat}{s:SS}{b:List SS}(h:JH len p s)(h':kW len (p+1) b):kW len p (s::b):=
 kW.app (a:= [s]) (λj hj=>by
  have:j=0:=by simpa using hj
  subst this;exact h) h'
def kW.may{len:Nat}:∀ {xs:List SS} {p:Nat},kW len p xs->jO.iq len (xs.map SS.fin) p=true
 | [],_,_=>rfl
 |s::r,p,h=>by
  show(jk len p s.fin&&jO.iq len (r.map SS.fin) (p+1))=true;rw[afL (by have:=h 0 aE;rwa [iB]at this),kW.may (p:=p+1) (λj hj=>by
   have:=h (j+1) (by simpa using hj)
   rwa [iW,show p+(j+1)=p+1+j from aq]at this)]
  rfl
def p7{len:Nat}(h:(c=32/\okW k=true)\/c=84\/c=6):JH len i ⟨c,k,none⟩:= .inl ⟨rfl,h⟩
def Av{len n:Nat}(hc:c=21\/c=53\/c=69)(h1:i<n)(h2:n<len)(h3:i<m)(h4:m<len):JH len i (iJ c k (.pl n) (.pl m)):= .inr ⟨n,m,rfl,h1,h2,.inr ⟨hc,h3,h4⟩⟩
def aiZ{len:Nat}(h1:3<N)(h2:N<len):kW len 0 (xG (.pl N) a):=by
 unfold xG;refine kW.app (.cons (p7 (.inl ⟨rfl,rfl⟩)) (.cons (Av (.inl rfl) aq aq aq h2) (.cons (p7 (.inl ⟨rfl,rfl⟩)) (.nil _ _)))) ?_;split
 ·exact .cons (Av (.inr (.inr rfl)) h1 h2 (by show 0+3<4;omega) aq) (.nil _ _)
 ·split
  ·exact .cons (Av (.inr (.inr rfl)) (by show 0+3<4;omega) aq h1 h2) (.nil _ _)
  ·exact .nil _ _
def Xj{len mask value:Nat}(h1:p+qM mask<=e)(h2:mask≠0->e<len)(h3:okW at_=true):kW len p (nC p at_ mask value (.pl e)):=by
 unfold nC;unfold qM at h1;split
 ·exact .nil _ _
 rename_i h0;rw[aN h0]at h1;have h2:=h2 h0;split
 ·rename_i h4;rw[aV h4]at h1;exact .cons (p7 (.inl ⟨rfl,h3⟩)) (.cons (Av (.inl rfl) aq aq aq h2) (.nil _ _))
 ·rename_i h4;rw[aN h4]at h1;exact .cons (p7 (.inl ⟨rfl,h3⟩)) (.cons (p7 (.inr (.inl rfl))) (.cons (Av (.inl rfl) aq aq aq h2) (.nil _ _)))
def afb{len:Nat}{t:Test}(ht:qW t=true)(h:p+tV t<len):kW len p (yD p t):=by
 have hN:tV t=qM (lo t.mask)+qM (hi t.mask)+1:=rfl;unfold qW at ht;simp only[bA,dK]at ht;obtain⟨h1,h2,-⟩:=ht;have ok1:okW (uG t)=true:=by unfold okW uG;simp;omega
 have ok2:okW (F7 t)=true:=by unfold okW F7;simp;omega
 unfold yD;refine kW.app (Xj aq (λ_=>h) ok1) (kW.app ?_ ?_)
 ·rw[wJ];exact Xj aq (λ_=>h) ok2
 ·exact .cons (p7 (.inr (.inr rfl))) (.nil _ _)
def Wp{len:Nat}:∀(ts:List Test)(x p:Nat),(∀t∈ts,qW t=true)->p+oN ts<len->kW len p (pU p ts x)
 | [],_,_,_,_=> .cons (p7 (.inr (.inr rfl))) (.nil _ _)
 |t::r,x,p,ht,h=>by
  unfold oN at h;unfold pU;refine kW.app (afb (ht t jw) aq) ?_;rw[Ec];split
  ·exact .nil _ _
  ·rename_i h0;rw[aN h0]at h;exact Wp r x _ (λt h=>ht t (gM _ h)) aq
def O3{len:Nat}:∀(rs:List Rule)(p:Nat),(∀r∈rs,∀t∈r.tests,qW t=true)->F4 rs p rs.length<len->kW len p (lq p rs)
 | [],_,_,_=> .nil _ _
 |r::l,p,ht,h=>by unfold lq;have h1:F4 (r::l) p (r::l).length=F4 l (p+oN r.tests) l.length:=rfl;rw[h1]at h;have h2:=v9 (rs:=l) (p:=p+oN r.tests) l (k:=0) aq;rw[G7,cO]at h2;refine kW.app (Wp _ _ _ (ht r jw) aq) ?_;rw[Ao];exact O3 l _ (λr h=>ht r (gM _ h)) h
def EB(F:Nat->Tg)(t:List Nd)(i:Nat)(h:i<t):yK F (t.take (i+1))=yK F (t.take i)++if t[i].leaf=true then []else [iJ 53 t[i].at_ (F t[i].more.toNat) (F t[i].less.toNat)]:=by
 unfold yK;rw[bE h,jy,bL]
 congr 1
 cases hl:t[i].leaf<;>simp[inner,hl]
structure TOk(f:Filter)(t:List Nd):Prop where
 may:may t=true
 ways:∀i (h:i<t.length),t[i].leaf=true->0<=t[i].way/\t[i].way<=(f.rules:Int)
 len:t.length<=2000
def NC(f:Filter){t:List Nd}(h:i<t)(hl:t[i].leaf=false):oL f.jh+rank t i<dP f t:=by unfold dP;have h1:=K9 h hl;have h2:=uT (t:=t) (i:=i+1) (j:=t.length) h;omega
def Xy(f:Filter)(t:List Nd):dP f t<nP f t:=by unfold nP;have:=v9 (rs:=f.rules) (p:=dP f t+1) f.rules (k:=0) aq;rw[G7,cO]at this;omega
def ahj(f:Filter)(t:List Nd)(h:k<=f.rules):dP f t<=wP f t k/\wP f t k<nP f t+1:=by
 have h0:=Xy f t;unfold wP;split
 ·omega
 ·have h1:=v9 (rs:=f.rules) (p:=dP f t+1) (k-1) (k:=0) aq;have h2:=v9 (rs:=f.rules) (p:=dP f t+1) (f.rules.length-(k-1)) (k:=k-1) aq;rw[G7,cO]at h1;rw[show k-1+(f.rules.length-(k-1))=f.rules.length from aq]at h2;unfold nP;omega
def Wu(f:Filter){t:List Nd}(h:i<t)(hl:t[i].leaf=true):pN f t i=wP f t t[i].way.toNat:=by unfold pN;rw[aJ h];dsimp only;rw[aV hl]
def ab0(f:Filter){t:List Nd}(h:i<t)(hl:t[i].leaf=false):pN f t i=oL f.jh+rank t i:=by unfold pN;rw[aJ h];dsimp only;rw[aN (by rw[hl];decide)]
def ahp{t:List Nd}(hT:TOk f t)(hi:i<t)(hl:t[i].leaf=false)(hij:i<j)(hj:j<t):oL f.jh+rank t i<pN f t j/\pN f t j<nP f t+1:=by
 have h0:=Xy f t;have h1:=NC f hi hl;cases hlj:t[j].leaf
 ·rw[ab0 f hj hlj];have h2:=NC f hj hlj;have h3:=K9 hi hl;have h4:=uT (t:=t) (i:=i+1) (j:=j) hij;omega
 ·rw[Wu f hj hlj];have h5:=hT.ways j hj hlj;have h6:=ahj f t (k:=t[j].way.toNat) aq;omega
def CJ{t:List Nd}(h:0<t.length):root t=t[0].leaf:=by
 cases t with
 |nil=>simp at h
 |cons a r=>rfl
def aao{t:List Nd}(hT:TOk f t):kW (nP f t+1) (oL f.jh) (jU (λi=> .pl (pN f t i)) t):=by
 have h0:=Xy f t;have hp:=xu.C0 hT.may;unfold jU;have hj:∀k,k<=t.length->kW (nP f t+1) (oL f.jh+(if root t=true then 1 else 0)) (yK (λi=> .pl (pN f t i)) (t.take k)):=by
  intro k
  induction k with
  |zero=>intro _;exact .nil _ _
  |succ k ih=>
   intro hk;rw[EB _ t k aq];refine kW.app (ih aq) ?_;cases hl:t[k].leaf
   ·rw[aN (show¬(false=true)from az)];obtain⟨m1,m2,m3,m4⟩:=xu.Gs hT.may (by omega:k<t) hl;have e1:=ahp hT (by omega:k<t) hl (j:=t[k].more.toNat) aq aq;have e2:=ahp hT (by omega:k<t) hl (j:=t[k].less.toNat) aq aq;have hr:oL f.jh+(if root t=true then 1 else 0)+(yK (λi=> .pl (pN f t i)) (t.take k)).length=oL f.jh+rank t k:=by unfold rank yK;rw[aS];omega
    rw[hr];exact .cons (Av (.inr (.inl rfl)) e1.1 e1.2 e2.1 e2.2) (.nil _ _)
   ·rw[aV (show true=true from rfl)];exact .nil _ _
 have hj:=hj t (aD _);rw[bZ]at hj;by_cases hr:root t=true
 ·rw[aV hr]at hj⊢;refine kW.app (.cons ?_ (.nil _ _)) hj;have hl:t[0].leaf=true:=by rw[<-CJ hp];exact hr
  have h5:=hT.ways 0 hp hl;have h6:=ahj f t (k:=t[0].way.toNat) aq;show JH _ _ (iJ 5 0 (.pl (pN f t 0)) (.pl 0));rw[Wu f hp hl];have h7:oL f.jh<dP f t:=by unfold dP rank;rw[aV hr];omega
  exact .inr ⟨_,0,rfl,aq,aq,.inl ⟨rfl,rfl⟩⟩
 ·rw[aN hr]at hj⊢;exact hj
def El:∀(rs:List Rule)(p:Nat),(∀r∈rs,r.tests.length<=32)->F4 rs p rs.length<=p+225*rs.length
 | [],_,_=>aD _
 |r::l,p,h=>by show F4 l (p+oN r.tests) l.length<=_;have h1:=El l (p+oN r.tests) (λr h'=>h r (gM _ h'));have h2:=(Cz r.tests).2;have h3:=h r jw;rw[aO];omega
def qV(h:kU f=true):0<=f.jh/\f.jh<6/\f.rules.length<=400/\iq none f.rules=true/\∀r∈f.rules,r.tests.length<=32/\∀t∈r.tests,qW t=true:=by unfold kU at h;simp only[bA,dK]at h;obtain⟨h1,h2,h3,-,h5⟩:=h;refine⟨h1,h2,h3,h5,λr hr=> ?_⟩;obtain⟨h6,-⟩:=lC.P8 h5 r hr;obtain⟨h7,h8,-⟩:=lC.WM h6;exact⟨h7,h8⟩
def adE{t:List Nd}(hf:kU f=true)(hT:TOk f t):kW (nP f t+1) 0 (JL f t):=by
 obtain⟨h1,h2,h3,h4,h5⟩:=qV hf;have h0:=Xy f t;have hp:=xu.C0 hT.may;have hd:3<=oL f.jh/\oL f.jh+1<=dP f t:=by
  refine⟨by unfold oL;split<;>omega,?_⟩;by_cases hr:root t=true
  ·unfold dP rank;rw[aV hr];omega
  ·have hl:t[0].leaf=false:=by rw[<-CJ hp];simpa using hr
   have:=NC f hp hl;omega
 unfold JL;refine kW.app (aiZ aq aq) ?_;rw[wu,cO];refine kW.app (aao hT) ?_;rw[vB];refine .cons (p7 (.inr (.inr rfl))) (kW.app (O3 _ _ (λr hr=>(h5 r hr).2) ?_) (.cons (p7 (.inr (.inr rfl))) (.nil _ _)));show F4 f.rules (dP f t+1) f.rules.length<nP f t+1;exact Nat.lt_succ_self _
def adD{t:List Nd}(hf:kU f=true)(hT:TOk f t):iw ((JL f t).map SS.fin)=true:=by
 obtain⟨h1,h2,h3,h4,h5⟩:=qV hf;have hlen:((JL f t).map SS.fin).length=nP f t+1:=by rw[aS,AV]
 have hb:=El f.rules (dP f t+1) (λr hr=>(h5 r hr).1);have hb2:nP f t<=dP f t+1+225*f.rules.length:=hb;have hdp:dP f t<=4+(t.length+1):=by have:=CS t;unfold dP oL;split<;>omega
 have htl:=hT.len;unfold iw;rw[hlen];have hlast:um ((JL f t).map SS.fin)=6:=by
  unfold um;rw[hlen,jr];have e:JL f t=(xG (.pl (nP f t)) f.jh++(jU (λi=> .pl (pN f t i)) t++(iR f.dflt::lq (dP f t+1) f.rules)))++[iR 2147418112]:=by unfold JL;simp
  have hl2:(xG (.pl (nP f t)) f.jh++(jU (λi=> .pl (pN f t i)) t++(iR f.dflt::lq (dP f t+1) f.rules))).length=nP f t:=by have:=AV f t;rw[e,aH]at this;exact sd
  rw[e,bL,Bk (by rw[aS,hl2];exact aD _),aS,hl2,Nat.sub_self]
  rfl
 rw[hlast,aQ aq,aQ aq,(adE hf hT).may]
 rfl
open lC (Test Rule Filter BZ iq kU upB)
open xu (may Bq)
open Gd (Span merge pc up whole way wys put gap)
def Li(f:Filter):List Nat:=f.rules.map (·.nr)
def Oc(f:Filter):List Int:=(List.range f.rules).map λi=>((i+1:Nat):Int)
def sK(f:Filter):List Span:=merge (pc 0 (Li f) (Oc f) 0)
def kH(f:Filter):List Nd:=Bq (sK f) 0
def p9(f:Filter):(Li f).length=f.rules.length:=aS _
def sP(f:Filter):(Oc f).length=f.rules.length:=by unfold Oc;simp
def ahk:∀ {rs:List Rule} {p:Option Nat} {next:Nat},iq p rs=true->(∀n,upB p n=true->next<=n)->up (rs.map (·.nr)) next=true
 | [],_,_,_,_=>rfl
 |r::l,p,next,h,hn=>by simp only[iq,bA]at h;show(decide (next<=r.nr)&&up (l.map (·.nr)) (r.nr+1))=true;rw[aQ (hn _ h.1.2),iP];exact ahk h.2 (λn hh=>by have:=of_decide_eq_true hh;omega)
def abP{out:List Span}{s:Span}(h:∀x∈out,P x.way)(hs:P s.way):∀x∈put out s,P x.way:=by
 rcases Gd.Fj out with rfl|⟨i,l,rfl⟩
 ·rw[Gd.afy];intro x hx;simp at hx;subst hx;exact hs
 ·rw[Gd.Pj];split
  ·intro x hx;rcases dJ.1 hx with hx|hx
   ·exact h x (List.mem_append_left _ hx)
   ·simp at hx;subst hx;exact h l aE
  ·intro x hx;rcases dJ.1 hx with hx|hx
   ·exact h x (List.mem_append_left _ hx)
   ·simp at hx;rcases hx with rfl|rfl
    ·exact h _ aE
    ·exact hs
def Ic{P:Int->Prop}:∀ {ys out:List Span},(∀x∈out,P x.way)->(∀x∈ys,P x.way)->∀x∈ys.foldl put out,P x.way
 | [],_,h,_=>h
 |y::r,_,h,hy=>Ic (ys:=r) (abP h (hy y jw)) (λx hx=>hy x (gM _ hx))
def IQ(ho:P o)(a b:Nat):∀x∈gap o a b,P x.way:=by
 unfold gap;split
 ·intro x hx;simp at hx;subst hx;exact ho
 ·intro x hx;cases hx
def Wt{P:Int->Prop}{o:Int}(ho:P o):∀(ns:List Nat)(ws:List Int)(next:Nat),(∀x∈ws,P x)->∀x∈pc o ns ws next,P x.way
 | [],ws,next,_,x,hx=>by unfold pc at hx;exact IQ ho _ _ x hx
 |n::ns,[],next,_,x,hx=>by unfold pc at hx;exact IQ ho _ _ x hx
 |n::ns,v::ws,next,h,x,hx=>by
  unfold pc at hx;rcases dJ.1 hx with hx|hx
  ·exact IQ ho _ _ x hx
  ·rcases dF.1 hx with rfl|hx
   ·exact h v jw
   ·exact Wt ho ns ws _ (λx hx=>h x (gM _ hx)) x hx
def nI(hf:kU f=true)(hn:∀r∈f.rules,r.nr<4294967296):up (Li f) 0=true/\whole (sK f)=true/\(sK f).length<=2*f.rules.length+1/\(∀x∈sK f,0<=x.way/\x.way<=(f.rules:Int))/\TOk f (kH f):=by
 obtain⟨h1,h2,h3,h4,h5⟩:=qV hf;have hu:up (Li f) 0=true:=ahk h4 (λn _=>bP _);have hns:∀n∈Li f,n<4294967296:=λn hh=>by obtain⟨r,hr,rfl⟩:=dW.1 hh;exact hn r hr
 have hll:(Li f).length=(Oc f).length:=by rw[p9,sP]
 have hw:whole (sK f)=true:=Gd.OB (Gd.abY hll hu hns);have hlen:(sK f).length<=2*f.rules.length+1:=by have e1:=Gd.Lp (pc 0 (Li f) (Oc f) 0);have e2:=Gd.TR 0 (Li f) (Oc f) 0;rw[p9]at e2;exact aL e1 e2
 have ahC:∀x∈sK f,0<=x.way/\x.way<=(f.rules:Int):=Ic (P:=λy=>0<=y/\y<=(f.rules:Int)) (λx hx=>by cases hx) (Wt (P:=λy=>0<=y/\y<=(f.rules:Int)) aq (Li f) (Oc f) 0 (λx hx=>by unfold Oc at hx;obtain⟨i,hi,rfl⟩:=dW.1 hx;have:=List.mem_range.1 hi;omega))
 have hp:=xu.Ai hw;refine⟨hu,hw,hlen,ahC,xu.ae6 hp,λi hi hl=> ?_,?_⟩
 ·have e:=xu.Tk (sK f) hp 0;have hm:(kH f)[i].way∈xu.leaves (kH f):=by unfold xu.leaves;exact dW.2 ⟨(kH f)[i],List.mem_filter.2 ⟨aW hi,hl⟩,rfl⟩
  have hm2:(kH f)[i].way∈wys (sK f):=by rw[<-e];exact hm
  obtain⟨s,hs,e2⟩:=dW.1 hm2;rw[<-e2];exact ahC s hs
 ·have:=xu.uO (sK f) hp 0;unfold kH;omega
end mJ
def pa(h:zP:=by have Hhp:=ah hp;clear hp e h;unfold Rt;go_in;go_wp2_with fail;refine ap (Hhp.o _) ?_;intro w1 hx;go_wp2_with fail;go_ret2;exact⟨rfl,hx⟩):zP:=h
namespace mJ
open jO (Sy gB eH iM lo hi oF)
open mV
open lC (Test Rule Gc qW)
variable{B b base c e g i k nt p p0 t x:Nat}{N O:Nat->Prop}{W W' w w' w0:ay}{cs:Array aA}{ls:List (Option Nat)}{pl:Nat->Nat}
theorem Fg(a b:Int)(h0:0<=a)(h6:a<6)(hb:0<=b)(hb4:b<=4)(w:ay):Rt 400 #[.int .i64 a,.int .i64 b] w (.tuple #[.int .u32 (16+8*a+b),.bool true]):=by
 have g1:decide (a<0)=false:=aT aq;have g2:decide (5<a)=false:=aT aq;have hw:IntKind.u32.wrap (16+8*a+b)=16+8*a+b:=by simp[IntKind.wrap,IntKind.signed,IntKind.bits];omega
 unfold Rt;go_in;go_wp2_with fail;go_ret2;exact kq
theorem aaD(t:Test)(h:qW t=true)(w:ay):Rt 372 #[.int .i64 t.arg] w (.tuple #[.int .u32 (uG t:Int),.bool true]):=by
 obtain⟨h0,h6,-⟩:=lC.BX h;have hp:=λW=>Fg t.arg 0 h0 h6 aq aq W
 have e:16+8*t.arg+0=(uG t:Int):=by unfold uG;omega
 rw[e]at hp;generalize(uG t:Int)=x at *;exact pa
theorem VA(t:Test)(h:qW t=true)(w:ay):Rt 373 #[.int .i64 t.arg] w (.tuple #[.int .u32 (F7 t:Int),.bool true]):=by
 obtain⟨h0,h6,-⟩:=lC.BX h;have hp:=λW=>Fg t.arg 4 h0 h6 aq aq W
 have e:16+8*t.arg+4=(F7 t:Int):=by unfold F7;omega
 rw[e]at hp;generalize(F7 t:Int)=x at *;exact pa
def zu(b p n:Nat):Tg.res b p (.pl n)= .pl n:=rfl
def xD(b p:Nat):Tg.res b p (.lb b)= .pl p:=aV rfl
def p5(h:x≠b):Tg.res b p (.lb x)= .lb x:=aN h
def ru{n:Nat}{ss:List SS}(h:SW w0 B (λx=>(O x\/x=n)/\x≠n) ss W)(hn:¬O n):SW w0 B O ss W:=
 h.mono (λx=>⟨λh=>by rcases h.1 with h1|h1;exact h1;exact absurd h1 h.2,λh=>⟨.inl h,λe=>hn (e▸h)⟩⟩)
theorem IJ{ss:List SS}(h:SW w0 B O ss W)(hl:ss.length<=99000)(at_ mask value fl:Nat)(hfl:O fl):Calls prog 374 #[pv B,.int .u32 at_,.int .u32 mask,.int .u32 value,pv fl] W λe w'=>e= .returned (.tuple #[])/\SW w0 B O (ss++nC ss at_ mask value (.lb fl)) w'/\WT W w':=by
 have HS:=ah h;have HO:=ah hfl;clear h hfl;by_cases h0:mask=0
 ·subst h0;go_in;go_wp2_with fail
  first|go_end0|refine aM (bH rfl _ _ _) rfl ?_
  exact⟨rfl,by show SW w0 B O (ss++[]) W;rw[fH];exact HS.o,WT.refl _⟩
 have g0:((mask:Int)==0)=false:=by rw[bK];omega
 have hS:nC ss at_ mask value (.lb fl)=if mask=4294967295 then [iL at_,iJ 21 value (.pl (ss+2)) (.lb fl)]else [iL at_,iA mask,iJ 21 value (.pl (ss+3)) (.lb fl)]:=by unfold nC;rw[aN h0]
 rw[hS];clear hS;by_cases h1:mask=4294967295
 ·rw[aV h1];subst h1;go_in;go_wp2_with fail;refine ap (SW.mO HS.o aq at_) ?_;rintro w2 ⟨hs2,ht2⟩;have HS2:=ah hs2;have HT2:=ah ht2;have HL2:=ah (hs2.label (.int .i64 0));clear hs2 ht2;go_wp2_with fail;refine ap (SW.jL HL2.o.1 bp 21 value w2 fl (.inr rfl) (.inl HO.o)) ?_;rintro w3 ⟨hs3,ht3⟩;have wZ:=ah hs3;have HT3:=ah (HT2.o.trans (WT.after _ ht3));clear hs3 ht3;go_wp2_with fail;refine ap (SW.iy wZ.o (b:=w2.heap.size) (.inr rfl)) ?_;rintro w4 ⟨hs4,Zz⟩;have hn:=HL2.o.2;have hne:fl≠w2.heap.size:=λe=>hn (e▸HO.o)
  have hs5:=ru hs4 hn;rw[bL,bL,MI HS.o hn]at hs5;simp only[bS,eU,SS.mp,dN,Option.map_none,xD,p5 hne,bI,dh,dA,aH,aO,bD]at hs5;have HF:=ah hs5;have HT4:=ah (HT3.o.trans Zz);clear hs4 hs5 Zz;go_wp2_with fail
  first|go_end0|refine aM (bH rfl _ _ _) rfl ?_
  exact⟨rfl,HF.o,HT4.o⟩
 ·rw[aN h1];have g1:((mask:Int) !=4294967295)=true:=by rw[bne,Bool.not_eq_true',bK];omega
  go_in;go_wp2_with fail;refine ap (SW.mO HS.o aq at_) ?_;rintro w2 ⟨hs2,ht2⟩;have HS2:=ah (hs2.ext ((aj _).alloc (.cells #[.int .u16 84,.int .u32 mask,.int .i64 0,.int .i64 0] 407)));have HT2:=ah (ht2.trans (WT.lU ((aj _).alloc (.cells #[.int .u16 84,.int .u32 mask,.int .i64 0,.int .i64 0] 407))));clear hs2 ht2;go_wp2_with fail;refine ap (SW.kT HS2.o bp (c:=84) (k:=mask) (gI eH w2 [⟨84,mask,0,0⟩] 407 w2 rfl)) ?_;rintro w3 ⟨hs3,ht3⟩;have HL3:=ah (hs3.label (.int .i64 0));have HT3:=ah (HT2.o.trans ht3);clear hs3 ht3;go_wp2_with fail;refine ap (SW.jL HL3.o.1 bp 21 value w3 fl (.inr rfl) (.inl HO.o)) ?_;rintro w4 ⟨hs4,Zz⟩;have Ot:=ah hs4;have HT4:=ah (HT3.o.trans (WT.after _ Zz));clear hs4 Zz;go_wp2_with fail;refine ap (SW.iy Ot.o (b:=w3.heap.size) (.inr rfl)) ?_;rintro w5 ⟨hs5,ht5⟩;have hn:=HL3.o.2;have hne:fl≠w3.heap.size:=λe=>hn (e▸HO.o)
  have hs6:=ru hs5 hn;rw[bL,bL,bL,MI HS.o hn]at hs6;simp only[bS,eU,SS.mp,dN,Option.map_none,xD,p5 hne,bI,dh,dA,aH,aO,bD]at hs6;have HF:=ah hs6;have HT5:=ah (HT4.o.trans ht5);clear hs5 hs6 ht5;go_wp2_with fail
  first|go_end0|refine aM (bH rfl _ _ _) rfl ?_
  exact⟨rfl,HF.o,HT5.o⟩
open lC (Test Rule Gc XG qW mg kV)
open aaE (A3 pX)
open kN (qD)
def aG(h:w.heap[b]?=some (.cells cs t (0,0)))(i:Nat):w.cell? ⟨b,i,none⟩=cs[i]?:=by simp[World.cell?,h]
def aI(h:w.heap[b]?=some (.cells cs t (0,0)))(hx:Ext w w'):w'.heap[b]?=some (.cells cs t (0,0)):=(hx.block (aB.1 h).1).trans h
def anc(x:Nat):lo x<4294967296:=Nat.mod_lt _ aq
def Yk{n:Nat}{ss:List SS}(h:SW w0 B O ss W)(hn:¬O n)(t:Test):(ss++(nC ss (uG t) (lo t.mask) (lo t.value) (.lb n)++(nC (ss.length+qM (lo t.mask)) (F7 t) (hi t.mask) (hi t.value) (.lb n)++[iR t.action]))).map (SS.mp (Tg.res n (ss.length+tV t)))=ss++yD ss t:=by
 rw[bL,MI h hn];have hh:∀p a m v q,(nC p a m v (.lb n)).map (SS.mp (Tg.res n q))=nC p a m v (.pl q):=by
  intro p a m v q;unfold nC;split
  ·rfl
  ·split<;>simp[SS.mp,Tg.res]
 rw[bL,bL,hh,hh]
 rfl
theorem Tp{ss:List SS}(h:SW w0 B O ss W)(hl:ss.length<=98000)(t:Test)(ht:qW t=true)(hk:Gc t):Calls prog 295 #[pv B,.agg #[.int .i64 t.arg,.int .u64 (t.mask:Int),.int .u64 (t.value:Int),.int .u32 t.action]] W λe w'=>e= .returned (.tuple #[])/\SW w0 B O (ss++yD ss t) w'/\WT W w':=by
 have hm:=hk.m;have hv:=hk.v;have hLo:=λW=>aaD t ht W
 have hHi:=λW=>VA t ht W
 have hM:=λW=>oF t.mask hm W
 have hV:=λW=>oF t.value hv W
 have hb0:(W.alloc (.cells #[.int .i64 t.arg,.int .u64 (t.mask:Int),.int .u64 (t.value:Int),.int .u32 t.action] 137)).heap[W.heap.size]?=some (.cells #[.int .i64 t.arg,.int .u64 (t.mask:Int),.int .u64 (t.value:Int),.int .u32 t.action] 137 (0,0)):=aC W _;have hs0:=h.ext ((aj W).alloc (.cells #[.int .i64 t.arg,.int .u64 (t.mask:Int),.int .u64 (t.value:Int),.int .u32 t.action] 137));have hs1:=hs0.label (.int .i64 0);rw[aR]at hs1;have hn:¬O (W+1):=hs1.2;obtain⟨W1,hW1⟩:∃W1,W1=(W.alloc (.cells #[.int .i64 t.arg,.int .u64 (t.mask:Int),.int .u64 (t.value:Int),.int .u32 t.action] 137)).alloc (.cells #[.int .i64 0] 339):=⟨_,rfl⟩;have hb1:W1.heap[W.heap.size]?=some (.cells #[.int .i64 t.arg,.int .u64 (t.mask:Int),.int .u64 (t.value:Int),.int .u32 t.action] 137 (0,0)):=by rw[hW1];exact aI hb0 ((aj _).alloc _)
 have ht1:WT W W1:=by rw[hW1];exact WT.lU (((aj _).alloc _).alloc _)
 have hS1:SW w0 B (λb=>O b\/b=W.heap.size+1) ss W1:=by rw[hW1];exact hs1.1
 have hres:=Yk h hn t;have hn1:=Ed t;have hN:tV t=qM (lo t.mask)+qM (hi t.mask)+1:=rfl;have hlen1:(ss++nC ss (uG t) (lo t.mask) (lo t.value) (.lb (W+1))).length=ss.length+qM (lo t.mask):=by rw[aH,wJ]
 have ahJ:((ss++nC ss (uG t) (lo t.mask) (lo t.value) (.lb (W+1)))++nC (ss.length+qM (lo t.mask)) (F7 t) (hi t.mask) (hi t.value) (.lb (W+1))).length=ss.length+qM (lo t.mask)+qM (hi t.mask):=by rw[aH,hlen1,wJ]
 have HW1:=ah hW1;have HN:=ah hn;have atO:=ah hLo;clear hW1 h hs0 hs1 hb0 hk ht hm hv hLo;have atS:=ah hHi;have Jz:=ah hM;clear hHi hM;have HhV:=ah hV;have XL:=ah hres;clear hV hres;have JQ:=ah hN;have aej:=ah hlen1;clear hN hlen1;have aei:=ah ahJ;have atK:=ah hS1;clear ahJ hS1;have akT:=ah ht1;have aaK:=ah hb1;clear ht1 hb1;go_in;go_upto_region 2 with fail;rw[<-HW1.o];have c0:=aG aaK.o 0;simp at c0;go_wp2_with fail;refine ap (atO.o _) ?_;intro w2 hx2;have jm:=ah hx2;replace c0:=hx2.cell c0;clear hx2;go_wp2_with fail;refine ap (atS.o _) ?_;intro w3 hx3;have kg:=ah (jm.o.trans hx3);clear hx3 c0;have c1:w3.cell? ⟨W,1,none⟩=some (.int .u64 (t.mask:Int)):=kg.o.cell (aG aaK.o 1);go_wp2_with fail;refine ap (Jz.o _) ?_;intro w4 hx4;have Ck:=ah (kg.o.trans hx4);clear hx4 c1;have c2:w4.cell? ⟨W,2,none⟩=some (.int .u64 (t.value:Int)):=Ck.o.cell (aG aaK.o 2);go_wp2_with fail;refine ap (HhV.o _) ?_;intro w5 hx5;have yS:=ah (atK.o.ext (Ck.o.trans hx5));have E0:=ah (aI aaK.o (Ck.o.trans hx5));have HT5:=ah (akT.o.trans (WT.lU (Ck.o.trans hx5)));clear hx5 c2;go_wp2_with fail;refine ap (IJ yS.o aq (uG t) (lo t.mask) (lo t.value) (W+1) (.inr rfl)) ?_;rintro w6 ⟨hs6,Da⟩;have HS6:=ah hs6;have HB6:=ah (Da.kept _ _ _ _ E0.o az az az az);have HT6:=ah (HT5.o.trans Da);clear hs6 Da;go_wp2_with fail;refine ap (IJ HS6.o (by rw[aej.o];have:=JQ.o;omega) (F7 t) (hi t.mask) (hi t.value) (W+1) (.inr rfl)) ?_;rintro w7 ⟨hs7,JJ⟩;rw[aej.o]at hs7;have JU:=ah hs7;have HT7:=ah (HT6.o.trans JJ);have c3:w7.cell? ⟨W,3,none⟩=some (.int .u32 t.action):=aG (JJ.kept _ _ _ _ HB6.o az az az az) 3;clear hs7 JJ;go_wp2_with fail;refine ap (SW.lD JU.o (by rw[aei.o];have:=JQ.o;omega) t.action) ?_;rintro w8 ⟨Dc,FD⟩;have S5:=ah Dc;have HT8:=ah (HT7.o.trans FD);clear Dc FD c3;go_wp2_with fail;refine ap (SW.iy S5.o (b:=W.heap.size+1) (.inr rfl)) ?_;rintro w9 ⟨vU,ht9⟩;have rX:=ru vU HN.o;have hle:((ss++nC ss (uG t) (lo t.mask) (lo t.value) (.lb (W+1)))++nC (ss.length+qM (lo t.mask)) (F7 t) (hi t.mask) (hi t.value) (.lb (W+1))++[iR t.action]).length=ss.length+tV t:=by rw[aH,aei.o];have:=JQ.o;simp;omega
 rw[hle,bI,bI,XL.o]at rX;have HF:=ah rX;have HT9:=ah (HT8.o.trans ht9);clear vU rX ht9 hle;go_wp2_with fail
 first|go_end0|refine aM (bH rfl _ _ _) rfl ?_
 exact⟨rfl,HF.o,HT9.o⟩
theorem jl{ss:List SS}(h:SW w0 B O ss W)(hl:ss.length<=97000)(nr x:Nat)(ts:List Test)(v:aA)(hv:Rd w0 4 mg v ts)(hn:ts.length<=32)(ht:∀t∈ts,qW t=true/\Gc t):Calls prog 246 #[pv B,.agg #[.int .u32 nr,v,.int .u32 x]] W λe w'=>e= .returned (.tuple #[])/\SW w0 B O (ss++pU ss ts x) w'/\WT W w':=by
 obtain⟨a,c,rfl,hac,hcell⟩:=kV hv;have hb0:(W.alloc (.cells #[.int .u32 nr,.slice a ts c,.int .u32 x] 110)).heap[W.heap.size]?=some (.cells #[.int .u32 nr,.slice a ts c,.int .u32 x] 110 (0,0)):=aC W _;have hs0:=h.ext ((aj W).alloc (.cells #[.int .u32 nr,.slice a ts c,.int .u32 x] 110));have ht0:WT W (W.alloc (.cells #[.int .u32 nr,.slice a ts c,.int .u32 x] 110)):=WT.lU ((aj W).alloc _);have atC:=ah hb0;have as8:=ah hs0;clear hb0 hs0;have as7:=ah ht0;have yx:=ah hcell;have Hht:=ah ht;clear ht0 hcell ht hv h;go_in;go_wp2_with fail;go_loopw [9] (λi wr=>∃(k:Nat) (pre:List SS),k<=ts/\i= .int .i64 k/\pre.length<=7*k/\pU ss ts x=pre++pU (ss.length+pre) (ts.drop k) x/\SW w0 B O (ss++pre) wr/\WT W wr/\wr.heap[W.heap.size]?=some (.cells #[.int .u32 nr,.slice a ts c,.int .u32 x] 110 (0,0))) (λi _=>ts.length-(intOf i).toNat)
 case atStart=>exact⟨0,[],aq,rfl,aE,aE,by rw[fH];exact as8.o,as7.o,atC.o⟩
 case round=>
  obtain⟨k,pre,hk,rfl,hpl,hpre,hs,hwt,hbx⟩:=hrel;have HS:=ah hs;have HT:=ah hwt;have HB:=ah hbx;have ah7:=ah hpre;clear hpre hs hwt hbx;by_cases hlt:k<ts
  ·obtain⟨b,o,rfl,d0,d1,d2,d3⟩:=yx.o k hlt;have hx0:=HS.o.I4;replace d0:=hx0.cell d0;replace d1:=hx0.cell d1;replace d2:=hx0.cell d2;replace d3:=hx0.cell d3;clear hx0;obtain⟨m1,m2⟩:=Hht.o _ (aW hlt);have hnx:pU ss ts x=(pre++yD (ss.length+pre) ts[k])++if ts[k].mask=0 then []else pU (ss.length+pre+tV ts[k]) (ts.drop (k+1)) x:=by rw[ah7.o,bJ hlt,bI];rfl
   have h0k:(0:Int)<=k/\(k:Int)<ts:=aq;have hsl:(ss++pre).length=ss.length+pre:=aH;have htl:=Ec (ss.length+pre) ts[k];have htn:=Ed ts[k];generalize ts[k]=t at *;have hT:=Tp (HS.o.ext ((aj wr).alloc (.cells #[.int .i64 t.arg,.int .u64 (t.mask:Int),.int .u64 (t.value:Int),.int .u32 t.action] 137))) (by rw[hsl];omega) t m1 m2;rw[hsl]at hT;have hbn:(wr.alloc (.cells #[.int .i64 t.arg,.int .u64 (t.mask:Int),.int .u64 (t.value:Int),.int .u32 t.action] 137)).heap[wr.heap.size]?=some (.cells #[.int .i64 t.arg,.int .u64 (t.mask:Int),.int .u64 (t.value:Int),.int .u32 t.action] 137 (0,0)):=aC wr _;have vV:=ah hT;have atz:=ah hbn;clear hT hbn;have Af:=ah hnx;have ag2:=ah hsl;have aee:=ah htl;clear hnx hsl htl m1 m2;go_wp2_with fail;refine ap vV.o ?_;rintro w2 ⟨hs2,ht2⟩;have HS2:=ah hs2;have HT2:=ah (HT.o.trans (WT.after _ ht2));have HB2:=ah ((WT.after _ ht2).kept _ _ _ _ HB.o az az az az);have q1:w2.cell? ⟨wr,1,none⟩=some (.int .u64 (t.mask:Int)):=aG (ht2.kept _ _ _ _ atz.o az az az az) 1;clear hs2 ht2;by_cases hm0:t.mask=0
   ·have hnx:=Af.o;rw[aV hm0,fH]at hnx;have g0:((t.mask:Int)==0)=true:=by rw[hm0];rfl
    have Af:=ah hnx;clear hnx hm0;go_wp2_with fail
    first|go_end0|refine aM (bH rfl _ _ _) rfl ?_
    exact⟨rfl,by rw[Af.o,<-bI];exact HS2.o,HT2.o⟩
   ·have hnx:=Af.o;rw[aN hm0]at hnx;have g0:((t.mask:Int)==0)=false:=by rw[bK];omega
    have Af:=ah hnx;clear hnx;go_wp2_with fail;go_roundw
    case rel=>exact⟨k+1,pre++yD (ss.length+pre) t,aq,bm,by rw[aH,aee.o];omega,by rw[Af.o,aH,aee.o,Nat.add_assoc],by rw[<-bI];exact HS2.o,HT2.o,HB2.o⟩
    case measure=>exact gO
  ·obtain rfl:k=ts.length:=aq;have q2:wr.cell? ⟨W,2,none⟩=some (.int .u32 x):=aG HB.o 2;have hfin:pU ss ts x=pre++[iR x]:=by rw[ah7.o,dQ];rfl
   have apu:=ah hfin;clear hfin;have hsl:(ss++pre).length=ss.length+pre:=aH;have ag2:=ah hsl;clear hsl;go_wp2_with fail;refine ap (SW.lD HS.o (by rw[ag2.o];omega) x) ?_;rintro w2 ⟨hs2,ht2⟩;have HS2:=ah hs2;have HT2:=ah (HT.o.trans ht2);clear hs2 ht2;go_wp2_with fail
   first|go_end0|refine aM (bH rfl _ _ _) rfl ?_
   exact⟨rfl,by rw[apu.o,<-bI];exact HS2.o,HT2.o⟩
theorem YT(h:SW w0 B O [] W)(a:Int)(h0:0<=a)(h6:a<6)(nt:Nat)(hO:O nt):Calls prog 242 #[pv B,.int .i64 a,pv nt] W λe w'=>e= .returned (.tuple #[])/\SW w0 B O (xG (.lb nt) a) w'/\WT W w':=by
 have hT:=λW=>pX a W
 have htk:A3 a=(qD a.toNat,0):=by unfold A3 qD;rw[aV ⟨h0,h6⟩]
 rw[htk]at hT;dsimp only at hT;have hs1:=h.label (.int .i64 0);have hs2:=hs1.1.label (.int .i64 0);rw[aR]at hs2;have hn1:=hs1.2;have hn2:=hs2.2;have e1:nt≠W.heap.size:=λe=>hn1 (e▸hO)
 have e2:nt≠W.heap.size+1:=λe=>hn2 (.inl (e▸hO))
 have e3:W.heap.size+1≠W.heap.size:=aq;have hown:xG (.lb nt) a=[iL 4,iJ 21 (qD a.toNat) (.pl 2) (.lb nt),iL 0]++if a=0 then [iJ 69 1073741824 (.lb nt) (.pl 4)]else if a=2 then [iJ 69 1073741824 (.pl 4) (.lb nt)]else []:=rfl
 rw[hown];clear hown;obtain⟨row,hrow⟩:∃row,row=[iL 4,iJ 21 (qD a.toNat) (.pl 2) (.lb nt),iL 0]++if a=0 then [iJ 69 1073741824 (.lb nt) (.pl 4)]else if a=2 then [iJ 69 1073741824 (.pl 4) (.lb nt)]else []:=⟨_,rfl⟩
 rw[<-hrow];generalize qD a.toNat=tk at *;obtain⟨W1,hW1⟩:∃W1,W1=(W.alloc (.cells #[.int .i64 0] 339)).alloc (.cells #[.int .i64 0] 339):=⟨_,rfl⟩;have ht1:WT W W1:=by rw[hW1];exact WT.lU (((aj _).alloc _).alloc _)
 rw[<-hW1]at hs2;have HW1:=ah hW1;have A9:=ah hs2.1;have N6:=ah hn1;have HN2:=ah hn2;have vV:=ah hT;have GK:=ah hO;clear hT hO;have akT:=ah ht1;have Sj:=ah hrow;clear ht1 hrow;have He1:=ah e1;have S4:=ah e2;clear e1 e2 hW1 hs1 hs2 hn1 hn2 h htk;go_in;go_upto_region 1 with fail;rw[<-HW1.o];go_wp2_with fail;refine ap (vV.o _) ?_;intro w2 hx2;have HS2:=ah (A9.o.ext hx2);have HT2:=ah (akT.o.trans (WT.lU hx2));clear hx2;go_wp2_with fail;refine ap (SW.mO HS2.o aE 4) ?_;rintro w3 ⟨hs3,ht3⟩;have wZ:=ah hs3;have HT3:=ah (HT2.o.trans ht3);clear hs3 ht3;go_wp2_with fail;refine ap (SW.jL wZ.o aE 21 tk W nt (.inl (.inr rfl)) (.inl (.inl GK.o))) ?_;rintro w4 ⟨hs4,Zz⟩;have Ot:=ah hs4;have HT4:=ah (HT3.o.trans Zz);clear hs4 Zz;go_wp2_with fail;refine ap (SW.iy Ot.o (b:=W.heap.size) (.inl (.inr rfl))) ?_;rintro w5 ⟨hs5,ht5⟩;simp only[dA,dh,bS,eU,SS.mp,dN,Option.map_none,xD,p5 He1.o,aO,bD]at hs5;have yS:=ah (hs5.mono (O':=λb=>O b\/b=W.heap.size+1) (λb=>⟨λh=>by
  rcases h.1 with(h1|h1)|h1
  ·exact .inl h1
  ·exact absurd h1 h.2
  ·exact .inr h1,λh=>by
  rcases h with h1|h1
  ·exact⟨.inl (.inl h1),λe=>N6.o (e▸h1)⟩
  ·exact⟨.inr h1,aq⟩⟩))
 have HT5:=ah (HT4.o.trans ht5);clear hs5 ht5;have VH:Hid (¬O (W+1)):=ah (λe=>HN2.o (.inl e));go_wp2_with fail;refine ap (SW.mO yS.o aE 0) ?_;rintro w6 ⟨hs6,Da⟩;have HS6:=ah hs6;have HT6:=ah (HT5.o.trans Da);clear hs6 Da;by_cases ha0:a=0
 ·have g0:(a==0)=true:=by simpa using ha0
  have aeo:=ah ha0;clear ha0;go_wp2_with fail;refine ap (SW.jL HS6.o aE 69 1073741824 nt (W+1) (.inl GK.o) (.inr rfl)) ?_;rintro w7 ⟨hs7,JJ⟩;have JU:=ah hs7;have HT7:=ah (HT6.o.trans JJ);clear hs7 JJ;go_wp2_with fail;refine ap (SW.iy JU.o (b:=W.heap.size+1) (.inr rfl)) ?_;rintro w8 ⟨Dc,FD⟩;have vU:=ru Dc VH.o;simp only[dA,dh,bS,eU,SS.mp,dN,Option.map_none,xD,p5 S4.o,aO,bD,zu]at vU;have HF:=ah vU;have HT8:=ah (HT7.o.trans FD);clear Dc vU FD;go_wp2_with fail
  first|go_end0|refine aM (bH rfl _ _ _) rfl ?_
  exact⟨rfl,by rw[Sj.o,aV aeo.o];exact HF.o,HT8.o⟩
 ·have g0:(a==0)=false:=by simpa using ha0
  by_cases ha2:a=2
  ·have g2:(a==2)=true:=by simpa using ha2
   have aeo:=ah ha0;have alb:=ah ha2;clear ha0 ha2;go_wp2_with fail;refine ap (SW.jL HS6.o aE 69 1073741824 (W+1) nt (.inr rfl) (.inl GK.o)) ?_;rintro w7 ⟨hs7,JJ⟩;have JU:=ah hs7;have HT7:=ah (HT6.o.trans JJ);clear hs7 JJ;go_wp2_with fail;refine ap (SW.iy JU.o (b:=W.heap.size+1) (.inr rfl)) ?_;rintro w8 ⟨Dc,FD⟩;have vU:=ru Dc VH.o;simp only[dA,dh,bS,eU,SS.mp,dN,Option.map_none,xD,p5 S4.o,aO,bD,zu]at vU;have HF:=ah vU;have HT8:=ah (HT7.o.trans FD);clear Dc vU FD;go_wp2_with fail
   first|go_end0|refine aM (bH rfl _ _ _) rfl ?_
   exact⟨rfl,by rw[Sj.o,aN aeo.o,aV alb.o];exact HF.o,HT8.o⟩
  ·have g2:(a==2)=false:=by simpa using ha2
   have aeo:=ah ha0;have alb:=ah ha2;clear ha0 ha2;go_wp2_with fail;refine ap (SW.iy HS6.o (b:=W.heap.size+1) (.inr rfl)) ?_;rintro w8 ⟨Dc,FD⟩;have vU:=ru Dc VH.o;simp only[dA,dh,bS,eU,SS.mp,dN,Option.map_none,p5 S4.o,aO,bD,zu]at vU;have HF:=ah vU;have HT8:=ah (HT6.o.trans FD);clear Dc vU FD;go_wp2_with fail
   first|go_end0|refine aM (bH rfl _ _ _) rfl ?_
   exact⟨rfl,by rw[Sj.o,aN aeo.o,aN alb.o,fH];exact HF.o,HT8.o⟩
def Q6(o:Option Nat):List aA:= [.pointer (o.map λb=>⟨b,0,none⟩)]
def Aa(o:Option Nat):(Q6 o).length=1:=rfl
def adw(o:Option Nat):∀u∈Q6 o,u.oneCell'=true:=by intro u hu;simp[Q6]at hu;subst hu;cases o<;>rfl
theorem ahz:(Tryz.prog.info? 337).map (λi=>(i.zero,i.size,i.bytes))=some (some (.pointer none),1,8):=ax
def acl(n:Nat):(madeCells (Value.pointer none).cells (n*1)).toList=(List.replicate n (none:Option Nat)).flatMap Q6:=by
 rw[eO];apply List.ext_getElem?;intro i;rw[show((List.replicate n (none:Option Nat)).flatMap Q6)=List.replicate n (Value.pointer none)by
  induction n with
  |zero=>rfl
  |succ n ih=>rw[List.replicate_succ,eP,ih];rfl]
 unfold madeCells;by_cases h:i<n
 ·simp[h,Value.cells,Nat.mod_one]
 ·simp[h]
def LP(w:ay)(base g:Nat)(ls:List (Option Nat))(c:Nat):Prop:=w.ownsRow base 337 1 (.slice (some g) ls c) ls (ls.flatMap Q6)
def LP.cell(h:LP w base g ls c)(j:Nat)(hj:j<ls):w.cell? ⟨g,j,none⟩=some (.pointer (ls[j].map λb=>⟨b,0,none⟩)):=by
 obtain⟨a,c',h1,h2,h3,h4⟩:=bY (n:=1) Aa h;simp only[aU]at h1;obtain⟨b,o,e2,k⟩:=h4 j hj;rw[<-h1.1]at e2;obtain⟨rfl,rfl⟩:g=b/\0=o:=by simpa using e2
 have:=k 0 (by simp[Q6]);rw[eO,cO]at this;exact this
def LP.typed(h:LP w base g ls c):∃cur,w.heap[g]?=some (.cells cur 337 (0,0)):=lC.jd h g rfl
def LP.frozen(h:LP w base g ls c)(j:Nat):w.frozen? ⟨g,j,none⟩=false/\g<w.heap.size:=by obtain⟨cur,hc⟩:=h.typed;exact⟨by simp[World.frozen?,hc],(aB.1 hc).1⟩
def LP.abD(h:LP w base g ls c)(j b:Nat)(hj:j<ls):LP (w.setCell ⟨g,j,none⟩ (pv b)) base g (ls.set j (some b)) c:=by have hst:=kE (e:=337) Aa h j 0 (pv b) (some b) hj az rfl;rw[eO,iB]at hst;unfold LP;rw[dO];exact hst.1
def LP.ext(h:LP w base g ls c)(hx:Ext w w'):LP w' base g ls c:=lC.pE h hx
def LP.wt(h:LP w base g ls c)(hx:WT w w'):LP w' base g ls c:=by
 refine⟨h.1,?_⟩;rcases h.2 with⟨h2,-⟩|⟨g2,cap,cur,hv,h3,h4,r⟩
 ·cases h2
 ·exact .inr ⟨g2,cap,cur,hv,h3,hx.kept _ _ _ _ h4 az az az az,r⟩
def amV{n:Nat}{v:aA}{zs:List aA}(h:w.ownsRow base e n v k zs)(hx:WT w w')(h1:e≠407)(h2:e≠1)(h3:e≠336)(h4:e≠339):w'.ownsRow base e n v k zs:=by
 refine⟨h.1,?_⟩;rcases h.2 with h5|⟨g2,cap,cur,hv,h6,h7,r⟩
 ·exact .inl h5
 ·exact .inr ⟨g2,cap,cur,hv,h6,hx.kept _ _ _ _ h7 h1 h2 h3 h4,r⟩
def SW.labels{ss:List SS}(h:SW w0 B O ss W)(hx:Ext W W')(hN:∀b,N b->W.heap.size<=b/\∃u,Boxed W' b 339 u):SW w0 B (λb=>O b\/N b) ss W':=by
 have h2:=h.ext hx;obtain⟨v,v2,js,hs,hj⟩:=h.ex;refine⟨⟨v,v2,js,hs.kept hx,?_⟩,λb hb=> ?_⟩
 ·have:=JS.to (W':=W') (O':=λb=>O b\/N b) (f:=λt=>t) (λ_=>rfl) (λt x ht=>by
   cases t with
   |pl n=>exact⟨λho=>by
    rcases ho with ho|ho
    ·exact ht.1 ho
    ·have:=ht.2.lt;have:=(hN x ho).1;omega,hkb (WK.ext (X:=λ_=>False) hx) ht.2 (λh=>h.elim)⟩
   |lb y=>exact⟨ht.1,.inl ht.2⟩) hj
  rwa [SS.map_id]at this
 ·rcases hb with hb|hb
  ·exact h2.op b hb
  ·obtain⟨h3,h4⟩:=hN b hb;exact⟨aL hs.ext.size h3,h4⟩
def SW.olt{ss:List SS}(h:SW w0 B O ss W)(hb:O b):b<W.heap.size:=by obtain⟨-,u,hu⟩:=h.op b hb;exact hu.lt
open lC (Test Rule Filter)
open xu (may)
def fK(t:List Nd)(pl:Nat->Nat)(p0 k i:Nat):Tg:=match t[i]? with
 |some n=>if n.leaf=false/\i<k then .pl (p0+rank t i)else .lb (pl i)
 |none=> .lb (pl i)
def vK(t:List Nd)(pl:Nat->Nat)(p0 k:Nat):List SS:=(if root t=true then [iJ 5 0 (.lb (pl 0)) (.pl 0)]else [])++yK (fK t pl p0 k) (t.take k)
def G8(t:List Nd)(pl:Nat->Nat)(p0 k:Nat):(vK t pl p0 k).length=rank t k:=by unfold vK rank yK;rw[aH,aS];split<;>rfl
def xP{F G:Nat->Tg}{t r:List Nd}(hm:may t=true)(hs:∀n∈r,n∈t)(h:∀x,x<t.length->F x=G x):yK F r=yK G r:=by
 unfold yK;refine List.map_congr_left λn hn=> ?_
 obtain⟨h1,h2⟩:=List.mem_filter.1 hn;obtain⟨j,hj,rfl⟩:=List.mem_iff_getElem.1 (hs n h1);have hl:t[j].leaf=false:=by unfold inner at h2;simpa using h2
 obtain⟨m1,m2,m3,m4⟩:=xu.Gs hm hj hl;rw[h _ aq,h _ aq]
def WZ(f:Tg->Tg)(F:Nat->Tg)(r:List Nd):(yK F r).map (SS.mp f)=yK (λx=>f (F x)) r:=by
 unfold yK;rw[List.map_map]
 rfl
def Dp{t:List Nd}(h:i<t)(hl:t[i].leaf=true):fK t pl p0 k i= .lb (pl i):=by unfold fK;rw[aJ h];dsimp only;rw[aN (by rw[hl];simp)]
def LM{t:List Nd}(h:i<t)(hl:t[i].leaf=false)(hk:i<k):fK t pl p0 k i= .pl (p0+rank t i):=by unfold fK;rw[aJ h];dsimp only;rw[aV ⟨hl,hk⟩]
def B7{t:List Nd}(hk:k<=i):fK t pl p0 k i= .lb (pl i):=by
 unfold fK;cases t[i]? with
 |none=>rfl
 |some n=>dsimp only;rw[aN aq]
def YB{t:List Nd}(hm:may t=true)(hk:k<t)(hl:t[k].leaf=false)(hne:∀i (h:i<t.length),(t[i].leaf=true\/k<i)->pl i≠pl k):(vK t pl p0 k).map (SS.mp (Tg.res (pl k) (p0+rank t k)))++[iJ 53 t[k].at_ (.lb (pl t[k].more.toNat)) (.lb (pl t[k].less.toNat))]=vK t pl p0 (k+1):=by
 have hp:0<t.length:=aq;unfold vK;rw[bL,WZ,EB _ _ _ hk,hl,aN (show¬(false=true)from az)];have hF:∀x,x<t.length->Tg.res (pl k) (p0+rank t k) (fK t pl p0 k x)=fK t pl p0 (k+1) x:=λx hx=>by
  cases hlx:t[x].leaf
  ·rcases Nat.lt_trichotomy x k with h|h|h
   ·rw[LM hx hlx h,LM hx hlx aq];rfl
   ·subst h;rw[B7 (aD _),LM hx hlx aq,xD]
   ·rw[B7 aq,B7 aq,p5 (hne x hx (.inr h))]
  ·rw[Dp hx hlx,Dp hx hlx,p5 (hne x hx (.inl hlx))]
 rw[xP (F:=λx=>Tg.res (pl k) (p0+rank t k) (fK t pl p0 k x)) (G:=fK t pl p0 (k+1)) hm (λn hn=>iU hn) hF];obtain⟨m1,m2,m3,m4⟩:=xu.Gs hm hk hl;rw[B7 (by omega:k+1<=t[k].more.toNat),B7 (by omega:k+1<=t[k].less.toNat)];by_cases hr:root t=true
 ·rw[aV hr];have h0:t[0].leaf=true:=by rw[<-CJ hp];exact hr
  simp only[bS,eU,SS.mp,dN,p5 (hne 0 hp (.inl h0)),zu,bI]
 ·rw[aN hr];simp only[eU,dA]
def YA{t:List Nd}(hm:may t=true)(hk:k<t)(hl:t[k].leaf=true):vK t pl p0 (k+1)=vK t pl p0 k:=by
 unfold vK;rw[EB _ _ _ hk,hl,aV rfl,fH];rw[xP (F:=fK t pl p0 (k+1)) (G:=fK t pl p0 k) hm (λn hn=>iU hn) (λx hx=>by
  cases hlx:t[x].leaf
  ·rcases Nat.lt_trichotomy x k with h|h|h
   ·rw[LM hx hlx h,LM hx hlx aq]
   ·subst h;rw[hl]at hlx;cases hlx
   ·rw[B7 aq,B7 aq]
  ·rw[Dp hx hlx,Dp hx hlx])]
def gT(t:List Nd)(p0:Nat)(g:Nat->Tg)(i:Nat):Tg:=match t[i]? with
 |some n=>if n.leaf=true then g n.way.toNat else .pl (p0+rank t i)
 |none=> .pl 0
def Gz{t:List Nd}{g:Nat->Tg}(h:i<t)(hl:t[i].leaf=true):gT t p0 g i=g t[i].way.toNat:=by unfold gT;rw[aJ h];dsimp only;rw[aV hl]
def adb{t:List Nd}{g:Nat->Tg}(h:i<t)(hl:t[i].leaf=false):gT t p0 g i= .pl (p0+rank t i):=by unfold gT;rw[aJ h];dsimp only;rw[aN (by rw[hl];decide)]
def BG{F G:Nat->Tg}{t:List Nd}(hm:may t=true)(h:∀x,x<t.length->F x=G x):jU F t=jU G t:=by unfold jU;rw[xP hm (λn hn=>hn) h,h 0 (xu.C0 hm)]
def Ve(f:Tg->Tg)(hf:f (.pl 0)= .pl 0)(F:Nat->Tg)(t:List Nd):(jU F t).map (SS.mp f)=jU (λx=>f (F x)) t:=by
 unfold jU;rw[bL,WZ];split
 ·simp only[bS,eU,SS.mp,dN,hf]
 ·rfl
def abI{t:List Nd}{g:Nat->Nat}(hm:may t=true)(h:∀i (h:i<t.length),t[i].leaf=true->pl i=g t[i].way.toNat):vK t pl p0 t.length=jU (gT t p0 λk=> .lb (g k)) t:=by
 have hp:=xu.C0 hm;unfold vK jU;rw[bZ];have hF:∀x,x<t.length->fK t pl p0 t x=gT t p0 (λk=> .lb (g k)) x:=λx hx=>by
  cases hl:t[x].leaf
  ·rw[LM hx hl hx,adb hx hl]
  ·rw[Dp hx hl,Gz hx hl,h x hx hl]
 rw[xP hm (λn hn=>hn) hF];by_cases hr:root t=true
 ·rw[aV hr,aV hr];have h0:t[0].leaf=true:=by rw[<-CJ hp];exact hr
  rw[Gz hp h0,h 0 hp h0]
 ·rw[aN hr,aN hr]
def Cc{t:List Nd}{g g':Nat->Tg}(hm:may t=true)(h:∀i (h:i<t.length),t[i].leaf=true->Tg.res b p (g t[i].way.toNat)=g' t[i].way.toNat):(jU (gT t p0 g) t).map (SS.mp (Tg.res b p))=jU (gT t p0 g') t:=by
 rw[Ve _ rfl];refine BG hm λx hx=> ?_
 cases hl:t[x].leaf
 ·rw[adb hx hl,adb hx hl];rfl
 ·rw[Gz hx hl,Gz hx hl];exact h x hx hl
def PI(a:Int)(h:nt≠b):(xG (.lb nt) a).map (SS.mp (Tg.res b p))=xG (.lb nt) a:=by
 unfold xG;rw[bL];split
 ·simp only[bS,eU,SS.mp,dN,Option.map_none,p5 h,zu]
 ·split<;>simp only[bS,eU,SS.mp,dN,Option.map_none,p5 h,zu]
def ab2(nt p:Nat)(a:Int):(xG (.lb nt) a).map (SS.mp (Tg.res nt p))=xG (.pl p) a:=by
 unfold xG;rw[bL];split
 ·simp only[bS,eU,SS.mp,dN,Option.map_none,xD,zu]
 ·split<;>simp only[bS,eU,SS.mp,dN,Option.map_none,xD,zu]
def QJ(b q p at_ m v e:Nat):(nC p at_ m v (.pl e)).map (SS.mp (Tg.res b q))=nC p at_ m v (.pl e):=by
 unfold nC;split
 ·rfl
 ·split<;>rfl
def O4(b q:Nat):∀(ts:List Test)(x p:Nat),(pU p ts x).map (SS.mp (Tg.res b q))=pU p ts x
 | [],_,_=>rfl
 |t::r,x,p=>by
  unfold pU yD;rw[bL,bL,bL,QJ,QJ];split
  ·rfl
  ·rw[O4 b q r];rfl
def Ei(b q:Nat):∀(rs:List Rule)(p:Nat),(lq p rs).map (SS.mp (Tg.res b q))=lq p rs
 | [],_=>rfl
 |r::l,p=>by unfold lq;rw[bL,O4,Ei b q l]
end mJ
def gl(h:zP:=by rw[h.len];exact hk):zP:=h
namespace mJ
open mV
open xu (may qF mU tC rW)
variable{P b base c k x:Nat}{W wr wr':ay}{ls:List (Option Nat)}{pl:Nat->Nat}
structure P1(W wr:ay)(base P c:Nat)(t:List Nd)(fP:List Nat)(k:Nat)(ls:List (Option Nat))(pl:Nat->Nat):Prop where
 ext:Ext W wr
 len:ls.length=t
 row:LP wr base P ls c
 get:∀i,i<k->ls[i]?=some (some (pl i))
 leaf:∀i (h:i<t.length),i<k->t[i].leaf=true->pl i=fP.getD t[i].way.toNat 0
 inn:∀i (h:i<t.length),i<k->t[i].leaf=false->W.heap.size<=pl i/\∃u,Boxed wr (pl i) 339 u
 ris:∀i j (hi:i<t.length) (hj:j<t.length),i<j->j<k->t[i].leaf=false->t[j].leaf=false->pl i<pl j
def P1.to{t:List Nd}{fP:List Nat}(h:P1 W wr base P c t fP k ls pl)(hx:Ext wr wr'):P1 W wr' base P c t fP k ls pl:=
 ⟨h.ext.trans hx,h.len,h.row.ext hx,h.get,h.leaf,λi hi hk hl=>by obtain⟨h1,u,h2⟩:=h.inn i hi hk hl;exact⟨h1,u,(hx.block h2.lt).trans h2⟩,h.ris⟩
def P1.boxed{t:List Nd}{fP:List Nat}{u v:aA}(h:P1 W wr base P c t fP k ls pl)(hb:Boxed wr b 339 u):Boxed (wr.setCell ⟨P,x,none⟩ v) b 339 u:=by obtain⟨cur,hc⟩:=h.row.typed;refine(aX _ _ _ b (λe=> ?_)).trans hb;have e:b=P:=e;subst e;have e2:=bV (hc.symm.trans hb);simp only[iT]at e2;exact absurd e2.2.1 az
def P1.pre{t:List Nd}{fP:List Nat}(h:P1 W wr base P c t fP k ls pl)(hP:W.heap.size<=P)(hk:k<t)(b:Nat):P1 W (wr.setCell ⟨P,k,none⟩ (pv b)) base P c t fP k (ls.set k (some b)) pl:=
 ⟨h.ext.setCell hP _,by rw[dO];exact h.len,h.row.abD k b gl,λi hi=>by rw[List.getElem?_set_ne aq];exact h.get i hi,h.leaf,λi hi hk' hl=>by obtain⟨h1,u,h2⟩:=h.inn i hi hk' hl;exact⟨h1,u,h.boxed h2⟩,h.ris⟩
def P1.step{t:List Nd}{fP:List Nat}(h:P1 W wr base P c t fP k ls pl)(hP:W.heap.size<=P)(hk:k<t)(b:Nat)(h1:t[k].leaf=true->b=fP.getD t[k].way.toNat 0)(h2:t[k].leaf=false->W.heap.size<=b/\(∃u,Boxed wr b 339 u)/\∀i (hi:i<t.length),i<k->t[i].leaf=false->pl i<b):P1 W (wr.setCell ⟨P,k,none⟩ (pv b)) base P c t fP (k+1) (ls.set k (some b)) (λi=>if i=k then b else pl i):=
 ⟨h.ext.setCell hP _,by rw[dO];exact h.len,h.row.abD k b gl,λi hi=>by
  try dsimp only
  by_cases e:i=k
  ·subst e;rw[aV rfl,List.getElem?_set_self gl]
  ·rw[aN e,List.getElem?_set_ne aq];exact h.get i aq,λi hi hik hl=>by
  try dsimp only
  by_cases e:i=k
  ·subst e;rw[aV rfl];exact h1 hl
  ·rw[aN e];exact h.leaf i hi aq hl,λi hi hik hl=>by
  try dsimp only
  by_cases e:i=k
  ·subst e;rw[aV rfl];obtain⟨m1,⟨u,m2⟩,-⟩:=h2 hl;exact⟨m1,u,h.boxed m2⟩
  ·rw[aN e];obtain⟨m1,u,m2⟩:=h.inn i hi aq hl;exact⟨m1,u,h.boxed m2⟩,λi j hi hj hij hjk hl hl'=>by
  try dsimp only
  rw[aN (show i≠k from aq)];by_cases e:j=k
  ·subst e;rw[aV rfl];exact(h2 hl').2.2 i hi aq hl
  ·rw[aN e];exact h.ris i j hi hj hij aq hl hl'⟩
def P1.rise{t:List Nd}{fP:List Nat}(h:P1 W wr base P c t fP k ls pl)(i:Nat)(hi:i<t)(hk:i<k)(hl:t[i].leaf=false):pl i<wr.heap.size:=by obtain⟨-,u,h2⟩:=h.inn i hi hk hl;exact h2.lt
def NK(t:List Nd)(pl:Nat->Nat)(k b:Nat):Prop:= ∃i,∃hi:i<t.length,k<=i/\t[i].leaf=false/\b=pl i
def afV{t:List Nd}(hk:k<t)(hl:t[k].leaf=true):NK t pl k b↔NK t pl (k+1) b:=
 ⟨λ⟨i,hi,h1,h2,h3⟩=>⟨i,hi,(by
  rcases Nat.lt_or_eq_of_le h1 with h1|h1
  ·exact h1
  ·subst h1;rw[hl]at h2;cases h2),h2,h3⟩,λ⟨i,hi,h1,h2,h3⟩=>⟨i,hi,aq,h2,h3⟩⟩
def am8{t:List Nd}{O:Nat->Prop}(hO:¬O (pl k))(hne:∀i,i<t.length->k<i->pl i≠pl k):((O b\/NK t pl k b)/\b≠pl k)↔(O b\/NK t pl (k+1) b):=by
 constructor
 ·rintro⟨h|⟨i,hi,h1,h2,h3⟩,h4⟩
  ·exact .inl h
  ·refine .inr ⟨i,hi,?_,h2,h3⟩;rcases Nat.lt_or_eq_of_le h1 with h1|h1
   ·exact h1
   ·subst h1;exact absurd h3 h4
 ·rintro(h|⟨i,hi,h1,h2,h3⟩)
  ·exact⟨.inl h,λe=>hO (e▸h)⟩
  ·exact⟨.inr ⟨i,hi,aq,h2,h3⟩,by rw[h3];exact hne i hi aq⟩
def ajb{t:List Nd}:¬NK t pl t b:=λ⟨_,hi,h1,_⟩=>aq
end mJ
end Go.Proofs.YtopfefhenfineaaGreat
namespace Go.Proofs.YtopfefhenfineaaGreat
open Go.Proofs.Tryz Go.RowKit V
attribute[local go_sem] Oper.semAt_some Option.isSome_some
variable{zP:Prop}
def te(h:zP:=by rw[dG _ _ _ _ eo,hW2];exact Ext.cell ((aj _).alloc _) (aG (aC wr _) 0)):zP:=h
def qS(h:zP:=by
 go_wp2_with fail;go_roundw
 case rel=>exact⟨k+1,_,_,aq,bm,A9.o⟩
 case measure=>exact gO):zP:=h
def eC(h:zP:=by rw[HP.o.len];exact hi):zP:=h
def eo(h:zP:=by first|(simp;done)|(simp;omega)|omega):zP:=h
namespace mJ
open mV
open xu (may qF mU tC rW)
def Jk(wr:ay)(o:Obj)(t:Nat)(v:aA):Boxed ((wr.alloc o).alloc (.cells #[v] t)) (wr+1) t v:=by
 have:=Boxed.new (wr.alloc o) t v
 rwa [aR]at this
theorem NR{w0 W:ay}{B:Nat}{O:Nat->Prop}{ss:List SS}(h:SW w0 B O ss W)(hl:ss.length<=90000)(t:List Nd)(hm:may t=true)(htl:t.length<=5000)(vt:aA)(bt:Nat)(ht:tC W bt vt t)(fP:List Nat)(hO:∀b∈fP,O b)(bg g cg:Nat)(hg:LP W bg g (fP.map some) cg)(hw:∀n∈t,n.leaf=true->0<=n.way/\n.way.toNat<fP.length):Calls prog 245 #[pv B,vt,.slice (some g) fP cg] W λe w'=>e= .returned (.tuple #[])/\SW w0 B O (ss++jU (gT t ss λk=> .lb (fP.getD k 0)) t) w'/\WT W w':=by
 obtain⟨a,c,rfl,hac,hcell⟩:=rW ht.rd;have hp:=xu.C0 hm;have hget:=λj (hj:j<t.length) hl=>xu.Gs hm hj hl
 have hgc:=λj (hj:j<fP.length)=>by have:=hg.cell j (by rw[aS];exact hj);rw[gQ]at this;exact this
 have hwt:∀j (hj:j<t.length),t[j].leaf=true->∃(m:Nat) (hm:m<fP),t[j].way=(m:Int)/\fP.getD t[j].way.toNat 0=fP[m]:=λj hj hl=>by obtain⟨m1,m2⟩:=hw _ (aW hj) hl;refine⟨t[j].way.toNat,m2,aq,?_⟩;rw[bQ,aJ m2];rfl
 have hOl:∀b,O b->b<W.heap.size:=λb hb=>SW.olt h hb
 obtain⟨i0,hi0,hz0,hz1,hz2⟩:=jo ahz;have HS:=ah h;have Hht:=ah ht;have Hhg:=ah hg;clear ht hg;have atv:=ah hgc;have akS:=ah hwt;clear hgc hwt;have GK:=ah hO;have apD:=ah hOl;clear hO hOl;have yx:=ah hcell;have apt:=ah hget;have tF:=ah hm;clear hcell hget hm hw h;go_in;go_wp2_with(first
  |(at_make;refine wpList_make_full _ rfl _ _ 359 rfl W.heap.size 337 i0 (.pointer none) 1 underlying359 hi0 hz0 hz1 _ _ _ _ t rfl rfl aq aq (by rw[hz2];omega) cH (aD _) ?_;intro w2 hown2 hg2;have hE2:Ext W w2:=Ext.grown (aj _) hg2 (by intro k hk;cases hk)))
 rw[acl]at hown2;have hP0:P1 W w2 W W t t fP 0 (List.replicate t none) (λ_=>0):=
  ⟨hE2,gV,by unfold LP;rw[gV];exact hown2,λi hi=>aq,λi _ hi=>aq,λi _ hi=>aq,λi j _ _ _ hj=>aq⟩
 obtain⟨P,hPe⟩:∃P,P=W.heap.size:=⟨_,rfl⟩;rw[<-hPe]at hP0;rw[<-hPe];have aox:P1 W w2 P P t t fP 0 (List.replicate t none) (λ_=>0):=hP0;clear hown2 hg2 hE2 hP0;have HP0:=ah aox;have aj8:W.heap.size<=P:=aq;have HPe:=ah hPe;clear aox hPe;go_loopw [16] (λi wr=>∃(k:Nat) (ls:List (Option Nat)) (pl:Nat->Nat),k<=t/\i= .int .i64 k/\P1 W wr P P t t fP k ls pl) (λi _=>t.length-(intOf i).toNat)
 case atStart=>exact⟨0,_,_,aq,rfl,HP0.o⟩
 case round=>
  obtain⟨k,ls,pl,hk,rfl,hP1⟩:=hrel;have HP:=ah hP1;clear hP1;by_cases hlt:k<t
  ·obtain⟨b,o,rfl,n1,n2,n3,n4,n5⟩:=yx.o k hlt;replace n1:=HP.o.ext.cell n1;replace n2:=HP.o.ext.cell n2;replace n3:=HP.o.ext.cell n3;replace n4:=HP.o.ext.cell n4;replace n5:=HP.o.ext.cell n5;have hbw:=akS.o k hlt;obtain⟨-,Plt⟩:=LP.frozen HP.o.row k;have hstep:∀lf:Bool,t[k].leaf=lf->∃W2,W2=(wr.alloc (.cells #[.bool lf,.int .i64 t[k].way,.int .u32 (t[k].at_:Int),.int .i64 t[k].less,.int .i64 t[k].more] 422)).alloc (.cells #[.int .i64 0] 339):=λ_ _=>⟨_,rfl⟩
   cases hlf:t[k].leaf
   case false=>
    obtain⟨W2,hW2⟩:=hstep _ hlf;rw[hlf]at n1;have hXn:Ext wr W2:=by rw[hW2];exact((aj wr).alloc _).alloc _
    have hP2:=HP.o.to hXn;obtain⟨cf,clt⟩:=LP.frozen hP2.row k;obtain⟨cv,cc⟩:∃v,W2.cell? ⟨P,k,none⟩=some v:=⟨_,hP2.row.cell k (by rw[hP2.len];exact hlt)⟩;have hbx:Boxed W2 (wr+1) 339 (.int .i64 0):=by rw[hW2];exact Jk wr _ _ _
    have q0:(W2.setCell ⟨P,k,none⟩ (.pointer (some ⟨wr+1,0,none⟩))).cell? wr=some (.bool false):=te
    have hS:=hP2.step aj8 hlt (wr+1) (λe=>by rw[hlf]at e;cases e) (λ_=>⟨by have:=HP.o.ext.size;omega,⟨_,hbx⟩,λi hi hik hl=>by have:=HP.o.rise i hi hik hl;omega⟩);unfold pv at hS;have A9:=ah hS;rw[hW2]at cf cc clt;have HW2:=ah hW2;clear hS hbx hW2 hP2 hXn hstep Plt;go_upto_region 5 with fail;rw[<-HW2.o];exact qS
   case true=>
    obtain⟨m,hml,hwy,hgd⟩:=hbw hlf;have cg:=atv.o m hml;obtain⟨W2,hW2⟩:=hstep _ hlf;rw[hlf]at n1;rw[hwy]at n2 hW2;have hXn:Ext wr W2:=by rw[hW2];exact((aj wr).alloc _).alloc _
    have hP2:=HP.o.to hXn;obtain⟨cf,clt⟩:=LP.frozen hP2.row k;obtain⟨cv,cc⟩:∃v,W2.cell? ⟨P,k,none⟩=some v:=⟨_,hP2.row.cell k (by rw[hP2.len];exact hlt)⟩;have hpre:=hP2.pre aj8 hlt (wr+1);have q0:(W2.setCell ⟨P,k,none⟩ (.pointer (some ⟨wr+1,0,none⟩))).cell? wr=some (.bool true):=te
    have q1:(W2.setCell ⟨P,k,none⟩ (.pointer (some ⟨wr+1,0,none⟩))).cell? ⟨wr,1,none⟩=some (.int .i64 m):=by rw[dG _ _ _ _ eo,hW2];exact Ext.cell ((aj _).alloc _) (aG (aC wr _) 1)
    unfold pv at hpre;have qg:=hpre.ext.cell cg;have qf:=(LP.frozen hpre.row k).1;obtain⟨cv2,cc2⟩:∃v,(W2.setCell ⟨P,k,none⟩ (.pointer (some ⟨wr+1,0,none⟩))).cell? ⟨P,k,none⟩=some v:=⟨_,hpre.row.cell k (by rw[hpre.len];exact hlt)⟩;have hS:=hpre.step aj8 hlt fP[m] (λ_=>hgd.symm) (λe=>by rw[hlf]at e;cases e);unfold pv at hS;have A9:=ah hS;rw[hW2]at cf cc clt;have HW2:=ah hW2;have hm0:(0:Int)<=m/\(m:Int)<fP:=aq;clear hS hW2 hpre hP2 hXn hstep Plt;go_upto_region 5 with fail;rw[<-HW2.o];generalize W2.setCell ⟨P,k,none⟩ (.pointer (some ⟨wr+1,0,none⟩))=W3 at *;exact qS
  ·obtain rfl:k=t.length:=aq;generalize wr=Wz at *;have hN:∀b,NK t pl 0 b->W.heap.size<=b/\∃u,Boxed Wz b 339 u:=by rintro b ⟨i,hi,-,hlf,rfl⟩;exact HP.o.inn i hi hi hlf
   have hS2:=SW.labels (N:=λb=>NK t pl 0 b) HS.o HP.o.ext hN;have hne:∀i (hi:i<t.length) k (hk:k<t.length),t[k].leaf=false->(t[i].leaf=true\/k<i)->pl i≠pl k:=λi hi k hk hlk hx e=>by
    have h1:=(HP.o.inn k hk hk hlk).1;cases hli:t[i].leaf
    ·rcases hx with hx|hx
     ·rw[hli]at hx;cases hx
     ·have:=HP.o.ris k i hk hi hx hi hlk hli;omega
    ·obtain⟨m,hml,-,hgd⟩:=akS.o i hi hli;have h2:=HP.o.leaf i hi hi hli;rw[hgd]at h2;have:=apD.o _ (GK.o _ (aW hml));omega
   have hrow:∀i (hi:i<t.length),Wz.cell? ⟨P,i,none⟩=some (pv (pl i)):=λi hi=>by have h1:=HP.o.row.cell i eC;have h2:=HP.o.get i hi;rw[aJ eC]at h2;rw[h1,bV h2];rfl
   obtain⟨b,o,rfl,n1,-,-,-,-⟩:=yx.o 0 hp;have hcq:∀wq,WT Wz wq->∀i (hi:i<t.length),wq.cell? ⟨b,o+i*5,none⟩=some (.bool t[i].leaf)/\wq.cell? ⟨b,o+i*5+1,none⟩=some (.int .i64 t[i].way)/\wq.cell? ⟨b,o+i*5+2,none⟩=some (.int .u32 (t[i].at_:Int))/\wq.cell? ⟨b,o+i*5+3,none⟩=some (.int .i64 t[i].less)/\wq.cell? ⟨b,o+i*5+4,none⟩=some (.int .i64 t[i].more):=λwq hw i hi=>by
    have h1:tC wq bt (.slice (some ⟨b,o,none⟩) t c) t:=amV (Hht.o.ext HP.o.ext) hw az az az az;obtain⟨a',c',e,-,h2⟩:=rW h1.rd;simp only[aU]at e;obtain⟨b',o',e2,h3⟩:=h2 i hi;rw[<-e.1]at e2;obtain⟨rfl,rfl⟩:b=b'/\o=o':=by simpa using e2
    exact h3
   have hpq:∀wq,WT Wz wq->∀i (hi:i<t.length),wq.cell? ⟨P,i,none⟩=some (.pointer (some ⟨pl i,0,none⟩)):=λwq hw i hi=>by have h1:=(HP.o.row.wt hw).cell i eC;have h2:=HP.o.get i hi;rw[aJ eC]at h2;rw[h1,bV h2];rfl
   rw[Nat.zero_mul,iB]at n1;replace n1:=HP.o.ext.cell n1;have r0:=hpq Wz (WT.refl Wz) 0 hp;have hre:=CJ hp;have hr0:vK t pl ss 0=if root t=true then [iJ 5 0 (.lb (pl 0)) (.pl 0)]else []:=by unfold vK yK;simp
   have hlen:=λk=> @G8 t pl ss k
   have hrk:∀k,k<=t.length->rank t k<=5001:=λk hk=>by have:=uT (t:=t) hk;have:=CS t;omega
   have ac0:∀i (hi:i<t.length),t[i].leaf=true->O (pl i):=λi hi hli=>by obtain⟨m,hml,-,hgd⟩:=akS.o i hi hli;rw[HP.o.leaf i hi hi hli,hgd];exact GK.o _ (aW hml)
   have aty:=ah hcq;have akZ:=ah hpq;clear hcq hpq;have aw3:=ah hlen;have as9:=ah hrk;clear hlen hrk;have XM:=ah ac0;have Sk:=ah hne;clear ac0 hne;have apB:=ah hS2;have Sj:=ah hrow;clear hS2 hrow;have HWr:=ah (WT.refl Wz);clear hN;cases hlf:t[0].leaf
   focus
    rw[hlf]at n1 hre;have hr1:vK t pl ss 0=[]:=by rw[hr0,hre];rfl
    have A9:Hid (SW w0 B (λb=>O b\/NK t pl 0 b) (ss++vK t pl ss 0) Wz):=ah (by rw[hr1,fH];exact apB.o);have HT1:=ah (WT.refl Wz);clear hr0 hr1 hre;go_wp2_with fail
   rotate_left 1
   focus
    rw[hlf]at n1 hre;have hr1:vK t pl ss 0=[iJ 5 0 (.lb (pl 0)) (.pl 0)]:=by rw[hr0,hre];rfl
    have HR1:=ah hr1;have HOp:=ah (XM.o 0 hp hlf);clear hr0 hr1 hre;go_wp2_with fail;refine ap (SW.acI apB.o aq 0 (pl 0) (.inl HOp.o)) ?_;rintro W1 ⟨hs1,ht1⟩;have A9:Hid (SW w0 B (λb=>O b\/NK t pl 0 b) (ss++vK t pl ss 0) W1):=ah (by rw[HR1.o];exact hs1);have HT1:=ah ht1;clear hs1 ht1;go_wp2_with fail
   all_goals
    go_loopw [48] (λi wr=>∃k:Nat,k<=t/\i= .int .i64 k/\SW w0 B (λb=>O b\/NK t pl k b) (ss++vK t pl ss k) wr/\WT Wz wr) (λi _=>t.length-(intOf i).toNat)
    case atStart=>exact⟨0,aq,rfl,A9.o,HT1.o⟩
    case round=>
     obtain⟨k,hk,rfl,hs,hwt⟩:=hrel;have HS2:=ah hs;have HT2:=ah hwt;clear hs hwt A9 HT1;by_cases hlt:k<t
     ·obtain⟨n1,n2,n3,n4,n5⟩:=aty.o wr HT2.o k hlt;cases hlk:t[k].leaf
      case true=>
       rw[hlk]at n1;have hrl:=YA (pl:=pl) (p0:=ss.length) tF.o hlt hlk;have hsn:=(HS2.o.ext ((aj wr).alloc (.cells #[.bool true,.int .i64 t[k].way,.int .u32 (t[k].at_:Int),.int .i64 t[k].less,.int .i64 t[k].more] 422)));rw[<-hrl]at hsn;have hs3:=hsn.mono (O':=λb=>O b\/NK t pl (k+1) b) (λb=>or_congr Iff.rfl (afV hlt hlk));have wZ:=ah hs3;have HT3:=ah (HT2.o.trans (WT.lU ((aj wr).alloc (.cells #[.bool true,.int .i64 t[k].way,.int .u32 (t[k].at_:Int),.int .i64 t[k].less,.int .i64 t[k].more] 422))));clear hsn hs3 hrl;go_wp2_with fail;go_roundw
       case rel=>exact⟨k+1,aq,bm,wZ.o,HT3.o⟩
       case measure=>simp[intOf];omega
      case false=>
       rw[hlk]at n1;obtain⟨m1,m2,m3,m4⟩:=apt.o k hlt hlk;obtain⟨Qf,QG,arT⟩:∃x:Nat,t[k].less=(x:Int)/\t[k].less.toNat=x:=⟨t[k].less.toNat,aq,rfl⟩;obtain⟨mr1,arP,arO⟩:∃x:Nat,t[k].more=(x:Int)/\t[k].more.toNat=x:=⟨t[k].more.toNat,aq,rfl⟩;rw[QG]at n4 m1 m3;rw[arP]at n5 m2 m4;have hl1:Qf<t.length:=aq;have hl2:mr1<t.length:=aq;have hOk:¬O (pl k):=λho=>by have:=apD.o _ ho;have:=(HP.o.inn k hlt hlt hlk).1;omega
       have hrh:=YB (pl:=pl) (p0:=ss.length) tF.o hlt hlk (λi hi hx=>Sk.o i hi k hlt hlk hx);rw[arT,arO]at hrh;have hNb:∀x,k<x->x<t.length->O (pl x)\/NK t pl (k+1) (pl x):=λx hx hxl=>by
        cases hlx:t[x].leaf
        ·exact .inr ⟨x,hxl,aq,hlx,rfl⟩
        ·exact .inl (XM.o x hxl hlx)
       have hN1:=hNb Qf aq hl1;have Oh:=hNb mr1 aq hl2;have hb:(λb=>O b\/NK t pl k b) (pl k):= .inr ⟨k,hlt,aD _,hlk,rfl⟩;have ahR:=SW.iy (HS2.o.ext ((aj wr).alloc (.cells #[.bool false,.int .i64 t[k].way,.int .u32 (t[k].at_:Int),.int .i64 Qf,.int .i64 mr1] 422))) hb;have hnew:=aC wr (.cells #[.bool false,.int .i64 t[k].way,.int .u32 (t[k].at_:Int),.int .i64 Qf,.int .i64 mr1] 422);have hxw:=WT.lU ((aj wr).alloc (.cells #[.bool false,.int .i64 t[k].way,.int .u32 (t[k].at_:Int),.int .i64 Qf,.int .i64 mr1] 422));have hpk:=akZ.o _ (HT2.o.trans hxw) k hlt;have hmv:(ss++vK t pl ss k).map (SS.mp (Tg.res (pl k) (ss++vK t pl ss k).length))=ss++(vK t pl ss k).map (SS.mp (Tg.res (pl k) (ss.length+rank t k))):=by rw[bL,MI HS.o hOk,aH,G8]
       have hnk:=λb=>am8 (t:=t) (pl:=pl) (k:=k) (b:=b) hOk (λi hi hx=>Sk.o i hi k hlt hlk (.inr hx))
       have hlr:(ss++(vK t pl ss k).map (SS.mp (Tg.res (pl k) (ss.length+rank t k)))).length<=96000:=by rw[aH,aS,G8];have:=as9.o k aq;omega
       have alf:=ah ahR;have apj:=ah hnew;clear ahR hnew;have atm:=ah hmv;have atj:=ah hnk;clear hmv hnk;have aeh:=ah hlr;have asY:=ah hxw;clear hlr hxw;have akW:=ah hrh;have atN:=ah hN1;have N2:=ah Oh;clear hrh hN1 Oh hNb hb;go_wp2_with fail;refine ap alf.o ?_;rintro w2 ⟨hs2,ht2⟩;have ajI:=hs2.mono atj.o;rw[atm.o]at ajI;have wZ:=ah ajI;have HT3:=ah (HT2.o.trans (asY.o.trans ht2));have hbk:=ht2.kept _ _ _ _ apj.o az az az az;have q2:w2.cell? ⟨wr,2,none⟩=some (.int .u32 (t[k].at_:Int)):=aG hbk 2;have q3:w2.cell? ⟨wr,3,none⟩=some (.int .i64 Qf):=aG hbk 3;have q4:w2.cell? ⟨wr,4,none⟩=some (.int .i64 mr1):=aG hbk 4;have p1:=akZ.o _ HT3.o Qf hl1;have p2:=akZ.o _ HT3.o mr1 hl2;clear hs2 ajI ht2 hbk;go_wp2_with fail;go_still_tail 13,ax
       change wpList _ _ _ _ _ w2.drew
       have Ot:=ah (wZ.o.ext ((aj w2).drew));have HT4:=ah (HT3.o.trans (WT.lU ((aj w2).drew)));replace q2:=((aj w2).drew).cell q2;replace q3:=((aj w2).drew).cell q3;replace q4:=((aj w2).drew).cell q4;replace p1:=((aj w2).drew).cell p1;replace p2:=((aj w2).drew).cell p2;generalize w2.drew=w4 at *;go_wp2_with fail;refine ap (SW.jL Ot.o (by have:=aeh.o;omega) 53 t[k].at_ (pl mr1) (pl Qf) N2.o atN.o) ?_;rintro w5 ⟨hs5,ht5⟩;have ZA:=hs5;rw[bI,akW.o]at ZA;have yS:=ah ZA;have HT5:=ah (HT4.o.trans ht5);clear hs5 ZA ht5;go_wp2_with fail;go_roundw
       case rel=>exact⟨k+1,aq,bm,yS.o,HT5.o⟩
       case measure=>simp[intOf];omega
     ·obtain rfl:k=t.length:=aq;have hfin:=HS2.o.mono (O':=O) (λb=>⟨λh=>h.elim id (λh=>absurd h ajb),.inl⟩);rw[abI (g:=λk=>fP.getD k 0) tF.o (λi hi hli=>HP.o.leaf i hi hi hli)]at hfin;have HF:=ah hfin;have HTF:=ah ((WT.lU HP.o.ext).trans HT2.o);clear hfin;go_wp2_with fail
      first|go_end0|refine aM (bH rfl _ _ _) rfl ?_
      exact⟨rfl,HF.o,HTF.o⟩
end mJ
end Go.Proofs.YtopfefhenfineaaGreat
namespace Go.Proofs.YtopfefhenfineaaGreat
open Go.Proofs.Tryz Go.RowKit V
variable{zP:Prop}
def tB(h:zP:=by rw[<-e,Array.toArray_toList,gV]at h;unfold R1;rw[gV,<-e];exact h):zP:=h
namespace mJ
open mV
open lC (Test Rule Filter)
open Gd (j8 encI)
variable{W4 Wb w w' w1 wr wr':ay}{b b' base c e g g' gN j k:Nat}{u v:aA}{ys:List Int}{α:Type}{enc:α->List aA}{xs:List α}
def jE(n:Nat):(j8 n).length=1:=rfl
def su(n:Int):(encI n).length=1:=rfl
theorem ajq:(Tryz.prog.info? 32).map (λi=>(i.zero,i.size,i.bytes))=some (some (.int .u32 0),1,4):=ax
theorem ajt:(Tryz.prog.info? 3).map (λi=>(i.zero,i.size,i.bytes))=some (some (.int .i64 0),1,8):=ax
def wE(z:aA)(hz:z.cells= #[z])(enc:α->List aA)(x:α)(he:enc x=[z])(n:Nat):(madeCells z.cells (n*1)).toList=(List.replicate n x).flatMap enc:=by
 rw[eO];apply List.ext_getElem?;intro i;rw[show((List.replicate n x).flatMap enc)=List.replicate n z by
  induction n with
  |zero=>rfl
  |succ n ih=>rw[List.replicate_succ,eP,ih,he];rfl]
 rw[hz];unfold madeCells;by_cases h:i<n
 ·simp[h,Nat.mod_one]
 ·simp[h]
def R1(w:ay)(base e g:Nat)(enc:α->List aA)(xs:List α)(c:Nat):Prop:=w.ownsRow base e 1 (.slice (some g) xs c) xs (xs.flatMap enc)
def R1.cell(h:R1 w base e g enc xs c)(he:∀x,(enc x).length=1)(j:Nat)(hj:j<xs):∃u,w.cell? ⟨g,j,none⟩=some u:=by
 obtain⟨a,c',h1,h2,h3,h4⟩:=bY (n:=1) he h;simp only[aU]at h1;obtain⟨b,o,e2,k⟩:=h4 j hj;rw[<-h1.1]at e2;obtain⟨rfl,rfl⟩:g=b/\0=o:=by simpa using e2
 have:=k 0 (by rw[he];omega);rw[eO,cO]at this;exact⟨_,this⟩
def R1.frozen(h:R1 w base e g enc xs c)(j:Nat):w.frozen? ⟨g,j,none⟩=false/\g<w.heap.size:=by obtain⟨cur,hc⟩:=lC.jd h g rfl;exact⟨by simp[World.frozen?,hc],(aB.1 hc).1⟩
def R1.abD(h:R1 w base e g enc xs c)(he:∀x,(enc x).length=1)(j:Nat)(y:α)(u:aA)(hu:enc y=[u])(hj:j<xs):R1 (w.setCell ⟨g,j,none⟩ u) base e g enc (xs.set j y) c:=by
 have hst:=kE (e:=e) he h j 0 u y hj az (by
  have h2:=he xs[j];rw[hu]
  match hx:enc xs[j]with
  | [a]=>rfl
  | []=>rw[hx]at h2;cases h2
  |a::b::l=>rw[hx]at h2;simp at h2)
 rw[eO,iB]at hst;unfold R1;rw[dO];exact hst.1
def R1.far{e:Nat}(h:R1 w base e g enc xs c)(hg:g'≠g)(j:Nat)(u:aA):R1 (w.setCell ⟨g',j,none⟩ u) base e g enc xs c:=ownsRow_setCell_other (a:=⟨g',j,none⟩) h (λe=>hg (by simpa[Value.ownBlock]using e.symm)) u
def R1.ext(h:R1 w base e g enc xs c)(hx:Ext w w'):R1 w' base e g enc xs c:=lC.pE h hx
def fl(xs:List α)(z:α)(k:Nat):List α:=xs.take k++List.replicate (xs-k) z
def adg(xs:List α)(z:α)(h:k<=xs):(fl xs z k).length=xs.length:=by unfold fl;simp;omega
def Xo(xs:List α)(z:α):fl xs z 0=List.replicate xs z:=rfl
def adh(xs:List α)(z:α):fl xs z xs.length=xs:=by unfold fl;simp
def adf(xs:List α)(z:α)(h:k<xs):(fl xs z k).set k xs[k]=fl xs z (k+1):=by
 unfold fl;have e:(xs.take k).length=k:=by simp;omega
 rw[List.set_append_right _ _ aq,e,Nat.sub_self,show xs.length-k=(xs.length-(k+1))+1 from aq,List.replicate_succ,List.set_cons_zero,bE h,bI]
 rfl
structure LL(W4 wr:ay)(fP:List Nat):Prop where
 nd:fP.Nodup
 each:∀b∈fP,W4.heap.size<=b/\∃u,Boxed wr b 339 u
def LL.ext{fP:List Nat}(h:LL W4 wr fP)(hx:Ext wr wr'):LL W4 wr' fP:=⟨h.nd,λb hb=>by obtain⟨h1,u,h2⟩:=h.each b hb;exact⟨h1,u,(hx.block h2.lt).trans h2⟩⟩
def LL.keep{fP:List Nat}(h:LL W4 wr fP)(hk:∀b u,Boxed wr b 339 u->Boxed wr' b 339 u):LL W4 wr' fP:=⟨h.nd,λb hb=>by obtain⟨h1,u,h2⟩:=h.each b hb;exact⟨h1,u,hk b u h2⟩⟩
def LL.add{fP:List Nat}(h:LL W4 wr fP)(hx:Ext wr wr')(h1:W4.heap.size<=b)(h2:wr.heap.size<=b)(h3:Boxed wr' b 339 u):LL W4 wr' (fP++[b]):=
 ⟨List.nodup_append.2 ⟨h.nd,aE,λx hx' y hy e=>by
  simp at hy;obtain⟨-,v,h5⟩:=h.each x hx';have:=h5.lt;omega⟩,λx hx'=>by
  rcases dJ.1 hx' with hx'|hx'
  ·exact(h.ext hx).each x hx'
  ·simp at hx';subst hx';exact⟨h1,u,h3⟩⟩
def L0(h:R1 w base e g enc xs c)(he:e≠339)(hb:Boxed w b 339 u):Boxed (w.setCell ⟨g,j,none⟩ v) b 339 u:=by obtain⟨cur,hc⟩:=lC.jd h g rfl;refine(aX _ _ _ b (λe'=> ?_)).trans hb;have e':b=g:=e';subst e';have e2:=bV (hc.symm.trans hb);simp only[iT]at e2;exact he e2.2.1
def ack(W:ay)(n base:Nat)(hn:n<=400)(hb:base<=W.heap.size):R1 (W.alloc (.cells (madeCells #[Value.int .u32 0] n) 32)) base 32 W j8 (List.replicate n 0) n:=by have e:=wE (Value.int .u32 0) rfl j8 0 rfl n;rw[eO]at e;have h:=jJ jE W (List.replicate n 0) 32 W base rfl hb (by simp[maxLen];omega);exact tB
def acm(W:ay)(n base:Nat)(hn:n<=400)(hb:base<=W.heap.size):R1 (W.alloc (.cells (madeCells #[Value.int .i64 0] n) 3)) base 3 W encI (List.replicate n 0) n:=by have e:=wE (Value.int .i64 0) rfl encI 0 rfl n;rw[eO]at e;have h:=jJ su W (List.replicate n 0) 3 W base rfl hb (by simp[maxLen];omega);exact tB
def RL(w:ay)(base:Nat)(v:aA)(fP:List Nat):Prop:=w.ownsRow base 337 1 v (fP.map some).length ((fP.map some).flatMap Q6)
def RL.ext{fP:List Nat}(h:RL w base v fP)(hx:Ext w w'):RL w' base v fP:=lC.pE h hx
def RL.far{fP:List Nat}(h:RL w base v fP)(h1:R1 w b' e g enc xs c)(he:e≠337):RL (w.setCell ⟨g,j,none⟩ u) base v fP:=ownsRow_setCell_other (a:=⟨g,j,none⟩) h (λe'=>Ap h1 h he g rfl e'.symm) u
def RL.one(w:ay)(b base:Nat)(hb:base<=w.heap.size):RL (w.alloc (.cells #[.pointer (some b)] 337)) base (.slice (some w) 1 1) [b]:=jJ Aa w [some b] 337 w base rfl hb (by simp[maxLen])
def RL.lp{fP:List Nat}(h:RL w base v fP)(hp:0<fP.length):∃g c,v= .slice (some ⟨g,0,none⟩) fP c/\LP w base g (fP.map some) c:=by obtain⟨g,c,rfl,-⟩:=mo h (by rw[aS];exact hp);exact⟨g,c,by rw[aS],h⟩
def RL.ne{fP:List Nat}(h:RL w base v fP)(hb:Boxed w b 339 u):(some b:Option Nat)≠v.ownBlock:=λe=>by obtain⟨cur,hc⟩:=lC.jd h b e.symm;have e2:=bV (hc.symm.trans hb);simp only[iT]at e2;exact absurd e2.2.1 az
def Yz{gW n:Nat}{xs:List Nat}{fP:List Nat}(nr:Nat)(kk:Int)(bx lit:Obj)(hx:Ext w1 wr)(hN:R1 wr w1 32 gN j8 xs n)(hW:R1 wr w1 3 gW encI ys n)(hne:gN≠gW)(h1:w1.heap.size<=gN)(h2:w1.heap.size<=gW)(hL:LL w1 wr fP)(hR:RL wr w1 v fP)(hk:k<xs)(hk2:k<ys):let Wb:=(((((wr.setCell ⟨gN,k,none⟩ (.int .u32 nr)).setCell ⟨gW,k,none⟩ (.int .i64 kk)).alloc bx).alloc (.cells #[.int .i64 0] 339)).alloc lit)
 Ext w1 Wb/\R1 Wb w1 32 gN j8 (xs.set k nr) n/\R1 Wb w1 3 gW encI (ys.set k kk) n/\LL w1 Wb (fP++[wr.heap.size+1])/\RL Wb w1 v fP:=by
 intro Wb;have hNa:R1 (wr.setCell ⟨gN,k,none⟩ (.int .u32 nr)) w1 32 gN j8 (xs.set k nr) n:=hN.abD jE k nr _ rfl hk;have hWa:R1 (wr.setCell ⟨gN,k,none⟩ (.int .u32 nr)) w1 3 gW encI ys n:=hW.far hne k _;have hRa:RL (wr.setCell ⟨gN,k,none⟩ (.int .u32 nr)) w1 v fP:=hR.far hN az;have hLa:LL w1 (wr.setCell ⟨gN,k,none⟩ (.int .u32 nr)) fP:=hL.keep λb u hb=>L0 hN az hb
 have hxa:Ext w1 (wr.setCell ⟨gN,k,none⟩ (.int .u32 nr)):=hx.setCell h1 _;have hNb:=hNa.far (j:=k) (λe=>hne e.symm) (.int .i64 kk);have hWb:=hWa.abD su k kk (.int .i64 kk) rfl hk2;have hRb:=hRa.far (j:=k) (u:= .int .i64 kk) hWa az;have hLb:LL w1 _ fP:=hLa.keep λb u hb=>L0 (j:=k) (v:= .int .i64 kk) hWa az hb
 have hxb:=hxa.setCell (p:=⟨gW,k,none⟩) h2 (.int .i64 kk);have hsz:((wr.setCell ⟨gN,k,none⟩ (.int .u32 nr)).setCell ⟨gW,k,none⟩ (.int .i64 kk)).heap.size=wr.heap.size:=by rw[size_set,size_set]
 have hE:Ext ((wr.setCell ⟨gN,k,none⟩ (.int .u32 nr)).setCell ⟨gW,k,none⟩ (.int .i64 kk)) Wb:=(((aj _).alloc _).alloc _).alloc _;have hnb:=Jk ((wr.setCell ⟨gN,k,none⟩ (.int .u32 nr)).setCell ⟨gW,k,none⟩ (.int .i64 kk)) bx 339 (.int .i64 0);rw[hsz]at hnb;have ags:Boxed Wb (wr+1) 339 (.int .i64 0):=aI hnb ((aj _).alloc lit);exact⟨hxb.trans hE,hNb.ext hE,hWb.ext hE,hLb.add hE (by have:=hx.size;omega) (by rw[hsz];omega) ags,hRb.ext hE⟩
def abG{gW n:Nat}{xs:List Nat}{fP l2:List Nat}(hx:Ext w1 Wb)(hN:R1 Wb w1 32 gN j8 xs n)(hW:R1 Wb w1 3 gW encI ys n)(hL:LL w1 Wb l2)(hR:RL Wb w1 v fP)(hg:Wb.grownBy w' v.ownBlock):Ext w1 w'/\R1 w' w1 32 gN j8 xs n/\R1 w' w1 3 gW encI ys n/\LL w1 w' l2:=
 ⟨hx.grown hg (λk e=>(hR.lt k e).1),tK hN hg (Ap hN hR az),tK hW hg (Ap hW hR az),hL.keep λb u hb=>(hg.block b hb.lt (hR.ne hb)).trans hb⟩
end mJ
def rp(h:zP:=by
 unfold dP;have:=CS t;have:=hT.len;have:oL f.jh<=5:=by unfold oL;split<;>omega
 omega):zP:=h
namespace mJ
open mV
open lC (Test Rule Filter kU)
open Gd (Span OkS j8 encI chain whole ofA)
open xu (may yh)
variable{f:Filter}{k m nt p v:Nat}{lab:Nat->Nat}
def FM:∀ {xs:List Span} {a m:Nat},chain xs a=some m->a<=m/\∀s∈xs,s.lo<=s.hi/\s.hi<m
 | [],a,m,h=>⟨by simp[chain]at h;omega,λs hs=>by cases hs⟩
 |s::r,a,m,h=>by
  obtain⟨h1,h2,h3⟩:=Gd.B9 h;obtain⟨h4,h5⟩:=FM h3;refine⟨aq,λx hx=> ?_⟩;rcases dF.1 hx with rfl|hx
  ·exact⟨h2,aq⟩
  ·exact h5 x hx
def Wh(hm:kU f=true)(hn:∀r∈f.rules,r.nr<4294967296):∀s∈sK f,OkS s:=λs hs=>by obtain⟨-,h2,-,h4,-⟩:=nI hm hn;obtain⟨-,-,h5,-⟩:=qV hm;obtain⟨h6,h7⟩:=(FM ((Gd.Aj _).1 h2)).2 s hs;obtain⟨h8,h9⟩:=h4 s hs;exact⟨aq,aq,aq,aq⟩
def afM(hm:kU f=true)(hn:∀r∈f.rules,r.nr<4294967296):ofA (Li f) (Oc f) 0=(sK f,0):=by
 obtain⟨h1,-⟩:=nI hm hn;unfold ofA;rw[aV ⟨by rw[p9,sP],h1⟩]
 rfl
def Vd(hm:kU f=true)(hn:∀r∈f.rules,r.nr<4294967296):yh (sK f)=(kH f,0):=by
 obtain⟨-,h2,-⟩:=nI hm hn;unfold yh;rw[aV h2]
 rfl
def row0(f:Filter)(t:List Nd)(nt:Nat)(lab:Nat->Nat):List SS:=xG (.lb nt) f.jh++jU (gT t (oL f.jh) λj=> .lb (lab j)) t
def He(f:Filter)(t:List Nd)(nt:Nat)(lab:Nat->Nat)(k:Nat):List SS:=xG (.lb nt) f.jh++(jU (gT t (oL f.jh) λj=>if j<k+1 then .pl (wP f t j)else .lb (lab j)) t++(iR f.dflt::lq (dP f t+1) (f.rules.take k)))
def abK(f:Filter)(t:List Nd)(nt:Nat)(lab:Nat->Nat):(row0 f t nt lab).length=dP f t:=by unfold row0 dP;rw[aH,wu,vB]
def wh(f:Filter)(t:List Nd)(nt:Nat)(lab:Nat->Nat)(hk:k<=f.rules):(He f t nt lab k).length=wP f t (k+1):=by unfold He wP;rw[aN aq,jr,aH,aH,aO,wu,vB];have h2:=abE (dP f t+1) hk;rw[<-h2];unfold dP;omega
structure L9(f:Filter)(t:List Nd)(nt:Nat)(lab:Nat->Nat):Prop where
 inj:∀i j,i<=f.rules.length->j<=f.rules.length->lab i=lab j->i=j
 nt:∀i,i<=f.rules.length->nt≠lab i
def YD{t:List Nd}(hT:TOk f t)(h:L9 f t nt lab):(row0 f t nt lab).map (SS.mp (Tg.res (lab 0) (dP f t)))++[iR f.dflt]=He f t nt lab 0:=by
 unfold row0 He;rw[bL,PI _ (h.nt 0 aq),Cc hT.may (g':=λj=>if j<0+1 then .pl (wP f t j)else .lb (lab j)),bI]
 ·rfl
 ·intro i hi hl;obtain⟨h1,h2⟩:=hT.ways i hi hl;generalize hj:t[i].way.toNat=j;have hjn:j<=f.rules:=aq;show(if lab j=lab 0 then Tg.pl (dP f t)else .lb (lab j))=_;by_cases e:j=0
  ·subst e;rw[aV rfl,aV aq];rfl
  ·rw[aN (λe'=>e (h.inj j 0 hjn aq e')),aN aq]
def YC{t:List Nd}(hT:TOk f t)(h:L9 f t nt lab)(hk:k<f.rules):(He f t nt lab k).map (SS.mp (Tg.res (lab (k+1)) (wP f t (k+1))))++pU (wP f t (k+1)) f.rules[k].tests f.rules[k].action=He f t nt lab (k+1):=by
 have hr:lq (dP f t+1) (f.rules.take (k+1))=lq (dP f t+1) (f.rules.take k)++pU (wP f t (k+1)) f.rules[k].tests f.rules[k].action:=by have h:=afo (dP f t+1) hk;rw[h];unfold wP;rw[aN aq,jr]
 unfold He;rw[bL,bL,bS,PI _ (h.nt (k+1) aq),Ei,Cc hT.may (g':=λj=>if j<k+1+1 then .pl (wP f t j)else .lb (lab j)),hr,bI,bI]
 ·rfl
 ·intro i hi hl;obtain⟨h1,h2⟩:=hT.ways i hi hl;generalize hj:t[i].way.toNat=j;have hjn:j<=f.rules:=aq
  try dsimp only
  rcases Nat.lt_trichotomy j (k+1)with e|e|e
  ·rw[aV e,aV aq];rfl
  ·subst e;rw[aN aq,aV aq,xD]
  ·rw[aN aq,aN aq,p5 (λe'=>by have:=h.inj j (k+1) hjn aq e';omega)]
def abJ{t:List Nd}(hT:TOk f t):(He f t nt lab f.rules).map (SS.mp (Tg.res nt (nP f t)))++[iR 2147418112]=JL f t:=by
 unfold He JL;rw[bL,bL,bS,ab2,Ei,Cc hT.may (g':=λj=> .pl (wP f t j)),bZ,bI,bI]
 ·rw[BG (G:=λi=> .pl (pN f t i)) hT.may]
  ·rfl
  ·intro x hx;unfold gT pN;rw[aJ hx]
   try dsimp only
   split<;>rfl
 ·intro i hi hl;obtain⟨h1,h2⟩:=hT.ways i hi hl
  try dsimp only
  rw[aV aq];rfl
def OE(f:Filter)(nt:Nat)(lab:Nat->Nat)(k b:Nat):Prop:=b=nt\/∃j,k+1<=j/\j<=f.rules.length/\b=lab j
def ab7{t:List Nd}{fP:List Nat}(hl:fP.length=f.rules+1)(h:L9 f t nt λj=>fP.getD j 0)(b:Nat):((b=nt\/b∈fP)/\b≠fP.getD 0 0)↔OE f nt (λj=>fP.getD j 0) 0 b:=by
 have hg:∀j (hj:j<fP.length),fP.getD j 0=fP[j]:=λj hj=>by rw[bQ,aJ hj];rfl
 constructor
 ·rintro⟨h1|h1,h2⟩
  ·exact .inl h1
  ·obtain⟨j,hj,rfl⟩:=List.mem_iff_getElem.1 h1;rw[<-hg j hj]at h2⊢;refine .inr ⟨j,?_,aq,rfl⟩;rcases Nat.eq_zero_or_pos j with e|e
   ·subst e;exact absurd rfl h2
   ·omega
 ·rintro(h1|⟨j,h1,h2,h3⟩)
  ·exact⟨.inl h1,λe=>h.nt 0 aq (h1.symm.trans e)⟩
  ·refine⟨.inr (by rw[h3];show fP.getD j 0∈fP;rw[hg j aq];exact aW _),λe=> ?_⟩;have:=h.inj j 0 h2 aq (h3.symm.trans e);omega
def afP{t:List Nd}(h:L9 f t nt lab)(hk:k<f.rules)(b:Nat):(OE f nt lab k b/\b≠lab (k+1))↔OE f nt lab (k+1) b:=by
 constructor
 ·rintro⟨h1|⟨j,h1,h2,h3⟩,h4⟩
  ·exact .inl h1
  ·refine .inr ⟨j,?_,h2,h3⟩;rcases Nat.lt_or_eq_of_le h1 with e|e
   ·omega
   ·subst e;exact absurd h3 h4
 ·rintro(h1|⟨j,h1,h2,h3⟩)
  ·exact⟨.inl h1,λe=>h.nt (k+1) aq (h1.symm.trans e)⟩
  ·refine⟨.inr ⟨j,aq,h2,h3⟩,λe=> ?_⟩;have:=h.inj j (k+1) h2 aq (h3.symm.trans e);omega
def ai8(b:Nat):¬(OE f nt lab f.rules b/\b≠nt):=by
 rintro⟨h1|⟨j,h1,h2,-⟩,h4⟩
 ·exact h4 h1
 ·omega
def acC{t:List Nd}{fP:List Nat}(hl:fP.length=f.rules+1)(hn:fP.Nodup)(hnt:nt∉fP):L9 f t nt λj=>fP.getD j 0:=by
 have hg:∀j (hj:j<fP.length),fP.getD j 0=fP[j]:=λj hj=>by rw[bQ,aJ hj];rfl
 refine⟨λi j hi hj e=> ?_,λi hi e=> ?_⟩
 ·try dsimp only at e
  rw[hg i aq,hg j aq]at e;have hp:=i9.1 hn;rcases Nat.lt_trichotomy i j with h|h|h
  ·exact absurd e (hp i j aq aq h)
  ·exact h
  ·exact absurd e.symm (hp j i aq aq h)
 ·try dsimp only at e
  rw[hg i aq]at e;exact hnt (by rw[e];exact aW _)
def G9{t:List Nd}(hm:kU f=true)(hT:TOk f t)(hk:k<=f.rules):(He f t nt lab k).length<=93000:=by
 obtain⟨-,-,h3,-,h5⟩:=qV hm;rw[wh _ _ _ _ hk];unfold wP;rw[aN aq,jr];have h1:=v9 (rs:=f.rules) (p:=dP f t+1) (f.rules-k) (k:=k) aq;rw[show k+(f.rules.length-k)=f.rules.length from aq]at h1;have h2:=El f.rules (dP f t+1) (λr hr=>(h5 r hr).1);have h4:dP f t<=5+2001:=rp
 have:225*f.rules.length<=90000:=aq;omega
def aoQ{t:List Nd}(hT:TOk f t):dP f t<=6006:=rp
open jO (Sy gB RO Dat EU iw)
open kN (qD)
open lC (Test Rule Filter yJ Gc XG kU)
open Gd (Span OkS)
def Ol(xs:List SS):Prop:= ∀s∈xs,s.k<4294967296
def Ol.app{xs ys:List SS}(h:Ol xs)(h':Ol ys):Ol (xs++ys):=λs hs=>by
 rcases dJ.1 hs with hs|hs
 ·exact h s hs
 ·exact h' s hs
def Ol.nil:Ol []:=λs hs=>by cases hs
def Ol.cons{s:SS}{xs:List SS}(hs:s.k<4294967296)(h:Ol xs):Ol (s::xs):=λx hx=>by
 rcases dF.1 hx with rfl|hx
 ·exact hs
 ·exact h x hx
def Qv{a:Nat}{e:Tg}(ha:a<4294967296)(hm:m<4294967296)(hv:v<4294967296):Ol (nC p a m v e):=by
 unfold nC;split
 ·exact .nil
 ·split
  ·exact .cons ha (.cons hv .nil)
  ·exact .cons ha (.cons hm (.cons hv .nil))
def acG{t:Test}(p:Nat)(h:Gc t)(hm:lC.qW t=true):Ol (yD p t):=by
 have hl:=λx=>anc x
 have hh:∀x,x<18446744073709551616->jO.hi x<4294967296:=λx hx=>by unfold jO.hi;omega
 have ha:t.arg<6:=by unfold lC.qW at hm;simp only[bA,dK]at hm;omega
 unfold yD;exact(Qv (by unfold uG;omega) (hl _) (hl _)).app ((Qv (by unfold F7;omega) (hh _ h.m) (hh _ h.v)).app (.cons h.x .nil))
def Qu:∀(ts:List Test)(p x:Nat),x<4294967296->(∀t∈ts,Gc t/\lC.qW t=true)->Ol (pU p ts x)
 | [],p,x,hx,_=> .cons hx .nil
 |t::r,p,x,hx,h=>by
  unfold pU;refine(acG p (h t jw).1 (h t jw).2).app ?_;split
  ·exact .nil
  ·exact Qu r _ x hx (λt ht=>h t (gM _ ht))
def Lu:∀(rs:List Rule)(p:Nat),(∀r∈rs,XG r/\∀t∈r.tests,lC.qW t=true)->Ol (lq p rs)
 | [],p,_=> .nil
 |r::l,p,h=>by unfold lq;obtain⟨h1,h2⟩:=h r jw;exact(Qu _ _ _ h1.x (λt ht=>⟨h1.t t ht,h2 t ht⟩)).app (Lu l _ (λr hr=>h r (gM _ hr)))
def aiw:∀l:List Span,0<l.length->(∀s∈l,s.lo<4294967296)->∀a,∀n∈xu.Bq l a,n.at_<4294967296:=by
 refine xu.C4 (λl h hs a n hn=> ?_) (λl h ih1 ih2 hs a n hn=> ?_)
 ·rw[xu.Ak h]at hn;simp at hn;subst hn;exact(by decide:(0:Nat)<4294967296)
 ·rw[xu.Ct h]at hn;rcases dF.1 hn with rfl|hn
  ·show xu.uG l (l.length/2)<4294967296;rw[xu.Qh aq];exact hs _ (aW _)
  ·rcases dJ.1 hn with hn|hn
   ·exact ih1 (λs hs'=>hs s (iU hs')) _ n hn
   ·exact ih2 (λs hs'=>hs s (List.mem_of_mem_drop hs')) _ n hn
def Uw{F:Nat->Tg}{t:List Nd}(h:∀n∈t,n.at_<4294967296):Ol (jU F t):=by
 unfold jU yK;refine Ol.app ?_ (λs hs=> ?_)
 ·split
  ·exact .cons (show(0:Nat)<4294967296 from az) .nil
  ·exact .nil
 ·obtain⟨n,hn,rfl⟩:=dW.1 hs;exact h n (List.mem_filter.1 hn).1
def agi(nt:Tg){a:Int}(h0:0<=a)(h6:a<6):Ol (xG nt a):=by
 have ht:qD a.toNat<4294967296:=by rcases(show a=0\/a=1\/a=2\/a=3\/a=4\/a=5 from aq)with rfl|rfl|rfl|rfl|rfl|rfl<;>decide
 unfold xG;refine Ol.app (.cons az (.cons ht (.cons az .nil))) ?_;split
 ·exact .cons (show(1073741824:Nat)<4294967296 from az) .nil
 ·split
  ·exact .cons (show(1073741824:Nat)<4294967296 from az) .nil
  ·exact .nil
def ajk(hf:yJ f)(hm:kU f=true):Ol (JL f (kH f)):=by obtain⟨h1,h2,h3,h4,h5⟩:=qV hm;have hsp:=Wh hm (λr hr=>(hf.r r hr).n);have hw:=(nI hm (λr hr=>(hf.r r hr).n)).2.1;unfold JL;exact(agi _ h1 h2).app ((Uw (aiw _ (xu.Ai hw) (λs hs=>(hsp s hs).l) 0)).app (.cons hf.d ((Lu _ _ (λr hr=>⟨hf.r r hr,(h5 r hr).2⟩)).app (.cons az .nil))))
def U4(hf:yJ f)(hm:kU f=true):iw ((JL f (kH f)).map SS.fin)=true/\(∀s∈(JL f (kH f)).map SS.fin,RO s)/\((JL f (kH f)).map SS.fin).length<=97000:=by
 have hnr:∀r∈f.rules,r.nr<4294967296:=λr hr=>(hf.r r hr).n
 obtain⟨-,-,-,-,hT⟩:=nI hm hnr;have hlen:(JL f (kH f)).length<=97000:=by
  have h1:=G9 (nt:=0) (lab:=λj=>j+1) hm hT (aD f.rules);rw[wh _ _ _ _ (aD _)]at h1;rw[AV];have:wP f (kH f) (f.rules+1)=nP f (kH f):=by unfold wP nP;rw[aN aq,jr]
  omega
 refine⟨adD hm hT,λs hs=> ?_,by rw[aS];exact hlen⟩;obtain⟨x,hx,rfl⟩:=dW.1 hs;have hk:=ajk hf hm x hx;obtain⟨j,hj,rfl⟩:=List.mem_iff_getElem.1 hx;have ho:=adE hm hT j hj;rw[<-AV]at ho;generalize(JL f (kH f))[j]=s at *;obtain⟨c,k,q⟩:=s;rcases ho with⟨h1,h2⟩|⟨n,m,h1,h2,h3,h4⟩
 ·dsimp only at h1 h2 hk;subst h1;exact⟨by show c<65536;omega,hk,by show(-9223372036854775808:Int)<=0;decide,by show(0:Int)<=_;decide,by show(-9223372036854775808:Int)<=0;decide,by show(0:Int)<=_;decide⟩
 ·dsimp only at h1 h4 hk;subst h1;refine⟨by show c<65536;omega,hk,by show(-9223372036854775808:Int)<=(n:Int);omega,by show(n:Int)<=_;omega,?_,?_⟩
  ·show(-9223372036854775808:Int)<=(if c=5 then 0 else(m:Int));split<;>omega
  ·show(if c=5 then(0:Int)else(m:Int))<=9223372036854775807;split<;>omega
open lC (Test Rule Filter yJ kU)
open Gd (Span)
def Yi:∀l:List Span,0<l.length->∀a,((xu.Bq l a).filter inner).length=l.length-1:=by
 refine xu.C4 (λl h a=> ?_) (λl h ih1 ih2 a=> ?_)
 ·rw[xu.Ak h,h];rfl
 ·rw[xu.Ct h,List.filter_cons,aV (by rfl),jy,aO,aH,ih1,ih2,bC,cZ];omega
def most:List Rule->Nat
 | []=>0
 |r::l=>3+7*r.tests.length+most l
def O6:∀(rs:List Rule)(p:Nat),F4 rs p rs.length+2*rs.length<=p+most rs
 | [],_=>by show _+0<=_+0;exact aD _
 |r::l,p=>by show F4 l (p+oN r.tests) l.length+2*(l.length+1)<=p+(3+7*r.tests.length+most l);have h1:=O6 l (p+oN r.tests);have h2:=(Cz r.tests).2;omega
def Q9(hf:yJ f)(hm:kU f=true):((JL f (kH f)).map SS.fin).length<=10+most f.rules:=by
 have hnr:∀r∈f.rules,r.nr<4294967296:=λr hr=>(hf.r r hr).n
 obtain⟨-,hw,hl,-,hT⟩:=nI hm hnr;have hp:=xu.Ai hw;rw[aS,AV];have h1:=O6 f.rules (dP f (kH f)+1);have h2:dP f (kH f)<=5+(1+2*f.rules.length):=by
  unfold dP rank;have h3:=Yi (sK f) hp 0;have h4:oL f.jh<=5:=by unfold oL;split<;>omega
  rw[bZ];have h5:((kH f).filter inner).length<=2*f.rules.length:=by unfold kH;rw[h3];omega
  split<;>omega
 unfold nP;omega
end mJ
def sq(h:zP:=by simp only[bI,dh,dA,bL,zU,r3,aH,pJ,aO,bD,bS,eU,SS.mp,dN,Option.map_none,r4,r6]):zP:=h
namespace kN
open jO (Sy gB eH iM)
open mV
def mkS(T:Tg):List Nat->Nat->List SS
 | [],_=>[]
 |t::r,i=>iJ 21 t T (.pl (i+2))::mkS T r (i+1)
def hS(T:Tg)(ks:List Nat):List SS:=iL 4::mkS T ks 0
def WC(T:Tg):∀(ks:List Nat)(i:Nat),(mkS T ks i).length=ks.length
 | [],_=>rfl
 |_::r,i=>by simp[mkS,WC T r (i+1)]
def WH(T:Tg)(t:Nat):∀(ks:List Nat)(i:Nat),mkS T (ks++[t]) i=mkS T ks i++[iJ 21 t T (.pl (i+ks.length+2))]
 | [],_=>rfl
 |x::r,i=>by simp only[dh,mkS,WH T t r (i+1),aO];rw[show i+1+r.length+2=i+(r.length+1)+2 from aq]
def WB(T:Tg)(b p:Nat):∀(ks:List Nat)(i:Nat),(mkS T ks i).map (SS.mp (Tg.res b p))=mkS (T.res b p) ks i
 | [],_=>rfl
 |x::r,i=>by simp[mkS,WB T b p r (i+1),SS.mp,Tg.res]
def WG(p:Nat):∀(ks:List Nat)(i:Nat),(mkS (.pl p) ks i).map SS.fin=mkC (p:Int) ks i
 | [],_=>rfl
 |x::r,i=>by simp only[mkS,mkC,bS,WG p r (i+1),SS.fin,Tg.n];rw[aN az]
def pJ(T:Tg)(ks:List Nat):(hS T ks).length=ks.length+1:=by simp[hS,WC]
def zU(T:Tg)(b p:Nat)(ks:List Nat):(hS T ks).map (SS.mp (Tg.res b p))=hS (T.res b p) ks:=by simp only[hS,bS,WB];rfl
def UL(p:Nat)(ks:List Nat):(hS (.pl p) ks).map SS.fin=⟨32,4,0,0⟩::mkC (p:Int) ks 0:=by simp only[hS,bS,WG];rfl
def aj5(T:Tg)(ks:List Nat)(t b:Nat)(hb:T.res b (ks+2)=T):(hS T ks++[iJ 21 t T (.lb b)]).map (SS.mp (Tg.res b (hS T ks++[iJ 21 t T (.lb b)]).length))=hS T (ks++[t]):=by
 have hl:(hS T ks++[iJ 21 t T (.lb b)]).length=ks.length+2:=by rw[aH,pJ];rfl
 rw[hl,bL,zU,hb];simp only[hS,WH,dh,bS,eU,SS.mp,dN,hb,cO];rw[show Tg.res b (ks+2) (.lb b)= .pl (ks+2)from aV rfl]
def abH(ks:List Nat)(K A:Nat)(h:A≠K)(la:Int)(hla:la<0):((((hS (.lb A) ks).map (SS.mp (Tg.res K (hS (.lb A) ks).length))++[iR 2147483648]).map (SS.mp (Tg.res A ((hS (.lb A) ks).map (SS.mp (Tg.res K (hS (.lb A) ks).length))++[iR 2147483648]).length))++[iR 2147418112]).map SS.fin)=EG ks la:=by
 have e1:Tg.res K (hS (.lb A) ks).length (.lb A)= .lb A:=aN h;have e2:∀p,Tg.res A p (.lb A)= .pl p:=λp=>aV rfl
 rw[zU,e1];simp only[bL,zU,e2,UL,aH,pJ,bS,eU,aO,bD];unfold EG mid ends;rw[aV hla,aV hla,show ks.length+1+(0+1)=ks.length+0+2 from aq,dA,dh,dh,bI]
 rfl
abbrev jK(tok on K:Nat):SS:=iJ 21 tok (.lb on) (.lb K)
def O7(ks:List Nat)(K A on tok:Nat)(h:A≠K)(h1:A≠on)(h2:K≠on)(la:Int)(hla:¬la<0)(arF:tok=qD la.toNat)(jj:SS)(hjj:jj=if la=2 then iJ 69 1073741824 (.lb A) (.lb K)else iJ 69 1073741824 (.lb K) (.lb A))(E1 E2 E3:List SS)(hE1:E1=(hS (.lb A) ks++[jK tok on K]).map (SS.mp (Tg.res on (hS (.lb A) ks++[jK tok on K]).length)))(hE2:E2=(E1++[iL 0]++[jj]).map (SS.mp (Tg.res K (E1++[iL 0]++[jj]).length)))(hE3:E3=(E2++[iR 2147483648]).map (SS.mp (Tg.res A (E2++[iR 2147483648]).length))):(E3++[iR 2147418112]).map SS.fin=EG ks la:=by
 have r0:∀p,Tg.res on p (.lb A)= .lb A:=λp=>aN h1
 have r1:∀p,Tg.res on p (.lb K)= .lb K:=λp=>aN h2
 have r2:∀p,Tg.res on p (.lb on)= .pl p:=λp=>aV rfl
 have r3:∀p,Tg.res K p (.lb A)= .lb A:=λp=>aN h
 have r4:∀p,Tg.res K p (.lb K)= .pl p:=λp=>aV rfl
 have r5:∀p,Tg.res A p (.lb A)= .pl p:=λp=>aV rfl
 have r6:∀b p q,Tg.res b p (.pl q)= .pl q:=λ_ _ _=>rfl
 have f1:E1=hS (.lb A) ks++[iJ 21 tok (.pl (ks+2)) (.lb K)]:=by rw[hE1,bL,zU,r0,aH,pJ];simp only[jK,bS,eU,SS.mp,dN,r1,r2,aO,bD]
 have f2:E2=hS (.lb A) ks++[iJ 21 tok (.pl (ks+2)) (.pl (ks+4)),iL 0,if la=2 then iJ 69 1073741824 (.lb A) (.pl (ks+4))else iJ 69 1073741824 (.pl (ks+4)) (.lb A)]:=by
  rw[hE2,f1,hjj];by_cases h2:la=2
  ·rw[aV h2,aV h2];exact sq
  ·rw[aN h2,aN h2];exact sq
 rw[hE3,f2];unfold EG mid ends;rw[aN hla,aN hla,arF];have hn:ks.length+1+(0+1+1+1+1)=ks.length+3+2:=aq;by_cases h2:la=2
 ·simp only[aV h2,bI,dh,dA,bL,zU,r5,UL,aH,pJ,aO,bD,bS,eU,hn];simp only[SS.mp,dN,r5,r6]
  rfl
 ·simp only[aN h2,bI,dh,dA,bL,zU,r5,UL,aH,pJ,aO,bD,bS,eU,hn];simp only[SS.mp,dN,r5,r6]
  rfl
end kN
end Go.Proofs.YtopfefhenfineaaGreat
