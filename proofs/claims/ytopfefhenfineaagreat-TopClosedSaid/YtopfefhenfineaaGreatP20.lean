import Derived.Test.YtopfefhenfineaaGreatP18
set_option linter.all false
set_option maxRecDepth 100000
set_option maxHeartbeats 4000000
namespace Go.Proofs.YtopfefhenfineaaGreat
open Go.Proofs.Tryz Go.RowKit V
variable{zP:Prop}
def qe(h:zP:=by have HF:=ah (ak (gK.o.trans hx16) hrd);clear hx16 hrd hne;go_wp2_with fail;go_ret2;exact⟨v,rfl,HF.o⟩):zP:=h
def oR(h:zP:=by have hn:=HL7.o.2;rw[hE1];exact vU.mono (λx=>⟨λh=>by rcases h.1 with h1|h1;exact h1;exact absurd h1 h.2,λh=>⟨.inl h,λe=>hn (e▸h)⟩⟩)):zP:=h
namespace kN
open jO (Sy gB eH iM wT encI jX BH)
open mV aaE
def GO(K A:Nat)(b:Nat):Prop:=b=K\/b=A
def Ih(ts:List Int)(k:Nat):Bool:=ts.contains (k:Int)
def asW(m:Nat->Bool)(w:ay)(e:Ending)(w':ay):Prop:= ∃v,e= .returned (.tuple #[v,.int .i64 0])/\Ext w w'/\Rd w' 4 gB v (nN m)
def p5{b p x:Nat}(h:x≠b):Tg.res b p (.lb x)= .lb x:=aN h
def Uv(m:Nat->Bool)(k:Nat):oH m (k+1)=if (m k&&((k==0||k==2)&& !(m 0&&m 2)))=true then(k:Int)else oH m k:=rfl
theorem Sv(v:aA)(ts:List Int)(hl:ts.length<=1000)(hb:ts.any wT=false)(hne:0<ts.length)(w:ay)(hv:Rd w 1 encI v ts):Calls prog 175 #[v] w (asW (Ih ts) w):=by
 have hA:=BH v ts aq w hv;rw[hb]at hA;have HV:=ah hv;obtain⟨a,c,rfl,hac,-⟩:=jX hv;have hp:((ts:Int)==0)=false:=by rw[bK];omega
 have hC:=λ(x:Nat) W (hx:Ext w W)=>sI (.slice a ts c) ts (x:Int) aq W (hv.ext hx)
 have hC2:∀(x:Nat) W (hx:Ext w W),Calls prog 24 #[.slice a ts c,.int .i64 x] W λe w'=>e= .returned (.bool (Ih ts x))/\Ext W w':=hC
 clear hv hC;generalize Ih ts=m at *;have pQ:=ah hA;have Hhb:=ah hb;have aeq:=ah hC2;clear hA hb hC2;go_in;go_wp2_with fail;refine ap pQ.o ?_;intro w1 hx1;go_wp2_with fail;have hsw:=(SW.start w1).label (.int .i64 0);have hsz:(w1.alloc (.cells #[.slice none 0 0,.slice none 0 0] 336)).heap.size=w1.heap.size+1:=aE;rw[hsz]at hsw;have ajD:=hsw.1.label (.int .i64 0);have hsz2:((w1.alloc (.cells #[.slice none 0 0,.slice none 0 0] 336)).alloc (.cells #[.int .i64 0] 339)).heap.size=w1.heap.size+2:=aE;rw[hsz2]at ajD;have hs0:=ajD.1.mono (O':=GO (w1+1) (w1.heap.size+2)) (λb=>by unfold GO;simp);obtain⟨W0,hW0⟩:∃W0,W0=((w1.alloc (.cells #[.slice none 0 0,.slice none 0 0] 336)).alloc (.cells #[.int .i64 0] 339)).alloc (.cells #[.int .i64 0] 339):=⟨_,rfl⟩;rw[<-hW0]at hs0⊢;clear hW0 hsw ajD hsz hsz2;have HS0:=ah hs0;have gK:=ah hx1;clear hs0 hx1;refine ap (SW.mO HS0.o aE 4) ?_;rintro w2 ⟨hs2,-⟩;have HS2:=ah hs2;have jm:=ah (gK.o.trans hs2.I4);clear hs2;obtain⟨bo,JK⟩:∃bo,bo=(m 0&&m 2):=⟨_,rfl⟩;have ala:=ah JK;clear JK;go_upto_region 5 with fail;go_cut [7] (λx wx=>x= .bool bo/\Ext w2 wx)
 case first=>
  go_wp2_with fail;refine ap (aeq.o 0 w2 jm.o) ?_;intro w3 hx3;have kg:=ah hx3;clear hx3;cases hm0:m 0
  case false=>have ak3:=ah hm0;clear hm0;go_wp2_with fail;go_meet;exact⟨by rw[ala.o,ak3.o];rfl,kg.o⟩
  case true=>have ak3:=ah hm0;clear hm0;go_wp2_with fail;refine ap (aeq.o 2 w3 (jm.o.trans kg.o)) ?_;intro w4 hx4;go_wp2_with fail;go_meet;exact⟨by rw[ala.o,ak3.o];rfl,kg.o.trans hx4⟩
 case rest=>
  obtain⟨rfl,hx4⟩:=hcut;have Ot:=ah (HS2.o.ext hx4);have Ck:=ah (jm.o.trans hx4);clear hx4;go_wp2_with fail;refine(xg _).mono ?_;rintro e w5 ⟨g,cap,rfl,hx5,⟨cur,hg5⟩,hcur⟩;have yS:=ah (Ot.o.ext hx5);have kM:=ah (Ck.o.trans hx5);have JV:=ah hg5;have HC5:=ah hcur;clear hx5 hg5 hcur;go_wp2_with fail;go_loopw [40,8] (λi la wr=>∃k:Nat,k<=6/\i= .int .i64 k/\la= .int .i64 (oH m k)/\SW w1 w1 (GO (w1+1) (w1.heap.size+2)) (hS (.lb (w1+2)) (chain m k)) wr/\WT w5 wr) (λi _ _=>6-(intOf i).toNat)
  case atStart=>exact⟨0,aq,rfl,rfl,yS.o,WT.refl _⟩
  case round=>
   obtain⟨k,hk,rfl,rfl,hsr,htr⟩:=hrel;have hxr:=gK.o.trans hsr.I4;have hlen:=aak m k;have HSR:=ah hsr;have HTR:=ah htr;have HXR:=ah hxr;by_cases hlt:k<6
   ·have c0:wr.cell? ⟨g,k,none⟩=some (.int .i64 (k:Int)):=by have h1:=htr.kept g cur _ _ JV.o az az az az;have h2:=HC5.o k hlt;unfold World.cell? at h2⊢;dsimp only at h2⊢;rw[h1];rw[JV.o]at h2;exact h2
    have hla:=Uv m k;have hch:=Va m k;clear hsr htr hxr;cases hmk:m k
    case false=>
     have e1:oH m (k+1)=oH m k:=by rw[hla,hmk];rfl
     have e2:chain m (k+1)=chain m k:=by
      have:Qz m k=false:=by unfold Qz;rw[hmk];rfl
      rw[hch,this];simp
     have ag6:=ah hla;have apw:=ah hch;clear hla hch;have He1:=ah e1;have S4:=ah e2;have ag5:=ah hmk;clear e1 e2 hmk;go_wp2_with fail;refine ap (aeq.o k wr HXR.o) ?_;intro w6 hx6;rw[ag5.o];have sD:=ah hx6;clear hx6;go_wp2_with fail;go_roundw
     case rel=>exact⟨k+1,aq,bm,by rw[He1.o],by rw[S4.o];exact HSR.o.ext sD.o,HTR.o.trans (WT.lU sD.o)⟩
     case measure=>exact gO
    case true=>
     have hT:=λW=>pX (k:Int) W
     have htk:A3 (k:Int)=(qD k,0):=by unfold A3 qD;rw[aV aq,dR]
     rw[htk]at hT;dsimp only at hT;have hcase:(Qz m k=true/\oH m (k+1)=oH m k/\((k≠0/\k≠2)\/(k=0/\bo=true)))\/(Qz m k=false/\((k=2/\bo=true/\oH m (k+1)=oH m k)\/((k=0\/k=2)/\bo=false/\oH m (k+1)=(k:Int)))):=by
      rw[hla];unfold Qz;rw[<-ala.o,hmk];by_cases q0:k=0
      ·subst q0;cases bo<;>simp
      ·by_cases q2:k=2
       ·subst q2;cases bo<;>simp
       ·refine .inl ⟨by simp[q0,q2],by simp[q0,q2],.inl ⟨q0,q2⟩⟩
     generalize qD k=tk at *;have ag6:=ah hla;have ag5:=ah hmk;clear hla hmk;have vV:=ah hT;have Jt:=ah htk;clear hT htk;rcases hcase with⟨hin,e1,hc⟩|⟨hin,hc⟩
     ·have e2:chain m (k+1)=chain m k++[tk]:=by rw[hch,hin];rfl
      have apw:=ah hch;have He1:=ah e1;clear hch e1;have S4:=ah e2;have ats:=ah hin;clear e2 hin;have hc2:(((k:Int) !=0)=true/\((k:Int) !=2)=true)\/(((k:Int) !=0)=false/\((k:Int)==0)=true/\bo=true):=by
       rcases hc with⟨q0,q2⟩|⟨rfl,q⟩
       ·exact .inl ⟨by simpa using q0,by simp;omega⟩
       ·exact .inr ⟨rfl,rfl,q⟩
      have EW:=ah hc;clear hc;rcases hc2 with⟨q0,q2⟩|⟨q0,q1,rfl⟩
      all_goals
       go_wp2_with fail;refine ap (aeq.o k wr HXR.o) ?_;intro w6 hx6;rw[ag5.o];have sD:=ah hx6;clear hx6;go_wp2_with fail;refine ap (vV.o w6) ?_;intro w7 hx7;have DY:=ah (sD.o.trans hx7);have HL7:=ah ((HSR.o.ext (sD.o.trans hx7)).label (.int .i64 0));clear hx7;go_wp2_with fail;refine ap (SW.jL HL7.o.1 (by rw[pJ];omega) 21 tk (w1+2) w7 (.inl (.inr rfl)) (.inr rfl)) ?_;rintro w8 ⟨Dc,FD⟩;have S5:=ah Dc;have HT8:=ah ((HTR.o.trans (WT.lU DY.o)).trans (WT.after _ FD));clear Dc FD;go_wp2_with fail;refine ap (SW.iy S5.o (b:=w7.heap.size) (.inr rfl)) ?_;rintro w9 ⟨vU,ht9⟩;have rX:SW w1 w1 (GO (w1+1) (w1.heap.size+2)) (hS (.lb (w1+2)) (chain m k++[tk])) w9:=by have hn:=HL7.o.2;rw[aj5 (.lb (w1+2)) (chain m k) tk w7 (p5 (λe=>hn (.inr e.symm)))]at vU;exact vU.mono (λx=>⟨λh=>by rcases h.1 with h1|h1;exact h1;exact absurd h1 h.2,λh=>⟨.inl h,λe=>hn (e▸h)⟩⟩)
       have HS9:=ah rX;have HT9:=ah (HT8.o.trans ht9);clear vU ht9 rX;go_wp2_with fail;go_roundw
       case rel=>exact⟨k+1,aq,bm,by rw[He1.o],by rw[S4.o];exact HS9.o,HT9.o⟩
       case measure=>simp[intOf];omega
     ·have e2:chain m (k+1)=chain m k:=by rw[hch,hin];simp
      have apw:=ah hch;have S4:=ah e2;have ats:=ah hin;clear hch e2 hin;have hc2:(((k:Int) !=0)=true/\((k:Int) !=2)=false/\((k:Int)==0)=false/\bo=true/\oH m (k+1)=oH m k)\/(((k:Int) !=0)=true/\((k:Int) !=2)=false/\bo=false/\oH m (k+1)=(k:Int))\/(((k:Int) !=0)=false/\bo=false/\oH m (k+1)=(k:Int)):=by
       rcases hc with⟨rfl,q,q1⟩|⟨rfl|rfl,q,q1⟩
       ·exact .inl ⟨rfl,rfl,rfl,q,q1⟩
       ·exact .inr (.inr ⟨rfl,q,q1⟩)
       ·exact .inr (.inl ⟨rfl,rfl,q,q1⟩)
      have EW:=ah hc;clear hc;rcases hc2 with⟨q0,q2,q3,rfl,e1⟩|⟨q0,q2,rfl,e1⟩|⟨q0,rfl,e1⟩
      all_goals
       have HE1:=ah e1;clear e1;go_wp2_with fail;refine ap (aeq.o k wr HXR.o) ?_;intro w6 hx6;rw[ag5.o];have sD:=ah hx6;clear hx6;go_wp2_with fail;refine ap (vV.o w6) ?_;intro w7 hx7;have DY:=ah (sD.o.trans hx7);clear hx7;go_wp2_with fail;go_roundw
       case rel=>exact⟨k+1,aq,bm,by rw[HE1.o],by rw[S4.o];exact HSR.o.ext (DY.o.alloc _),HTR.o.trans (WT.lU (DY.o.alloc _))⟩
       case measure=>simp[intOf];omega
   ·obtain rfl:k=6:=aq;clear hsr htr hxr;have hgl:nN m=EG (chain m 6) (oH m 6):=rfl;rcases Qr m with hla|hla|hla
    ·rw[hla]at hgl⊢;have aek:=ah hgl;have ag6:=ah hla;clear hgl hla;go_wp2_with fail;refine ap (SW.iy HSR.o (b:=w1.heap.size+1) (.inl rfl)) ?_;rintro w6 ⟨hs6,-⟩;have HS6:=ah hs6;clear hs6;go_wp2_with fail;refine ap (SW.lD HS6.o (by simp[pJ];omega) 2147483648) ?_;rintro w7 ⟨hs7,-⟩;have JU:=ah hs7;clear hs7;go_wp2_with fail;refine ap (SW.iy JU.o (b:=w1.heap.size+2) ⟨.inr rfl,aq⟩) ?_;rintro w8 ⟨Dc,-⟩;have S5:=ah Dc;clear Dc;go_wp2_with fail;refine ap (SW.lD S5.o (by simp[pJ];omega) 2147418112) ?_;rintro w9 ⟨vU,-⟩;have HS9:=ah vU;clear vU;go_wp2_with fail;refine(SW.lY HS9.o (by simp[pJ];omega) (λb hb=>by rcases hb.1.1 with h|h;exact hb.1.2 h;exact hb.2 h)).mono ?_;rintro e Yf ⟨v,rfl,Zx,hrd⟩;rw[abH (chain m 6) (w1+1) (w1.heap.size+2) aq (-1) az,<-aek.o]at hrd;have HF:=ah (ak (gK.o.trans Zx) hrd);clear Zx hrd;go_wp2_with fail;go_ret2;exact⟨v,rfl,HF.o⟩
    ·have hT:=λW=>pX 0 W
     rw[show A3 0=(qD 0,0)from rfl]at hT;dsimp only at hT;have htk:qD 0=qD (Int.toNat 0):=rfl;generalize qD 0=tk at hT htk;rw[hla]at hgl⊢;have aek:=ah hgl;have ag6:=ah hla;clear hgl hla;have vV:=ah hT;have Jt:=ah htk;clear hT htk;go_wp2_with fail;have HL7:=ah (HSR.o.label (.int .i64 0));refine ap (vV.o _) ?_;intro w7 hx7;have JU:=ah (HL7.o.1.ext hx7);clear hx7;go_wp2_with fail;refine ap (SW.jL JU.o (by rw[pJ];omega) 21 tk wr (w1+1) (.inr rfl) (.inl (.inl rfl))) ?_;rintro w8 ⟨Dc,-⟩;have S5:=ah Dc;clear Dc;go_wp2_with fail;refine ap (SW.iy S5.o (b:=wr.heap.size) (.inr rfl)) ?_;rintro w9 ⟨vU,-⟩;obtain⟨E1,hE1⟩:∃E1,E1=(hS (.lb (w1+2)) (chain m 6)++[jK tk wr (w1+1)]).map (SS.mp (Tg.res wr (hS (.lb (w1+2)) (chain m 6)++[jK tk wr (w1+1)]).length)):=⟨_,rfl⟩;have hl1:E1.length<=10:=by rw[hE1];simp[pJ];omega
     have rX:SW w1 w1 (GO (w1+1) (w1.heap.size+2)) E1 w9:=oR
     have HS9:=ah rX;have HE1:=ah hE1;clear vU rX hE1;go_wp2_with fail;refine ap (SW.mO HS9.o aq 0) ?_;rintro Yf ⟨rX,-⟩;have VF:=ah rX;clear rX;go_wp2_with fail;refine ap (SW.jL VF.o bp 69 1073741824 (w1+1) (w1.heap.size+2) (.inl rfl) (.inr rfl)) ?_;rintro w11 ⟨acV,-⟩;have alt:=ah acV;clear acV;go_wp2_with fail;refine ap (SW.iy alt.o (b:=w1.heap.size+1) (.inl rfl)) ?_;rintro w12 ⟨acU,-⟩;have als:=ah acU;clear acU;go_wp2_with fail;refine ap (SW.lD als.o bp 2147483648) ?_;rintro w13 ⟨acT,-⟩;have alr:=ah acT;clear acT;go_wp2_with fail;refine ap (SW.iy alr.o (b:=w1.heap.size+2) ⟨.inr rfl,aq⟩) ?_;rintro w14 ⟨acS,-⟩;have alq:=ah acS;clear acS;go_wp2_with fail;refine ap (SW.lD alq.o bp 2147418112) ?_;rintro w15 ⟨acR,-⟩;have alp:=ah acR;clear acR;go_wp2_with fail;refine(SW.lY alp.o bp (λb hb=>by rcases hb.1.1 with h|h;exact hb.1.2 h;exact hb.2 h)).mono ?_;rintro e w16 ⟨v,rfl,hx16,hrd⟩;have hne:=HL7.o.2;rw[O7 (chain m 6) (w1+1) (w1.heap.size+2) wr tk aq (λe=>hne (.inr e.symm)) (λe=>hne (.inl e.symm)) 0 az Jt.o (iJ 69 1073741824 (.lb (w1+1)) (.lb (w1+2))) (aN az).symm E1 _ _ HE1.o rfl rfl,<-aek.o]at hrd;exact qe
    ·have hT:=λW=>pX 2 W
     rw[show A3 2=(qD 2,0)from rfl]at hT;dsimp only at hT;have htk:qD 2=qD (Int.toNat 2):=rfl;generalize qD 2=tk at hT htk;rw[hla]at hgl⊢;have aek:=ah hgl;have ag6:=ah hla;clear hgl hla;have vV:=ah hT;have Jt:=ah htk;clear hT htk;go_wp2_with fail;have HL7:=ah (HSR.o.label (.int .i64 0));refine ap (vV.o _) ?_;intro w7 hx7;have JU:=ah (HL7.o.1.ext hx7);clear hx7;go_wp2_with fail;refine ap (SW.jL JU.o (by rw[pJ];omega) 21 tk wr (w1+1) (.inr rfl) (.inl (.inl rfl))) ?_;rintro w8 ⟨Dc,-⟩;have S5:=ah Dc;clear Dc;go_wp2_with fail;refine ap (SW.iy S5.o (b:=wr.heap.size) (.inr rfl)) ?_;rintro w9 ⟨vU,-⟩;obtain⟨E1,hE1⟩:∃E1,E1=(hS (.lb (w1+2)) (chain m 6)++[jK tk wr (w1+1)]).map (SS.mp (Tg.res wr (hS (.lb (w1+2)) (chain m 6)++[jK tk wr (w1+1)]).length)):=⟨_,rfl⟩;have hl1:E1.length<=10:=by rw[hE1];simp[pJ];omega
     have rX:SW w1 w1 (GO (w1+1) (w1.heap.size+2)) E1 w9:=oR
     have HS9:=ah rX;have HE1:=ah hE1;clear vU rX hE1;go_wp2_with fail;refine ap (SW.mO HS9.o aq 0) ?_;rintro Yf ⟨rX,-⟩;have VF:=ah rX;clear rX;go_wp2_with fail;refine ap (SW.jL VF.o bp 69 1073741824 (w1+2) (w1.heap.size+1) (.inr rfl) (.inl rfl)) ?_;rintro w11 ⟨acV,-⟩;have alt:=ah acV;clear acV;go_wp2_with fail;refine ap (SW.iy alt.o (b:=w1.heap.size+1) (.inl rfl)) ?_;rintro w12 ⟨acU,-⟩;have als:=ah acU;clear acU;go_wp2_with fail;refine ap (SW.lD als.o bp 2147483648) ?_;rintro w13 ⟨acT,-⟩;have alr:=ah acT;clear acT;go_wp2_with fail;refine ap (SW.iy alr.o (b:=w1.heap.size+2) ⟨.inr rfl,aq⟩) ?_;rintro w14 ⟨acS,-⟩;have alq:=ah acS;clear acS;go_wp2_with fail;refine ap (SW.lD alq.o bp 2147418112) ?_;rintro w15 ⟨acR,-⟩;have alp:=ah acR;clear acR;go_wp2_with fail;refine(SW.lY alp.o bp (λb hb=>by rcases hb.1.1 with h|h;exact hb.1.2 h;exact hb.2 h)).mono ?_;rintro e w16 ⟨v,rfl,hx16,hrd⟩;have hne:=HL7.o.2;rw[O7 (chain m 6) (w1+1) (w1.heap.size+2) wr tk aq (λe=>hne (.inr e.symm)) (λe=>hne (.inl e.symm)) 2 az Jt.o (iJ 69 1073741824 (.lb (w1+2)) (.lb (w1+1))) (aV rfl).symm E1 _ _ HE1.o rfl rfl,<-aek.o]at hrd;exact qe
end kN
open Go.ChangeShapes Go.WideShapes Go.ChangeAt
namespace kN
open jO
def am5(s:Sy):Bool:=decide (s.c<65536)&&decide (s.k<4294967296)&&decide (0<=s.th)&&decide (s.th<=1000)&&decide (0<=s.el)&&decide (s.el<=1000)
def UN(m:Nat->Bool):(nN m).all am5=true:=by rw[LC];exact mw
def ZK(m:Nat->Bool):∀s∈nN m,RO s:=λs hs=>by have h:=List.all_eq_true.1 (UN m) s hs;simp only[am5,bA,dK]at h;obtain⟨⟨⟨⟨⟨h1,h2⟩,h3⟩,h4⟩,h5⟩,h6⟩:=h;exact⟨h1,h2,aq,aq,aq,aq⟩
end kN
end Go.Proofs.YtopfefhenfineaaGreat
