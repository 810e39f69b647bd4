import Derived.Test.YtopfefhenfineaaGreatP18
set_option linter.all false
set_option maxRecDepth 100000
set_option maxHeartbeats 4000000
namespace Go.Proofs.YtopfefhenfineaaGreat
open Go.Proofs.Tryz Go.RowKit V
attribute[local go_sem] Oper.semAt_some Option.isSome_some
namespace mJ
open mV
open jO (Sy gB eH)
open lC (Test Rule Filter yJ FV kU p6 kV mQ oD)
open Gd (j8 encI)
open xu (tC)
theorem arz(n:Nat)(h:n<=400)(w:ay):(Instr.makeSlice 33 (.int .i64 n) (.int .i64 n)).run prog w= .ok (.slice (some w) n n) (w.alloc (.cells (madeCells (Value.int .u32 0).cells (n*1)) 32)):=by obtain⟨i,h1,h2,h3,h4⟩:=jo ajq;have hr:=run_make (P:=prog) w 33 32 i _ underlying33 h1 h2 .i64 .i64 n n aq aq eS aq;rw[h3]at hr;simp only[dR]at hr;exact hr
theorem arA(n:Nat)(h:n<=400)(w:ay):(Instr.makeSlice 28 (.int .i64 n) (.int .i64 n)).run prog w= .ok (.slice (some w) n n) (w.alloc (.cells (madeCells (Value.int .i64 0).cells (n*1)) 3)):=by obtain⟨i,h1,h2,h3,h4⟩:=jo ajt;have hr:=run_make (P:=prog) w 28 3 i _ underlying28 h1 h2 .i64 .i64 n n aq aq eS aq;rw[h3]at hr;simp only[dR]at hr;exact hr
theorem VJ(f:Filter)(u:aA)(hf:yJ f)(hm:kU f=true)(w:ay)(hu:JO w 3 (FV w) u f.rules):Calls prog 178 #[.agg #[.int .i64 f.jh,u,.int .u32 f.dflt]] w λe w'=>∃v,e= .returned (.tuple #[v,.int .i64 0])/\Ext w w'/\Rd w' 4 gB v ((JL f (kH f)).map SS.fin):=by
 have hM:=λW (hx:Ext w W)=>oD f u hf W (mQ hx hu)
 rw[hm]at hM;obtain⟨a1,a2,hlen,-,hts⟩:=qV hm;obtain⟨hup,hwhole,anB,hsw,aor⟩:=nI hm (λr hr=>(hf.r r hr).n);have huR:=hu;obtain⟨a,c,rfl,hac,hcell⟩:=p6 hu;have hmu:=arz f.rules hlen;have hmi:=arA f.rules hlen;have Jz:=ah hM;have tF:=ah hm;clear hM hm;have apb:=ah hts;have ag0:=ah hup;clear hts hup;have aqQ:=ah hwhole;have ape:=ah anB;clear hwhole anB;have aAr:=ah hsw;have FW:=ah aor;clear hsw aor;have yx:=ah hcell;have aAn:=ah huR;have Ea:=ah hf;clear hcell huR hf hu;go_in;go_wp2_with fail;refine ap (Jz.o _ ((aj _).alloc _)) ?_;intro w0 hx0;have anp:=((aj w).alloc (.cells #[.int .i64 f.jh,.slice a f.rules c,.int .u32 f.dflt] 73)).trans hx0;have hbx:=aI (aC w (.cells #[.int .i64 f.jh,.slice a f.rules c,.int .u32 f.dflt] 73)) hx0;have HX0:=ah anp;have yO:=ah hbx;have b0:w0.cell? w=some (.int .i64 f.jh):=aG hbx 0;have b1:w0.cell? ⟨w,1,none⟩=some (.slice a f.rules c):=aG hbx 1;have b2:w0.cell? ⟨w,2,none⟩=some (.int .u32 f.dflt):=aG hbx 2;have hst:=(SW.start w0).label (.int .i64 0);rw[aR]at hst;have hs1:=SW.mono (O':=λb=>b=w0.heap.size+1) hst.1 (λb=>⟨λh=>h.elim (λh=>h.elim) id,λh=> .inr h⟩);obtain⟨nt,hnt⟩:∃nt,nt=w0.heap.size+1:=⟨_,rfl⟩;have HNT:=ah hnt;obtain⟨W1,hW1⟩:∃W1,W1=(w0.alloc (.cells #[.slice none 0 0,.slice none 0 0] 336)).alloc (.cells #[.int .i64 0] 339):=⟨_,rfl⟩;rw[<-hW1]at hs1;replace b0:=hs1.I4.cell b0;replace b1:=hs1.I4.cell b1;replace b2:=hs1.I4.cell b2;have A9:=ah hs1;have HW1:=ah hW1;clear hst hs1 hx0 anp hbx hnt hW1;go_upto_region 4 with fail;rw[<-HW1.o];go_wp2_with fail;refine ap (YT A9.o f.jh a1 a2 _ rfl) ?_;rintro w1 ⟨hs2,-⟩;have hx2:=hs2.I4;rw[<-HNT.o]at hs2;simp only[<-HNT.o];clear b0 b1 b2;have hbx:=aI yO.o hx2;have b0:=aG hbx 0;have b1:=aG hbx 1;have b2:=aG hbx 2;simp at b0 b1 b2;have b1a:=λo=>((aj w1).alloc o).cell b1
 have HS2:=ah hs2;clear hs2 hx2 A9;go_upto_region 5 with fail;go_region
 focus
  obtain⟨w2,hw2⟩:∃w2,w2=((w1.alloc (.cells (madeCells #[Value.int .u32 0] f.rules) 32)).alloc (.cells (madeCells #[Value.int .i64 0] f.rules) 3)).drew:=⟨_,rfl⟩;have hX:Ext w1 w2:=by rw[hw2];exact(((aj w1).alloc _).alloc _).drew
  obtain⟨gW,hgW,hRW⟩:∃g,g=w1.heap.size+1/\R1 w2 w1 3 g encI (List.replicate f.rules 0) f.rules.length:=⟨_,rfl,by have:=(acm (w1.alloc (.cells (madeCells #[Value.int .u32 0] f.rules) 32)) f.rules w1 hlen ev).ext ((aj _).drew);rw[aR]at this;rw[hw2];exact this⟩
  obtain⟨gN,hgN,hRN⟩:∃g,g=w1.heap.size/\R1 w2 w1 32 g j8 (List.replicate f.rules 0) f.rules.length:=⟨_,rfl,by rw[hw2];exact((ack w1 f.rules w1 hlen (aD _)).ext ((aj _).alloc (.cells (madeCells #[Value.int .i64 0] f.rules) 3))).ext ((aj _).drew)⟩
  have hne:gN≠gW:=aq;have hNl:w1.heap.size<=gN/\w1.heap.size<=gW:=aq;rw[<-hw2,<-hgW,<-hgN];clear hgN hgW hw2
 rotate_left 1
 focus
  obtain⟨w2,hw2⟩:∃w2,w2=((w1.alloc (.cells (madeCells #[Value.int .i64 0] f.rules) 3)).alloc (.cells (madeCells #[Value.int .u32 0] f.rules) 32)).drew:=⟨_,rfl⟩;have hX:Ext w1 w2:=by rw[hw2];exact(((aj w1).alloc _).alloc _).drew
  obtain⟨gN,hgN,hRN⟩:∃g,g=w1.heap.size+1/\R1 w2 w1 32 g j8 (List.replicate f.rules 0) f.rules.length:=⟨_,rfl,by have:=(ack (w1.alloc (.cells (madeCells #[Value.int .i64 0] f.rules) 3)) f.rules w1 hlen ev).ext ((aj _).drew);rw[aR]at this;rw[hw2];exact this⟩
  obtain⟨gW,hgW,hRW⟩:∃g,g=w1.heap.size/\R1 w2 w1 3 g encI (List.replicate f.rules 0) f.rules.length:=⟨_,rfl,by rw[hw2];exact((acm w1 f.rules w1 hlen (aD _)).ext ((aj _).alloc (.cells (madeCells #[Value.int .u32 0] f.rules) 32))).ext ((aj _).drew)⟩
  have hne:gN≠gW:=aq;have hNl:w1.heap.size<=gN/\w1.heap.size<=gW:=aq;rw[<-hw2,<-hgN,<-hgW];clear hgN hgW hw2
 all_goals
  replace b0:=hX.cell b0;replace b1:=hX.cell b1;replace b2:=hX.cell b2;clear b1a;have hs0:((w2.alloc (.cells #[.int .i64 0] 339)).alloc (.cells #[.pointer (some w2)] 337)).cell? ⟨w,1,none⟩=some (.slice a f.rules c):=(((aj w2).alloc _).alloc _).cell b1;have hXa:=(hX.alloc (.cells #[.int .i64 0] 339)).alloc (.cells #[.pointer (some w2)] 337);have aj2:=((aj w2).alloc (.cells #[.int .i64 0] 339)).alloc (.cells #[.pointer (some w2)] 337);have hRL:=RL.one (w2.alloc (.cells #[.int .i64 0] 339)) w2 w1 (by rw[aR];have:=hX.size;omega);rw[aR]at hRL;have hLL:LL w1 ((w2.alloc (.cells #[.int .i64 0] 339)).alloc (.cells #[.pointer (some w2)] 337)) [w2.heap.size]:=⟨aE,λb hb=>by simp at hb;subst hb;exact⟨hX.size,_,aI (aC w2 _) ((aj _).alloc _)⟩⟩
  have HRN:=ah (hRN.ext aj2);have HRW:=ah (hRW.ext aj2);have HXa:=ah hXa;have HRL:=ah hRL;have HLL:=ah hLL;have Sk:=ah hne;have apE:=ah hNl;clear hne hNl hXa aj2 hRL hLL hRN hRW;go_wp2_with fail;go_loopw [43,8] (λi v8 wr=>∃(k:Nat) (fP:List Nat),k<=f.rules/\i= .int .i64 k/\fP.length=k+1/\Ext w1 wr/\R1 wr w1 32 gN j8 (fl (Li f) 0 k) f.rules.length/\R1 wr w1 3 gW encI (fl (Oc f) 0 k) f.rules.length/\LL w1 wr fP/\RL wr w1 v8 fP) (λi _ _=>f.rules.length-(intOf i).toNat)
  case atStart=>exact⟨0,[w2.heap.size],aq,rfl,rfl,HXa.o,by rw[Xo,p9];exact HRN.o,by rw[Xo,sP];exact HRW.o,HLL.o,HRL.o⟩
  case round=>
   obtain⟨k,fP,hk,rfl,hll,hx,hrn,hrw,hLL,hRL⟩:=hrel;have HX:=ah hx;have aeu:=ah hrn;have aet:=ah hrw;have aey:=ah hLL;have alu:=ah hRL;obtain⟨au,cu,rfl⟩:=bU hRL;clear hrn hrw hLL hRL HRN HRW HXa HRL HLL;by_cases hlt:k<f.rules
   ·obtain⟨b,o,ut,rfl,n1,n2,n3,hut⟩:=yx.o k hlt;obtain⟨at',ct,rfl,-,-⟩:=kV hut;have hxw:Ext w wr:=(HX0.o.trans HS2.o.I4).trans hx;replace n1:=hxw.cell n1;replace n2:=hxw.cell n2;replace n3:=hxw.cell n3;have hnl:(fl (Li f) 0 k).length=f.rules.length:=by rw[adg _ _ (by rw[p9];exact hk),p9]
    have hwl:(fl (Oc f) 0 k).length=f.rules.length:=by rw[adg _ _ (by rw[sP];exact hk),sP]
    have hng:(Li f)[k]'(by rw[p9];exact hlt)=f.rules[k].nr:=by simp[Li]
    have hwg:(Oc f)[k]'(by rw[sP];exact hlt)=(k:Int)+1:=by simp[Oc]
    obtain⟨z1,cN⟩:=aeu.o.cell jE k (by rw[hnl];exact hlt);obtain⟨z2,cW⟩:=aet.o.cell su k (by rw[hwl];exact hlt);obtain⟨fN,lN⟩:=aeu.o.frozen k;obtain⟨fW,lW⟩:=aet.o.frozen k;have hne1:=Sk.o;have hne2:gW≠gN:=λe=>Sk.o e.symm
    clear hut hxw hx;have hst:=Yz (k:=k) f.rules[k].nr ((k:Int)+1) (.cells #[.int .u32 (f.rules[k].nr:Int),.slice at' f.rules[k].tests.length ct,.int .u32 (f.rules[k].action:Int)] 110) (.cells #[.pointer (some ⟨wr+1,0,none⟩)] 337) HX.o aeu.o aet.o Sk.o apE.o.1 apE.o.2 aey.o alu.o (by rw[hnl];exact hlt) (by rw[hwl];exact hlt);obtain⟨t1,t2,t3,t4,t5⟩:=hst;have e1:=adf (Li f) 0 (k:=k) (by rw[p9];exact hlt);have e2:=adf (Oc f) 0 (k:=k) (by rw[sP];exact hlt);rw[hng]at e1;rw[hwg]at e2;rw[e1]at t2;rw[e2]at t3;have hlit:=gI Aa ((((wr.setCell ⟨gN,k,none⟩ (.int .u32 (f.rules[k].nr:Int))).setCell ⟨gW,k,none⟩ (.int .i64 ((k:Int)+1))).alloc (.cells #[.int .u32 (f.rules[k].nr:Int),.slice at' f.rules[k].tests.length ct,.int .u32 (f.rules[k].action:Int)] 110)).alloc (.cells #[.int .i64 0] 339)) [some (wr.heap.size+1)] 337 _ rfl;rw[aR,aR,size_set,size_set]at hlit;have hb1:=aL (aD w1) t1.size;have T1:=ah t1;have T2:=ah t2;have T3:=ah t3;have T4:=ah t4;have T5:=ah t5;have apq:=ah hlit;have aaK:=ah hb1;clear hlit hb1 t1 t2 t3 t4 t5 e1 e2 hng hwg hnl hwl
    go_wp2_with(at_builtin
                refine iX rfl (.tmp 58) (.tmp 61) _ rfl underlying359 ahz rfl az Aa adw w1 _ _ (fP.map some) [some (wr.heap.size+1)] rfl rfl (by have h:=T5.o;simp only[RL,aS]at h⊢;exact h) apq.o bp az aaK.o ?_;intro EN EJ w5 lM hg5;have AO:=hg5;have hra:=abG T1.o T2.o T3.o T4.o T5.o (by have h:=AO;simp only[aS]at h⊢;exact h);obtain⟨v1,v2,v3,v4⟩:=hra;have V1:=ah v1;have V2:=ah v2;have V3:=ah v3;have V4:=ah v4;have ZC:RL w5 w1 (.slice EN (fP+1) EJ) (fP++[wr.heap.size+1]):=by have h:=lM;unfold RL;simp only[bL,bS,eU,aH,aS,aO,bD]at h⊢;exact h
                have V5:=ah ZC;clear lM hg5 AO v1 v2 v3 v4 ZC)
    go_roundw
    case rel=>exact⟨k+1,fP++[wr.heap.size+1],aq,bm,by rw[aH,hll];rfl,V1.o,V2.o,V3.o,V4.o,by have h:=V5.o;rw[hll]at h;exact h⟩
    case measure=>simp[intOf];omega
   ·obtain rfl:k=f.rules.length:=aq;have hlp:=alu.o.lp aq;obtain⟨g,cg,hv,hLP⟩:=hlp;simp only[aU]at hv;obtain⟨rfl,-,rfl⟩:=hv;have hrN:Rd wr 1 j8 (.slice (some gN) f.rules f.rules) (Li f):=by have h:=aeu.o;rw[show fl (Li f) 0 f.rules.length=Li f by rw[<-p9 f];exact adh _ _]at h;have h2:=bY jE h;rw[p9]at h2;exact h2
    have hrW:Rd wr 1 encI (.slice (some gW) f.rules f.rules) (Oc f):=by have h:=aet.o;rw[show fl (Oc f) 0 f.rules.length=Oc f by rw[<-sP f];exact adh _ _]at h;have h2:=bY su h;rw[sP]at h2;exact h2
    have hnr:∀r∈f.rules,r.nr<4294967296:=λr hr=>(Ea.o.r r hr).n
    have hns:∀n∈Li f,n<4294967296:=λn hh=>by obtain⟨r,hr,rfl⟩:=dW.1 hh;exact hnr r hr
    have hOf:=Gd.kD _ _ (Li f) (Oc f) 0 (by rw[p9];omega) hns wr hrN hrW;rw[afM tF.o hnr]at hOf;have hBd:=λW u (hu:Gd.Own W wr u (sK f))=>xu.Ah u (sK f) (by have:=ape.o;omega) (Wh tF.o hnr) W (bY Gd.I8 hu)
    rw[Vd tF.o hnr]at hBd;dsimp only at hOf hBd;have hSL:=SW.labels (N:=λb=>b∈fP) HS2.o HX.o aey.o.each;have hnt:nt∉fP:=λhh=>by have h1:=(aey.o.each nt hh).1;have h2:=SW.olt HS2.o (b:=nt) rfl;omega
    have aoD:=acC (t:=kH f) hll aey.o.nd hnt;have atP:=ah hLP;have atM:=ah hOf;clear hLP hOf;have atX:=ah hBd;have atJ:=ah hSL;have ah9:=ah aoD;clear hBd hSL aoD hrN hrW hns hnr;go_wp2_with fail;refine atM.o.mono ?_;rintro e w3 ⟨us,rfl,hx3,hos⟩;have kg:=ah hx3;have HOS:=ah hos;clear hx3 hos;go_wp2_with fail;refine(atX.o _ _ HOS.o).mono ?_;rintro e w4 ⟨ut,rfl,hx4,hot⟩;have aov:=atJ.o.ext (kg.o.trans hx4);have aka:=atP.o.ext (kg.o.trans hx4)
    have hBr:=NR aov (by rw[wu];have:oL f.jh<=5:=by unfold oL;split<;>omega
                         omega) (kH f) FW.o.may (by have:=FW.o.len;omega) ut _ hot fP (λb hb=> .inr hb) _ g cu aka (λn hn hl=>by
     obtain⟨j,hj,rfl⟩:=List.mem_iff_getElem.1 hn;have:=FW.o.ways j hj hl;omega)
    rw[wu]at hBr;have apI:=ah hBr;have apF:=ah aka;clear hBr aka hx4 hot aov;go_wp2_with fail;rw[hll]at apI;refine ap apI.o ?_;rintro w5 ⟨hs5,ht5⟩;obtain⟨lab,hle⟩:∃lab:Nat->Nat,lab=λj=>fP.getD j 0:=⟨_,rfl⟩
    have ahP:L9 f (kH f) nt lab:=by rw[hle];exact ah9.o
    have hoe:∀b,((b=nt\/b∈fP)/\b≠lab 0)↔OE f nt lab 0 b:=λb=>by rw[hle];exact ab7 (t:=kH f) hll ah9.o b
    have HLB:=ah ahP;have atg:=ah hoe;clear hoe;have hlc:∀W,WT w5 W->∀j (hj:j<fP.length),W.cell? ⟨g,j,none⟩=some (.pointer (some ⟨lab j,0,none⟩)):=λW hW j hj=>by have h:=((apF.o.wt ht5).wt hW).cell j (by rw[aS];exact hj);rw[h,gQ,hle];dsimp only;rw[bQ,aJ hj];rfl
    have hbc:∀W,Ext w0 W->W.cell? ⟨w,1,none⟩=some (.slice a f.rules c)/\W.cell? ⟨w,2,none⟩=some (.int .u32 f.dflt):=λW hW=>⟨aG (aI yO.o hW) 1,aG (aI yO.o hW) 2⟩
    have hrc:∀W,Ext w0 W->∀k (hk:k<f.rules.length),∃b o u,a=some ⟨b,o,none⟩/\W.cell? ⟨b,o+k*3,none⟩=some (.int .u32 (f.rules[k].nr:Int))/\W.cell? ⟨b,o+k*3+1,none⟩=some u/\W.cell? ⟨b,o+k*3+2,none⟩=some (.int .u32 (f.rules[k].action:Int))/\Rd w0 4 lC.mg u f.rules[k].tests:=λW hW k hk=>by obtain⟨b,o,u,e,n1,n2,n3,n4⟩:=yx.o k hk;exact⟨b,o,u,e,(HX0.o.trans hW).cell n1,(HX0.o.trans hW).cell n2,(HX0.o.trans hW).cell n3,Rd.ext HX0.o n4⟩
    have hrb:=λk (hk:k<=f.rules.length)=>G9 (nt:=nt) (lab:=lab) tF.o FW.o hk
    obtain⟨row,hrow⟩:∃row,row=row0 f (kH f) nt lab:=⟨_,rfl⟩;have ZA:SW w0 w0 (λb=>b=nt\/b∈fP) row w5:=by rw[hrow,hle];exact hs5
    have hrl:=abK f (kH f) nt lab;rw[<-hrow]at hrl;have hrh:=YD FW.o HLB.o;rw[<-hrow]at hrh;have yS:=ah ZA;have c0:=hlc w5 (WT.refl w5) 0 aq;have hl0:lab 0∈fP:=by rw[hle];dsimp only;rw[bQ,aJ (show 0<fP.length from aq)];exact aW _
    have atp:=ah hlc;have apy:=ah hbc;clear hlc hbc;have atb:=ah hrc;have akX:=ah hrb;clear hrc hrb;have apg:=ah hrl;have akW:=ah hrh;have atq:=ah hl0;clear hrl hrh hl0 hs5 ZA hrow ht5 hle ahP;go_wp2_with fail;refine ap (SW.iy (b:=lab 0) yS.o (.inr atq.o)) ?_;rintro w6 ⟨hs6,Da⟩;have ajH:=hs6.mono atg.o;rw[apg.o]at ajH;have HS6:=ah ajH;have HT6:=ah Da;obtain⟨-,d2⟩:=apy.o w6 hs6.I4;clear hs6 ajH Da c0;go_wp2_with fail;refine ap (SW.lD HS6.o (by rw[aS,apg.o];have:=aoQ FW.o;omega) f.dflt) ?_;rintro w7 ⟨hs7,JJ⟩;rw[akW.o]at hs7;have JU:=ah hs7;have HT7:=ah (HT6.o.trans JJ);obtain⟨d1,-⟩:=apy.o w7 hs7.I4;clear hs7 JJ d2 yS HS6 HT6 HS2 HX aey alu aeu aet;go_wp2_with fail;go_loopw [91] (λi wr=>∃k:Nat,k<=f.rules/\i= .int .i64 k/\SW w0 w0 (OE f nt lab k) (He f (kH f) nt lab k) wr/\WT w5 wr) (λi _=>f.rules.length-(intOf i).toNat)
    case atStart=>exact⟨0,aq,rfl,JU.o,HT7.o⟩
    case round=>
     obtain⟨k,hk,rfl,hs,hwt⟩:=hrel;have S5:=ah hs;have HT8:=ah hwt;clear JU HT7;by_cases hlt:k<f.rules
     ·obtain⟨b,o,ut2,rfl,n1,n2,n3,hut⟩:=atb.o wr hs.I4 k hlt;obtain⟨at',ct,rfl,-,-⟩:=kV hut;have hk1:k+1<fP:=aq;have aok:(λb=>OE f nt lab k b) (lab (k+1)):= .inr ⟨k+1,aq,aq,rfl⟩;have hnw:=aC wr (.cells #[.int .u32 (f.rules[k].nr:Int),.slice at' f.rules[k].tests.length ct,.int .u32 (f.rules[k].action:Int)] 110);have hE9:Ext wr (wr.alloc (.cells #[.int .u32 (f.rules[k].nr:Int),.slice at' f.rules[k].tests.length ct,.int .u32 (f.rules[k].action:Int)] 110)):=(aj wr).alloc _;have hHr:=SW.iy (S5.o.ext hE9) aok;have hc9:=atp.o _ (hwt.trans (WT.lU hE9)) (k+1) hk1;have HE9:=ah hE9;have atQ:=ah hHr;have ath:=ah hnw;have as5:=ah hut;clear hHr hnw hut hs hwt aok hE9;go_wp2_with fail;refine ap atQ.o ?_;rintro w9 ⟨vU,ht9⟩;have ajG:=vU.mono (λb=>afP HLB.o hlt b);rw[wh _ _ _ _ hk]at ajG;have HS9:=ah ajG;have HT9:=ah ((HT8.o.trans (WT.lU HE9.o)).trans ht9);have hbk:=ht9.kept _ _ _ _ ath.o az az az az;have p0:w9.cell? wr=some (.int .u32 (f.rules[k].nr:Int)):=aG hbk 0;have p1:w9.cell? ⟨wr,1,none⟩=some (.slice at' f.rules[k].tests.length ct):=aG hbk 1;have p2:w9.cell? ⟨wr,2,none⟩=some (.int .u32 (f.rules[k].action:Int)):=aG hbk 2;clear vU ajG ht9 hbk hc9 n1 n2 n3;go_wp2_with fail;refine ap (jl HS9.o (by rw[aS];have:=akX.o k hk;omega) f.rules[k].nr f.rules[k].action f.rules[k].tests _ as5.o (apb.o _ (aW hlt)).1 (λt ht=>⟨(apb.o _ (aW hlt)).2 t ht,(Ea.o.r _ (aW hlt)).t t ht⟩)) ?_;rintro Yf ⟨rX,anw⟩;rw[aS,wh _ _ _ _ hk,YC FW.o HLB.o hlt]at rX;have VF:=ah rX;have at9:=ah (HT9.o.trans anw);clear rX anw p0 p1 p2;go_wp2_with fail;go_roundw
      case rel=>exact⟨k+1,aq,bm,VF.o,at9.o⟩
      case measure=>simp[intOf];omega
     ·obtain rfl:k=f.rules.length:=aq;have hwn:wP f (kH f) (f.rules+1)=nP f (kH f):=by unfold wP nP;rw[aN aq,jr]
      have ao7:=ah hwn;clear hwn hs hwt;go_wp2_with fail;refine ap (SW.iy (b:=nt) S5.o (.inl rfl)) ?_;rintro w9 ⟨vU,-⟩;rw[wh _ _ _ _ hk,ao7.o]at vU;have HS9:=ah vU;clear vU;go_wp2_with fail;refine ap (SW.lD HS9.o (by rw[aS];have:=akX.o _ hk;omega) 2147418112) ?_;rintro Yf ⟨rX,-⟩;rw[abJ FW.o]at rX;have VF:=ah rX;clear rX;go_wp2_with fail;refine(SW.lY VF.o (by rw[AV,<-ao7.o,<-wh f (kH f) nt lab hk];have:=akX.o _ hk;omega) (λb=>ai8 b)).mono ?_;rintro e w11 ⟨v,rfl,Zw,hrd⟩;have ali:=ah (HX0.o.trans Zw);have HRD:=ah hrd;clear Zw hrd;go_wp2_with fail
      first|go_ret2|go_ret
      exact⟨v,rfl,ali.o,HRD.o⟩
theorem aaU(f:Filter)(u:aA)(hf:yJ f)(hm:kU f=false)(w:ay)(hu:JO w 3 (FV w) u f.rules):Rt 178 #[.agg #[.int .i64 f.jh,u,.int .u32 f.dflt]] w (.tuple #[.slice none 0 0,.int .i64 210]):=by
 have hM:=λW (hx:Ext w W)=>oD f u hf W (mQ hx hu)
 rw[hm]at hM;obtain⟨av,cv,rfl,-,-⟩:=p6 hu;have Jz:=ah hM;have tF:=ah hm;clear hM hm hu;unfold Rt;go_in;go_wp2_with fail;refine ap (Jz.o _ ((aj _).alloc _)) ?_;intro w1 hx1;go_wp2_with fail
 first|go_ret2|go_ret
 exact lP
end mJ
end Go.Proofs.YtopfefhenfineaaGreat
