import Derived.Test.YtopfefhenfineaaGreatP9
set_option linter.all false
set_option maxRecDepth 100000
set_option maxHeartbeats 4000000
namespace Go.Proofs.YtopfefhenfineaaGreat
open Go.Proofs.Tryz Go.RowKit bh
attribute[local go_sem] Oper.semAt_some Option.isSome_some
namespace le
open m9
open jG (aD dI gQ)
open j7 (Test Rule Filter gI EU eT xW qY lD pK)
open Co (fV pO)
open vZ (nG)
theorem awT(n:Nat)(h:n<=400)(w:G):(Instr.makeSlice 33 (H n) (H n)).run prog w= .ok (E (some w) n n) (w.alloc (J (madeCells (Value.int .u32 0).cells (n*1)) 32)):=by obtain⟨i,h1,h2,T,af⟩:=sJ awU;have hr:=run_make (P:=prog) w 33 32 i _ underlying33 h1 h2 .i64 .i64 n n aE aE Lb aE;rw[T]at hr;simp only[kr]at hr;exact hr
theorem awV(n:Nat)(h:n<=400)(w:G):(Instr.makeSlice 28 (H n) (H n)).run prog w= .ok (E (some w) n n) (w.alloc (J (madeCells (Value.int .i64 0).cells (n*1)) 3)):=by obtain⟨i,h1,h2,T,af⟩:=sJ awW;have hr:=run_make (P:=prog) w 28 3 i _ underlying28 h1 h2 .i64 .i64 n n aE aE Lb aE;rw[T]at hr;simp only[kr]at hr;exact hr
theorem Yd(f:Filter)(u:K)(ai:gI f)(R:eT f=true)(w:G)(a6:mU w 3 (EU w) u f.rules):Calls prog 178 #[bg #[H f.i6,u,M f.dflt]] w λe F=>∃v,e=aI (bH #[v,H 0])/\Ext w F/\aS F 4 dI v ((lF f (iF f)).map bB.fin):=by
 have em:=λW (D:Ext w W)=>pK f u ai W (lD D a6)
 rw[R]at em;obtain⟨a1,a2,ey,-,wg⟩:=xY R;obtain⟨gd,agc,agd,Aj,agf⟩:=AP R (λr hr=>(ai.r r hr).n);have agh:=a6;obtain⟨a,c,rfl,ep,hG⟩:=xW a6;have aMN:=awT f.rules ey;have aMO:=awV f.rules ey;have pf:=z em;have gl:=z R;clear em R;have agi:=z wg;have Q8:=z gd;clear wg gd;have aMP:=z agc;have awX:=z agd;clear agc agd;have aMQ:=z Aj;have Ej:=z agf;clear Aj agf;have B6:=z hG;have aMR:=z agh;have s1:=z ai;clear hG agh ai a6;go_in;go_wp2_with fail;refine ak (pf.o _ ((O _).alloc _)) ?_;intro w0 d6;have agk:=((O w).alloc (J #[H f.i6,E a f.rules c,M f.dflt] 73)).trans d6;have hx:=aJ (bA w (J #[H f.i6,E a f.rules c,M f.dflt] 73)) d6;have tg:=z agk;have h4:=z hx;have b0:w0.cell? w=some (H f.i6):=aG hx 0;have b1:w0.cell? ⟨w,1,none⟩=some (E a f.rules c):=aG hx 1;have b2:w0.cell? ⟨w,2,none⟩=some (M f.dflt):=aG hx 2;have bU:=(cu.start w0).label (H 0);rw[dR]at bU;have dp:=cu.mono (vn:=λb=>b=w0.heap.size+1) bU.1 (λb=>⟨λh=>h.elim (λh=>h.elim) id,λh=> .inr h⟩);obtain⟨nt,Ek⟩:∃nt,nt=w0.heap.size+1:=⟨_,rfl⟩;have agl:=z Ek;obtain⟨az,b7⟩:∃az,az=(w0.alloc (J #[E none 0 0,E none 0 0] 336)).alloc (J #[H 0] 339):=⟨_,rfl⟩;rw[<-b7]at dp;replace b0:=dp.Kh.cell b0;replace b1:=dp.Kh.cell b1;replace b2:=dp.Kh.cell b2;have jp:=z dp;have sh:=z b7;clear bU dp d6 agk hx Ek b7;go_upto_region 4 with fail;rw[<-sh.o];go_wp2_with fail;refine ak (awY jp.o f.i6 a1 a2 _ rfl) ?_;rintro I ⟨eC,-⟩;have ag:=eC.Kh;rw[<-agl.o]at eC;simp only[<-agl.o];clear b0 b1 b2;have hx:=aJ h4.o ag;have b0:=aG hx 0;have b1:=aG hx 1;have b2:=aG hx 2;simp at b0 b1 b2;have awZ:=λo=>((O I).alloc o).cell b1
 have eW:=z eC;clear eC ag jp;go_upto_region 5 with fail;go_region
 focus
  obtain⟨aO,p2⟩:∃aO,aO=((I.alloc (J (madeCells #[Value.int .u32 0] f.rules) 32)).alloc (J (madeCells #[Value.int .i64 0] f.rules) 3)).drew:=⟨_,rfl⟩;have g9:Ext I aO:=by rw[p2];exact(((O I).alloc _).alloc _).drew
  obtain⟨kL,hgW,hRW⟩:∃g,g=I.heap.size+1/\je aO I 3 g pO (List.replicate f.rules 0) f.rules.length:=⟨_,rfl,by have:=(agm (I.alloc (J (madeCells #[Value.int .u32 0] f.rules) 32)) f.rules I ey Ir).ext ((O _).drew);rw[dR]at this;rw[p2];exact this⟩
  obtain⟨me,hgN,hRN⟩:∃g,g=I.heap.size/\je aO I 32 g fV (List.replicate f.rules 0) f.rules.length:=⟨_,rfl,by rw[p2];exact((agn I f.rules I ey (aZ _)).ext ((O _).alloc (J (madeCells #[Value.int .i64 0] f.rules) 3))).ext ((O _).drew)⟩
  have bO:me≠kL:=aE;have WZ:I.heap.size<=me/\I.heap.size<=kL:=aE;rw[<-p2,<-hgW,<-hgN];clear hgN hgW p2
 rotate_left 1
 focus
  obtain⟨aO,p2⟩:∃aO,aO=((I.alloc (J (madeCells #[Value.int .i64 0] f.rules) 3)).alloc (J (madeCells #[Value.int .u32 0] f.rules) 32)).drew:=⟨_,rfl⟩;have g9:Ext I aO:=by rw[p2];exact(((O I).alloc _).alloc _).drew
  obtain⟨me,hgN,hRN⟩:∃g,g=I.heap.size+1/\je aO I 32 g fV (List.replicate f.rules 0) f.rules.length:=⟨_,rfl,by have:=(agn (I.alloc (J (madeCells #[Value.int .i64 0] f.rules) 3)) f.rules I ey Ir).ext ((O _).drew);rw[dR]at this;rw[p2];exact this⟩
  obtain⟨kL,hgW,hRW⟩:∃g,g=I.heap.size/\je aO I 3 g pO (List.replicate f.rules 0) f.rules.length:=⟨_,rfl,by rw[p2];exact((agm I f.rules I ey (aZ _)).ext ((O _).alloc (J (madeCells #[Value.int .u32 0] f.rules) 32))).ext ((O _).drew)⟩
  have bO:me≠kL:=aE;have WZ:I.heap.size<=me/\I.heap.size<=kL:=aE;rw[<-p2,<-hgN,<-hgW];clear hgN hgW p2
 all_goals
  replace b0:=g9.cell b0;replace b1:=g9.cell b1;replace b2:=g9.cell b2;clear awZ;have z':((aO.alloc (J #[H 0] 339)).alloc (J #[aB (some aO)] 337)).cell? ⟨w,1,none⟩=some (E a f.rules c):=(((O aO).alloc _).alloc _).cell b1;have ago:=(g9.alloc (J #[H 0] 339)).alloc (J #[aB (some aO)] 337);have W0:=((O aO).alloc (J #[H 0] 339)).alloc (J #[aB (some aO)] 337);have GC:=pQ.one (aO.alloc (J #[H 0] 339)) aO I (by rw[dR];have:=g9.size;omega);rw[dR]at GC;have B3:LL I ((aO.alloc (J #[H 0] 339)).alloc (J #[aB (some aO)] 337)) [aO.heap.size]:=⟨ay,λb V=>by simp at V;subst V;exact⟨g9.size,_,aJ (bA aO _) ((O _).alloc _)⟩⟩
  have agp:=z (hRN.ext W0);have agq:=z (hRW.ext W0);have agr:=z ago;have ags:=z GC;have Av:=z B3;have El:=z bO;have agt:=z WZ;clear bO WZ ago W0 GC B3 hRN hRW;go_wp2_with fail;go_loopw [43,8] (λi Q9 wr=>∃(k:Nat) (gH:List Nat),k<=f.rules/\i=H k/\gH.length=k+1/\Ext I wr/\je wr I 32 me fV (fl (lG f) 0 k) f.rules.length/\je wr I 3 kL pO (fl (nH f) 0 k) f.rules.length/\LL I wr gH/\pQ wr I Q9 gH) (λi _ _=>f.rules.length-(intOf i).toNat)
  case atStart=>exact⟨0,[aO.heap.size],aE,rfl,rfl,agr.o,by rw[agu,uO];exact agp.o,by rw[agu,zl];exact agq.o,Av.o,ags.o⟩
  case round=>
   obtain⟨k,gH,hk,rfl,hX,D,agv,agw,B3,GC⟩:=hrel;have aT:=z D;have Mw:=z agv;have Mx:=z agw;have My:=z B3;have W1:=z GC;obtain⟨bv,bp,rfl⟩:=dP GC;clear agv agw B3 GC agp agq agr ags Av;by_cases ad:k<f.rules
   ·obtain⟨b,o,agx,rfl,n1,n2,n3,I7⟩:=B6.o k ad;obtain⟨at',Em,rfl,-,-⟩:=qY I7;have gi:Ext w wr:=(tg.o.trans eW.o.Kh).trans D;replace n1:=gi.cell n1;replace n2:=gi.cell n2;replace n3:=gi.cell n3;have hy:(fl (lG f) 0 k).length=f.rules.length:=by rw[agy _ _ (by rw[uO];exact hk),uO]
    have Mz:(fl (nH f) 0 k).length=f.rules.length:=by rw[agy _ _ (by rw[zl];exact hk),zl]
    have agz:(lG f)[k]'(by rw[uO];exact ad)=f.rules[k].nr:=by simp[lG]
    have agA:(nH f)[k]'(by rw[zl];exact ad)=(k:Int)+1:=by simp[nH]
    obtain⟨ed,aMS⟩:=Mw.o.cell qD k (by rw[hy];exact ad);obtain⟨eq,aMT⟩:=Mx.o.cell En k (by rw[Mz];exact ad);obtain⟨aMU,aMV⟩:=Mw.o.frozen k;obtain⟨fW,aMW⟩:=Mx.o.frozen k;have aMX:=El.o;have ask:kL≠me:=λe=>El.o e.symm
    clear I7 gi D;have bU:=aw0 (k:=k) f.rules[k].nr ((k:Int)+1) (J #[M (f.rules[k].nr:Int),E at' f.rules[k].tests.length Em,M (f.rules[k].action:Int)] 110) (J #[aB (some ⟨wr+1,0,none⟩)] 337) aT.o Mw.o Mx.o El.o agt.o.1 agt.o.2 My.o W1.o (by rw[hy];exact ad) (by rw[Mz];exact ad);obtain⟨f3,e0,q',B7,vy⟩:=bU;have aK:=agB (lG f) 0 (k:=k) (by rw[uO];exact ad);have aV:=agB (nH f) 0 (k:=k) (by rw[zl];exact ad);rw[agz]at aK;rw[agA]at aV;rw[aK]at e0;rw[aV]at q';have Eo:=jh MB ((((wr.setCell ⟨me,k,none⟩ (M (f.rules[k].nr:Int))).setCell ⟨kL,k,none⟩ (H ((k:Int)+1))).alloc (J #[M (f.rules[k].nr:Int),E at' f.rules[k].tests.length Em,M (f.rules[k].action:Int)] 110)).alloc (J #[H 0] 339)) [some (wr.heap.size+1)] 337 _ rfl;rw[dR,dR,size_set,size_set]at Eo;have cH:=cB (aZ I) f3.size;have W2:=z f3;have W3:=z e0;have W4:=z q';have aw1:=z B7;have agC:=z vy;have aw2:=z Eo;have I8:=z cH;clear Eo cH f3 e0 q' B7 vy aK aV agz agA hy Mz
    go_wp2_with(at_builtin
                refine vG rfl (.tmp 58) (.tmp 61) _ rfl underlying359 agD rfl Y MB aw3 I _ _ (gH.map some) [some (wr.heap.size+1)] rfl rfl (by have h:=agC.o;simp only[pQ,dL]at h⊢;exact h) aw2.o dU Y I8.o ?_;intro ri rj bQ d0 hA;have im:=hA;have PP:=aw4 W2.o W3.o W4.o aw1.o agC.o (by have h:=im;simp only[dL]at h⊢;exact h);obtain⟨gv,ct,sy,B8⟩:=PP;have aw5:=z gv;have aw6:=z ct;have aw7:=z sy;have aw8:=z B8;have t8:pQ bQ I (E ri (gH+1) rj) (gH++[wr.heap.size+1]):=by have h:=d0;unfold pQ;simp only[fQ,fK,kE,dA,dL,dJ,fu]at h⊢;exact h
                have aw9:=z t8;clear d0 hA im gv ct sy B8 t8)
    go_roundw
    case rel=>exact⟨k+1,gH++[wr.heap.size+1],aE,cZ,by rw[dA,hX];rfl,aw5.o,aw6.o,aw7.o,aw8.o,by have h:=aw9.o;rw[hX]at h;exact h⟩
    case measure=>simp[intOf];omega
   ·obtain rfl:k=f.rules.length:=aE;have af9:=W1.o.lp aE;obtain⟨g,MA,hv,agE⟩:=af9;simp only[eZ]at hv;obtain⟨rfl,-,rfl⟩:=hv;have agF:aS wr 1 fV (E (some me) f.rules f.rules) (lG f):=by have h:=Mw.o;rw[show fl (lG f) 0 f.rules.length=lG f by rw[<-uO f];exact agG _ _]at h;have h2:=eD qD h;rw[uO]at h2;exact h2
    have agH:aS wr 1 pO (E (some kL) f.rules f.rules) (nH f):=by have h:=Mx.o;rw[show fl (nH f) 0 f.rules.length=nH f by rw[<-zl f];exact agG _ _]at h;have h2:=eD En h;rw[zl]at h2;exact h2
    have j3:∀r∈f.rules,r.nr<4294967296:=λr hr=>(s1.o.r r hr).n
    have jm:∀n∈lG f,n<4294967296:=λn be=>by obtain⟨r,hr,rfl⟩:=iJ.1 be;exact j3 r hr
    have Q':=Co.jT _ _ (lG f) (nH f) 0 (by rw[uO];omega) jm wr agF agH;rw[axa gl.o j3]at Q';have Ra:=λW u (a6:Co.Own W wr u (qZ f))=>vZ.Bz u (qZ f) (by have:=awX.o;omega) (agI gl.o j3) W (eD Co.Kl a6)
    rw[axb gl.o j3]at Ra;dsimp only at Q' Ra;have agJ:=cu.labels (cy:=λb=>b∈gH) eW.o aT.o My.o.each;have Ek:nt∉gH:=λbe=>by have h1:=(My.o.each nt be).1;have h2:=cu.olt eW.o (b:=nt) rfl;omega
    have agK:=axc (t:=iF f) hX My.o.nd Ek;have axd:=z agE;have axe:=z Q';clear agE Q';have axf:=z Ra;have axg:=z agJ;have agL:=z agK;clear Ra agJ agK agF agH jm j3;go_wp2_with fail;refine axe.o.mono ?_;rintro e bj ⟨aMY,rfl,a',agM⟩;have cL:=z a';have axh:=z agM;clear a' agM;go_wp2_with fail;refine(axf.o _ _ axh.o).mono ?_;rintro e dC ⟨agx,rfl,cN,st⟩;have agN:=axg.o.ext (cL.o.trans cN);have W5:=axd.o.ext (cL.o.trans cN)
    have W6:=axi agN (by rw[GI];have:jg f.i6<=5:=by unfold jg;split<;>omega
                         omega) (iF f) Ej.o.may (by have:=Ej.o.len;omega) agx _ st gH (λb V=> .inr V) _ g bp W5 (λn hn X=>by
     obtain⟨j,Z,rfl⟩:=List.mem_iff_getElem.1 hn;have:=Ej.o.ways j Z X;omega)
    rw[GI]at W6;have agO:=z W6;have axj:=z W5;clear W6 W5 cN st agN;go_wp2_with fail;rw[hX]at agO;refine ak agO.o ?_;rintro bQ ⟨i1,B9⟩;obtain⟨fk,ge⟩:∃fk:Nat->Nat,fk=λj=>gH.getD j 0:=⟨_,rfl⟩
    have agP:I9 f (iF f) nt fk:=by rw[ge];exact agL.o
    have Qm:∀b,((b=nt\/b∈gH)/\b≠fk 0)↔GJ f nt fk 0 b:=λb=>by rw[ge];exact axk (t:=iF f) hX agL.o b
    have I':=z agP;have axl:=z Qm;clear Qm;have Ep:∀W,eH bQ W->∀j (Z:j<gH.length),W.cell? ⟨g,j,none⟩=some (aB (some ⟨fk j,0,none⟩)):=λW cJ j Z=>by have h:=((axj.o.wt B9).wt cJ).cell j (by rw[dL];exact Z);rw[h,rQ,ge];dsimp only;rw[kR,dK Z];rfl
    have agQ:∀W,Ext w0 W->W.cell? ⟨w,1,none⟩=some (E a f.rules c)/\W.cell? ⟨w,2,none⟩=some (M f.dflt):=λW cJ=>⟨aG (aJ h4.o cJ) 1,aG (aJ h4.o cJ) 2⟩
    have MC:∀W,Ext w0 W->∀k (hk:k<f.rules.length),∃b o u,a=some ⟨b,o,none⟩/\W.cell? ⟨b,o+k*3,none⟩=some (M (f.rules[k].nr:Int))/\W.cell? ⟨b,o+k*3+1,none⟩=some u/\W.cell? ⟨b,o+k*3+2,none⟩=some (M (f.rules[k].action:Int))/\aS w0 4 j7.kW u f.rules[k].tests:=λW cJ k hk=>by obtain⟨b,o,u,e,n1,n2,n3,n4⟩:=B6.o k hk;exact⟨b,o,u,e,(tg.o.trans cJ).cell n1,(tg.o.trans cJ).cell n2,(tg.o.trans cJ).cell n3,aS.ext tg.o n4⟩
    have MD:=λk (hk:k<=f.rules.length)=>agR (nt:=nt) (fk:=fk) gl.o Ej.o hk
    obtain⟨row,oR⟩:∃row,row=row0 f (iF f) nt fk:=⟨_,rfl⟩;have Ja:cu w0 w0 (λb=>b=nt\/b∈gH) row bQ:=by rw[oR,ge];exact i1
    have yo:=axm f (iF f) nt fk;rw[<-oR]at yo;have GE:=axn Ej.o I'.o;rw[<-oR]at GE;have ia:=z Ja;have c0:=Ep bQ (eH.refl bQ) 0 aE;have Ab:fk 0∈gH:=by rw[ge];dsimp only;rw[kR,dK (show 0<gH.length from aE)];exact eB _
    have axo:=z Ep;have agS:=z agQ;clear Ep agQ;have axp:=z MC;have W7:=z MD;clear MC MD;have agT:=z yo;have W8:=z GE;have axq:=z Ab;clear yo GE Ab i1 Ja oR B9 ge agP;go_wp2_with fail;refine ak (cu.iI (b:=fk 0) ia.o (.inr axq.o)) ?_;rintro cT ⟨ks,n7⟩;have W9:=ks.mono axl.o;rw[agT.o]at W9;have vr:=z W9;have Er:=z n7;obtain⟨-,eg⟩:=agS.o cT ks.Kh;clear ks W9 n7 c0;go_wp2_with fail;refine ak (cu.lZ vr.o (by rw[dL,agT.o];have:=axr Ej.o;omega) f.dflt) ?_;rintro dy ⟨tU,qn⟩;rw[W8.o]at tU;have oA:=z tU;have Es:=z (Er.o.trans qn);obtain⟨cs,-⟩:=agS.o dy tU.Kh;clear tU qn eg ia vr Er eW aT My W1 Mw Mx;go_wp2_with fail;go_loopw [91] (λi wr=>∃k:Nat,k<=f.rules/\i=H k/\cu w0 w0 (GJ f nt fk k) (zm f (iF f) nt fk k) wr/\eH bQ wr) (λi _=>f.rules.length-(intOf i).toNat)
    case atStart=>exact⟨0,aE,rfl,oA.o,Es.o⟩
    case round=>
     obtain⟨k,hk,rfl,ab,w8⟩:=hrel;have sn:=z ab;have yi:=z w8;clear oA Es;by_cases ad:k<f.rules
     ·obtain⟨b,o,aMZ,rfl,n1,n2,n3,I7⟩:=axp.o wr ab.Kh k ad;obtain⟨at',Em,rfl,-,-⟩:=qY I7;have Fs:k+1<gH:=aE;have agU:(λb=>GJ f nt fk k b) (fk (k+1)):= .inr ⟨k+1,aE,aE,rfl⟩;have Lr:=bA wr (J #[M (f.rules[k].nr:Int),E at' f.rules[k].tests.length Em,M (f.rules[k].action:Int)] 110);have Rb:Ext wr (wr.alloc (J #[M (f.rules[k].nr:Int),E at' f.rules[k].tests.length Em,M (f.rules[k].action:Int)] 110)):=(O wr).alloc _;have agV:=cu.iI (sn.o.ext Rb) agU;have axs:=axo.o _ (w8.trans (eH.mI Rb)) (k+1) Fs;have axt:=z Rb;have axu:=z agV;have axv:=z Lr;have axw:=z I7;clear agV Lr I7 ab w8 agU Rb;go_wp2_with fail;refine ak axu.o ?_;rintro gn ⟨ic,An⟩;have W':=ic.mono (λb=>axx I'.o ad b);rw[Jb _ _ _ _ hk]at W';have yk:=z W';have L3:=z ((yi.o.trans (eH.mI axt.o)).trans An);have k6:=An.kept _ _ _ _ axv.o Y Y Y Y;have e9:gn.cell? wr=some (M (f.rules[k].nr:Int)):=aG k6 0;have et:gn.cell? ⟨wr,1,none⟩=some (E at' f.rules[k].tests.length Em):=aG k6 1;have fp:gn.cell? ⟨wr,2,none⟩=some (M (f.rules[k].action:Int)):=aG k6 2;clear ic W' An k6 axs n1 n2 n3;go_wp2_with fail;refine ak (uP yk.o (by rw[dL];have:=W7.o k hk;omega) f.rules[k].nr f.rules[k].action f.rules[k].tests _ axw.o (agi.o _ (eB ad)).1 (λt an=>⟨(agi.o _ (eB ad)).2 t an,(s1.o.r _ (eB ad)).t t an⟩)) ?_;rintro DW ⟨mA,agW⟩;rw[dL,Jb _ _ _ _ hk,axy Ej.o I'.o ad]at mA;have F':=z mA;have axz:=z (L3.o.trans agW);clear mA agW e9 et fp;go_wp2_with fail;go_roundw
      case rel=>exact⟨k+1,aE,cZ,F'.o,axz.o⟩
      case measure=>simp[intOf];omega
     ·obtain rfl:k=f.rules.length:=aE;have Xa:og f (iF f) (f.rules+1)=mW f (iF f):=by unfold og mW;rw[au aE,yX]
      have agX:=z Xa;clear Xa ab w8;go_wp2_with fail;refine ak (cu.iI (b:=nt) sn.o (.inl rfl)) ?_;rintro gn ⟨ic,-⟩;rw[Jb _ _ _ _ hk,agX.o]at ic;have yk:=z ic;clear ic;go_wp2_with fail;refine ak (cu.lZ yk.o (by rw[dL];have:=W7.o _ hk;omega) 2147418112) ?_;rintro DW ⟨mA,-⟩;rw[axA Ej.o]at mA;have F':=z mA;clear mA;go_wp2_with fail;refine(cu.mK F'.o (by rw[Jc,<-agX.o,<-Jb f (iF f) nt fk hk];have:=W7.o _ hk;omega) (λb=>axB b)).mono ?_;rintro e aew ⟨v,rfl,agY,cX⟩;have axC:=z (tg.o.trans agY);have tI:=z cX;clear agY cX;go_wp2_with fail
      first|go_ret2|go_ret
      exact⟨v,rfl,axC.o,tI.o⟩
theorem acT(f:Filter)(u:K)(ai:gI f)(R:eT f=false)(w:G)(a6:mU w 3 (EU w) u f.rules):aM 178 #[bg #[H f.i6,u,M f.dflt]] w (bH #[E none 0 0,H 210]):=by
 have em:=λW (D:Ext w W)=>pK f u ai W (lD D a6)
 rw[R]at em;obtain⟨vz,ti,rfl,-,-⟩:=xW a6;have pf:=z em;have gl:=z R;unfold aM;go_in;go_wp2_with fail;refine ak (pf.o _ ((O _).alloc _)) ?_;intro I Q;go_wp2_with fail
 first|go_ret2|go_ret
 exact UF
end le
end Go.Proofs.YtopfefhenfineaaGreat
