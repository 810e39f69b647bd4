import Derived.Test.YtopfefhenfineaaGreatP29
import Derived.Test.YtopfefhenfineaaGreatP30
import Derived.Test.YtopfefhenfineaaGreatP26
set_option linter.all false
set_option maxRecDepth 100000
set_option maxHeartbeats 8000000
namespace Go.Proofs.YtopfefhenfineaaGreat
open Go.Proofs.Tryz Go.RowKit Go.Shelf bh
attribute[local go_sem] Oper.semAt_some
namespace LT
open bM (dN)
open oh (eF)
variable{W:G}{a:dN}{bb n0 x y:Nat}{ns:List dB}{s:dS}{u:K}
def OR:Nat:=rZ.orL rZ.uI
def wD(w:bn):Nat×Int:=rZ.kK rZ.uI (bytes w) 181
structure Fa where
 all:Nat
 rt:Bool
 ns:List dB
def su(a:dN)(x:Fa)(w:bn):Fa:=
 if (wD w).2=0 then⟨x.all|||(wD w).1,x.rt,x.ns⟩else⟨x.all,false,x.ns++[⟨a.1,a.2.1,(wD w).2.toNat,(bytes w).take 60⟩]⟩
def jN(x:Nat):Prop:=x&&&OR=x
def SV:OR<18446744073709551616:=Y
def jN.lt(h:jN x):x<18446744073709551616:=Nat.lt_of_le_of_lt (by rw[<-h];exact Nat.and_le_right) SV
def SX(x:Nat):BitVec.ofInt IntKind.u64.bits (x:Int)=BitVec.ofNat 64 x:=BitVec.ofInt_natCast _ _
def aD6(h:jN x):BitVec.ofNat 64 x&&&BitVec.ofNat 64 OR=BitVec.ofNat 64 x:=by apply BitVec.eq_of_toNat_eq;rw[BitVec.toNat_and,BitVec.toNat_ofNat,BitVec.toNat_ofNat,Nat.mod_eq_of_lt h.lt,Nat.mod_eq_of_lt SV];exact h
def jN.bits(h:jN x):Go.bits BinOp.andNot IntKind.u64 (x:Int) (OR:Nat)=0:=by
 unfold Go.bits;rw[SX,SX]
 change IntKind.u64.wrap (((BitVec.ofNat 64 x&&& ~~~BitVec.ofNat 64 OR).toNat:Nat):Int)=0
 rw[show BitVec.ofNat 64 x&&& ~~~BitVec.ofNat 64 OR=0 from by rw[<-aD6 h,BitVec.and_assoc,BitVec.and_not_self];simp]
 rfl
def Hy(x:Nat):Nat:=(BitVec.ofNat 64 OR&&& ~~~BitVec.ofNat 64 x).toNat
def aD7(x:Nat):Go.bits BinOp.andNot IntKind.u64 (OR:Nat) (x:Int)=(Hy x:Int):=by
 unfold Go.bits;rw[SX,SX]
 change IntKind.u64.wrap (((BitVec.ofNat 64 OR&&& ~~~BitVec.ofNat 64 x).toNat:Nat):Int)=_
 unfold Hy;have:=(BitVec.ofNat 64 OR&&& ~~~BitVec.ofNat 64 x).isLt;generalize(BitVec.ofNat 64 OR&&& ~~~BitVec.ofNat 64 x).toNat=y at *;rw[IntKind.wrap_u64];omega
def aD8(x:Nat):jN (Hy x):=by
 unfold jN Hy;have h:(BitVec.ofNat 64 OR&&& ~~~BitVec.ofNat 64 x)&&&BitVec.ofNat 64 OR=BitVec.ofNat 64 OR&&& ~~~BitVec.ofNat 64 x:=by rw[BitVec.and_comm,<-BitVec.and_assoc,BitVec.and_self]
 have h2:=congrArg BitVec.toNat h;rw[BitVec.toNat_and (x:=BitVec.ofNat 64 OR&&& ~~~BitVec.ofNat 64 x),BitVec.toNat_ofNat,Nat.mod_eq_of_lt SV]at h2;exact h2
def jN.or(h:jN x)(k:jN y):jN (x|||y):=by unfold jN at *;rw[Nat.and_or_distrib_right,h,k]
def jN.zero:jN 0:=by unfold jN;simp
def jN.full:jN OR:=by unfold jN;simp
def ZE(w:bn):((wD w).2=0/\jN (wD w).1)\/((wD w).2=181/\(wD w).1=0):=by
 unfold wD rZ.kK;split
 ·rename_i x D;have:∀y∈rZ.uI,y.2&&&OR=y.2:=Y;exact .inl ⟨rfl,this x (List.mem_of_find?_eq_some D)⟩
 ·exact .inr ⟨rfl,rfl⟩
def Bh(a:dN)(v:bn)(sp:Nat)(ns:List dB):Nat×List dB:=
 if (Lib.goFieldsP eF v).length=0 then(0,ns)
 else if (oh.uf v).2=0 then(if (oh.uf v).1=true then OR else 0,ns)
 else let x:=(Lib.goFieldsP eF (mH v)).foldl (su a) ⟨0,true,ns⟩
  (if x.rt=true then(if uq v=true then x.all else Hy x.all)else sp,x.ns)
def amE{x:Fa}(w:bn)(h:jN x.all):jN (su a x w).all:=by
 unfold su;split
 ·rename_i ae;rcases ZE w with⟨-,k⟩|⟨k,-⟩
  ·exact h.or k
  ·rw[k]at ae;cases ae
 ·exact h
def amF{x:Fa}(w:bn):(su a x w).ns.length<=x.ns.length+1:=by unfold su;exact YZ
def jr.aa1{p:bP}(h:jr n0 bb p s u ns a W)(x:Nat):jr n0 bb {p with sp:=x} s u ns a (W.setCell ⟨bb,8,none⟩ (aA (x:Int)))/\bq n0 ug W (W.setCell ⟨bb,8,none⟩ (aA (x:Int))):=
 h.put 8 (aA (x:Int)) (p':= {p with sp:=x}) (s':=s) rfl ⟨h.po.ar,h.po.fc,h.po.lc,h.po.fa⟩
theorem aD9(W:G):Calls prog 60 #[] W λe F=>e=aI (aA (OR:Nat))/\Ext W F:=rZ.ER W
theorem Lm{p:bP}(h:jr n0 bb p s u ns a W)(gs:n0<=W)(X:ns.length<=500000)(v:bn)(hv:v.size<=100000):Calls prog 224 #[aB (some bb),N v] W (wo n0 bb {p with sp:=(Bh a v p.sp ns).1} (Bh a v p.sp ns).2 a W):=by
 have li:=Zx v;have ma:=Ba eF (mH v);have UP:=Ba eF v;have bY:=z (R9 eF (mH v));have eo:=z (λW=>oh.oM v aE W);have h':=z (λW=>oh.oM (mH v) aE W);have gz:=z (λW=>amy v W);have SO:=z (λW=>oh.KX v W);have NG:=z (λW=>aD9 W);have bd:Bh a v p.sp ns=if (Lib.goFieldsP eF v).length=0 then(0,ns)else if (oh.uf v).2=0 then(if (oh.uf v).1=true then OR else 0,ns)else(if ((Lib.goFieldsP eF (mH v)).foldl (su a) ⟨0,true,ns⟩).rt=true then(if uq v=true then((Lib.goFieldsP eF (mH v)).foldl (su a) ⟨0,true,ns⟩).all else Hy ((Lib.goFieldsP eF (mH v)).foldl (su a) ⟨0,true,ns⟩).all)else p.sp,((Lib.goFieldsP eF (mH v)).foldl (su a) ⟨0,true,ns⟩).ns):=rfl
 have pD:=alH v;generalize Bh a v p.sp ns=aH at *;generalize oh.uf v=SM at *;obtain⟨aEa,aN0⟩:=SM;dsimp only at pD bd SO;generalize Lib.goFieldsP eF v=mL at *;generalize Lib.goFieldsP eF (mH v)=L at *;generalize uq v=dZ at *;generalize mH v=AK at *;have aN1:=z SV;have eV:=aD7;generalize OR=aEb at *;have c8:W.cell? ⟨bb,8,none⟩=some (aA (p.sp:Int)):=aG h.b 8;have E':=dw h.b 8;have bC:=z h;unfold wo;by_cases bL:mL.length=0
 ·rw[aF bL]at bd;have fR:((mL:Int)==0)=true:=by rw[bL];rfl
  have cD:=z bd;go_in;go_wp2_with(refine(eo.o _).mono ?_;rintro e I ⟨AG,rfl,Q,d4⟩;obtain⟨br,wd,rfl⟩:=dP d4;have amG:=Q.cell c8;have amH:=dw (bC.o.ext' Q).b 8;have H1:=z (ah Q (bC.o.ext' Q)));have cz:=z (H1.o.2.aa1 0)
  exact amw
 rw[au bL]at bd;have fR:((mL:Int)==0)=false:=iH.2 aE;rcases pD with rfl|rfl
 ·rw[aF rfl]at bd;have cD:=z bd;cases aEa
  ·go_in;go_wp2_with(first
    |(go_at_call 270;refine(eo.o _).mono ?_;rintro e I ⟨AG,rfl,Q,d4⟩;obtain⟨br,wd,rfl⟩:=dP d4;have H1:=z Q)
    |(go_at_call 277;refine ak (SO.o _) ?_;intro aO ag;have D:=H1.o.trans ag;have amG:=D.cell c8;have amH:=dw (bC.o.ext' D).b 8;have bK:=z (ah D (bC.o.ext' D))))
   have cz:=z (bK.o.2.aa1 0)
   first|go_end0|refine cO (gq rfl _ _ _) rfl ?_
   exact⟨rfl,⟨_,_,by rw[cD.o];exact cz.o.1⟩,(bq.ext bK.o.1).trans cz.o.2⟩
  ·go_in;go_wp2_with(first
    |(go_at_call 270;refine(eo.o _).mono ?_;rintro e I ⟨AG,rfl,Q,d4⟩;obtain⟨br,wd,rfl⟩:=dP d4;have H1:=z Q)
    |(go_at_call 277;refine ak (SO.o _) ?_;intro aO ag;have D:=H1.o.trans ag;have amG:=D.cell c8;have amH:=dw (bC.o.ext' D).b 8;have bK:=z (ah D ((bC.o.ext' D).aa1 0)))
    |(go_at_call 60;refine ak (NG.o _) ?_;intro bj a';have gj:=bK.o.2.1.ext' a';have aEc:bj.cell? ⟨bb,8,none⟩=some (aA ((0:Nat):Int)):=aG gj.b 8;have aEd:=dw gj.b 8;have es:=z (ah ((bq.ext bK.o.1).trans (bK.o.2.2.trans (.ext a'))) (gj.aa1 aEb))))
   first|go_end0|refine cO (gq rfl _ _ _) rfl ?_
   exact⟨rfl,⟨_,_,by rw[cD.o];exact es.o.2.1⟩,es.o.1.trans es.o.2.2⟩
 ·rw[au Y]at bd;have cD:=z bd;have ev:=z eV;go_in;go_wp2_with(first
   |(go_at_call 270;refine(h'.o _).mono ?_;rintro e aO ⟨aD4,rfl,ag,fv⟩;obtain⟨Jw,ZB,rfl⟩:=dP fv;have es:=z (ah (bK.o.trans ag) (fv.mono (eG _))))
   |(go_at_call 270;refine(eo.o _).mono ?_;rintro e I ⟨AG,rfl,Q,d4⟩;obtain⟨br,wd,rfl⟩:=dP d4;have H1:=z Q)
   |(go_at_call 277;refine ak (SO.o _) ?_;intro aO ag;have bK:=z (H1.o.trans ag))
   |(go_at_call 274;refine ak (gz.o _) ?_;rintro dC rfl))
  go_loopw [8,9,47] (λFb Fc i wr=>∃(k:Nat) (g2:Fa) (ej:K),Fb=aA (g2.all:Int)/\Fc=av g2.rt/\i=H k/\k<=L/\g2=(L.take k).foldl (su a) ⟨0,true,ns⟩/\jr n0 bb p s ej g2.ns a wr/\wr.ownsRow 0 9 1 (E Jw L ZB) L (L.flatMap oh.A8)/\bq n0 ug W wr/\jN g2.all/\g2.ns.length<=ns+k) (λ_ _ i _=>L.length-(intOf i).toNat)
  case atStart=>exact⟨0,⟨0,true,ns⟩,u,rfl,rfl,rfl,aE,rfl,bC.o.ext' es.o.1,es.o.2,.ext es.o.1,jN.zero,ay⟩
  case round=>
   obtain⟨k,⟨al,rt,gR⟩,ej,rfl,rfl,rfl,hk,gp,sB,g6,fi,uk,hy⟩:=hrel;dsimp only at sB uk hy;by_cases ad:k<L
   ·obtain⟨b,o,c',cU,r0⟩:=SB g6 ad;simp only[eZ,true_and]at cU;obtain⟨rfl,rfl⟩:=cU;have ci:=bY.o _ (eB ad);have bU:(L.take (k+1)).foldl (su a) ⟨0,true,ns⟩=su a ⟨al,rt,gR⟩ L[k]:=by rw[mh ad,uF,<-gp];rfl
    generalize L[k]=g7 at *;have e1:∀W,Calls prog 278 #[N g7] W λe F=>e=aI (bH #[aA ((wD g7).1:Int),H (wD g7).2])/\Ext W F:=λW=>rZ.Uh g7 W
    have lj:=ZE g7;have dT:jN (su a ⟨al,rt,gR⟩ g7).all:=amE g7 uk;have q4:=amF (a:=a) (x:=⟨al,rt,gR⟩) g7;have n9:su a ⟨al,rt,gR⟩ g7=if (wD g7).2=0 then⟨al|||(wD g7).1,rt,gR⟩else⟨al,false,gR++[⟨a.1,a.2.1,(wD g7).2.toNat,(bytes g7).take 60⟩]⟩:=rfl
    rw[<-bU]at dT q4 n9;generalize wD g7=q at *;obtain⟨ry,er⟩:=q;dsimp only at e1 lj n9 q4;have nc:(k:Int)<L:=aE;have E6:=z e1;have cg:=z (ah sB (ah g6 (ah fi (ah hy (ah dT q4)))));have ya:=uk.lt;have jm:n0<=wr:=cB gs fi.size;rcases lj with⟨rfl,rs⟩|⟨rfl,rfl⟩
    ·rw[aF rfl]at n9;have Lf:=bits_or_u64_nat al ry ya rs.lt;have gg:=z n9;go_wp2_with(go_at_call 278;refine ak (E6.o _) ?_;intro bQ bR;have c9:=z bR);go_roundw
     case rel=>exact⟨k+1,_,ej,by rw[gg.o],by rw[gg.o],cZ,aE,rfl,by rw[gg.o];exact cg.o.1.ext' c9.o,mF cg.o.2.1 c9.o,cg.o.2.2.1.trans (.ext c9.o),cg.o.2.2.2.2.1,by have:=cg.o.2.2.2;omega⟩
     case measure=>exact eO
    ·rw[au Y]at n9;have Lf:=bits_or_u64_nat al 0 ya Y;rw[Nat.or_zero,show((0:Nat):Int)=0 from rfl]at Lf;have gg:=z n9;go_wp2_with(first
      |(go_at_call 278;refine ak (E6.o _) ?_;intro bQ bR;have c9:=z bR)
      |(refine ak (SA (cg.o.1.ext' c9.o) (cB jm c9.o.size) (by have:=cg.o.2.2.2.1;omega) g7 aE 181) ?_;rintro cT ⟨ui,ks,n7⟩;have gb:=z (ah ks n7)))
     go_roundw
     case rel=>exact⟨k+1,_,ui,by rw[gg.o],by rw[gg.o],cZ,aE,rfl,by rw[gg.o];exact gb.o.1,gb.o.2.own (mF cg.o.2.1 c9.o) rfl,(cg.o.2.2.1.trans (.ext c9.o)).trans gb.o.2,cg.o.2.2.2.2.1,by have:=cg.o.2.2.2;omega⟩
     case measure=>exact eO
   ·obtain rfl:k=L.length:=aE;rw[iR]at gp;have bd:=cD.o;rw[<-gp]at bd;dsimp only at bd;have EC:=z bd;have cg:=z (ah sB fi);have d8:wr.cell? ⟨bb,8,none⟩=some (aA (p.sp:Int)):=aG sB.b 8;have vd:=dw sB.b 8;have pT:=ev.o al;have aEe:=z pT;cases rt
    ·go_wp
     first|go_end0|refine cO (gq rfl _ _ _) rfl ?_
     exact⟨rfl,⟨_,_,by rw[EC.o];exact cg.o.1⟩,cg.o.2⟩
    cases dZ
    ·have pT:=aEe.o;go_wp2_with(go_at_call 60;refine ak (NG.o _) ?_;intro bj a';have gj:=cg.o.1.ext' a';have aEc:=a'.cell d8;have aEd:=dw gj.b 8;have dE:=z (ah (cg.o.2.trans (.ext a')) (gj.aa1 (Hy al))))
     first|go_end0|refine cO (gq rfl _ _ _) rfl ?_
     exact⟨rfl,⟨_,_,by rw[EC.o];exact dE.o.2.1⟩,dE.o.1.trans dE.o.2.2⟩
    ·have cz:=z (cg.o.1.aa1 al);go_wp
     first|go_end0|refine cO (gq rfl _ _ _) rfl ?_
     exact⟨rfl,⟨_,_,by rw[EC.o];exact cz.o.1⟩,cg.o.2.trans cz.o.2⟩
end LT
variable{S:Prop}
def Fe(h:S:=by simp[Value.oneCell',cK]):S:=h
namespace LT
theorem rG:(Tryz.prog.info? 36).map (·.size)=some 13:=aj
def jv:Array K:= #[E none 0 0,aC 0,E none 0 0,M 0,aC 0,E none 0 0,E none 0 0,aC 0,aA 0,av false,av false,av false,av false]
structure CP(w:G)(p:bP)(s:dS)(W:G):Prop where
 ext:Ext w W
 bo:W.heap[w.heap.size]?=some (J (cK p s).toArray 36 (0,0))
 res:W.heap[w.heap.size+1]?=some (J jv 36 (0,0))
section
variable {w W aa:G} {p:bP} {s s':dS}
def CP.ext'(h:CP w p s W)(D:Ext W aa):CP w p s aa:=⟨h.ext.trans D,aJ h.bo D,aJ h.res D⟩
def CP.put(h:CP w p s W)(k:Nat)(v:K)(bx:(cK p s).toArray.setIfInBounds k v=(cK p s').toArray):CP w p s' (W.setCell ⟨w,k,none⟩ v):=by rw[sH _ _ _ _ _ _ _ h.bo];refine⟨iT h.ext (aZ _) _,?_,(mo _ _ _ _ aE).trans h.res⟩;rw[gu _ _ _ _ _ _ h.bo,bx]
def CP.own(h:CP w p s W){base e n k:Nat}{v:K}{b3:List K}(ho:W.ownsRow base e n v k b3)(i:Nat)(x:K)(bO:e≠36):(W.setCell ⟨w,i,none⟩ x).ownsRow 0 e n v k b3:=by rw[sH _ _ _ _ _ _ _ h.bo];exact eX (ho.mono (eG _)) h.bo bO _
end
theorem LJ(p:bP)(s:dS)(h1:p.ar.length<=1000000)(h2:p.fc.length<=1000000)(T:p.lc.length<=1000000)(af:p.fa.length<=1000000)(w:G)(hr:rD w p s)(g:Nat)(hg:g=172\/g=174):Calls prog g #[iX p s] w λe F=>∃s',e=aI (iX p s')/\Ext w F/\lI F p s':=by
 have nj:=z (λW (D:Ext w W)=>aeM _ p.ar h1 W (hr.ar.ext D));have pd:=z (λW (D:Ext w W)=>aeN _ p.fa af W (hr.fa.ext D));have eb:=z (λW (D:Ext w W)=>Wu _ p.fc h2 W (hr.fc.ext D));have ec:=z (λW (D:Ext w W)=>Wu _ p.lc T W (hr.lc.ext D));have fN:CP w p s ((w.alloc (J (cK p s).toArray 36)).alloc (J jv 36)):=by
  refine⟨((O w).alloc _).alloc _,aJ (bA w _) ((O _).alloc _),?_⟩;have:=bA (w.alloc (J (cK p s).toArray 36)) (J jv 36)
  rwa [dR]at this
 have ce:=z fN;obtain⟨ar,fm,fc,dn,lm,lc,fa,fd,sp,we,pe,rt,np⟩:=p;obtain⟨a0,c0,JP,JR,Hm,Hn,NE,NF⟩:=s;unfold iX;obtain⟨gE,m5⟩:∃gE,gE=w.heap.size:=⟨_,rfl⟩;unfold cK;dsimp only at *;rcases hg with rfl|rfl
 case' inl=>go_in
 case' inr=>go_in
 all_goals
  go_upto_region 4 with(first
   |(refine(nj.o _ ce.o.ext).mono ?_;rintro e I ⟨a1,c1,rfl,Q,d4⟩
     have V:=ce.o.ext' Q;have dg:=dw V.bo 0;have aK:I.cell? w=some (E a0 ar c0):=aG V.bo 0;have ac:=V.put (s':=⟨a1,c1,JP,JR,Hm,Hn,NE,NF⟩) 0 (E a1 ar c1) rfl;have dc:(I.setCell w (E a1 ar c1)).cell? ⟨w,6,none⟩=some (E NE fa NF):=aG ac.bo 6;have H1:=z (ah ac (V.own d4 0 (E a1 ar c1) Y));clear Q d4 V ac)
   |(refine(pd.o _ H1.o.1.ext).mono ?_;rintro e aO ⟨a2,c2,rfl,ag,fv⟩
     have V:=H1.o.1.ext' ag;have fg:=dw V.bo 6;have aV:aO.cell? ⟨w,6,none⟩=some (E NE fa NF):=aG V.bo 6;have ac:=V.put (s':=⟨a1,c1,JP,JR,Hm,Hn,a2,c2⟩) 6 (E a2 fa c2) rfl;have dv:(aO.setCell ⟨w,6,none⟩ (E a2 fa c2)).cell? ⟨w,2,none⟩=some (E JP fc JR):=aG ac.bo 2;have bK:=z (ah ac (ah (V.own (mF H1.o.2 ag) 6 (E a2 fa c2) Y) (V.own fv 6 (E a2 fa c2) Y)));clear ag fv V ac)
   |(refine(eb.o _ bK.o.1.ext).mono ?_;rintro e bj ⟨a3,c3,rfl,a',nz⟩
     have V:=bK.o.1.ext' a';have mw:=dw V.bo 2;have cC:bj.cell? ⟨w,2,none⟩=some (E JP fc JR):=aG V.bo 2;have ac:=V.put (s':=⟨a1,c1,a3,c3,Hm,Hn,a2,c2⟩) 2 (E a3 fc c3) rfl;have g':(bj.setCell ⟨w,2,none⟩ (E a3 fc c3)).cell? ⟨w,5,none⟩=some (E Hm lc Hn):=aG ac.bo 5;have es:=z (ah ac (ah (V.own (mF bK.o.2.1 a') 2 (E a3 fc c3) Y) (ah (V.own (mF bK.o.2.2 a') 2 (E a3 fc c3) Y) (V.own nz 2 (E a3 fc c3) Y))));clear a' nz V ac))
  go_wp2_with(first
   |(refine(ec.o _ es.o.1.ext).mono ?_;rintro e dC ⟨a4,c4,rfl,cN,fY⟩
     have V:=es.o.1.ext' cN;have f4:=dw V.bo 5;have gA:dC.cell? ⟨w,5,none⟩=some (E Hm lc Hn):=aG V.bo 5;have ac:=V.put (s':=⟨a1,c1,a3,c3,a4,c4,a2,c2⟩) 5 (E a4 lc c4) rfl;have dE:=z (ah ac (ah (V.own (mF es.o.2.1 cN) 5 (E a4 lc c4) Y) (ah (V.own (mF es.o.2.2.1 cN) 5 (E a4 lc c4) Y) (ah (V.own (mF es.o.2.2.2 cN) 5 (E a4 lc c4) Y) (V.own fY 5 (E a4 lc c4) Y)))));clear cN fY V ac)
   |(refine wp_load_row 36 (.tmp 1) rfl w.heap.size rfl 36 _ _ _ dE.o.1.bo underlying36 rfl rG ?_)
   |(refine rR rfl 36 (.tmp 1) rfl w.heap.size rfl 36 _ _ _ dE.o.1.bo underlying36 rfl rG ?_)
   |(refine wpList_store_rowTo rfl 36 (.tmp 2) (.tmp 23) rfl rfl (w.heap.size+1) (cK ⟨ar,fm,fc,dn,lm,lc,fa,fd,sp,we,pe,rt,np⟩ ⟨a1,c1,a3,c3,a4,c4,a2,c2⟩).toArray rfl rfl 36 _ dE.o.1.res rG rfl Fe ?_))
  have be:=gu _ _ _ (cK ⟨ar,fm,fc,dn,lm,lc,fa,fd,sp,we,pe,rt,np⟩ ⟨a1,c1,a3,c3,a4,c4,a2,c2⟩).toArray _ _ dE.o.1.res;refine cO (v:=bg (cK ⟨ar,fm,fc,dn,lm,lc,fa,fd,sp,we,pe,rt,np⟩ ⟨a1,c1,a3,c3,a4,c4,a2,c2⟩).toArray) ?_ rfl ?_
  ·first|exact lQ results172 _ _ _ _ _ _ _ rfl be underlying36 rfl aj|exact lQ results174 _ _ _ _ _ _ _ rfl be underlying36 rfl aj
  ·exact⟨⟨a1,c1,a3,c3,a4,c4,a2,c2⟩,rfl,iT dE.o.1.ext aE _,⟨eX dE.o.2.1 dE.o.1.res Y _,eX dE.o.2.2.2.1 dE.o.1.res Y _,eX dE.o.2.2.2.2 dE.o.1.res Y _,eX dE.o.2.2.1 dE.o.1.res Y _⟩⟩
end LT
end Go.Proofs.YtopfefhenfineaaGreat
namespace Go.Proofs.YtopfefhenfineaaGreat
open Go.Proofs.Tryz Go Go.RowKit bh
namespace LT
variable{P:Program}{W aa:G}{b:Nat}{e k t:dD}{l:List (bn×K)}
def qK(W:G)(b:Nat)(l:List (bn×K)):Prop:= ∃km clock,W.heap[b]?=some (.map km clock)/\km.toList.map (λe=>(e.key,e.val))=l.map λx=>(N x.1,x.2)
def qK.ext(h:qK W b l)(D:Ext W aa):qK aa b l:=by obtain⟨km,c,h1,h2⟩:=h;exact⟨km,c,aJ h1 D,h2⟩
def qK.made(W:G):qK (W.alloc (.map #[] 0)) W []:=⟨#[],0,bA _ _,rfl⟩
def qK.lt(h:qK W b l):b<W.heap.size:=by obtain⟨_,_,h1,-⟩:=h;exact(dG.1 h1).1
def ZF(k:bn):∀(km:List MapEntry)(l:List (bn×K)) (i:Nat),km.map (λe=>(e.key,e.val))=l.map (λx=>(Value.string x.1,x.2))->∃r,Instr.findNow .string (.string k) km i=some r/\r.map (·.2)=(l.find? λx=>k==x.1).map (·.2)
 | [],l,i,h=>by
   cases l with
   |nil=>exact⟨none,rfl,rfl⟩
   |cons _ _=>cases h
 |e::km,l,i,h=>by
  cases l with
  |nil=>cases h
  |cons x l=>
   simp only[fK,List.cons.injEq,Prod.mk.injEq]at h;obtain⟨⟨h1,h2⟩,T⟩:=h;unfold Instr.findNow;rw[h1,List.find?_cons];have ab:Instr.sameNow .string (.string k) (.string x.1)=some (k==x.1):=rfl;rw[ab];cases hk:(k==x.1)
   ·exact ZF k km l (i+1) T
   ·exact⟨some (i,e.val),rfl,by simp[h2]⟩
theorem amI(W:G)(an:P.underlying t=some .string)(aEf:Bool)(s:bn):(Instr.checkKey aEf 10000 t (N s)).run P W= .ok () W:=by unfold Instr.checkKey;simp[run_underlying an,Result.andThen]
theorem amJ(W:G)(an:P.underlying t=some .string)(k:bn){km:List MapEntry}{r:Option (Nat×K)}(h:Instr.findNow .string (.string k) km 0=some r):(Instr.findKey t (.string k) km).run P W= .ok r W:=by unfold Instr.findKey;simp[run_underlying an,h,Result.andThen]
theorem amK(h:qK W b l){aR:K}(an:P.underlying t=some (.map k e))(hk:P.underlying k=some .string)(bL:(zeroValue e).run P W= .ok aR W)(s:bn):(Instr.lookup t (.map (some b)) (N s) true).run P W= .ok (bH #[(((l.find? λx=>s==x.1).map (·.2)).getD aR),av (l.find? λx=>s==x.1).isSome]) W:=by
 obtain⟨km,c,h1,h2⟩:=h;obtain⟨r,T,af⟩:=ZF s km.toList l 0 h2;have aQ:=amJ W hk s T;have a9:=amI (P:=P) W hk km.isEmpty s;have ab:(l.find? λx=>s==x.1).isSome=r.isSome:=by rw[<-Option.isSome_map (f:=Prod.snd),<-af,Option.isSome_map]
 rw[ab,<-af];unfold Instr.lookup;cases r with
 |none=>simp[run_underlying an,MapKept.run_getObj_map h1,a9,aQ,bL,Result.andThen]
 |some v=>obtain⟨i,v⟩:=v;simp[run_underlying an,MapKept.run_getObj_map h1,a9,aQ,Result.andThen]
theorem Bj(h:qK W b l)(an:P.underlying t=some (.map k e))(hk:P.underlying k=some .string)(s:bn)(hn:(l.find? λx=>s==x.1)=none)(v:K):∃aa,(Instr.mapUpdate t (.map (some b)) (N s) v).run P W= .ok () aa/\qK aa b (l++[(s,v)])/\W.grownBy aa (some b):=by
 obtain⟨km,c,h1,h2⟩:=h;obtain⟨r,T,af⟩:=ZF s km.toList l 0 h2;rw[hn]at af;obtain rfl:r=none:=by cases r with
  |none=>rfl
  |some _=>cases af
 have aQ:=amJ W hk s T;have a9:=amI (P:=P) W hk false s;have V:=(dG.1 h1).1;refine⟨ChangeMaps.setBlock W b (.map (km.push {key:=N s,val:=v,born:=c}) (c+1)),?_,⟨_,_,ChangeMaps.heap_setBlock_same h1 _,by simp[h2]⟩,⟨rfl,rfl,rfl,by simp[ChangeMaps.setBlock],λi _ hi=>ChangeMaps.heap_setBlock_other h1 _ (λe=>hi (by rw[e]))⟩⟩;unfold Instr.mapUpdate ChangeMaps.setBlock;simp[run_underlying an,MapKept.run_getObj_map h1,a9,aQ,MapKept.run_setObj_map _ h1,Result.andThen]
end LT
end Go.Proofs.YtopfefhenfineaaGreat
namespace Go.Proofs.YtopfefhenfineaaGreat
open Go.Proofs.Tryz Go.RowKit Go.Shelf bh
attribute[local go_sem] Oper.semAt_some
variable{S:Prop}
def amL(h:S:=by unfold aM;go_in;go_wp2_with(refine ak (cI.o _) ?_;intro I Q);go_ret2;exact⟨ay,Q⟩):S:=h
namespace LT
open bM (dN)
variable{aq W aa:G}{B b b1 b2 c g jX k m n0 t:Nat}{U Su:Array K}{l:List (bn×K)}{s s':dS}{i2 x:Bool}{v:K}
def sw(v:bn):Nat×Int:=if v=⟨#[]⟩\/v=⟨#[107,105,108,108]⟩then(2147483648,0)else if (oh.mZ (oh.bytes v)).2=0 then(327680|||(oh.mZ (oh.bytes v)).1,0)else(0,160)
def ZG(n:Nat)(h:n<=4095):327680|||n=327680+n:=by have:=(Nat.two_pow_add_eq_or_of_lt (i:=16) (b:=n) aE 5).symm;exact wK
def aEg(n:Nat)(h:n<=4095):bits BinOp.or IntKind.u32 327680 (n:Int)=((327680|||n:Nat):Int):=by rw[ZG n h];have h1:bits BinOp.or IntKind.u32 ((327680:Nat):Int) (n:Int)=IntKind.u32.wrap (((BitVec.ofInt 32 (327680:Nat)|||BitVec.ofInt 32 n).toNat:Nat):Int):=rfl;rw[show((327680:Int))=((327680:Nat):Int)from rfl,h1,BitVec.ofInt_natCast,BitVec.ofInt_natCast,BitVec.toNat_or,BitVec.toNat_ofNat,BitVec.toNat_ofNat,Nat.mod_eq_of_lt Y,Nat.mod_eq_of_lt aE,ZG n h,IntKind.wrap_u32];omega
def amM(v:bn):((sw v).2=0/\((sw v).1=2147483648\/327680<=(sw v).1/\(sw v).1<=331775))\/((sw v).2=160/\(sw v).1=0):=by
 unfold sw;split
 ·exact .inl ⟨rfl,.inl rfl⟩
 ·split
  ·rename_i h;rcases oh.yt (oh.bytes v)with⟨-,h2⟩|h2
   ·exact .inl ⟨rfl,.inr (by dsimp only;rw[ZG _ h2];omega)⟩
   ·rw[h]at h2;cases h2
  ·exact .inr ⟨rfl,rfl⟩
theorem aEh(v:bn)(hv:v.size<=1000000)(w:G):aM 218 #[N v] w (bH #[M ((sw v).1:Int),H (sw v).2]):=by
 have cA:=λW=>oh.He v hv W
 have cv:=oh.yt (oh.bytes v);have bd:sw v=if v=⟨#[]⟩\/v=⟨#[107,105,108,108]⟩then(2147483648,0)else if (oh.mZ (oh.bytes v)).2=0 then(327680|||(oh.mZ (oh.bytes v)).1,0)else(0,160):=rfl
 generalize sw v=aH at *;generalize oh.mZ (oh.bytes v)=py at *;obtain⟨hY,aEi⟩:=py;dsimp only at *;have cI:=z cA;by_cases h1:v=⟨#[]⟩
 ·rw[aF (.inl h1)]at bd;subst bd;have ed:v.toList.isEmpty=true:=by rw[h1,Lib.toList_data];rfl
  unfold aM;go_in;go_wp;go_ret2;exact⟨ay,O _⟩
 have ed:v.toList.isEmpty=false:=by rw[Lib.toList_data,List.isEmpty_eq_false_iff];exactλe=>h1 (ByteArray.ext (Array.ext' e))
 by_cases h2:v=⟨#[107,105,108,108]⟩
 ·rw[aF (.inr h2)]at bd;subst bd;have eq:(v.toList==[107,105,108,108])=true:=by rw[h2,Lib.toList_data];rfl
  unfold aM;go_in;go_wp;go_ret2;exact⟨ay,O _⟩
 have eq:(v.toList==[107,105,108,108])=false:=iH.2 λh=>h2 (by rw[Lib.toList_data]at h;exact ByteArray.ext (Array.ext' h))
 rw[au (by rintro(h|h)<;>contradiction)]at bd;rcases cv with⟨rfl,X⟩|rfl
 ·rw[aF rfl]at bd;subst bd;have V:=aEg hY X;exact amL
 ·rw[au Y]at bd;subst bd;exact amL
theorem amN{a:Option Addr}{U:List dQ}{W:G}(V:W.heap[B]?=some (J Su 36 (0,0)))(h1:Su[k]?=some (aC m))(h2:Su[k+1]?=some (E a U c))(hr:aS W 2 dY (E a U c) U)(R:iE m U=true)(g:Nat)(g1:∀args w,(callFunc g args).run prog w= .ok (.enter g args) w)(hg:∀W,Calls prog g #[aB (some B)] W λe F=>e=aI (aB (some ⟨B,k,none⟩))/\F=W)(sE:W.heap[b1]?=some (J #[.func (.func g) #[] #[]] 327 (0,0)))(sL:W.heap[b2]?=some (J #[av i2] 4 (0,0)))(v:bn)(hv:v.size<=100000):Calls prog 267 #[aB (some B),N v,aB (some b1),aB (some b2)] W λe F=>∃(cM:Nat)(d':List dQ)(ns:List dB)(bu:Option Addr)(c':Nat)(hW:K)(az:G),e=aI hW/\pX i2 m U v cM d' ns/\Ext W az/\az.ownsRow 0 121 2 (E bu d' c') d' (d'.flatMap dY)/\az.ownsRow W 45 4 hW ns (ns.flatMap iP)/\F=(az.setCell ⟨B,k,none⟩ (aC cM)).setCell ⟨B,k+1,none⟩ (E bu d' c'):=by
 have g4:=z hg;have bY:=z (λ(aa:G) (D:Ext W aa)=>aAN m a c U v i2 hv R aa (hr.ext D));have ww:=z (λ(aa:G) (D:Ext W aa)=>aJ V D);have ef:W.cell? b1=some (.func (.func g) #[] #[]):=aG sE 0;have cY:W.cell? b2=some (av i2):=aG sL 0;have eh:W.cell? ⟨B,k,none⟩=some (aC m):=(aG V k).trans h1;have hL:W.cell? ⟨B,k+1,none⟩=some (E a U c):=(aG V (k+1)).trans h2;clear V h1 h2 hr hg sE sL;go_in;go_upto_region 2 with(refine ak (g4.o _) ?_;intro I p1;subst p1);have aEj:=dh cY;have aEk:=dh eh;have aEl:=dh hL;have aEm:=λo=>((O I).drew.alloc o).cell cY
 have aEn:=λo=>((O I).drew.alloc o).cell eh
 have aEo:=λo=>((O I).drew.alloc o).cell hL
 have l2:=gD _ _ cY;have l3:=gD _ _ eh;dsimp only at l2 l3;have n2:b2≠I.heap.size:=aE;have n3:B≠I.heap.size:=aE;go_cut [8,9] (λOj Gu wx=>∃(cM:Nat) (d':List dQ) (ns:List dB) (bu:Option Addr) (c':Nat) (az:G) (n:Nat),az=wx/\Oj=aB (some n)/\pX i2 m U v cM d' ns/\Ext I az/\az.ownsRow 0 121 2 (E bu d' c') d' (d'.flatMap dY)/\az.ownsRow I 45 4 Gu ns (ns.flatMap iP)/\az.heap[n]?=some (J #[aC cM,E bu d' c'] 31 (0,0)))
 case first=>
  go_region_with(refine(bY.o _ (by first|exact O _|exact(O _).drew|exact((O _).alloc _).drew|exact(O _).drew.alloc _)).mono ?_;rintro e aO ⟨cM,d',ns,bu,c',hW,rfl,ag,tR,fv,kj⟩
                 unfold q9
                 first
                  |(have hn:aO.heap[I.heap.size]?=some (J #[aC 0,E none 0 0] 31 (0,0)):=aJ (bA I.drew (J #[aC 0,E none 0 0] 31)) ag
                    obtain⟨dm,cs⟩:=oU hn;have f0:=dw hn 0;have dg:=dw hn 1;have ev:=z hn;clear hn)
                  |(have hn:=bA aO (J #[aC 0,E none 0 0] 31)
                    obtain⟨dm,cs⟩:=oU hn;have f0:=dw hn 0;have dg:=dw hn 1;have ev:=z hn;clear hn)
                 have bK:=z (ah ag (ah tR (ah fv kj)));clear ag tR fv kj)
  all_goals
   go_wp2_with fail;go_meet
   first
    |exact⟨cM,d',ns,bu,c',_,_,rfl,rfl,bK.o.2.1,((O I).drew.trans bK.o.1).alloc _,mF bK.o.2.2.1 ((O _).alloc _),mF bK.o.2.2.2 ((O _).alloc _),bA _ _⟩
    |(rw[set2 ev.o]
      exact⟨cM,d',ns,bu,c',_,_,rfl,rfl,bK.o.2.1,iT (((O I).drew.alloc _).trans bK.o.1) (aZ _) _,eX bK.o.2.2.1 ev.o Y _,eX (bK.o.2.2.2.mono (by show _<=(I.heap.push _).size;rw[Array.size_push];exact Nat.le_succ _)) ev.o Y _,gu _ _ _ _ _ _ ev.o⟩)
 case rest=>obtain⟨cM,d',ns,bu,c',az,n,rfl,rfl,tR,Q,d4,ft,DT⟩:=hcut;have AE:=ww.o _ Q;obtain⟨dm,cs⟩:=oU DT;have aK:=Q.cell eh;have aV:=Q.cell hL;have dg:=dw AE k;have fg:=dw AE (k+1);have H1:=z (ah tR (ah Q (ah d4 ft)));clear tR Q d4 ft AE aEj aEk aEl aEm aEn aEo ef cY eh hL;go_wp2_with fail;go_ret;exact⟨cM,d',ns,bu,c',_,az,rfl,H1.o.1,H1.o.2.1,H1.o.2.2.1,H1.o.2.2.2,rfl⟩
theorem aEp(B:Nat)(W:G):Calls prog 215 #[aB (some B)] W λe F=>e=aI (aB (some ⟨B,1,none⟩))/\F=W:=by go_in;go_wp;exact vE
theorem aEq(B:Nat)(W:G):Calls prog 216 #[aB (some B)] W λe F=>e=aI (aB (some ⟨B,4,none⟩))/\F=W:=by go_in;go_wp;exact vE
theorem aEr(g:Nat)(b:Bool)(W:G):Calls prog 214 #[.func (.func g) #[] #[],av b] W λe F=>e=aI (.func (.func 267) #[] #[aB (some W),aB (some ⟨W+1,0,none⟩)])/\F=(W.alloc (J #[.func (.func g) #[] #[]] 327)).alloc (J #[av b] 4):=by go_in;go_wp;exact vE
structure wE(B:Nat)(p:bP)(s:dS)(W:G):Prop where
 bo:W.heap[B]?=some (J (cK p s).toArray 36 (0,0))
 po:lI W p s
def wE.ext'{p:bP}(h:wE B p s W)(D:Ext W aa):wE B p s aa:=⟨aJ h.bo D,h.po.ext D⟩
def SY(t:Nat):Bool:=t==36
def wE.put{p p':bP}(h:wE B p s W)(hB:n0<=B)(k:Nat)(v:K)(bx:(cK p s).toArray.setIfInBounds k v=(cK p' s').toArray)(ac:lI W p' s'):wE B p' s' (W.setCell ⟨B,k,none⟩ v)/\bq n0 SY W (W.setCell ⟨B,k,none⟩ v):=by have f3:bq n0 SY W (W.setCell ⟨B,k,none⟩ v):=bq.set (p:=⟨B,k,none⟩) h.bo rfl hB v;exact⟨⟨by rw[<-bx];exact fH h.bo k v,ac.tk f3 rfl rfl rfl⟩,f3⟩
def Ol{t:dD}(h:W.heap[B]?=some (J U t (0,0)))(k:Nat)(v:K):W.grownBy (W.setCell ⟨B,k,none⟩ v) (some B):=by rw[sH _ _ _ _ _ _ _ h];exact⟨rfl,rfl,rfl,by rw[setRow_size];exact aZ _,λi _ hi=>mo _ _ _ _ (λe=>hi (by rw[e]))⟩
theorem aEs{p:bP}(h:wE B p s W)(hB:n0<=B)(v:bn)(hv:v.size<=100000):Calls prog 217 #[aB (some B),N v] W λe F=>∃(u:K)(ns:List dB)(p':bP),e=aI u/\wE B p' s F/\W.grownBy F (some B)/\bq n0 SY W F/\F.ownsRow W 45 4 u ns (ns.flatMap iP)/\((ns=[]/\(sw v).2=0/\p'= {p with dn:=(sw v).1})\/(ns=[⟨[],0,160,(oh.bytes v).take 60⟩]/\(sw v).2=160/\p'=p)):=by
 have cI:=λW=>aEh v aE W
 have cv:=amM v;generalize sw v=aH at *;obtain⟨hY,aEi⟩:=aH;dsimp only at *;have amO:=z cI;have bC:=z h;rcases cv with⟨rfl,X⟩|⟨rfl,rfl⟩
 ·go_in;go_wp2_with(refine ak (amO.o _) ?_;intro I Q;have h1:=bC.o.ext' Q;have c3:I.cell? ⟨B,3,none⟩=some (M p.dn):=aG h1.bo 3;have mw:=dw h1.bo 3;have H1:=z (ah h1 Q));go_ret;have ac:=H1.o.1.put hB 3 (M hY) (p':= {p with dn:=hY}) (s':=s) rfl ⟨H1.o.1.po.ar,H1.o.1.po.fc,H1.o.1.po.lc,H1.o.1.po.fa⟩;exact⟨E none 0 0,[],_,rfl,ac.1,((NZ H1.o.2).but _).trans (Ol H1.o.1.bo 3 _),(bq.ext H1.o.2).trans ac.2,⟨rfl,.inl ay⟩,.inl ⟨rfl,ay,rfl⟩⟩
 ·obtain⟨k,hk⟩:∃k,k=min v.size 60:=⟨_,rfl⟩;have RC:min (v:Int) 60=(k:Int):=aE;have xc:k<=v.size:=aE;have EE:(k:Int)<=v:=aE;have LZ:v.extract 0 k=str ((oh.bytes v).take 60):=by
   rw[RG];show str ((oh.bytes v).take k)=_
   congr 1
   by_cases be:v.size<=60
   ·rw[hk,mQ be,rJ (by show v.data.toList.length<=_;simp),rJ (by show v.data.toList.length<=_;simpa using be)]
   ·rw[hk,Nat.min_eq_right aE]
  have d2:=z hk;clear hk;go_in;go_wp2_with(refine ak (amO.o _) ?_;intro I Q;have H1:=z (ah (bC.o.ext' Q) Q);clear Q);go_ret;have cc:=qQ pW I [⟨[],0,160,(oh.bytes v).take 60⟩] 45 I W rfl H1.o.2.size vF;exact⟨E (some I) 1 1,[⟨[],0,160,(oh.bytes v).take 60⟩],p,rfl,H1.o.1.ext' ((O _).alloc _),(NZ (H1.o.2.alloc _)).but _,bq.ext (H1.o.2.alloc _),cc,.inr ⟨rfl,ay,rfl⟩⟩
def xq(W:G)(g:Nat)(b:Bool)(v:K):Prop:= ∃b1 b2,v= .func (.func 267) #[] #[aB (some ⟨b1,0,none⟩),aB (some ⟨b2,0,none⟩)]/\W.heap[b1]?=some (J #[.func (.func g) #[] #[]] 327 (0,0))/\W.heap[b2]?=some (J #[av b] 4 (0,0))
def xq.ext{b:Bool}(h:xq W g b v)(D:Ext W aa):xq aa g b v:=by obtain⟨b1,b2,e,h1,h2⟩:=h;exact⟨b1,b2,e,aJ h1 D,aJ h2 D⟩
theorem aEt(g:Nat)(b:Bool)(W:G):Calls prog 214 #[.func (.func g) #[] #[],av b] W λe F=>∃v,e=aI v/\Ext W F/\xq F g b v:=by
 refine ak (aEr g b W) ?_;rintro F rfl;refine⟨_,rfl,((O W).alloc _).alloc _,_,_,rfl,aJ (bA _ _) ((O _).alloc _),?_⟩;have:=bA (W.alloc (J #[.func (.func g) #[] #[]] 327)) (J #[av b] 4)
 rwa [dR]at this
def zH{B:G}(h:Ext W aq)(g:aq.grownBy B (some b))(V:W.heap.size<=b):Ext W B:=
 ⟨g.os.trans h.os,g.tape.trans h.tape,g.output.trans h.output,cB h.size g.size,λ_ hk=>(g.block _ (vw hk h.size) (λe=>by cases e;omega)).trans (h.block hk)⟩
def amP{B:G}{fr:Nat×Nat}(R:qK aq b l)(g:aq.grownBy B (some b))(h:aq.heap[k]?=some (J U t fr)):B.heap[k]?=some (J U t fr):=by
 refine(g.block k (dG.1 h).1 λe=> ?_).trans h;cases e
 obtain⟨_,_,h1,-⟩:=R;rw[h1]at h;cases h
def xq.map{B:G}(R:qK aq b l)(g:aq.grownBy B (some b))(h:xq aq jX x v):xq B jX x v:=by obtain⟨b1,b2,e,h1,h2⟩:=h;exact⟨b1,b2,e,amP R g h1,amP R g h2⟩
def CR:bn:=⟨#[83,121,115,116,101,109,67,97,108,108,70,105,108,116,101,114]⟩
def CS:bn:=⟨#[83,121,115,116,101,109,67,97,108,108,76,111,103]⟩
def CU:bn:=⟨#[83,121,115,116,101,109,67,97,108,108,69,114,114,111,114,78,117,109,98,101,114]⟩
theorem amQ(W:G):Calls prog 171 #[] W λe F=>∃(b:Nat)(gv ct:K),e=aI (.map (some b))/\Ext W F/\qK F b [(CR,gv),(CS,ct),(CU,.func (.func 217) #[] #[])]/\xq F 215 true gv/\xq F 216 false ct:=by
 have ec:=z aEt;have lz:∀W,(Instr.makeMap 274 none).run prog W= .ok (.map (some W.heap.size)) (W.alloc (.map #[] 0)):=λ_=>rfl
 have ET:=z (qK.made W);have X:W.heap.size<=W:=aZ _;go_in;go_wp2_with(first
  |(refine(ec.o 215 _ _).mono ?_;rintro e I ⟨gv,rfl,Q,hd1⟩
    obtain⟨az,k2,kz,vb⟩:=Bj (ET.o.ext Q) underlying274 underlying9 CR rfl gv;unfold CR at k2;have H1:=z (ah (zH (((O W).alloc _).trans Q) vb X) (ah kz (hd1.map (ET.o.ext Q) vb)));clear Q hd1 kz vb)
  |(refine(ec.o 216 _ _).mono ?_;rintro e aO ⟨ct,rfl,ag,t5⟩
    obtain⟨a8,cQ,eS,m4⟩:=Bj (H1.o.2.1.ext ag) underlying274 underlying9 CS rfl ct;obtain⟨cd,w2,zj,t7⟩:=Bj eS underlying274 underlying9 CU rfl (.func (.func 217) #[] #[]);unfold CS at cQ;unfold CU at w2;have es:=z (ah (zH (zH (H1.o.1.trans ag) m4 X) t7 X) (ah zj (ah (((H1.o.2.2.ext ag).map (H1.o.2.1.ext ag) m4).map eS t7) ((t5.map (H1.o.2.1.ext ag) m4).map eS t7))));clear ag t5 eS m4 zj t7))
 go_ret;exact⟨W.heap.size,gv,ct,rfl,es.o.1,es.o.2.1,es.o.2.2.1,es.o.2.2.2⟩
def J9(key v:bn)(p p':bP)(ns:List dB):Prop:=
 (key=CR/\∃cM d',pX true p.fm p.fc v cM d' ns/\p'= {p with fm:=cM,fc:=d'})\/
 (key=CS/\∃cM d',pX false p.lm p.lc v cM d' ns/\p'= {p with lm:=cM,lc:=d'})\/
 (key=CU/\((ns=[]/\(sw v).2=0/\p'= {p with dn:=(sw v).1})\/(ns=[⟨[],0,160,(oh.bytes v).take 60⟩]/\(sw v).2=160/\p'=p)))
def ZI(n0 B:Nat)(key v:bn)(p:bP)(W:G)(e:Ending)(F:G):Prop:= ∃(u:K)(ns:List dB)(p':bP)(s':dS),e=aI u/\wE B p' s' F/\W.grownBy F (some B)/\bq n0 SY W F/\F.ownsRow W 45 4 u ns (ns.flatMap iP)/\J9 key v p p' ns
theorem aEu{p:bP}{W:G}(h:wE B p s W)(hB:n0<=B)(R:iE p.fm p.fc=true)(cH:W.heap[b1]?=some (J #[.func (.func 215) #[] #[]] 327 (0,0)))(ck:W.heap[b2]?=some (J #[av true] 4 (0,0)))(v:bn)(hv:v.size<=100000):Calls prog 267 #[aB (some B),N v,aB (some b1),aB (some b2)] W (ZI n0 B CR v p W):=by refine(amN h.bo (k:=1) rfl rfl h.po.rd.fc R 215 (enters_of func215 aj rfl) (λW=>aEp B W) cH ck v hv).mono ?_;rintro e F ⟨cM,d',ns,bu,c',hW,az,rfl,tR,D,ho,hn,rfl⟩;have h1:=(h.ext' D).put hB 1 (aC cM) (p':= {p with fm:=cM}) (s':=s) rfl ⟨(h.ext' D).po.ar,(h.ext' D).po.fc,(h.ext' D).po.lc,(h.ext' D).po.fa⟩;have fv:=h1.2.own ho rfl;have h2:=h1.1.put hB 2 (E bu d' c') (p':= {p with fm:=cM,fc:=d'}) (s':= {s with fa:=bu,fc:=c'}) rfl ⟨h1.1.po.ar,fv,h1.1.po.lc,h1.1.po.fa⟩;exact⟨hW,ns,_,_,rfl,h2.1,(((NZ D).but _).trans (Ol (h.ext' D).bo _ _)).trans (Ol h1.1.bo _ _),(bq.ext D).trans (h1.2.trans h2.2),h2.2.own (h1.2.own hn rfl) rfl,.inl ⟨rfl,cM,d',tR,rfl⟩⟩
theorem aEv{p:bP}{W:G}(h:wE B p s W)(hB:n0<=B)(R:iE p.lm p.lc=true)(cH:W.heap[b1]?=some (J #[.func (.func 216) #[] #[]] 327 (0,0)))(ck:W.heap[b2]?=some (J #[av false] 4 (0,0)))(v:bn)(hv:v.size<=100000):Calls prog 267 #[aB (some B),N v,aB (some b1),aB (some b2)] W (ZI n0 B CS v p W):=by refine(amN h.bo (k:=4) rfl rfl h.po.rd.lc R 216 (enters_of func216 aj rfl) (λW=>aEq B W) cH ck v hv).mono ?_;rintro e F ⟨cM,d',ns,bu,c',hW,az,rfl,tR,D,ho,hn,rfl⟩;have h1:=(h.ext' D).put hB 4 (aC cM) (p':= {p with lm:=cM}) (s':=s) rfl ⟨(h.ext' D).po.ar,(h.ext' D).po.fc,(h.ext' D).po.lc,(h.ext' D).po.fa⟩;have fv:=h1.2.own ho rfl;have h2:=h1.1.put hB 5 (E bu d' c') (p':= {p with lm:=cM,lc:=d'}) (s':= {s with la:=bu,lc:=c'}) rfl ⟨h1.1.po.ar,h1.1.po.fc,fv,h1.1.po.fa⟩;exact⟨hW,ns,_,_,rfl,h2.1,(((NZ D).but _).trans (Ol (h.ext' D).bo _ _)).trans (Ol h1.1.bo _ _),(bq.ext D).trans (h1.2.trans h2.2),h2.2.own (h1.2.own hn rfl) rfl,.inr (.inl ⟨rfl,cM,d',tR,rfl⟩)⟩
theorem aEw{p:bP}(h:wE B p s W)(hB:n0<=B)(v:bn)(hv:v.size<=100000):Calls prog 217 #[aB (some B),N v] W (ZI n0 B CU v p W):=by refine(aEs h hB v hv).mono ?_;rintro e F ⟨u,ns,p',rfl,ai,hg,an,hn,be⟩;exact⟨u,ns,p',s,rfl,ai,hg,an,hn,.inr (.inr ⟨rfl,be⟩)⟩
def ZJ(W:G)(key:bn)(d:K):Prop:=
 (key=CR/\xq W 215 true d)\/(key=CS/\xq W 216 false d)\/(key=CU/\d= .func (.func 217) #[] #[])
def yG(key:bn):Bool:=key==CR||(key==CS||key==CU)
def ba_eq{a b:bn}(h:(a==b)=true):a=b:=by have h2:(a.data==b.data)=true:=h;exact ByteArray.ext (by simpa using h2)
theorem amR{W:G}{b:Nat}{gv ct:K}(R:qK W b [(CR,gv),(CS,ct),(CU,.func (.func 217) #[] #[])])(h1:xq W 215 true gv)(h2:xq W 216 false ct)(key:bn):∃d,(Instr.lookup 274 (.map (some b)) (N key) true).run prog W= .ok (bH #[d,av (yG key)]) W/\(yG key=true->ZJ W key d):=by
 have X:=amK R underlying274 underlying9 (aR:= .nilFunc) rfl key;unfold yG ZJ;by_cases aK:(key==CR)=true
 ·refine⟨gv,?_,λ_=> .inl ⟨ba_eq aK,h1⟩⟩;rw[X];simp[aK]
 ·rw[wz]at aK;by_cases aV:(key==CS)=true
  ·refine⟨ct,?_,λ_=> .inr (.inl ⟨ba_eq aV,h2⟩)⟩;rw[X];simp[aK,aV]
  ·rw[wz]at aV;by_cases cC:(key==CU)=true
   ·refine⟨_,?_,λ_=> .inr (.inr ⟨ba_eq cC,rfl⟩)⟩;rw[X];simp[aK,aV,cC]
   ·rw[wz]at cC;refine⟨.nilFunc,?_,λh=> ?_⟩
    ·rw[X];simp[aK,aV,cC]
    ·rw[aK,aV,cC]at h;cases h
end LT
def ZK(h:S:=by go_meet;exact⟨_,p',s',ns,rfl,wb.does Q3 t7,oj.mono wb.ext.size,by rw[hk];exact gj⟩):S:=h
namespace LT
open bM (dN)
variable{B b base c e g k k' n:Nat}{L ns:List dB}{W aa w:G}{a:dN}{U:Array K}{s s':dS}{t:dD}{b3:List K}
structure xu(w:G)(p:bP)(s:dS)(a:dN)(W:G):Prop where
 ext:Ext w W
 fx:wE w p s W
 Gc:W.heap[w.heap.size+1]?=some (J (bM.kP a).toArray 148 (0,0))
 res:W.heap[w.heap.size+1+1]?=some (J jv 36 (0,0))
def xu.ext'{p:bP}(h:xu w p s a W)(D:Ext W aa):xu w p s a aa:=⟨h.ext.trans D,h.fx.ext' D,aJ h.Gc D,aJ h.res D⟩
def Fg(a:dN)(n:dB):dB:=⟨a.1,a.2.1,n.er,n.tx⟩
def qd(a:dN)(ns:List dB)(k:Nat):List dB:=(ns.take k).map (Fg a)++ns.drop k
def Hz(a:dN)(ns:List dB)(k:Nat):(qd a ns k).length=ns.length:=by unfold qd;rw[dA,dL,gV,mP];omega
def aEx(a:dN)(ns:List dB):qd a ns 0=ns:=by simp[qd]
def aEy(a:dN)(ns:List dB):qd a ns ns.length=ns.map (Fg a):=by simp[qd]
def aEz(a:dN)(ns:List dB)(k:Nat)(hk:k<ns):(qd a ns k)[k]'(by rw[Hz];exact hk)=ns[k]:=by
 have X:((ns.take k).map (Fg a)).length=k:=by rw[dL,gV];omega
 unfold qd;rw[List.getElem_append_right aE];simp only[X,Nat.sub_self,List.getElem_drop,nO]
def aEA(a:dN)(ns:List dB)(k:Nat)(hk:k<ns):(qd a ns k).set k (Fg a ns[k])=qd a ns (k+1):=by
 have X:((ns.take k).map (Fg a)).length=k:=by rw[dL,gV];omega
 unfold qd;rw[List.set_append_right _ _ aE,X,Nat.sub_self,kQ hk,List.set_cons_zero,mh hk,fQ,gJ]
 rfl
def aEB(h:W.ownsRow base e n (E (some g) k c) k' b3)(V:W.heap[B]?=some (J U t (0,0)))(bO:e≠t):g≠B:=by
 rintro rfl;rcases h.2 with⟨h2,_⟩|⟨jX,cap,bm,h2,hg,be,r⟩
 ·cases h2
 ·cases h2
  rw[V]at be;simp only[jB,vB]at be;exact bO be.2.1.symm
def aEC(h:W.ownsRow base e n (E (some g) k c) k' b3):∃bm,W.heap[g]?=some (J bm e (0,0)):=by
 rcases h.2 with⟨h2,_⟩|⟨jX,cap,bm,h2,hg,be,r⟩
 ·cases h2
 ·cases h2;exact⟨bm,be⟩
def xu.note{p:bP}(h:xu w p s a W)(hg:W.heap[g]?=some (J U 45 (0,0)))(hB:w.heap.size<=g)(o:Nat)(x:K):xu w p s a (W.setCell ⟨g,o,none⟩ x):=by have f3:bq w (λt=>t==45) W (W.setCell ⟨g,o,none⟩ x):=bq.set (p:=⟨g,o,none⟩) hg rfl hB x;exact⟨f3.lX h.ext (aZ _),⟨f3.blk h.fx.bo (.inr rfl),h.fx.po.tk f3 rfl rfl rfl⟩,f3.blk h.Gc (.inr rfl),f3.blk h.res (.inr rfl)⟩
def Om{a:Option Addr}(h:W.ownsRow base e n (E a k c) k b3):k<=9223372036854775807:=by
 rcases h.2 with⟨-,h2⟩|⟨jX,cap,bm,h2,hg,be,ao,R,r⟩
 ·omega
 ·unfold maxLen at R;omega
def aba(h:w.ownsRow base 45 4 (E (some g) L c) L (L.flatMap iP))(hk:k<L):w.cell? ⟨g,k*4,none⟩=some (N (str L[k].fl))/\w.cell? ⟨g,k*4+1,none⟩=some (H (L[k].ln:Int)):=by obtain⟨a,c',h1,h2,T,af⟩:=eD pW h;simp only[eZ]at h1;obtain⟨rfl,-,rfl⟩:=h1;obtain⟨b,o,cU,g3⟩:=af k hk;simp only[jB,pJ,and_true]at cU;obtain⟨rfl,rfl⟩:=cU;have r0:=g3 0 JI;have dq:=g3 1 JI;simp only[gF,nO,iP,BG,yV]at r0 dq;exact⟨r0,dq⟩
def aED(h:w.ownsRow base 45 4 (E (some g) ns c) ns ((qd a ns k).flatMap iP))(hk:k<ns):((w.setCell ⟨g,k*4,none⟩ (N (str a.1))).setCell ⟨g,k*4+1,none⟩ (H a.2.1)).ownsRow base 45 4 (E (some g) ns c) ns ((qd a ns (k+1)).flatMap iP):=by have X:=Hz a ns k;rw[<-X]at h;have h1:=(vD pW h k 0 (N (str a.1)) ⟨a.1,ns[k].ln,ns[k].er,ns[k].tx⟩ aE Y (by rw[aEz a ns k hk];rfl)).1;have o':((qd a ns k).set k ⟨a.1,ns[k].ln,ns[k].er,ns[k].tx⟩).length=(qd a ns k).length:=kD;rw[<-o']at h1;have h2:=(vD pW h1 k 1 (H a.2.1) (Fg a ns[k]) (by rw[o'];omega) Y (by rw[List.getElem_set_self];rfl)).1;rw[List.set_set,aEA a ns k hk,o',X]at h2;exact h2
def xu.does{p p':bP}(h:xu w p s a W)(ai:wE w p' s' aa)(g:W.grownBy aa (some w.heap.size)):xu w p' s' a aa:=
 ⟨zH h.ext g (aZ _),ai,(g.block _ (dG.1 h.Gc).1 (λe=>by simp only[jB]at e;omega)).trans h.Gc,(g.block _ (dG.1 h.res).1 (λe=>by simp only[jB]at e;omega)).trans h.res⟩
theorem aEE(p:bP)(s:dS)(a:dN)(h1:p.ar.length<=1000000)(af:p.fa.length<=1000000)(kz:iE p.fm p.fc=true)(eS:iE p.lm p.lc=true)(hv:(str a.2.2.2.2).size<=100000)(w:G)(hr:rD w p s):Calls prog 120 #[iX p s,bg (bM.kP a).toArray] w λe F=>∃(s':dS)(u:K)(p':bP)(ns:List dB),e=aI (bH #[iX p' s',u])/\Ext w F/\lI F p' s'/\F.ownsRow w 45 4 u ns (ns.flatMap iP)/\((yG (str a.2.2.2.1)=false/\p'=p/\ns=[])\/∃lO,J9 (str a.2.2.2.1) (str a.2.2.2.2) p p' lO/\ns=lO.map λn=>⟨a.1,a.2.1,n.er,n.tx⟩):=by
 have o':=xZ kz;have pa:=xZ eS;have dt:=z (λW (D:Ext w W)=>LJ p s h1 aE aE af W (hr.ext D) 172 (.inl rfl));have d2:=z amQ;have mf:Ext w (((w.alloc (J (cK p s).toArray 36)).alloc (J (bM.kP a).toArray 148)).alloc (J jv 36)):=(((O w).alloc _).alloc _).alloc _;have sa:=bA w (J (cK p s).toArray 36);have sE:=bA (w.alloc (J (cK p s).toArray 36)) (J (bM.kP a).toArray 148);have sL:=bA ((w.alloc (J (cK p s).toArray 36)).alloc (J (bM.kP a).toArray 148)) (J jv 36);rw[dR]at sE;rw[dR,dR]at sL;have ce:=z (ah mf (ah (aJ (aJ sa ((O _).alloc (J (bM.kP a).toArray 148))) ((O _).alloc (J jv 36))) (ah (aJ sE ((O _).alloc (J jv 36))) sL)));clear mf sa sE sL hr;obtain⟨bX,gh⟩:∃bX,bX=((w.alloc (J (cK p s).toArray 36)).alloc (J (bM.kP a).toArray 148)).alloc (J jv 36):=⟨_,rfl⟩;rw[<-gh]at ce;have vs:=z gh;clear gh;unfold iX;go_in;go_upto_region 1 with fail;have gh:=vs.o;unfold jv at gh;rw[<-gh];clear gh;obtain⟨d6,s8,rs,lA⟩:=ce.o;go_upto_region 2 with(first
  |(refine rR rfl 36 (.tmp 2) rfl w.heap.size rfl 36 _ _ _ s8 underlying36 rfl rG ?_)
  |(go_at_call 172;refine(dt.o _ d6).mono ?_;rintro e I ⟨dl,rfl,Q,r1⟩;unfold iX;have m6:=aJ s8 Q)
  |(refine wpList_store_rowTo rfl 36 (.tmp 2) (.tmp 11) rfl rfl w.heap.size (cK p dl).toArray rfl rfl 36 _ m6 rG rfl Fe ?_))
 have amS:xu w p dl a (I.setRow w (cK p dl).toArray):=⟨iT (d6.trans Q) (aZ _) _,⟨gu _ _ _ _ _ _ m6,⟨eX r1.ar m6 Y _,eX r1.fc m6 Y _,eX r1.lc m6 Y _,eX r1.fa m6 Y _⟩⟩,(mo _ _ _ _ aE).trans (aJ rs Q),(mo _ _ _ _ aE).trans (aJ lA Q)⟩;clear s8 rs lA m6 r1 Q d6 ce vs;generalize I.setRow w (cK p dl).toArray=az at *;clear bX;have d7:az.cell? ⟨w+1,3,none⟩=some (N (str a.2.2.2.1)):=aG amS.Gc 3;have eb:=z amS;have sx:=z (λ(W:G) (b:Nat) (gv ct:K) R h1 h2 key=> @amR W b gv ct R h1 h2 key);generalize sq:yG (str a.2.2.2.1)=ZD at *;go_cut [6,7] (λG2 ZL wx=>ZL=av ZD/\∃a8,a8=wx/\xu w p dl a a8/\(ZD=true->ZJ a8 (str a.2.2.2.1) G2))
 case first=>
  go_region_with(refine(d2.o _).mono ?_;rintro e aO ⟨b,gv,ct,rfl,ag,eS,hd1,t5⟩
                 obtain⟨d,i0,zr⟩:=sx.o _ _ _ _ eS hd1 t5 (str a.2.2.2.1);rw[sq]at i0 zr;have aN2:aO.cell? ⟨w+1,3,none⟩=some (N (str a.2.2.2.1)):=ag.cell (show az.drew.cell? _=_ from d7);have bK:=z (ah (eb.o.ext' ((O az).drew.trans ag)) zr);clear ag eS hd1 t5 zr)
  all_goals
   go_wp;go_meet;exact⟨rfl,_,rfl,bK.o.1,bK.o.2⟩
 case rest=>
 obtain⟨rfl,a8,rfl,wb,zr⟩:=hcut;cases ZD with
 |false=>
  have s8:=wb.fx.bo;have lA:=wb.res;go_wp2_with(first
   |(refine rR rfl 36 (.tmp 2) rfl w.heap.size rfl 36 _ _ _ s8 underlying36 rfl rG ?_)
   |(refine wpList_store_rowTo rfl 36 (.tmp 4) (.tmp 21) rfl rfl (w.heap.size+1+1) (cK p dl).toArray rfl rfl 36 _ lA rG rfl Fe ?_))
  have be:=gu _ _ _ (cK p dl).toArray _ _ lA;refine cO (v:=bH #[bg (cK p dl).toArray,E none 0 0]) (tJ results120 _ _ (w+1+1) _ (cK p dl).toArray (0,0) _ rfl be underlying36 rfl aj) rfl ?_;exact⟨dl,_,p,[],rfl,iT wb.ext aE _,⟨eX wb.fx.po.ar lA Y _,eX wb.fx.po.fc lA Y _,eX wb.fx.po.lc lA Y _,eX wb.fx.po.fa lA Y _⟩,⟨rfl,.inl ay⟩,.inl ⟨sq,rfl,rfl⟩⟩
 |true=>
  replace zr:=zr rfl;have c4:a8.cell? ⟨w+1,4,none⟩=some (N (str a.2.2.2.2)):=aG wb.Gc 4;go_upto_region 5 with fail;go_cut [8] (λOj wx=>∃(cd:G) (p':bP) (s':dS) (ns:List dB),cd=wx/\xu w p' s' a cd/\cd.ownsRow w 45 4 Oj ns (ns.flatMap iP)/\J9 (str a.2.2.2.1) (str a.2.2.2.2) p p' ns)
  case first=>
   rcases zr with⟨hk,b1,b2,rfl,cH,ck⟩|⟨hk,b1,b2,rfl,cH,ck⟩|⟨hk,rfl⟩
   ·go_wp2_with(refine(aEu wb.fx (aZ _) kz cH ck _ hv).mono ?_;rintro e bj ⟨u,ns,p',s',rfl,Q3,t7,-,oj,gj⟩);exact ZK
   ·go_wp2_with(refine(aEv wb.fx (aZ _) eS cH ck _ hv).mono ?_;rintro e bj ⟨u,ns,p',s',rfl,Q3,t7,-,oj,gj⟩);exact ZK
   ·go_wp2_with(refine(aEw wb.fx (aZ _) _ hv).mono ?_;rintro e bj ⟨u,ns,p',s',rfl,Q3,t7,-,oj,gj⟩);exact ZK
  case rest=>
  obtain⟨cd,p',s',ns,rfl,Sa,oj,ws⟩:=hcut;obtain⟨ea,gr,rfl⟩:=dP oj;have s3:=z (ah Sa oj);have Q4:=z ws;go_wp;go_loopw [28] (λi wr=>∃k:Nat,k<=ns/\i=H k/\xu w p' s' a wr/\wr.ownsRow w 45 4 (E ea ns gr) ns ((qd a ns k).flatMap iP)) (λi _=>ns.length-(intOf i).toNat)
  case atStart=>exact⟨0,aE,rfl,s3.o.1,by rw[aEx];exact s3.o.2⟩
  case round=>
   obtain⟨k,hk,rfl,zs,Fd⟩:=hrel;by_cases ad:k<ns
   ·have nc:(k:Int)<ns:=aE;obtain⟨g,c,bx,T',-,wn⟩:=zV (A:=qd a ns k) (by rw[Hz];exact Fd) (by rw[Hz];omega);simp only[eZ]at bx;obtain⟨rfl,-,rfl⟩:=bx;have c0:wr.cell? ⟨w+1,0,none⟩=some (N (str a.1)):=aG zs.Gc 0;have c1:wr.cell? ⟨w+1,1,none⟩=some (H a.2.1):=aG zs.Gc 1;have DT:=aba (by rw[Hz];exact Fd:wr.ownsRow w 45 4 (E (some g) (qd a ns k).length gr) (qd a ns k).length ((qd a ns k).flatMap iP)) (k:=k) (by rw[Hz];exact ad);obtain⟨n0,n1⟩:=DT;have f0:=wn (k*4);have dg:=wn (k*4+1);have bO:=aEB Fd zs.Gc Y;have sr:=z (ah zs Fd);have yz:=z ad;have zt:=Om Fd;have bU:=aED Fd ad;have amT:w.heap.size+1≠g:=λe=>bO e.symm
    have aN3:∀(x:K) (o:Nat),(wr.setCell ⟨g,o,none⟩ x).cell? ⟨w+1,0,none⟩=some (N (str a.1)):=λx o=>by rw[<-c0];unfold World.cell?;rw[fI _ _ _ _ amT]
    have aN4:∀(x:K) (o:Nat),(wr.setCell ⟨g,o,none⟩ x).cell? ⟨w+1,1,none⟩=some (H a.2.1):=λx o=>by rw[<-c1];unfold World.cell?;rw[fI _ _ _ _ amT]
    generalize(qd a ns k)[k]'(by rw[Hz];exact ad)=nB at *;go_upto_region 9 with fail;go_region
    all_goals
     go_wp;go_roundw
     case rel=>obtain⟨bm,hc⟩:=aEC sr.o.2;exact⟨k+1,yz.o,cZ,((sr.o.1.note hc T' _ _).note (fH hc _ _) T' _ _).ext' (O _).drew,mF bU (O _).drew⟩
     case measure=>have:=yz.o;simp[intOf];omega
   ·have nc:¬((k:Int)<ns):=aE;obtain rfl:k=ns.length:=aE;have s8:=zs.fx.bo;have lA:=zs.res;rw[aEy]at Fd;go_wp2_with(first
     |(refine rR rfl 36 (.tmp 2) rfl w.heap.size rfl 36 _ _ _ s8 underlying36 rfl rG ?_)
     |(refine wpList_store_rowTo rfl 36 (.tmp 4) (.tmp 44) rfl rfl (w.heap.size+1+1) (cK p' s').toArray rfl rfl 36 _ lA rG rfl Fe ?_))
    have be:=gu _ _ _ (cK p' s').toArray _ _ lA;refine cO (v:=bH #[bg (cK p' s').toArray,E ea ns gr]) (tJ results120 _ _ (w+1+1) _ (cK p' s').toArray (0,0) _ rfl be underlying36 rfl aj) rfl ?_;refine⟨s',E ea ns gr,p',rfl,iT zs.ext aE _,⟨eX zs.fx.po.ar lA Y _,eX zs.fx.po.fc lA Y _,eX zs.fx.po.lc lA Y _,eX zs.fx.po.fa lA Y _⟩,ns.map (Fg a),?_,ns,Q4.o,rfl⟩;rw[dL];exact eX Fd lA Y _
def Oo:bn:=⟨#[83,121,115,116,101,109,67,97,108,108,65,114,99,104,105,116,101,99,116,117,114,101,115]⟩
def Oq:bn:=⟨#[82,101,115,116,114,105,99,116,65,100,100,114,101,115,115,70,97,109,105,108,105,101,115]⟩
def Ot:bn:=⟨#[82,101,115,116,114,105,99,116,78,97,109,101,115,112,97,99,101,115]⟩
def Ou:bn:=⟨#[77,101,109,111,114,121,68,101,110,121,87,114,105,116,101,69,120,101,99,117,116,101]⟩
def Ov:bn:=⟨#[76,111,99,107,80,101,114,115,111,110,97,108,105,116,121]⟩
def Ox:bn:=⟨#[82,101,115,116,114,105,99,116,82,101,97,108,116,105,109,101]⟩
def Oy:bn:=⟨#[78,111,78,101,119,80,114,105,118,105,108,101,103,101,115]⟩
def CV:List (bn×K):= [(Oo,.func (.func 222) #[] #[]),(Oq,.func (.func 223) #[] #[]),(Ot,.func (.func 224) #[] #[]),(Ou,.func (.func 225) #[] #[]),(Ov,.func (.func 226) #[] #[]),(Ox,.func (.func 227) #[] #[]),(Oy,.func (.func 228) #[] #[])]
def zI(key:bn):Bool:=(CV.find? λx=>key==x.1).isSome
theorem amU(W:G):Calls prog 173 #[] W λe F=>∃b,e=aI (.map (some b))/\Ext W F/\qK F b CV:=by
 have lz:∀W,(Instr.makeMap 280 none).run prog W= .ok (.map (some W.heap.size)) (W.alloc (.map #[] 0)):=λ_=>rfl
 have X:W.heap.size<=W:=aZ _;have jx:=qK.made W;have d6:=(O W).alloc (.map #[] 0);obtain⟨az,k2,kz,vb⟩:=Bj jx underlying280 underlying9 Oo rfl (.func (.func 222) #[] #[]);have Q:=zH d6 vb X;unfold Oo at k2;obtain⟨a8,cQ,eS,m4⟩:=Bj kz underlying280 underlying9 Oq rfl (.func (.func 223) #[] #[]);have ag:=zH Q m4 X;unfold Oq at cQ;obtain⟨cd,w2,zj,t7⟩:=Bj eS underlying280 underlying9 Ot rfl (.func (.func 224) #[] #[]);have a':=zH ag t7 X;unfold Ot at w2;obtain⟨dj,SP,Jo,r6⟩:=Bj zj underlying280 underlying9 Ou rfl (.func (.func 225) #[] #[]);have cN:=zH a' r6 X;unfold Ou at SP;obtain⟨eL,t8,Jp,hA⟩:=Bj Jo underlying280 underlying9 Ov rfl (.func (.func 226) #[] #[]);have bR:=zH cN hA X;unfold Ov at t8;obtain⟨q7,v0,GF,im⟩:=Bj Jp underlying280 underlying9 Ox rfl (.func (.func 227) #[] #[]);have dX:=zH bR im X;unfold Ox at v0;obtain⟨f6,Hq,EO,k7⟩:=Bj GF underlying280 underlying9 Oy rfl (.func (.func 228) #[] #[]);have en:=zH dX k7 X;unfold Oy at Hq;have aT:=z (ah en EO);go_in;go_wp;go_ret;exact⟨W.heap.size,rfl,aT.o.1,aT.o.2⟩
theorem amV(R:qK W b CV)(key:bn):(Instr.lookup 280 (.map (some b)) (N key) true).run prog W= .ok (bH #[((CV.find? λx=>key==x.1).map (·.2)).getD .nilFunc,av (zI key)]) W:=
 amK R underlying280 underlying9 (aR:= .nilFunc) rfl key
theorem aEF(key:bn)(W:G):aM 121 #[N key] W (av (zI key)):=by have d2:=z amU;have sx:=z (λ(W:G) (b:Nat) (R:qK W b CV)=>amV R key);unfold aM;go_in;go_wp2_with(refine(d2.o _).mono ?_;rintro e I ⟨b,rfl,Q,kz⟩;have i0:=sx.o _ _ kz;have aT:=z Q);go_ret;exact wL
theorem aEG(key:bn)(W:G):aM 119 #[N key] W (av (yG key)):=by have d2:=z amQ;have sx:=z (λ(W:G) (b:Nat) (gv ct:K) R h1 h2=> @amR W b gv ct R h1 h2 key);unfold aM;go_in;go_wp2_with(refine(d2.o _).mono ?_;rintro e I ⟨b,gv,ct,rfl,Q,kz,hd1,t5⟩;obtain⟨d,i0,-⟩:=sx.o _ _ _ _ kz hd1 t5;have aT:=z Q);go_ret;exact wL
def qg(a:dN)(key v:bn)(p:bP):bP×List dB:=
 if key==Oo then({p with ar:=(CO a v p.ar []).1},(CO a v p.ar []).2)
 else if key==Oq then({p with fd:=(wC a v p.fd p.fa []).1,fa:=(wC a v p.fd p.fa []).2.1},(wC a v p.fd p.fa []).2.2)
 else if key==Ot then({p with sp:=(Bh a v p.sp []).1},(Bh a v p.sp []).2)
 else if key==Ou then qb a v 9 p []
 else if key==Ov then qb a v 10 p []
 else if key==Ox then qb a v 11 p []
 else if key==Oy then qb a v 12 p []
 else(p,[])
def aEH(a:dN)(v:bn)(p p':bP)(ns:List dB)(d:K):Prop:= ∃g,d= .func (.func g) #[] #[]/\(∀args w,(callFunc g args).run prog w= .ok (.enter g args) w)/\∀(n0 bb:Nat)(s:dS)(u:K)(W:G),jr n0 bb p s u [] a W->n0<=W->Calls prog g #[aB (some bb),N v] W (wo n0 bb p' ns a W)
def aEI(a:dN)(key v:bn)(p:bP)(hv:v.size<=100000)(bT:yB p.ar)(ai:yF p.fa)(hk:zI key=true):aEH a v p (qg a key v p).1 (qg a key v p).2 (((CV.find? λx=>key==x.1).map (·.2)).getD .nilFunc):=by
 unfold zI at hk;unfold qg;unfold CV at *;have ae:([]:List dB).length<=500000:=Y;by_cases aK:(key==Oo)=true
 ·simp only[List.find?_cons,aK,kC,Option.getD_some,if_true];exact⟨_,rfl,enters_of func222 aj rfl,λn0 bb s u W h hn=>aCD h hn bT ae v hv⟩
 rw[wz]at aK;by_cases aV:(key==Oq)=true
 ·simp only[List.find?_cons,aK,aV,kC,Option.getD_some,if_true,rM,if_false];exact⟨_,rfl,enters_of func223 aj rfl,λn0 bb s u W h hn=>PZ h hn ai ae v hv⟩
 rw[wz]at aV;by_cases cC:(key==Ot)=true
 ·simp only[List.find?_cons,aK,aV,cC,kC,Option.getD_some,if_true,rM,if_false];exact⟨_,rfl,enters_of func224 aj rfl,λn0 bb s u W h hn=>Lm h hn ae v hv⟩
 rw[wz]at cC;by_cases gA:(key==Ou)=true
 ·simp only[List.find?_cons,aK,aV,cC,gA,kC,Option.getD_some,if_true,rM,if_false];exact⟨_,rfl,enters_of func225 aj rfl,λn0 bb s u W h hn=>(SE h hn ae v hv).1⟩
 rw[wz]at gA;by_cases hR:(key==Ov)=true
 ·simp only[List.find?_cons,aK,aV,cC,gA,hR,kC,Option.getD_some,if_true,rM,if_false];exact⟨_,rfl,enters_of func226 aj rfl,λn0 bb s u W h hn=>(SE h hn ae v hv).2.1⟩
 rw[wz]at hR;by_cases kh:(key==Ox)=true
 ·simp only[List.find?_cons,aK,aV,cC,gA,hR,kh,kC,Option.getD_some,if_true,rM,if_false];exact⟨_,rfl,enters_of func227 aj rfl,λn0 bb s u W h hn=>(SE h hn ae v hv).2.2.1⟩
 rw[wz]at kh;by_cases m3:(key==Oy)=true
 ·simp only[List.find?_cons,aK,aV,cC,gA,hR,kh,m3,kC,Option.getD_some,if_true,rM,if_false];exact⟨_,rfl,enters_of func228 aj rfl,λn0 bb s u W h hn=>(SE h hn ae v hv).2.2.2⟩
 rw[wz]at m3;simp[aK,aV,cC,gA,hR,kh,m3]at hk
structure Bl(w:G)(a:dN)(W:G):Prop where
 ext:Ext w W
 Gc:W.heap[w.heap.size+1]?=some (J (bM.kP a).toArray 148 (0,0))
 res:W.heap[w.heap.size+1+1]?=some (J jv 36 (0,0))
def Bl.ext'(h:Bl w a W)(D:Ext W aa):Bl w a aa:=⟨h.ext.trans D,aJ h.Gc D,aJ h.res D⟩
def Bl.tk(h:Bl w a W)(f3:bq w ug W aa):Bl w a aa:=⟨f3.lX h.ext (aZ _),f3.blk h.Gc (.inr rfl),f3.blk h.res (.inr rfl)⟩
def Ta{a0 a1 a2 a3 a4 a5 jJ h5 Hx Nv amW amX amY:K}(h:W.heap[B]?=some (J #[a0,a1,a2,a3,a4,a5,jJ,h5,Hx,Nv,amW,amX,amY] t (0,0)))(ly g2 ov mf gO hE J' Ka Fb Fc Kb Kc Kd:K):(((((((((((((W.setCell B ly).setCell ⟨B,1,none⟩ g2).setCell ⟨B,2,none⟩ ov).setCell ⟨B,3,none⟩ mf).setCell ⟨B,4,none⟩ gO).setCell ⟨B,5,none⟩ hE).setCell ⟨B,6,none⟩ J').setCell ⟨B,7,none⟩ Ka).setCell ⟨B,8,none⟩ Fb).setCell ⟨B,9,none⟩ Fc).setCell ⟨B,10,none⟩ Kb).setCell ⟨B,11,none⟩ Kc).setCell ⟨B,12,none⟩ Kd)=W.setRow B #[ly,g2,ov,mf,gO,hE,J',Ka,Fb,Fc,Kb,Kc,Kd]:=by
 rw[sH _ _ _ _ _ _ _ h]
 iterate 12 rw[sH _ _ _ _ _ _ _ (gu _ _ _ _ _ _ h),setRow_setRow]
 exact congrArg (W.setRow B) ay
theorem aEJ(p:bP)(s:dS)(a:dN)(h2:p.fc.length<=1000000)(T:p.lc.length<=1000000)(bT:yB p.ar)(ai:yF p.fa)(hv:(str a.2.2.2.2).size<=100000)(w:G)(hr:rD w p s)(hk:zI (str a.2.2.2.1)=true):Calls prog 122 #[iX p s,bg (bM.kP a).toArray] w λe F=>∃(s':dS)(u:K),e=aI (bH #[iX (qg a (str a.2.2.2.1) (str a.2.2.2.2) p).1 s',u])/\Ext w F/\lI F (qg a (str a.2.2.2.1) (str a.2.2.2.2) p).1 s'/\F.ownsRow w 45 4 u (qg a (str a.2.2.2.1) (str a.2.2.2.2) p).2.length ((qg a (str a.2.2.2.1) (str a.2.2.2.2) p).2.flatMap iP):=by
 have ya:=bT.len;have ma:=ai.len;have cE:=aEI a (str a.2.2.2.1) (str a.2.2.2.2) p hv bT ai hk;have ZM:=λ(W:G) (b:Nat) (R:qK W b CV)=>amV R (str a.2.2.2.1)
 rw[hk]at ZM;generalize qg a (str a.2.2.2.1) (str a.2.2.2.2) p=aH at *;obtain⟨p',ns⟩:=aH;dsimp only at *;generalize((CV.find? λx=>str a.2.2.2.1==x.1).map (·.2)).getD .nilFunc=d at *;obtain⟨g,rfl,g1,cE⟩:=cE;have fj:=z cE;have sx:=z ZM;have dt:=z (λW (D:Ext w W)=>LJ p s aE h2 T aE W (hr.ext D) 174 (.inr rfl));have d2:=z amU;have mf:Ext w (((w.alloc (J (cK p s).toArray 36)).alloc (J (bM.kP a).toArray 148)).alloc (J jv 36)):=(((O w).alloc _).alloc _).alloc _;have sa:=bA w (J (cK p s).toArray 36);have sE:=bA (w.alloc (J (cK p s).toArray 36)) (J (bM.kP a).toArray 148);have sL:=bA ((w.alloc (J (cK p s).toArray 36)).alloc (J (bM.kP a).toArray 148)) (J jv 36);rw[dR]at sE;rw[dR,dR]at sL;have ce:=z (ah (aJ (aJ sa ((O _).alloc (J (bM.kP a).toArray 148))) ((O _).alloc (J jv 36))) (show Bl w a _ from⟨mf,aJ sE ((O _).alloc (J jv 36)),sL⟩));clear mf sa sE sL hr cE ZM bT ai;obtain⟨bX,gh⟩:∃bX,bX=((w.alloc (J (cK p s).toArray 36)).alloc (J (bM.kP a).toArray 148)).alloc (J jv 36):=⟨_,rfl⟩;rw[<-gh]at ce;have vs:=z gh;clear gh;unfold iX;go_in;go_upto_region 1 with fail;have gh:=vs.o;unfold jv at gh;rw[<-gh];clear gh vs;obtain⟨e3,ef,cY,eh,hL,s4,tc,Sx,SD,ZN,ZO,Cl,Ke⟩:=pY ce.o.1;have a0:bX.cell? ⟨w+1,0,none⟩=some (N (str a.1)):=aG ce.o.2.Gc 0;have a1:bX.cell? ⟨w+1,1,none⟩=some (H a.2.1):=aG ce.o.2.Gc 1;have a2:bX.cell? ⟨w+1,2,none⟩=some (N (str a.2.2.1)):=aG ce.o.2.Gc 2;have a3:bX.cell? ⟨w+1,3,none⟩=some (N (str a.2.2.2.1)):=aG ce.o.2.Gc 3;have a4:bX.cell? ⟨w+1,4,none⟩=some (N (str a.2.2.2.2)):=aG ce.o.2.Gc 4;go_cut [6] (λG2 wx=>∃(az:G) (bb:Nat) (dl:dS),az=wx/\G2=aB (some bb)/\jr w bb p dl (E none 0 0) [] a az/\Bl w a az)
 case first=>
  go_region_with(refine(dt.o _ (by first|exact ce.o.2.ext|exact ce.o.2.ext.drew)).mono ?_;rintro e I ⟨dl,rfl,Q,r1⟩
                 unfold iX cK;have b0:=Q.cell (show bX.drew.cell? _=_ from a0);have b1:=Q.cell (show bX.drew.cell? _=_ from a1);have b2:=Q.cell (show bX.drew.cell? _=_ from a2);have cV:=Q.cell (show bX.drew.cell? _=_ from a3);have ky:=Q.cell (show bX.drew.cell? _=_ from a4);have H1:=z (ah (ce.o.2.ext' ((O bX).drew.trans Q)) r1);clear Q r1)
  all_goals
   go_wp2_with fail;go_meet;exact⟨_,I.heap.size,dl,rfl,rfl,⟨H1.o.1.ext.size,bA _ _,⟨rfl,.inl ay⟩,H1.o.2.ext ((O _).alloc _)⟩,H1.o.1.ext' ((O _).alloc _)⟩
 case rest=>
 obtain⟨az,bb,dl,rfl,rfl,Ff,ph⟩:=hcut;clear e3 ef cY eh hL s4 tc Sx SD ZN ZO Cl Ke a0 a1 a2 a3 a4 ce;have a3:az.cell? ⟨w+1,3,none⟩=some (N (str a.2.2.2.1)):=aG ph.Gc 3;have H1:=z (ah Ff ph);clear Ff ph;go_upto_region 2 with fail;go_cut [7,8] (λZL Oj wx=>ZL= .func (.func g) #[] #[]/\Oj=av true/\∃a8,a8=wx/\jr w bb p dl (E none 0 0) [] a a8/\Bl w a a8)
 case first=>
  go_region_with(refine(d2.o _).mono ?_;rintro e aO ⟨b,rfl,ag,eS⟩
                 have i0:=sx.o _ _ eS;have cV:=ag.cell (show az.drew.cell? _=_ from a3);have f1:=(O az).drew.trans ag;have bK:=z (ah (H1.o.1.ext' f1) (H1.o.2.ext' f1));clear ag eS f1)
  all_goals
   go_wp2_with fail;go_meet;exact⟨rfl,rfl,_,rfl,bK.o.1,bK.o.2⟩
 case rest=>
 obtain⟨rfl,rfl,a8,rfl,Fh,gw⟩:=hcut;clear a3 H1;have a4:a8.cell? ⟨w+1,4,none⟩=some (N (str a.2.2.2.2)):=aG gw.Gc 4;have bK:=z (ah Fh gw);clear Fh gw;go_upto_region 5 with(refine ak (fj.o _ _ _ _ _ bK.o.1 bK.o.2.ext.size) ?_;rintro bj ⟨⟨s',u,hS⟩,an⟩;have es:=z (ah hS (bK.o.2.tk an));clear hS an);obtain⟨sR,SR⟩:=es.o;have wv:bj.cell? ⟨bb,13,none⟩=some u:=aG sR.b 13;have c0:bj.cell? bb=some (E s'.a p'.ar s'.c):=aG sR.b 0;have c1:bj.cell? ⟨bb,1,none⟩=some (aC p'.fm):=aG sR.b 1;have c2:bj.cell? ⟨bb,2,none⟩=some (E s'.fa p'.fc s'.fc):=aG sR.b 2;have c3:bj.cell? ⟨bb,3,none⟩=some (M p'.dn):=aG sR.b 3;have c4:bj.cell? ⟨bb,4,none⟩=some (aC p'.lm):=aG sR.b 4;have c5:bj.cell? ⟨bb,5,none⟩=some (E s'.la p'.lc s'.lc):=aG sR.b 5;have c6:bj.cell? ⟨bb,6,none⟩=some (E s'.ga p'.fa s'.gc):=aG sR.b 6;have c7:bj.cell? ⟨bb,7,none⟩=some (aC p'.fd):=aG sR.b 7;have c8:bj.cell? ⟨bb,8,none⟩=some (aA (p'.sp:Int)):=aG sR.b 8;have vc:bj.cell? ⟨bb,9,none⟩=some (av p'.we):=aG sR.b 9;have DE:bj.cell? ⟨bb,10,none⟩=some (av p'.pe):=aG sR.b 10;have DF:bj.cell? ⟨bb,11,none⟩=some (av p'.rt):=aG sR.b 11;have DH:bj.cell? ⟨bb,12,none⟩=some (av p'.np):=aG sR.b 12;obtain⟨r0,dq,ei,eM,r4,r5,wA,amZ,am0,am1,am2,am3,am4⟩:=pY SR.res;have bO:bb≠w.heap.size+1+1:=λe=>by have h1:=sR.b;rw[e,SR.res]at h1;exact absurd h1 ay
 have f:=λk=>dw SR.res k
 have f0:=f 0;have dg:=f 1;have fg:=f 2;have mw:=f 3;have f4:=f 4;have v6:=f 5;have r7:=f 6;have xj:=f 7;have E':=f 8;have Mq:=f 9;have Zm:=f 10;have Zn:=f 11;have Zo:=f 12;have aN5:∀(ly g2 ov mf gO hE J' Ka Fb Fc Kb Kc Kd:K),(((((((((((((bj.setCell ⟨w+1+1,0,none⟩ ly).setCell ⟨w+1+1,1,none⟩ g2).setCell ⟨w+1+1,2,none⟩ ov).setCell ⟨w+1+1,3,none⟩ mf).setCell ⟨w+1+1,4,none⟩ gO).setCell ⟨w+1+1,5,none⟩ hE).setCell ⟨w+1+1,6,none⟩ J').setCell ⟨w+1+1,7,none⟩ Ka).setCell ⟨w+1+1,8,none⟩ Fb).setCell ⟨w+1+1,9,none⟩ Fc).setCell ⟨w+1+1,10,none⟩ Kb).setCell ⟨w+1+1,11,none⟩ Kc).setCell ⟨w+1+1,12,none⟩ Kd).cell? ⟨bb,13,none⟩=some u:=by
  intros
  rw[<-wv];unfold World.cell?
  iterate 13 rw[fI _ _ _ _ bO]
 clear a4 sR SR bK f;go_region
 all_goals
  go_wp2_with fail;have bL:bj.heap[w.heap.size+1+1]?=some (J #[E none 0 0,aC 0,E none 0 0,M 0,aC 0,E none 0 0,E none 0 0,aC 0,aA 0,av false,av false,av false,av false] 36 (0,0)):=es.o.2.res;rw[Ta bL];have be:(bj.setRow (w+1+1) (cK p' s').toArray).drew.heap[w.heap.size+1+1]?=_:=gu _ _ _ (cK p' s').toArray _ _ bL;refine cO (v:=bH #[bg (cK p' s').toArray,u]) (tJ results122 _ _ (w+1+1) _ (cK p' s').toArray (0,0) _ rfl be underlying36 rfl aj) rfl ?_;exact⟨s',u,rfl,(iT es.o.2.ext aE _).drew,(show lI (bj.setRow (w+1+1) (cK p' s').toArray) p' s' from⟨eX es.o.1.po.ar bL Y _,eX es.o.1.po.fc bL Y _,eX es.o.1.po.lc bL Y _,eX es.o.1.po.fa bL Y _⟩).ext (O _).drew,mF (eX es.o.1.own bL Y _) (O _).drew⟩
end LT
end Go.Proofs.YtopfefhenfineaaGreat
namespace Go.Proofs.YtopfefhenfineaaGreat
open Go.Proofs.Tryz Go.RowKit bh
namespace LT
open oh (jo)
open bM (dN)
variable{b dZ:Bool}{U d':List dQ}{key v:bn}{m cM:Nat}{ns:List dB}
def aEK(s:List aL)(h:(jo s).1.2.2=false):(jo s).1.2.1=0:=by unfold jo at *;(repeat' split at h)<;>(repeat' split)<;>first|rfl|(simp_all)
def CW(U:List dQ):Prop:= ∀c∈U,c.act=0
def aEL{n:List aL}(h:CW U):CW (upd m b 0 U n):=by
 unfold upd;split
 ·unfold AU;split
  ·unfold Js;split
   ·intro c ao;rcases List.mem_or_eq_of_mem_set ao with h1|h1
    ·exact h c h1
    ·rw[h1]
   ·intro c ao;rw[iZ,iA]at ao;rcases ao with h1|h1|h1
    ·exact h c (zT h1)
    ·rw[h1]
    ·exact h c (List.mem_of_mem_drop h1)
  ·exact h
 ·unfold AR;split
  ·exactλc ao=>h c (List.mem_filter.1 ao).1
  ·exact h
def ZP{m:Nat}{b:Bool}:∀(l:List (List aL)) {U:List dQ},CW U->CW (l.foldl (upd m b 0) U)
 | [],_,h=>h
 |_::l,_,h=>ZP l (aEL h)
def aEM(w:bn)(s t:qH)(h:vU false dZ m w s t)(ab:CW s.1):CW t.1:=by
 unfold vU at h;split at h
 ·rw[h];exact ab
 split at h
 ·rw[h];exact ab
 obtain⟨l,-,-,rfl⟩:=h;split
 ·rw[au ay];exact ZP l ab
 ·rename_i h1;rw[aEK _ (by simpa using h1)];exact ZP l ab
def pX.a0(h:pX false m U v cM d' ns)(ao:CW U):CW d':=by
 unfold pX at h;split at h
 ·rw[h.2.1];exact ao
 split at h
 ·rw[h.2.1];exactλ_ h=>by cases h
 exact h.2.inv (P:=λs:qH=>CW s.1) aEM ao
def Oz(e:Nat):Bool:=GV e||e==80||e==100||e==150||e==180||e==181
def J9.ok{p p':bP}(h:J9 key v p p' ns)(ac:iW p):iW p'/\∀n∈ns,Oz n.er=true:=by
 rcases h with⟨-,cM,d',ab,rfl⟩|⟨-,cM,d',ab,rfl⟩|⟨-,⟨rfl,ae,rfl⟩|⟨rfl,-,rfl⟩⟩
 ·obtain⟨h1,h2⟩:=ab.inv ac.fc;exact⟨⟨ac.lg,ac.dn,ac.fd,ac.ar,ac.fa,h1,ac.lc,ac.sp⟩,λn hn=>by unfold Oz;rw[h2 n hn];rfl⟩
 ·obtain⟨h1,h2⟩:=ab.inv ac.lc;exact⟨⟨ab.a0 ac.lg,ac.dn,ac.fd,ac.ar,ac.fa,ac.fc,h1,ac.sp⟩,λn hn=>by unfold Oz;rw[h2 n hn];rfl⟩
 ·rcases amM v with⟨-,h1⟩|⟨h1,-⟩
  ·exact⟨⟨ac.lg,h1,ac.fd,ac.ar,ac.fa,ac.fc,ac.lc,ac.sp⟩,λ_ h=>by cases h⟩
  ·rw[ae]at h1;cases h1
 ·exact⟨ac,λn hn=>by rw[pI]at hn;rw[hn];rfl⟩
end LT
variable{S:Prop}
def ZQ(h:S:=by dsimp only;rw[h1];rfl):S:=h
namespace LT
open oh (eF)
open bM (dN)
variable{a:dN}
def oq(ns:List dB):Prop:= ∀n∈ns,Oz n.er=true
def oq.snoc{ns:List dB}(h:oq ns){x:dB}(D:Oz x.er=true):oq (ns++[x]):=λn hn=>by
 rw[iZ,pI]at hn;rcases hn with h1|h1
 ·exact h n h1
 ·rw[h1];exact D
def Tc{α pn:Type}{f:pn->α->pn}{P:pn->Prop}(ai:∀s x,P s->P (f s x)):∀(l:List α) {s:pn},P s->P (l.foldl f s)
 | [],_,h=>h
 |x::l,_,h=>Tc ai l (ai _ x h)
def aEN{x:List Int×List dB}(w:bn)(h:oq x.2):oq (stA a x w).2:=by
 unfold stA;rcases Y0 w.toList with⟨h1,-⟩|h1
 ·split
  ·exact h
  ·contradiction
 ·split
  ·exact h
  ·exact h.snoc ZQ
def aEO{fl:Bool}{x:List Nat×List dB}(w:bn)(h:oq x.2):oq (um a fl x w).2:=by
 unfold um;rcases Zw w with⟨h1,-⟩|h1
 ·split
  ·exact h
  ·contradiction
 ·split
  ·exact h
  ·exact h.snoc ZQ
def aEP{x:Fa}(w:bn)(h:oq x.ns):oq (su a x w).ns:=by
 unfold su;rcases ZE w with⟨h1,-⟩|⟨h1,-⟩
 ·split
  ·exact h
  ·contradiction
 ·split
  ·exact h
  ·exact h.snoc ZQ
def xw:oq []:=λ_ h=>by cases h
def am5(x:Nat):Prop:=x<18446744073709551616/\bits BinOp.andNot IntKind.u64 (x:Int) (rZ.orL rZ.uI:Nat)=0
def jN.p{x:Nat}(h:jN x):am5 x:=⟨h.lt,h.bits⟩
def Td{v:bn}{k:Nat}{p:bP}(hk:9<=k/\k<=12)(ac:iW p):iW (qb a v k p []).1/\oq (qb a v k p []).2:=by
 have V:∀b,iW (Lu p k b):=λb=>by have h0:k=9\/k=10\/k=11\/k=12:=aE;rcases h0 with rfl|rfl|rfl|rfl<;>exact⟨ac.lg,ac.dn,ac.fd,ac.ar,ac.fa,ac.fc,ac.lc,ac.sp⟩
 unfold qb;(repeat' split)
 ·exact⟨V _,xw⟩
 ·exact⟨V _,xw⟩
 ·exact⟨ac,xw.snoc rfl⟩
def aEQ(a:dN)(key v:bn){p:bP}(ac:iW p):iW (qg a key v p).1/\oq (qg a key v p).2:=by
 unfold qg;split
 ·have h:yB (CO a v p.ar []).1/\oq (CO a v p.ar []).2:=by
   unfold CO;refine Tc (P:=λx:List Int×List dB=>yB x.1/\oq x.2) (λs x h=>⟨alF x h.1,aEN x h.2⟩) _ ⟨?_,xw⟩;dsimp only;split
   ·exact⟨λ_ h=>DL,λi hi=>(by simp at hi)⟩
   ·exact ac.ar
  exact⟨⟨ac.lg,ac.dn,ac.fd,h.1,ac.fa,ac.fc,ac.lc,ac.sp⟩,h.2⟩
 split
 ·have h:(((wC a v p.fd p.fa []).1<=2/\((wC a v p.fd p.fa []).1=0->(wC a v p.fd p.fa []).2.1=[]))/\yF (wC a v p.fd p.fa []).2.1)/\oq (wC a v p.fd p.fa []).2.2:=by
   have hn:yF ([]:List Nat):=⟨λ_ h=>DL,λi hi=>(by simp at hi)⟩;unfold wC;split
   ·exact⟨⟨⟨Y,λ_=>rfl⟩,hn⟩,xw⟩
   split
   ·exact⟨⟨⟨Y,λ_=>rfl⟩,hn⟩,xw⟩
   have hd:=ac.fd.1;have ai:=Tc (f:=um a (uq v==((if p.fd=0 then(if uq v=true then 2 else 1)else p.fd)==2))) (P:=λx:List Nat×List dB=>yF x.1/\oq x.2) (λs x h=>⟨amx x h.1,aEO x h.2⟩) (Lib.goFieldsP eF (mH v)) (s:=(p.fa,[])) ⟨ac.fa,xw⟩;refine⟨⟨⟨?_,λae=> ?_⟩,ai.1⟩,ai.2⟩
   ·dsimp only;split
    ·split<;>decide
    ·exact hd
   ·dsimp only at ae;split at ae
    ·split at ae<;>cases ae
    ·contradiction
  exact⟨⟨ac.lg,ac.dn,h.1.1,ac.ar,h.1.2,ac.fc,ac.lc,ac.sp⟩,h.2⟩
 split
 ·have h:am5 (Bh a v p.sp []).1/\oq (Bh a v p.sp []).2:=by
   unfold Bh;split
   ·exact⟨jN.zero.p,xw⟩
   split
   ·refine⟨?_,xw⟩;dsimp only;split
    ·exact jN.full.p
    ·exact jN.zero.p
   have ai:=Tc (f:=su a) (P:=λx:Fa=>jN x.all/\oq x.ns) (λs x h=>⟨amE x h.1,aEP x h.2⟩) (Lib.goFieldsP eF (mH v)) (s:=⟨0,true,[]⟩) ⟨jN.zero,xw⟩;dsimp only;refine⟨?_,ai.2⟩;split
   ·split
    ·exact ai.1.p
    ·exact(aD8 _).p
   ·exact ac.sp
  exact⟨⟨ac.lg,ac.dn,ac.fd,ac.ar,ac.fa,ac.fc,ac.lc,h.1⟩,h.2⟩
 split
 ·exact Td Y ac
 split
 ·exact Td Y ac
 split
 ·exact Td Y ac
 split
 ·exact Td Y ac
 ·exact⟨ac,xw⟩
end LT
end Go.Proofs.YtopfefhenfineaaGreat
namespace Go.Proofs.YtopfefhenfineaaGreat
open Go.Proofs.Tryz Go.RowKit Go.Shelf bh
attribute[local go_sem] Oper.semAt_some
variable{S:Prop}
def am6(h:S:=by
 obtain⟨k,hk⟩:∃k,k=min nm.size 60:=⟨_,rfl⟩;have RC:min (nm:Int) 60=(k:Int):=aE;have xc:k<=nm.size:=aE;have EE:(k:Int)<=nm:=aE;clear hk;obtain⟨e3,ef,cY,eh,hL,s4,tc,Sx,SD,ZN,ZO,Cl,Ke⟩:=pY Mb;have b0:bX.cell? ⟨w+1,0,none⟩=some (N (str a.1)):=aG kd.Gc 0;have b1:bX.cell? ⟨w+1,1,none⟩=some (H a.2.1):=aG kd.Gc 1;obtain⟨r0,dq,ei,eM,r4,r5,wA,amZ,am0,am1,am2,am3,am4⟩:=pY kd.res;have f0:=dw kd.res 0;have dg:=dw kd.res 1;have fg:=dw kd.res 2;have mw:=dw kd.res 3;have f4:=dw kd.res 4;have v6:=dw kd.res 5;have r7:=dw kd.res 6;have xj:=dw kd.res 7;have E':=dw kd.res 8;have Mq:=dw kd.res 9;have Zm:=dw kd.res 10;have Zn:=dw kd.res 11;have Zo:=dw kd.res 12;have aN6:=λo=>((O bX).alloc o).cell e3
 exact aER):S:=h
def aER(h:S:=by
 have aN7:=λo=>((O bX).alloc o).cell ef
 have aN8:=λo=>((O bX).alloc o).cell cY
 have aN9:=λo=>((O bX).alloc o).cell eh
 have aOa:=λo=>((O bX).alloc o).cell hL
 have aOb:=λo=>((O bX).alloc o).cell s4
 have aOc:=λo=>((O bX).alloc o).cell tc
 have aOd:=λo=>((O bX).alloc o).cell Sx
 have aOe:=λo=>((O bX).alloc o).cell SD
 have aOf:=λo=>((O bX).alloc o).cell ZN
 have aOg:=λo=>((O bX).alloc o).cell ZO
 have aOh:=λo=>((O bX).alloc o).cell Cl
 have aOi:=λo=>((O bX).alloc o).cell Ke
 have aES:=λo=>((O bX).alloc o).cell b0
 have aET:=λo=>((O bX).alloc o).cell b1
 have aOj:=Te b0 (show w.heap.size+1≠w.heap.size+1+1 from aE);have aOk:=Te b1 (show w.heap.size+1≠w.heap.size+1+1 from aE);have aOl:=λo=>((O bX).alloc o).cell r0
 have aOm:=λo=>((O bX).alloc o).cell dq
 have aOn:=λo=>((O bX).alloc o).cell ei
 have aOo:=λo=>((O bX).alloc o).cell eM
 have aOp:=λo=>((O bX).alloc o).cell r4
 have aOq:=λo=>((O bX).alloc o).cell r5
 have aOr:=λo=>((O bX).alloc o).cell wA
 have aOs:=λo=>((O bX).alloc o).cell amZ
 have aOt:=λo=>((O bX).alloc o).cell am0
 have aOu:=λo=>((O bX).alloc o).cell am1
 have aOv:=λo=>((O bX).alloc o).cell am2
 have aOw:=λo=>((O bX).alloc o).cell am3
 have aOx:=λo=>((O bX).alloc o).cell am4
 have aOy:=λo=>dw (aJ kd.res ((O bX).alloc o)) 0
 have aOz:=λo=>dw (aJ kd.res ((O bX).alloc o)) 1
 have aOA:=λo=>dw (aJ kd.res ((O bX).alloc o)) 2
 have aOB:=λo=>dw (aJ kd.res ((O bX).alloc o)) 3
 have aOC:=λo=>dw (aJ kd.res ((O bX).alloc o)) 4
 have aOD:=λo=>dw (aJ kd.res ((O bX).alloc o)) 5
 have aOE:=λo=>dw (aJ kd.res ((O bX).alloc o)) 6
 have aOF:=λo=>dw (aJ kd.res ((O bX).alloc o)) 7
 have aOG:=λo=>dw (aJ kd.res ((O bX).alloc o)) 8
 have aOH:=λo=>dw (aJ kd.res ((O bX).alloc o)) 9
 have aOI:=λo=>dw (aJ kd.res ((O bX).alloc o)) 10
 have aOJ:=λo=>dw (aJ kd.res ((O bX).alloc o)) 11
 have aOK:=λo=>dw (aJ kd.res ((O bX).alloc o)) 12
 have aOL:=λo=>Te (aES o) (show w.heap.size+1≠w.heap.size+1+1 from aE)
 have aOM:=λo=>Te (aET o) (show w.heap.size+1≠w.heap.size+1+1 from aE)
 clear Mb kd;have LZ:=RG nm k;go_region
 all_goals
  go_wp2_with fail;have bL:bX.heap[w.heap.size+1+1]?=some (J #[E none 0 0,aC 0,E none 0 0,M 0,aC 0,E none 0 0,E none 0 0,aC 0,aA 0,av false,av false,av false,av false] 36 (0,0)):=ce.o.2.res
  first
   |(rw[Ta bL]
     have bJ:=qQ pW (bX.setRow (w+1+1) (cK p s).toArray) [⟨a.1,a.2.1,100,(bytes nm).take k⟩] 45 bX 0 (by rw[setRow_size]) (eG _) vF;have D:Ext w ((bX.setRow (w+1+1) (cK p s).toArray).alloc (J #[N (str a.1),H a.2.1,H 100,N (str ((bytes nm).take k))] 45)):=(iT ce.o.2.ext aE _).alloc _;have be:=aJ (gu _ _ _ (cK p s).toArray _ _ bL) ((O _).alloc (J #[N (str a.1),H a.2.1,H 100,N (str ((bytes nm).take k))] 45));refine cO (v:=bH #[bg (cK p s).toArray,E (some bX) 1 1]) (tJ results72 _ _ (w+1+1) _ (cK p s).toArray (0,0) _ rfl be underlying36 rfl aj) rfl ?_;exact⟨s,_,p,[⟨a.1,a.2.1,100,(bytes nm).take k⟩],rfl,D.drew,(cD.o.ext D).ext (O _).drew,(eD pW bJ).ext (O _).drew,.inr (.inr ⟨w7,rfl,_,rfl⟩)⟩)
   |(have ZR:=aJ bL ((O bX).alloc (J #[N (str a.1),H (a.2.1:Int),H 100,N (str ((bytes nm).take k))] 45))
     rw[Ta ZR];have bJ:=eX (qQ pW bX [⟨a.1,a.2.1,100,(bytes nm).take k⟩] 45 bX 0 rfl (eG _) vF) ZR Y (cK p s).toArray;have D:=iT (ce.o.2.ext.alloc (J #[N (str a.1),H a.2.1,H 100,N (str ((bytes nm).take k))] 45)) (g:=w.heap.size+1+1) aE (cK p s).toArray;have be:=gu _ _ _ (cK p s).toArray _ _ ZR;refine cO (v:=bH #[bg (cK p s).toArray,E (some bX) 1 1]) (tJ results72 _ _ (w+1+1) _ (cK p s).toArray (0,0) _ rfl be underlying36 rfl aj) rfl ?_;exact⟨s,_,p,[⟨a.1,a.2.1,100,(bytes nm).take k⟩],rfl,D.drew,(cD.o.ext D).ext (O _).drew,(eD pW bJ).ext (O _).drew,.inr (.inr ⟨w7,rfl,_,rfl⟩)⟩)):S:=h
namespace LT
open bM (dN)
def ZT(a:dN):Prop:=(str a.2.2.1).toList≠[83,101,114,118,105,99,101]\/(yG (str a.2.2.2.1)=false/\zI (str a.2.2.2.1)=false)
def Bn(a:dN)(p p':bP)(ns:List dB):Prop:=
 (yG (str a.2.2.2.1)=true/\∃lO,J9 (str a.2.2.2.1) (str a.2.2.2.2) p p' lO/\ns=lO.map (Fg a))\/
 (zI (str a.2.2.2.1)=true/\p'=(qg a (str a.2.2.2.1) (str a.2.2.2.2) p).1/\ns=(qg a (str a.2.2.2.1) (str a.2.2.2.2) p).2)\/
 (ZT a/\p'=p/\∃t,ns=[⟨a.1,a.2.1,100,t⟩])
def Bn.ok{a:dN}{p p':bP}{ns:List dB}(h:Bn a p p' ns)(ac:iW p):iW p'/\oq ns:=by
 rcases h with⟨-,lO,ab,rfl⟩|⟨-,rfl,rfl⟩|⟨-,rfl,t,rfl⟩
 ·obtain⟨h1,h2⟩:=ab.ok ac;refine⟨h1,λn hn=> ?_⟩;obtain⟨x,D,rfl⟩:=iJ.1 hn;exact h2 x D
 ·exact aEQ a _ _ ac
 ·exact⟨ac,xw.snoc (x:=⟨a.1,a.2.1,100,t⟩) rfl⟩
def Te{W:G}{b B i:Nat}{v:K}(h:W.cell? ⟨b,i,none⟩=some v)(bO:b≠B):∀(ly g2 ov mf gO hE J' Ka Fb Fc Kb Kc Kd:K),(((((((((((((W.setCell B ly).setCell ⟨B,1,none⟩ g2).setCell ⟨B,2,none⟩ ov).setCell ⟨B,3,none⟩ mf).setCell ⟨B,4,none⟩ gO).setCell ⟨B,5,none⟩ hE).setCell ⟨B,6,none⟩ J').setCell ⟨B,7,none⟩ Ka).setCell ⟨B,8,none⟩ Fb).setCell ⟨B,9,none⟩ Fc).setCell ⟨B,10,none⟩ Kb).setCell ⟨B,11,none⟩ Kc).setCell ⟨B,12,none⟩ Kd).cell? ⟨b,i,none⟩=some v:=by
 intros
 rw[<-h];unfold World.cell?
 iterate 13 rw[fI _ _ _ _ bO]
theorem aEU(p:bP)(s:dS)(a:dN)(ac:iW p)(hv:(str a.2.2.2.2).size<=100000)(w:G)(hr:lI w p s):Calls prog 72 #[iX p s,bg (bM.kP a).toArray] w λe F=>∃(s':dS)(u:K)(p':bP)(ns:List dB),e=aI (bH #[iX p' s',u])/\Ext w F/\lI F p' s'/\aS F 4 iP u ns/\Bn a p p' ns:=by
 have ie:=ac.la;have pZ:=ac.lf;have kz:=xZ ac.fc;have eS:=xZ ac.lc;have aEV:=z (λW (D:Ext w W)=>aEE p s a aE aE ac.fc ac.lc hv W (hr.ext D).rd);have aEW:=z (λW (D:Ext w W) hk=>aEJ p s a aE aE ac.ar ac.fa hv W (hr.ext D).rd hk);have F0:=z (λW=>aEG (str a.2.2.2.1) W);have MF:=z (λW=>aEF (str a.2.2.2.1) W);have mf:Ext w (((w.alloc (J (cK p s).toArray 36)).alloc (J (bM.kP a).toArray 148)).alloc (J jv 36)):=(((O w).alloc _).alloc _).alloc _;have sa:=bA w (J (cK p s).toArray 36);have sE:=bA (w.alloc (J (cK p s).toArray 36)) (J (bM.kP a).toArray 148);have sL:=bA ((w.alloc (J (cK p s).toArray 36)).alloc (J (bM.kP a).toArray 148)) (J jv 36);rw[dR]at sE;rw[dR,dR]at sL;have ce:=z (ah (aJ (aJ sa ((O _).alloc (J (bM.kP a).toArray 148))) ((O _).alloc (J jv 36))) (show Bl w a _ from⟨mf,aJ sE ((O _).alloc (J jv 36)),sL⟩));clear mf sa sE sL;obtain⟨bX,gh⟩:∃bX,bX=((w.alloc (J (cK p s).toArray 36)).alloc (J (bM.kP a).toArray 148)).alloc (J jv 36):=⟨_,rfl⟩;rw[<-gh]at ce;have vs:=z gh;have cD:=z hr;clear gh hr;unfold iX;go_in;go_upto_region 1 with fail;have gh:=vs.o;unfold jv at gh;rw[<-gh];clear gh vs;have a2:bX.cell? ⟨w+1,2,none⟩=some (N (str a.2.2.1)):=aG ce.o.2.Gc 2;have a3:bX.cell? ⟨w+1,3,none⟩=some (N (str a.2.2.2.1)):=aG ce.o.2.Gc 3;by_cases Kf:(str a.2.2.1).toList=[83,101,114,118,105,99,101]
 ·have ed:((str a.2.2.1).toList==[83,101,114,118,105,99,101])=true:=by rw[Kf];rfl
  have eq:((str a.2.2.1).toList !=[83,101,114,118,105,99,101])=false:=by rw[Kf];rfl
  generalize ai:yG (str a.2.2.2.1)=jj at *;cases jj with
  |true=>
   go_wp2_with(first
    |(go_at_call 119;refine ak (F0.o _) ?_;intro I Q;(try rw[ai]);have H1:=z (ah (aJ ce.o.1 Q) (ce.o.2.ext' Q));clear Q)
    |(refine rR rfl 36 (.tmp 2) rfl w.heap.size rfl 36 _ _ _ H1.o.1 underlying36 rfl rG ?_)
    |(refine rR rfl 148 (.tmp 3) rfl (w.heap.size+1) rfl 148 _ _ _ H1.o.2.Gc underlying148 rfl aj ?_)
    |(go_at_call 120;refine(aEV.o _ H1.o.2.ext).mono ?_;rintro e aO ⟨s',u,p',ns,rfl,ag,lj,kj,hd⟩;unfold iX;have bK:=z (ah (H1.o.2.ext' ag) (ah lj (ah kj hd)));clear ag lj kj hd)
    |(refine wpList_store_rowTo rfl 36 (.tmp 4) (.tmp 22) rfl rfl (w.heap.size+1+1) (cK p' s').toArray rfl rfl 36 _ bK.o.1.res rG rfl Fe ?_))
   have be:=gu _ _ _ (cK p' s').toArray _ _ bK.o.1.res;refine cO (v:=bH #[bg (cK p' s').toArray,u]) (tJ results72 _ _ (w+1+1) _ (cK p' s').toArray (0,0) _ rfl be underlying36 rfl aj) rfl ?_;have lj:lI (aO.setRow (w+1+1) (cK p' s').toArray) p' s':=⟨eX bK.o.2.1.ar bK.o.1.res Y _,eX bK.o.2.1.fc bK.o.1.res Y _,eX bK.o.2.1.lc bK.o.1.res Y _,eX bK.o.2.1.fa bK.o.1.res Y _⟩;refine⟨s',u,p',ns,rfl,iT bK.o.1.ext aE _,lj,eD pW (eX bK.o.2.2.1 bK.o.1.res Y _),?_⟩;rcases bK.o.2.2.2 with⟨h,-,-⟩|⟨lO,ab,bx⟩
   ·first|(rw[ai]at h;cases h)|cases h
   ·exact .inl ⟨ai,lO,ab,bx⟩
  |false=>
   generalize hg:zI (str a.2.2.2.1)=Fi at *;cases Fi with
   |true=>
    have aEX:=z (λW D=>aEW.o W D (by first|exact hg|rfl));go_wp2_with(first
     |(go_at_call 119;refine ak (F0.o _) ?_;intro w0 Q;(try rw[ai]);have H0:=z (ah (aJ ce.o.1 Q) (ce.o.2.ext' Q));have alc:w0.cell? ⟨w+1,3,none⟩=some (N (str a.2.2.2.1)):=Q.cell a3;clear Q)
     |(go_at_call 121;refine ak (MF.o _) ?_;intro I Q;(try rw[hg]);have H1:=z (ah (aJ H0.o.1 Q) (H0.o.2.ext' Q));clear Q)
     |(refine rR rfl 36 (.tmp 2) rfl w.heap.size rfl 36 _ _ _ H1.o.1 underlying36 rfl rG ?_)
     |(refine rR rfl 148 (.tmp 3) rfl (w.heap.size+1) rfl 148 _ _ _ H1.o.2.Gc underlying148 rfl aj ?_)
     |(go_at_call 122;refine(aEX.o _ H1.o.2.ext).mono ?_;rintro e aO ⟨s',u,rfl,ag,lj,kj⟩;unfold iX;have bK:=z (ah (H1.o.2.ext' ag) (ah lj kj));clear ag lj kj)
     |(refine wpList_store_rowTo rfl 36 (.tmp 4) (.tmp 31) rfl rfl (w.heap.size+1+1) (cK (qg a (str a.2.2.2.1) (str a.2.2.2.2) p).1 s').toArray rfl rfl 36 _ bK.o.1.res rG rfl Fe ?_))
    have be:=gu _ _ _ (cK (qg a (str a.2.2.2.1) (str a.2.2.2.2) p).1 s').toArray _ _ bK.o.1.res;refine cO (v:=bH #[bg (cK (qg a (str a.2.2.2.1) (str a.2.2.2.2) p).1 s').toArray,u]) (tJ results72 _ _ (w+1+1) _ (cK (qg a (str a.2.2.2.1) (str a.2.2.2.2) p).1 s').toArray (0,0) _ rfl be underlying36 rfl aj) rfl ?_;have lj:lI (aO.setRow (w+1+1) (cK (qg a (str a.2.2.2.1) (str a.2.2.2.2) p).1 s').toArray) (qg a (str a.2.2.2.1) (str a.2.2.2.2) p).1 s':=⟨eX bK.o.2.1.ar bK.o.1.res Y _,eX bK.o.2.1.fc bK.o.1.res Y _,eX bK.o.2.1.lc bK.o.1.res Y _,eX bK.o.2.1.fa bK.o.1.res Y _⟩;refine⟨s',u,_,_,rfl,iT bK.o.1.ext aE _,lj,eD pW (eX bK.o.2.2 bK.o.1.res Y _),?_⟩;exact .inr (.inl ⟨hg,rfl,rfl⟩)
   |false=>
    have w7:ZT a:= .inr ⟨ai,hg⟩;go_upto_region 8 with(first
     |(go_at_call 119;refine ak (F0.o _) ?_;intro w0 Q;(try rw[ai]);have H0:=z (ah (aJ ce.o.1 Q) (ce.o.2.ext' Q));have alc:w0.cell? ⟨w+1,3,none⟩=some (N (str a.2.2.2.1)):=Q.cell a3;clear Q)
     |(go_at_call 121;refine ak (MF.o _) ?_;intro bX Q;(try rw[hg]);have ce:=z (ah (aJ H0.o.1 Q) (H0.o.2.ext' Q));clear Q))
    obtain⟨Mb,kd⟩:=ce.o;generalize str a.2.2.2.1=nm at *;exact am6
 ·have w7:ZT a:= .inl Kf;have ed:((str a.2.2.1).toList==[83,101,114,118,105,99,101])=false:=iH.2 Kf;have eq:((str a.2.2.1).toList !=[83,101,114,118,105,99,101])=true:=by unfold bne;rw[ed];rfl
  go_upto_region 8 with fail;obtain⟨Mb,kd⟩:=ce.o;generalize str a.2.2.1=nm at *;exact am6
end LT
end Go.Proofs.YtopfefhenfineaaGreat
