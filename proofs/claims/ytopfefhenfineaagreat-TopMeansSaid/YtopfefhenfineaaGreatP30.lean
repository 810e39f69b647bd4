import Derived.Test.YtopfefhenfineaaGreatP28
set_option linter.all false
set_option maxRecDepth 100000
set_option maxHeartbeats 8000000
namespace Go.Proofs.YtopfefhenfineaaGreat
open Go.Proofs.Tryz Go.RowKit Go.Shelf bh
attribute[local go_sem] Oper.semAt_some bh.Oper.idle bh.Oper.lV bh.Oper.jF
variable{S:Prop}
def amw(h:S:=by
 first|go_end0|refine cO (gq rfl _ _ _) rfl ?_
 exact⟨rfl,⟨_,_,by rw[cD.o];exact cz.o.1⟩,(bq.ext H1.o.1).trans cz.o.2⟩):S:=h
namespace LT
open bM (dN)
open oh (eF)
variable{W:G}{a:dN}{bb n0:Nat}{ns:List dB}{p:bP}{s:dS}{u:K}{x:List Nat×List dB}
def wB(w:bn):Nat×Int:=rZ.kK rZ.vW (bytes w) 180
def um(a:dN)(fl:Bool)(x:List Nat×List dB)(w:bn):List Nat×List dB:=
 if (wB w).2=0 then(om x.1 (wB w).1 fl,x.2)else(x.1,x.2++[⟨a.1,a.2.1,(wB w).2.toNat,(bytes w).take 60⟩])
def yF(l:List Nat):Prop:=(∀n∈l,∃x∈rZ.vW,x.2=n)/\tF (· < ·) l
def yF.len{l:List Nat}(h:yF l):l.length<=100:=Sv h.2 λx D=>by obtain⟨y,bN,rfl⟩:=h.1 x D;have:∀y∈rZ.vW,y.2<100:=Y;exact this y bN
def Zw(w:bn):((wB w).2=0/\∃x∈rZ.vW,x.2=(wB w).1)\/(wB w).2=180:=by
 unfold wB rZ.kK;split
 ·rename_i x D;exact .inl ⟨rfl,x,List.mem_of_find?_eq_some D,rfl⟩
 ·exact .inr rfl
def amx{fl:Bool}(w:bn)(h:yF x.1):yF (um a fl x w).1:=by
 unfold um;split
 ·rename_i ae;obtain⟨bk,bW⟩:=adc (wB w).1 fl h.2;refine⟨λy bN=> ?_,bk⟩;rcases bW y bN with k|rfl
  ·exact h.1 y k
  ·rcases Zw w with⟨-,k⟩|k
   ·exact k
   ·rw[k]at ae;cases ae
 ·exact h
def aD2{fl:Bool}(w:bn):(um a fl x w).2.length<=x.2.length+1:=by unfold um;exact YZ
def uq(v:bn):Bool:=Lib.hasPrefix (bytes v) [126]
def mH(v:bn):bn:=str (Lib.trimPrefix (bytes v) [126])
def Zx(v:bn):(mH v).size<=v.size:=by unfold mH;rw[vH,<-jS];exact PE
def jr.fam(h:jr n0 bb p s u ns a W)(fa:List Nat)(ga:Option Addr)(gc fd:Nat)(ho:W.ownsRow 0 32 1 (E ga fa gc) fa (fa.flatMap iC)):jr n0 bb {p with fd:=fd,fa:=fa} {s with ga:=ga,gc:=gc} u ns a ((W.setCell ⟨bb,6,none⟩ (E ga fa gc)).setCell ⟨bb,7,none⟩ (aC fd))/\bq n0 ug W ((W.setCell ⟨bb,6,none⟩ (E ga fa gc)).setCell ⟨bb,7,none⟩ (aC fd)):=by have h1:=h.put 6 (E ga fa gc) (p':= {p with fa:=fa}) (s':= {s with ga:=ga,gc:=gc}) rfl ⟨h.po.ar,h.po.fc,h.po.lc,ho⟩;have h2:=h1.1.put 7 (aC fd) (p':= {p with fd:=fd,fa:=fa}) (s':= {s with ga:=ga,gc:=gc}) rfl ⟨h1.1.po.ar,h1.1.po.fc,h1.1.po.lc,h1.1.po.fa⟩;exact⟨h2.1,h1.2.trans h2.2⟩
def wC(a:dN)(v:bn)(fd:Nat)(fa:List Nat)(ns:List dB):Nat×List Nat×List dB:=
 if (Lib.goFieldsP eF v).length=0 then(0,[],ns)
 else if Lib.goFieldsP eF v=[⟨#[110,111,110,101]⟩]then(1,[],ns)
 else(if fd=0 then(if uq v=true then 2 else 1)else fd,(Lib.goFieldsP eF (mH v)).foldl (um a (uq v==((if fd=0 then(if uq v=true then 2 else 1)else fd)==2))) (fa,ns))
theorem amy(v:bn)(W:G):Calls prog 274 #[N v] W λe F=>e=aI (bH #[N (mH v),av (uq v)])/\W=F:=(show Calls prog 274 #[N v] W λe F=>e=aI (bH #[N (mH v),av (uq v)])/\F=W from oh.EP v W).mono λ_ _ h=>⟨h.1,h.2.symm⟩
theorem PZ(h:jr n0 bb p s u ns a W)(gs:n0<=W)(cv:yF p.fa)(X:ns.length<=500000)(v:bn)(hv:v.size<=100000):Calls prog 223 #[aB (some bb),N v] W (wo n0 bb {p with fd:=(wC a v p.fd p.fa ns).1,fa:=(wC a v p.fd p.fa ns).2.1} (wC a v p.fd p.fa ns).2.2 a W):=by
 have li:=Zx v;have ma:=Ba eF (mH v);have bY:=z (R9 eF (mH v));have eo:=z (λW=>oh.oM v aE W);have h':=z (λW=>oh.oM (mH v) aE W);have gz:=z (λW=>amy v W);obtain⟨aH,bd⟩:∃aH,aH=wC a v p.fd p.fa ns:=⟨_,rfl⟩;have gw:aH=if (Lib.goFieldsP eF v).length=0 then(0,[],ns)else if Lib.goFieldsP eF v=[⟨#[110,111,110,101]⟩]then(1,[],ns)else(if p.fd=0 then(if uq v=true then 2 else 1)else p.fd,(Lib.goFieldsP eF (mH v)).foldl (um a (uq v==((if p.fd=0 then(if uq v=true then 2 else 1)else p.fd)==2))) (p.fa,ns)):=bd
 rw[<-bd];clear bd;have UP:=Ba eF v;generalize Lib.goFieldsP eF v=mL at *;generalize Lib.goFieldsP eF (mH v)=L at *;generalize uq v=dZ at *;generalize mH v=AK at *;have c7:W.cell? ⟨bb,7,none⟩=some (aC p.fd):=aG h.b 7;have bC:=z h;unfold wo;by_cases bL:mL.length=0
 ·rw[aF bL]at gw;have fR:((mL:Int)==0)=true:=by rw[bL];rfl
  have cD:=z gw;clear gw h cv bL;go_in;go_wp2_with(first
   |(go_at_call 274;refine ak (gz.o _) ?_;rintro dC rfl)
   |(go_at_call 270;refine(eo.o _).mono ?_;rintro e I ⟨AG,rfl,Q,d4⟩;obtain⟨br,wd,rfl⟩:=dP d4;have dp:=bC.o.ext' Q;have amA:I.cell? ⟨bb,6,none⟩=some (E s.ga p.fa s.gc):=aG dp.b 6;have r7:=dw dp.b 6;have amB:=Q.cell c7;have xj:=dw dp.b 7;have H1:=z (ah Q dp);clear Q d4 dp))
  have ac:=H1.o.2.fam [] none 0 0 ⟨rfl,.inl ay⟩;have cz:=z ac;clear ac
  exact amw
 rw[au bL]at gw;have fR:((mL:Int)==0)=false:=iH.2 aE;have cD:=z gw;have X7:=z cv;clear gw h cv bL;go_in;go_upto_region 4 with(first
  |(go_at_call 274;refine ak (gz.o _) ?_;rintro dC rfl)
  |(go_at_call 270;refine(eo.o _).mono ?_;rintro e I ⟨AG,rfl,Q,d4⟩;obtain⟨br,wd,rfl⟩:=dP d4;have H1:=z (ah Q (ah (bC.o.ext' Q) (d4.mono (eG _))));clear Q d4))
 go_cut [30] (λaD3 wx=>aD3=av (decide (mL=[⟨#[110,111,110,101]⟩]))/\I=wx)
 case first=>
  by_cases h1:mL.length=1
  ·obtain⟨x,rfl⟩:∃x,mL=[x]:=List.length_eq_one_iff.1 h1;obtain⟨b,o,c',cU,r0⟩:=SB H1.o.2.2 (show 0<[x].length from ay);simp only[eZ,true_and]at cU;obtain⟨rfl,rfl⟩:=cU;have CD:(x.toList==[110,111,110,101])=decide ([x]=[(⟨#[110,111,110,101]⟩:bn)]):=by rw[show([110,111,110,101]:List aL)=(⟨#[110,111,110,101]⟩:bn).toList by rw[Lib.toList_data],dW];simp[ByteArray.toList_eq];exact⟨λh=>bytes_inj h,λh=>by rw[h]⟩
   replace r0:I.cell? ⟨b,o,none⟩=some (N x):=r0;obtain⟨SM,Zy⟩:∃SM,SM=decide ([x]=[(⟨#[110,111,110,101]⟩:bn)]):=⟨_,rfl⟩;rw[<-Zy]at CD;have ce:=z Zy;clear h1 Zy;go_wp;go_meet;exact⟨by rw[<-ce.o],rfl⟩
  ·have ed:((mL:Int)==1)=false:=iH.2 aE;have aW:decide (mL=[(⟨#[110,111,110,101]⟩:bn)])=false:=dM λh=>h1 (by rw[h];rfl)
   have t6:=z aW;clear aW;go_wp;go_meet;exact⟨by rw[t6.o],rfl⟩
 case rest=>
  obtain⟨rfl,rfl⟩:=hcut;have dp:=H1.o.2.1;have amB:I.cell? ⟨bb,7,none⟩=some (aC p.fd):=aG dp.b 7;have xj:=dw dp.b 7;by_cases aW:mL=[⟨#[110,111,110,101]⟩]
  ·have gw:=cD.o;rw[aF aW]at gw;have rB:=z gw;have hd:decide (mL=[(⟨#[110,111,110,101]⟩:bn)])=true:=dH aW;rw[hd];have amA:I.cell? ⟨bb,6,none⟩=some (E s.ga p.fa s.gc):=aG dp.b 6;have r7:=dw dp.b 6;clear gw aW hd;go_wp;have ac:=H1.o.2.1.fam [] none 0 1 ⟨rfl,.inl ay⟩;have cz:=z ac;clear ac
   first|go_end0|refine cO (gq rfl _ _ _) rfl ?_
   exact⟨rfl,⟨_,_,by rw[rB.o];exact cz.o.1⟩,(bq.ext H1.o.1).trans cz.o.2⟩
  have gw:=cD.o;rw[au aW]at gw;have hd:decide (mL=[(⟨#[110,111,110,101]⟩:bn)])=false:=dM aW;rw[hd];obtain⟨fd,Zz⟩:∃fd,fd=if p.fd=0 then(if dZ=true then 2 else 1)else p.fd:=⟨_,rfl⟩
  rw[<-Zz]at gw;obtain⟨fl,ZA⟩:∃fl,fl=(dZ==(fd==2)):=⟨_,rfl⟩;rw[<-ZA]at gw;have rB:=z (ah gw (ah Zz ZA));clear gw aW hd Zz ZA dp;go_upto_if 53 with fail;go_cut [] (λwx=>∃cd,cd=wx/\jr n0 bb {p with fd:=fd} s u ns a cd/\bq n0 ug W cd)
  case first=>
   by_cases ae:p.fd=0
   ·have ai:=rB.o.2.1;rw[aF ae]at ai;have eq:((p.fd:Int)==0)=true:=by rw[ae];rfl
    have r1:=H1.o.2.1.put 7 (aC 1) (p':= {p with fd:=1}) (s':=s) rfl ⟨H1.o.2.1.po.ar,H1.o.2.1.po.fc,H1.o.2.1.po.lc,H1.o.2.1.po.fa⟩;have A7:=r1.1.put 7 (aC 2) (p':= {p with fd:=2}) (s':=s) rfl ⟨r1.1.po.ar,r1.1.po.fc,r1.1.po.lc,r1.1.po.fa⟩;have cz:=z (ah r1 A7);clear r1 A7 ae;cases dZ
    ·have va:fd=1:=ai;subst va;clear ai;go_wp;go_meet;exact⟨_,rfl,cz.o.1.1,(bq.ext H1.o.1).trans cz.o.1.2⟩
    ·have va:fd=2:=ai;subst va;clear ai;go_wp;go_meet;exact⟨_,rfl,cz.o.2.1,((bq.ext H1.o.1).trans cz.o.1.2).trans cz.o.2.2⟩
   ·have ai:=rB.o.2.1;rw[au ae]at ai;have eq:((p.fd:Int)==0)=false:=iH.2 aE;subst ai;clear ae;go_wp;go_meet;exact⟨_,rfl,H1.o.2.1,.ext H1.o.1⟩
  case rest=>
   obtain⟨cd,rfl,amC,qt⟩:=hcut;have es:=z (ah amC qt);have oj:n0<=cd:=cB gs qt.size;clear amC qt amB xj;go_wp2_with(go_at_call 270;refine(h'.o _).mono ?_;rintro e aO ⟨aD4,rfl,ag,fv⟩;obtain⟨Jw,ZB,rfl⟩:=dP fv;have bK:=z (ah ag (fv.mono (eG _)));clear ag fv);go_loopw [66] (λi wr=>∃(k:Nat) (g2:List Nat×List dB) (dl:dS) (ej:K),i=H k/\k<=L/\g2=(L.take k).foldl (um a fl) (p.fa,ns)/\jr n0 bb {p with fd:=fd,fa:=g2.1} dl ej g2.2 a wr/\wr.ownsRow 0 9 1 (E Jw L ZB) L (L.flatMap oh.A8)/\bq n0 ug W wr/\yF g2.1/\g2.2.length<=ns.length+k) (λi _=>L.length-(intOf i).toNat)
   case atStart=>exact⟨0,(p.fa,ns),s,u,rfl,aE,rfl,es.o.1.ext' bK.o.1,bK.o.2,es.o.2.trans (.ext bK.o.1),X7.o,ay⟩
   case round=>
    obtain⟨k,⟨AS,gR⟩,dl,ej,rfl,hk,gp,sB,g6,fi,uk,hy⟩:=hrel;dsimp only at sB uk hy;by_cases ad:k<L
    ·obtain⟨b,o,c',cU,r0⟩:=SB g6 ad;simp only[eZ,true_and]at cU;obtain⟨rfl,rfl⟩:=cU;have ci:=bY.o _ (eB ad);have bU:(L.take (k+1)).foldl (um a fl) (p.fa,ns)=um a fl (AS,gR) L[k]:=by rw[mh ad,uF,<-gp];rfl
     generalize L[k]=g7 at *;have e1:∀W,Calls prog 275 #[N g7] W λe F=>e=aI (bH #[M ((wB g7).1:Int),H (wB g7).2])/\Ext W F:=λW=>rZ.Qc g7 W
     have lj:=Zw g7;have dT:yF (um a fl (AS,gR) g7).1:=amx g7 uk;have q4:=aD2 (a:=a) (fl:=fl) (x:=(AS,gR)) g7;have n9:um a fl (AS,gR) g7=if (wB g7).2=0 then(om AS (wB g7).1 fl,gR)else(AS,gR++[⟨a.1,a.2.1,(wB g7).2.toNat,(bytes g7).take 60⟩]):=rfl
     rw[<-bU]at dT q4 n9;generalize wB g7=q at *;obtain⟨ry,er⟩:=q;dsimp only at e1 lj n9 q4;have nc:(k:Int)<L:=aE;have E6:=z e1;have cg:=z (ah sB (ah g6 (ah fi (ah uk (ah hy (ah dT q4))))));have ya:=uk.len;have jm:n0<=wr:=cB gs fi.size;clear e1 sB g6 fi uk dT q4 bU gp;rcases lj with⟨rfl,-⟩|rfl
     ·rw[aF rfl]at n9;have gg:=z n9;clear n9;have Cp:wr.cell? ⟨bb,6,none⟩=some (E dl.ga AS dl.gc):=aG cg.o.1.b 6;have Se:wr.cell? ⟨bb,7,none⟩=some (aC fd):=aG cg.o.1.b 7;have JT:=z (λaa (D:Ext wr aa)=>aCy _ AS ry fl aE cg.o.2.2.2.1.2 aa (cg.o.1.ext' D).po.rd.fa);dsimp only at JT;generalize om AS ry fl=amD at *;have pL:((fd:Int)==2)=(fd==2):=by rw[dW];simp;omega
      have aD5:=rB.o.2.2;go_upto_region 16 with(go_at_call 275;refine ak (E6.o _) ?_;intro bQ bR;have c9:=z bR;have Ya:=dh (bR.cell Cp);have aNZ:=dh (bR.cell Se);clear bR);refine Ms (n:=1) [15,16,17,18,19] (λaP=>∃x:fG bQ,aP=x.w) aj ?_;have eQ:∃x:fG bQ,bQ.drew=x.w:=⟨⟨bQ.drew,(O bQ).drew⟩,rfl⟩;refine mq 0 rfl ?_;refine mq 1 rfl ?_;refine jK 2 rfl (λaX am=> ?_);go_simp;refine am _ ?_;refine jK 3 rfl (λaX am=> ?_);go_simp;refine am _ ?_;refine jK 4 rfl (λaX am=> ?_);go_simp;refine am _ ?_;refine Sg 5 rfl eQ (λaX am=> ?_);go_simp;refine am _ ?_;refine jK 6 rfl (λaX am=> ?_);go_simp;refine am _ ?_;refine jK 7 rfl (λaX am=> ?_);go_simp;refine am _ ?_;refine jK 8 rfl (λaX am=> ?_);go_simp;refine am _ ?_;refine jK 9 rfl (λaX am=> ?_);go_simp;refine am _ ?_;refine jK 10 rfl (λaX am=> ?_);go_simp;refine am _ ?_;refine jK 11 rfl (λaX am=> ?_);go_simp;refine am _ ?_;refine Sg 12 rfl eQ (λaX am=> ?_);go_simp;refine am _ ?_;refine jK 13 rfl (λaX am=> ?_);go_simp;refine am _ ?_;refine jK 14 rfl (λaX am=> ?_);go_simp;refine am _ ?_;rw[aD5]at JT;refine nZ 15 aj rfl aj (λaX am=> ?_);go_simp;refine⟨trivial,?_⟩;refine(eP.2 (JT.o _ (c9.o.trans (O bQ).drew))).mono ?_;rintro e cT ⟨jJ,c6,rfl,dX,gC⟩;have ZC:Ext wr cT:=(c9.o.trans (O bQ).drew).trans dX;have kh:cT.cell? ⟨bb,6,none⟩=some (E dl.ga AS dl.gc):=ZC.cell Cp;have r7:=dw (cg.o.1.ext' ZC).b 6;have gb:=z (ah ZC (gC.mono (eG _)));refine am _ _ ?_;refine nZ 16 aj rfl aj (λaX am=> ?_);go_simp;refine am _ _ ?_;refine nZ 17 aj rfl aj (λaX am=> ?_);go_simp;refine am _ _ ?_;refine nZ 18 aj rfl aj (λaX am=> ?_);go_simp;refine am _ _ ?_;refine nZ 19 aj rfl aj (λaX am=> ?_);go_simp;refine am _ _ ?_;refine AJ aj ?_;dsimp only[bh.Calm,Exit.then];have kt:=cg.o.1.ext' gb.o.1;have ac:=kt.put 6 (E jJ amD c6) (p':= {p with fd:=fd,fa:=amD}) (s':= {dl with ga:=jJ,gc:=c6}) rfl ⟨kt.po.ar,kt.po.fc,kt.po.lc,gb.o.2⟩;have cz:=z ac;go_wp;exact alE
     ·rw[au Y]at n9;have gg:=z n9;go_wp2_with(first
       |(go_at_call 275;refine ak (E6.o _) ?_;intro bQ bR;have c9:=z bR)
       |(refine ak (SA (cg.o.1.ext' c9.o) (cB jm c9.o.size) (by have:=cg.o.2.2.2.2.1;omega) g7 aE 180) ?_;rintro cT ⟨ui,ks,n7⟩;have gb:=z (ah ks n7)))
      exact alD
    ·obtain rfl:k=L.length:=aE;rw[iR]at gp;have cg:=z (ah sB (ah fi gp));go_wp
     first|go_end0|refine cO (gq rfl _ _ _) rfl ?_
     exact⟨rfl,⟨_,_,by rw[rB.o.1,<-cg.o.2.2];exact cg.o.1⟩,cg.o.2.1⟩
end LT
end Go.Proofs.YtopfefhenfineaaGreat
