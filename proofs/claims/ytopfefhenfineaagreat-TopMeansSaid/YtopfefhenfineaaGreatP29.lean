import Derived.Test.YtopfefhenfineaaGreatP28
set_option linter.all false
set_option maxRecDepth 100000
set_option maxHeartbeats 2000000
namespace Go.Proofs.YtopfefhenfineaaGreat
open Go.Proofs.Tryz Go.RowKit Go.Shelf bh
attribute[local go_sem] Oper.semAt_some
variable{S:Prop}
def SC(h:S:=by
 go_in;go_wp2_with(refine ak d2.o ?_;intro I h1;have H1:=z h1)
 first|go_end0|refine cO (gq rfl _ _ _) rfl ?_
 exact⟨rfl,H1.o⟩):S:=h
namespace LT
open bM (dN)
variable{W:G}{a:dN}{bb n0:Nat}{ns:List dB}{p:bP}{s:dS}{u:K}
def Lu(p:bP)(k:Nat)(b:Bool):bP:=match k with
 |9=> {p with we:=b}
 |10=> {p with pe:=b}
 |11=> {p with rt:=b}
 |_=> {p with np:=b}
def jr.ao6(h:jr n0 bb p s u ns a W)(k:Nat)(hk:9<=k/\k<=12)(b:Bool):jr n0 bb (Lu p k b) s u ns a (W.setCell ⟨bb,k,none⟩ (av b))/\bq n0 ug W (W.setCell ⟨bb,k,none⟩ (av b)):=by have h0:k=9\/k=10\/k=11\/k=12:=aE;rcases h0 with rfl|rfl|rfl|rfl<;>exact h.put _ (av b) (s':=s) rfl ⟨h.po.ar,h.po.fc,h.po.lc,h.po.fa⟩
def qb(a:dN)(v:bn)(k:Nat)(p:bP)(ns:List dB):bP×List dB:=
 if bytes v=[]then(Lu p k false,ns)else if (oh.uf v).2=0 then(Lu p k (oh.uf v).1,ns)else(p,ns++[⟨a.1,a.2.1,150,(bytes v).take 60⟩])
def alH(v:bn):(oh.uf v).2=0\/(oh.uf v).2=150:=by unfold oh.uf;exact FE
theorem Y1(h:jr n0 bb p s u ns a W)(gs:n0<=W)(X:ns.length<=500000)(v:bn)(hv:v.size<=100000)(k:Nat)(hk:9<=k/\k<=12):Calls prog 279 #[aB (some bb),N v,aB (some ⟨bb,k,none⟩)] W (wo n0 bb (qb a v k p ns).1 (qb a v k p ns).2 a W):=by
 have ce:=z (λW=>oh.KX v W);have ao:∃b,W.cell? ⟨bb,k,none⟩=some (av b):=by rw[aG h.b];have h0:k=9\/k=10\/k=11\/k=12:=aE;rcases h0 with rfl|rfl|rfl|rfl<;>exact⟨_,rfl⟩
 obtain⟨b0,c0⟩:=ao;have f0:=dw h.b k;have bC:=z h;have bd:qb a v k p ns=if bytes v=[]then(Lu p k false,ns)else if (oh.uf v).2=0 then(Lu p k (oh.uf v).1,ns)else(p,ns++[⟨a.1,a.2.1,150,(bytes v).take 60⟩]):=rfl
 have pD:=alH v;generalize qb a v k p ns=aH at *;generalize oh.uf v=q at *;obtain⟨alI,er⟩:=q;dsimp only at pD;unfold wo;by_cases bx:bytes v=[]
 ·rw[aF bx]at bd;have cD:=z bd;obtain rfl:v=⟨#[]⟩:=bytes_inj bx;have cz:=z (bC.o.ao6 k hk false);go_in;go_wp
  first|go_end0|refine cO (gq rfl _ _ _) rfl ?_
  exact⟨rfl,⟨_,_,by rw[cD.o];exact cz.o.1⟩,cz.o.2⟩
 rw[au bx]at bd;have aCj:v.toList.isEmpty=false:=by rw[Lib.toList_data,List.isEmpty_eq_false_iff];exact bx
 rcases pD with rfl|rfl
 ·have gw:aH=(Lu p k alI,ns):=bd;have cD:=z gw;go_in;go_wp2_with(go_at_call 277;refine ak (ce.o _) ?_;intro I Q;have c1:=Q.cell c0;have dg:=dw (bC.o.ext' Q).b k;have aT:=z Q);have cz:=z ((bC.o.ext' aT.o).ao6 k hk alI)
  first|go_end0|refine cO (gq rfl _ _ _) rfl ?_
  exact⟨rfl,⟨_,_,by rw[cD.o];exact cz.o.1⟩,(bq.ext aT.o).trans cz.o.2⟩
 ·have gw:aH=(p,ns++[⟨a.1,a.2.1,150,(bytes v).take 60⟩]):=bd;have cD:=z gw;go_in;go_wp2_with(first
   |(go_at_call 277;refine ak (ce.o _) ?_;intro I Q;have aT:=z Q)
   |(refine ak (SA (bC.o.ext' aT.o) (cB gs aT.o.size) aE v aE 150) ?_;rintro cT ⟨ui,ks,n7⟩;have gb:=z (ah ks n7)))
  first|go_end0|refine cO (gq rfl _ _ _) rfl ?_
  exact⟨rfl,⟨_,_,by rw[cD.o];exact gb.o.1⟩,(bq.ext aT.o).trans gb.o.2⟩
theorem SE(h:jr n0 bb p s u ns a W)(gs:n0<=W)(X:ns.length<=500000)(v:bn)(hv:v.size<=100000):Calls prog 225 #[aB (some bb),N v] W (wo n0 bb (qb a v 9 p ns).1 (qb a v 9 p ns).2 a W)/\Calls prog 226 #[aB (some bb),N v] W (wo n0 bb (qb a v 10 p ns).1 (qb a v 10 p ns).2 a W)/\Calls prog 227 #[aB (some bb),N v] W (wo n0 bb (qb a v 11 p ns).1 (qb a v 11 p ns).2 a W)/\Calls prog 228 #[aB (some bb),N v] W (wo n0 bb (qb a v 12 p ns).1 (qb a v 12 p ns).2 a W):=by
 have bY:=z (λk hk=>Y1 h gs X v hv k hk);unfold wo at *;refine⟨?_,?_,?_,?_⟩
 ·have d2:=z (bY.o 9 Y);exact SC
 ·have d2:=z (bY.o 10 Y);exact SC
 ·have d2:=z (bY.o 11 Y);exact SC
 ·have d2:=z (bY.o 12 Y);exact SC
end LT
end Go.Proofs.YtopfefhenfineaaGreat
