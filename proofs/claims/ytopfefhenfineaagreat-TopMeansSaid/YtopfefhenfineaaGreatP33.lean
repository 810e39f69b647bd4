/- LT.TopMeans_holds: the statement TopMeansSaid holds. -/
import Derived.Test.YtopfefhenfineaaGreatP32
set_option linter.all false
set_option maxRecDepth 100000
namespace Go.Proofs.YtopfefhenfineaaGreat
open Go.Proofs.Tryz Go.RowKit Go.ChangeShapes Go.WideShapes Go.ChangeAt bh
namespace LT
theorem aGF(os:Os)(started:os.Started)(bC:Type)(enc:dD×K->bC):ReturnsInHanded {} Tryz.checked os 4 .any (Rows.topMeansSpec.pre6 enc prog Tryz.f4 Rows.topMeansRow.domain false) (Rows.topMeansSpec.post enc prog Tryz.f4 false true false false):=by
 refine aCV (C:=Tryz.checked) (bz:=4) Tryz.own started aj func4 Tryz.laidOut aj rfl rfl underlying4 ?_
  (ChangeSpec.witness6 (enc:=enc) (C:=Tryz.checked) false ⟨#[],#[bg #[N ⟨#[]⟩,H 0,E none 0 0],E none 0 0,av false,bg #[M 0,M 0,aA 0,aA 0,aA 0,aA 0,aA 0,aA 0,aA 0],M 0,M 0],[]⟩ 8 aj aj aj aj) ?_
 ·intro hF hd
  match hF,hd with
  | [_,_,_,_,_,_],_=>rfl
 intro W base args hF before aGG aGH ad vh;have m7:∀(j:Nat) t v,Tryz.f4.params[j]?=some t->args[j]?=some v->Value.okWide prog W .any base t v:=aGG;have bl:DataW.TrodAll enc prog W 0 (λ_=>true) true Tryz.f4.params.toList args.toList hF before:=aGH;have ci:(DataW.weightsEach prog Tryz.f4.params.toList hF).all (·<=reachBytes)=true:=vh;rw[params4]at bl m7 ci;obtain⟨mj,gv,ct,sy,B8,AF,dm,cs,eg,h6,v7,ra,e9,et,fp,k5,OH,OI,rfl,rfl,rfl,ae,h1,h2,T,af,aQ⟩:=aGI bl;obtain⟨e9,rfl,yq⟩:=bM.afJ (m7 0 24 mj rfl rfl) ae (Zb ci (i:=0) rfl rfl);have OF:=okWide_slice underlying25 (m7 1 25 gv rfl rfl);obtain⟨aPj,va⟩:=h1;rw[aC2 OF]at va;obtain⟨g2,ph,tB,_⟩:=aeA (n:=3) (λU x=>U=bM.qJ x/\bM.n6 W x) ⟨[],0,[],none,0⟩ underlying25 aj Y (λfuel U y bN Gb aeB=>bM.afK fuel U y bN Gb aeB) va (Zb ci (i:=1) rfl rfl);obtain⟨k2,Fs⟩:=ph.rd;obtain⟨a2,rfl,rfl,rfl⟩:=open_bool underlying4 (m7 2 4 ct rfl rfl) h2;obtain⟨mf,rfl,aGJ⟩:=jG.aqS (m7 3 57 sy rfl rfl) T (Zb ci (i:=3) rfl rfl);obtain⟨a4,rfl,rfl,rfl,dC⟩:=open_int underlying32 (m7 4 32 B8 rfl rfl) af;obtain⟨a4,rfl,ky⟩:=wf_u32 dC;obtain⟨a5,rfl,rfl,rfl,bQ⟩:=open_int underlying32 (m7 5 32 AF rfl rfl) aQ;obtain⟨a5,rfl,mB⟩:=wf_u32 bQ;exact aGz e9 gv g2 a2 mf aGJ a4 a5 ky mB tB W yq.1 k2 (λp ac=>(Fs p ac).1)
theorem TopMeans_holds:Rows.TopMeansSaid:=
 OpenClaim.holds_of_wide 4 Tryz.f4 rfl rfl rfl rfl rfl rfl rfl ⟨rfl,rfl,rfl,rfl,rfl⟩ rfl rfl rfl rfl rfl jU func4 aGK
  (of_decide_eq_true jU) (by unfold Func.isWrapper;first|(rw[aF jE];kernel_rfl)|(rw[au jE];exact⟨rfl,rfl⟩))
  (λos started bC enc _=>aGF os started bC enc)
end LT
end Go.Proofs.YtopfefhenfineaaGreat
