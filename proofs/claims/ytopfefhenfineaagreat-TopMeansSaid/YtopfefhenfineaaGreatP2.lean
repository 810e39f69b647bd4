import Derived.Test.YtopfefhenfineaaGreatP0
set_option linter.all false
namespace Go.Proofs.YtopfefhenfineaaGreat
open Go.Proofs.Tryz Go.RowKit bh
namespace KL
theorem Xl(a:Nat)(h:a<4294967296)(w:G):Calls prog 194 #[M a] w λe F=>e=aI (M ((a/65536*65536:Nat):Int))/\w=F:=by go_in;go_wp2;go_ret;exact⟨by simp[acP a h],rfl⟩
theorem axW(i:Nat)(h:i<8)(w:G):(Instr.index 498 (bg Vb) (H i)).run prog w= .ok (bg #[M (codes.getD i 0:Nat),N ⟨(nms.getD i []).toArray⟩]) w:=by rw[Uv (n:=8) (C6:=2) underlying498 underlying497 aj _ i h];rcases acQ i h with rfl|rfl|rfl|rfl|rfl|rfl|rfl|rfl<;>rfl
theorem axX(w:G):aM 399 #[] w (bg Vb):=by unfold aM;go_in;go_wp2;refine cO (v:=bg Vb) (by simp[results,results399,go_sem];rfl) rfl ⟨rfl,(O _).alloc _⟩
theorem axY(a:Nat)(h:a<4294967296)(w:G):aM 367 #[M a] w (N ⟨(nm (a/65536)).toArray⟩):=by
 unfold aM;go_in;go_wp2_with(go_at_call 399;refine ak (axX _) ?_;intro I cH);go_loopw [6] (λi wr=>∃k:Nat,k<=8/\i=H k/\Ext w wr/\∀j,j<k->codes.getD j 0≠a/65536*65536) (λi _=>8-(intOf i).toNat)
 case atStart=>exact⟨0,aE,rfl,cH,aE⟩
 case round=>
  obtain⟨k,hk,rfl,V,hp⟩:=hrel;have ce:=z V;have ev:=z hp;clear V hp cH;by_cases ad:k<8
  ·have Rm:=axW k ad;generalize ao:codes.getD k 0=c at Rm;generalize hn:nms.getD k []=t at Rm;have dt:=z ao;have gz:=z hn;clear ao hn;go_wp2_with(go_quiet ((go_at_call 194;exact Calls.quiet_of_same ((Xl _ h _).mono λ_ _ ⟨e,f⟩=>⟨e,f.symm⟩))))
   ·go_ret;refine⟨?_,(ce.o.alloc _).drewN _⟩;have z9:((c:Int)==(a:Int)/65536*65536)=true:=by assumption
    have e:codes.getD k 0=a/65536*65536:=by rw[dt.o];have:=eq_of_beq z9;omega
    have aV:=asn k a ad e;rw[gz.o]at aV;simp[aV]
   ·have z9:((c:Int)==(a:Int)/65536*65536)=false:=by assumption
    have e:codes.getD k 0≠a/65536*65536:=by rw[dt.o];have:=ne_of_beq_false z9;omega
    go_roundw
    case rel=>
     refine⟨k+1,aE,cZ,(ce.o.alloc _).drewN _,λj Z=> ?_⟩;by_cases lw:j<k
     ·exact ev.o j lw
     ·obtain rfl:j=k:=aE;exact e
    case measure=>exact eO
  ·go_wp2;go_ret;obtain rfl:k=8:=aE;exact⟨by rw[aso a ev.o];simp,ce.o⟩
theorem Bu(a:Nat)(h:a<4294967296)(w:G):aM 289 #[M a] w (av (kn a)):=by have bO:(nm (a/65536)).isEmpty= !kn a:=asl _;unfold aM;go_in;go_wp2_with(go_at_call 367;refine ak (axY a h _) ?_;intro I cH);go_ret;exact⟨ay,by assumption⟩
end KL
end Go.Proofs.YtopfefhenfineaaGreat
