import Derived.Test.YtopfefhenfineaaGreatP1
import Derived.Deep.Slices
import Derived.Laws.IdiomArrays
import Derived.Deep.RegionLaw
set_option linter.all false
set_option maxRecDepth 100000
set_option maxHeartbeats 2000000
namespace Go.Proofs.YtopfefhenfineaaGreat
open Go.Proofs.Tryz Go.RowKit V
variable{zP:Prop}
def ew(h:zP:=by simp[gB]):zP:=h
namespace jO
variable{i j k len:Nat}
structure Sy where
 c:Nat
 k:Nat
 th:Int
 el:Int
structure RO(s:Sy):Prop where
 c:s.c<65536
 k:s.k<4294967296
 t1: -9223372036854775808<=s.th
 t2:s.th<=9223372036854775807
 e1: -9223372036854775808<=s.el
 e2:s.el<=9223372036854775807
def gB(s:Sy):List aA:= [.int .u16 s.c,.int .u32 s.k,.int .i64 s.th,.int .i64 s.el]
def eH(s:Sy):(gB s).length=4:=rfl
def iM(s:Sy):∀u∈gB s,u.oneCell'=true:=by intro u hu;simp[gB]at hu;exact tD
def gJ{w:ay}{v:aA}{xs:List Sy}(h:Rd w 4 gB v xs):∃a c,v= .slice a xs c/\xs.length<=c/\∀i,(hi:i<xs.length)->∃b o,a=some ⟨b,o,none⟩/\w.cell? ⟨b,o+i*4,none⟩=some (.int .u16 (xs[i].c:Int))/\w.cell? ⟨b,o+i*4+1,none⟩=some (.int .u32 (xs[i].k:Int))/\w.cell? ⟨b,o+i*4+2,none⟩=some (.int .i64 xs[i].th)/\w.cell? ⟨b,o+i*4+3,none⟩=some (.int .i64 xs[i].el):=by obtain⟨a,c,h1,h2,h3,h4⟩:=h;refine⟨a,c,h1,h2,λi hi=> ?_⟩;obtain⟨b,o,e,k⟩:=h4 i hi;exact⟨b,o,e,k 0 ew,k 1 ew,k 2 ew,k 3 ew⟩
def gF(c:Nat):Bool:=(c==21)||((c==37)||((c==53)||(c==69)))
def there(len i:Nat)(n:Int):Bool:=decide ((i:Int)<n)&&decide (n<(len:Int))
def none_(s:Sy):Bool:=(s.th==0)&&(s.el==0)
def jk(len i:Nat)(s:Sy):Bool:=
 if s.c=32 then none_ s&&okW s.k
 else if s.c=84\/s.c=6 then none_ s
 else if s.c=5 then(s.k==0)&&((s.el==0)&&there len i s.th)
 else gF s.c&&(there len i s.th&&there len i s.el)
def iq(len:Nat):List Sy->Nat->Bool
 | [],_=>true
 |n::r,i=>jk len i n&&iq len r (i+1)
def um(l:List Sy):Nat:=match l[l.length-1]? with
 |some s=>s.c
 |none=>0
def iw(l:List Sy):Bool:=decide (0<l.length)&&(decide (l.length<=131072)&&((um l==6)&&iq l l 0))
def Eu{t:List Sy}(len:Nat)(h:k<t):iq len (t.drop k) k=(jk len k t[k]&&iq len (t.drop (k+1)) (k+1)):=by rw[bJ h];rfl
def Ig(len:Nat)(t:List Sy)(i:Nat):iq len (t.drop t) i=true:=by rw[dQ];rfl
def zK:∀ {r:List Sy} {len i j:Nat},iq len r i=true->∀(h:j<r),jk len (i+j) r[j]=true
 |n::r,len,i,0,hm,_=>by simp only[iq,bA]at hm;exact hm.1
 |n::r,len,i,j+1,hm,h=>by simp only[iq,bA]at hm;have:=zK hm.2 (j:=j) cT;simpa[Nat.add_assoc,Nat.add_comm 1 j]using this
def jZ{l:List Sy}(h:iw l=true)(hj:j<l):jk l j l[j]=true:=by
 unfold iw at h;simp only[bA]at h;have:=zK h.2.2.2 hj
 rwa [cO]at this
def EA{l:List Sy}(h:0<l.length):um l=(l[l.length-1]' aq).c:=by unfold um;rw[aJ aq]
def qd{l:List Sy}(h:iw l=true):0<l.length:=by unfold iw at h;simp at h;exact h.1
def AA{l:List Sy}(h:iw l=true):(l[l.length-1]'(by have:=qd h;omega)).c=6:=by have hp:=qd h;rw[<-EA hp];unfold iw at h;simp at h;exact h.2.2.1
theorem uD(c:Nat)(w:ay):Rt 397 #[.int .u16 c] w (.bool (gF c)):=by
 have e1:((c:Int)==21)=(c==21):=by rw[bB];simp;omega
 have e2:((c:Int)==37)=(c==37):=by rw[bB];simp;omega
 have e3:((c:Int)==53)=(c==53):=by rw[bB];simp;omega
 have e4:((c:Int)==69)=(c==69):=by rw[bB];simp;omega
 unfold gF;generalize(c==21)=b1 at *;generalize(c==37)=b2 at *;generalize(c==53)=b3 at *;generalize(c==69)=b4 at *;cases b1
 ·cases b2
  ·cases b3
   ·unfold Rt;go_in;go_wp2;go_ret;exact⟨aE,aj _⟩
   ·exact kh
  ·exact kh
 ·exact kh
theorem Fa(n:Int)(len i B C:Nat)(w:ay)(hB:w.cell? B=some (.int .i64 i))(hC:w.cell? C=some (.int .i64 len)):Rt 396 #[.int .i64 n,.pointer (some B),.pointer (some C)] w (.bool (there len i n)):=by
 unfold there;cases h:decide ((i:Int)<n)
 all_goals
  unfold Rt;go_in;go_wp2;go_ret;exact⟨aE,aj _⟩
def Uf{l:List Sy}(h:¬0<l.length):iw l=false:=by unfold iw;simp;omega
def Zh{l:List Sy}(h:131072<l.length):iw l=false:=by unfold iw;simp;omega
def Ug{l:List Sy}(h:(um l==6)=false):iw l=false:=by unfold iw;rw[h];simp
def ach{l:List Sy}(h1:0<l.length)(h2:l.length<=131072)(h3:(um l==6)=true):iw l=iq l l 0:=by unfold iw;rw[h3];simp[h1,h2]
theorem oD(aoy:∀(s:Sy)(i len:Nat)(w:ay),Calls prog 356 #[.agg #[.int .u16 s.c,.int .u32 s.k,.int .i64 s.th,.int .i64 s.el],.int .i64 i,.int .i64 len] w λe w'=>e= .returned (.bool (jk len i s))/\Ext w w')(v:aA)(xs:List Sy)(hl:xs.length<=1000000)(w:ay)(hv:Rd w 4 gB v xs):Rt 283 #[v] w (.bool (iw xs)):=by
 obtain⟨a,c,rfl,hac,hca⟩:=gJ hv;clear hv;have apC:=ah aoy;clear aoy;by_cases p1:0<xs.length
 case neg=>have hA:=Uf p1;have d1:decide ((xs:Int)<1)=true:=aQ aq;have d1':decide (xs.length<1)=true:=aQ aq;rw[hA];have pQ:=ah hA;have Hp1:=ah p1;clear hA p1 hca;exact kh
 have d1:decide ((xs:Int)<1)=false:=aT aq;have d1':decide (xs.length<1)=false:=aT aq;by_cases p2:131072<xs.length
 ·have hA:=Zh p2;have d2:decide (131072<(xs:Int))=true:=aQ aq;have d2':decide (131072<xs.length)=true:=aQ aq;rw[hA];have pQ:=ah hA;have Hp1:=ah p1;have Hp2:=ah p2;clear hA p1 p2 hca;exact kh
 have d2:decide (131072<(xs:Int))=false:=aT aq;have d2':decide (131072<xs.length)=false:=aT aq;obtain⟨b,o,rfl,l1,-⟩:=hca (xs-1) aq;rw[<-EA p1]at l1;have hmid:=λh=>ach p1 aq h
 have acY:=Ug (l:=xs);obtain⟨n,hn⟩:∃n:Nat,xs.length=n+1:=⟨xs.length-1,aq⟩;have hs1:(xs:Int)-1=n:=aq;have hn1:xs.length-1=n:=aq;rw[hn1]at l1;have hnl:n<xs:=aq;cases q:(um xs==6)
 ·have hA:=acY q;have dq:((um xs:Int) !=6)=true:=by simp at q;simp;omega
  rw[hA];generalize um xs=lc at *;have pQ:=ah hA;have Hp1:=ah p1;clear hA p1;have Hp2:=ah p2;have apl:=ah hmid;clear p2 hmid;have apm:=ah acY;have Hq:=ah q;clear acY q;have Hhn:=ah hn;have atl:=ah hn1;clear hn hn1 hca;exact kh
 have hA:=hmid q;have dq:((um xs:Int) !=6)=false:=by simp at q;simp;omega
 rw[hA];have aoj:∀i,(hi:i<xs.length)->w.cell? ⟨b,o+i*4,none⟩=some (.int .u16 (xs[i].c:Int))/\w.cell? ⟨b,o+i*4+1,none⟩=some (.int .u32 (xs[i].k:Int))/\w.cell? ⟨b,o+i*4+2,none⟩=some (.int .i64 xs[i].th)/\w.cell? ⟨b,o+i*4+3,none⟩=some (.int .i64 xs[i].el):=by intro i hi;obtain⟨b2,o2,e,h⟩:=hca i hi;simp only[dw,gD]at e;obtain⟨rfl,rfl,-⟩:=e;exact h
 generalize um xs=lc at *;have pQ:=ah hA;have Hp1:=ah p1;clear hA p1;have Hp2:=ah p2;have apl:=ah hmid;clear p2 hmid;have apm:=ah acY;have Hq:=ah q;clear acY q;have Hhn:=ah hn;have atl:=ah hn1;have apx:=ah aoj;clear hn hn1 aoj hca;unfold Rt;go_in;go_wp2;go_loopw [25] (λi wr=>∃k:Nat,k<=xs/\i= .int .i64 k/\Ext w wr/\iq xs xs 0=iq xs (xs.drop k) k) (λi _=>xs.length-(intOf i).toNat)
 case atStart=>exact kf
 case round=>
  obtain⟨k,hk,rfl,hx,heq⟩:=hrel;have HX:=ah hx;by_cases hlt:k<xs
  ·obtain⟨h1,h2,h3,h4⟩:=apx.o k hlt;replace h1:=hx.cell h1;replace h2:=hx.cell h2;replace h3:=hx.cell h3;replace h4:=hx.cell h4;rw[Eu _ hlt]at heq;have hO:=λW=>apC.o xs[k] k xs W
   clear hx;generalize xs[k]=s at *;cases hm:jk xs k s
   all_goals
    rw[hm]at hO heq;have GK:=ah hO;have j9:=ah heq;have tF:=ah hm;clear hO heq hm;go_wp2_with fail;refine ap (GK.o _) ?_;intro w2 hx2;go_wp2_with fail
   ·go_ret;exact⟨by rw[j9.o];rfl,(HX.o.alloc _).trans hx2⟩
   ·first
     |(go_roundw
       case rel=>exact⟨k+1,aq,bm,(HX.o.alloc _).trans hx2,by rw[j9.o];rfl⟩
       case measure=>simp[intOf];omega)
     |exact⟨⟨k+1,aq,bm,(HX.o.alloc _).trans hx2,by rw[j9.o];rfl⟩,by simp[intOf];omega⟩
  ·obtain rfl:k=xs.length:=aq;rw[Ig]at heq;exact ke
def hld(s:Sy)(a:Nat):Bool:=if s.c=21 then a==s.k else if s.c=37 then decide (s.k<a)else if s.c=53 then decide (s.k<=a)else if s.c=69 then(a&&&s.k) !=0 else true
def nx(s:Sy)(i a:Nat):Nat:=if s.c=32\/s.c=84 then i+1 else if hld s a=true then s.th.toNat else s.el.toNat
def Zi{s:Sy}(h:jk len i s=true):s.c=32\/s.c=84\/s.c=6\/s.c=5\/s.c=21\/s.c=37\/s.c=53\/s.c=69:=by
 unfold jk at h;split at h
 ·omega
 split at h
 ·omega
 split at h
 ·omega
 simp only[bA,gF,gq,fU]at h;omega
def ab8{l:List Sy}(h:iw l=true)(hj:j<l)(h6:l[j].c≠6)(a:Nat):j<nx l[j] j a/\nx l[j] j a<l.length:=by
 have hm:=jZ h hj;have hlast:=AA h;have hne:j≠l.length-1:=by intro e;subst e;exact h6 hlast
 unfold nx;by_cases c1:l[j].c=32\/l[j].c=84
 ·rw[aV c1];omega
 rw[aN c1];unfold jk at hm;rw[aN aq,aN aq]at hm;by_cases c5:l[j].c=5
 ·rw[aV c5]at hm;have hh:hld l[j] a=true:=by unfold hld;rw[aN aq,aN aq,aN aq,aN aq]
  rw[aV hh];simp only[bA,there,dK]at hm;omega
 ·rw[aN c5]at hm;simp only[bA,there,dK]at hm;split<;>omega
end jO
def pS(h:zP:=by rw[rD (n:=6) (sz:=2) underlying157 underlying156 ax _ i h];rcases lt6 i h with rfl|rfl|rfl|rfl|rfl|rfl<;>rfl):zP:=h
def lh(h:zP:=by have hI:=yw v xs a hl w hv;have hm:=zO a xs 0;rw[<-hm];generalize oQ a xs 0=q at *;obtain⟨ad,c,rfl,-⟩:=jX hv;have tF:=ah hm;have AZ:=ah hI;clear hm hI;unfold Rt;go_in;go_wp2_with(go_at_call 46;refine ap AZ.o ?_;intro w1 hx1);exact vl):zP:=h
def gA(h:zP:=by
 obtain⟨ad,c,rfl,hac,hca⟩:=jX hv;clear hv;have rz:=ah hca;clear hca;unfold Rt;go_in;go_wp2;go_loopw [8] (λi wr=>∃k:Nat,k<=xs/\i= .int .i64 k/\Ext w wr/\oQ a xs 0=oQ a (xs.drop k) k) (λi _=>xs.length-(intOf i).toNat)
 case atStart=>exact kf
 case round=>
  obtain⟨k,hk,rfl,hx,heq⟩:=hrel;have HX:=ah hx;by_cases hlt:k<xs
  ·obtain⟨b,o,rfl,h1⟩:=rz.o k hlt;replace h1:=hx.cell h1;rw[wG hlt]at heq;clear hx;generalize xs[k]=x at *;cases he:a==x
   ·rw[he,aN aE]at heq;have j9:=ah heq;clear heq;go_wp2_with(go_quiet (fail));go_roundw
    case rel=>exact⟨k+1,aq,bm,cj,j9.o⟩
    case measure=>simp[intOf];omega
   ·rw[he,aV rfl]at heq;have j9:=ah heq;clear heq;go_wp2_with(go_quiet (fail));go_ret;exact⟨by rw[j9.o];rfl,cj⟩
  ·obtain rfl:k=xs.length:=aq;rw[zQ]at heq;exact ke):zP:=h
namespace vR
def Ce:List (List aZ):= [[120,56,54,45,54,52],[120,56,54],[120,51,50],[97,114,109],[97,114,109,54,52],[114,105,115,99,118,54,52]]
def toks:List Nat:= [3221225534,1073741827,3221225534,1073741864,3221225655,3221225715]
def G1:Array aA:= #[.string ⟨#[120,56,54,45,54,52]⟩,.int .u32 3221225534,.string ⟨#[120,56,54]⟩,.int .u32 1073741827,.string ⟨#[120,51,50]⟩,.int .u32 3221225534,
 .string ⟨#[97,114,109]⟩,.int .u32 1073741864,.string ⟨#[97,114,109,54,52]⟩,.int .u32 3221225655,.string ⟨#[114,105,115,99,118,54,52]⟩,.int .u32 3221225715]
def lt6(i:Nat)(h:i<6):i=0\/i=1\/i=2\/i=3\/i=4\/i=5:=aq
def ahY(p:Nat->Bool):Nat->Nat->Int
 |0,_=> -1
 |f+1,k=>if p k=true then(k:Int)else ahY p f (k+1)
def ku(p:Nat->Bool)(k:Nat):Int:=ahY p (6-k) k
def kS{p:Nat->Bool}{k:Nat}(h:k<6):ku p k=if p k=true then(k:Int)else ku p (k+1):=by unfold ku;rw[show 6-k=(6-(k+1))+1 from aq];rfl
def xW(p:Nat->Bool):ku p 6= -1:=rfl
theorem rR(w:ay):Rt 77 #[] w (.agg G1):=by unfold Rt;go_in;go_wp2;refine aM (v:= .agg G1) (by simp[results,results77,go_sem];rfl) rfl ⟨rfl,(aj _).alloc _⟩
def FJ(p:Nat->Bool): -1<=ku p 0/\ku p 0<=5:=by rw[kS aq];split;omega;rw[kS aq];split;omega;rw[kS aq];split;omega;rw[kS aq];split;omega;rw[kS aq];split;omega;rw[kS aq];split;omega;rw[xW];omega
end vR
open Go.ChangeShapes Go.WideShapes Go.ChangeAt
namespace V
variable{H α:Type}{P:Program}{T e fuel i n:Nat}{cs:List aA}{d:DataW H}{enc:dz×aA->H}{t:dz}{w:ay}{x:DataW H×List MemPlace}
def Bj{H:Type}{enc:dz×aA->H}{P:Program}(hl:laidOutB P=true){W W':ay}(hb:Below W W W'):∀ {ts:List dz} {vs:List aA} {ds:List (DataW H)} {ps:List MemPlace},(ts.all λt=>P.readableRec t&&decide (t<P.types.size))=true->DataW.TrodAll enc P W 0 (λ_=>true) true ts vs ds ps->(∀x∈ps,x.block<W.heap.size)->DataW.TrodAll enc P W' 0 (λb=>decide (b<W.heap.size)) true ts vs ds ps
 | [],[],[],_,_,h,_=>h
 | [],[],_::_,_,_,h,_=>h.elim
 | [],_::_,_,_,_,h,_=>by cases h
 |_::_,[],_,_,_,h,_=>by cases h
 |_::_,_::_,[],_,_,h,_=>by cases h
 |t::ts,v::vs,d::ds,ps,ht,h,hlt=>by obtain⟨p,q,h1,h2,rfl⟩:=h;simp only[List.all_cons,bA,dK]at ht;exact⟨p,q,Below.trod hl ht.1.1 ht.1.2 h1 hb (λx hx=>hlt x ft),Bj hl hb ht.2 h2 (λx hx=>hlt x ft),rfl⟩
def E9{H:Type}{enc:dz×aA->H}{P:Program}{W:ay}{b:Nat}{sp:Nat->Bool}{hd:Bool}:∀ {ts:List dz} {vs:List aA} {ds:List (DataW H)} {ps:List MemPlace},DataW.TrodAll enc P W b sp hd ts vs ds ps->ds.length=ts
 | [],[],[],_,_=>rfl
 | [],[],_::_,_,h=>h.elim
 | [],_::_,_,_,h=>by cases h
 |_::_,[],_,_,h=>by cases h
 |_::_,_::_,[],_,h=>by cases h
 |_::_,_::_,_::_,_,h=>by obtain⟨p,q,_,h2,_⟩:=h;simp[E9 h2]
theorem Ut{C:Checked}{os:Os}{f:Nat}{fn:Func}{s:ChangeSpec}(own:ownKnob C.prog.godebug=none)(started:os.Started)(noInit:C.prog.inits.idxOf? f=none)(hfn:C.prog.funcs[f]?=some fn)(hl:laidOutB C.prog=true)(hts:(fn.params.toList.all λt=>C.prog.readableRec t&&decide (t<C.prog.types.size))=true)(hvars:s.vars=[])(hres:fn.resultTypes= #[T])(hT:C.prog.underlying T=some .bool)(hspec:∀ds:List (DataW H),ds.length=fn.params.toList->s.fn H ds= {results:= [.lit (.bool true)],args:=ds})(witness:∃(w:ay)(tape:Tape)(i:Input),w.os=os/\(w.forCall tape i).Shaped C.prog/\i.vars=[]/\Input.okWide C.prog (w.forCall tape i) .any w f i/\s.pre6 enc C.prog fn [] false (w.forCall tape i).memory i.args/\({}:Assume).holds C.prog (lone (Frame.enter C.prog f i.args .normal) [] (w.forCall tape i)))(walk:∀(W:ay)(base:Nat)(args:Array aA)(ds:List (DataW H)) (before:List MemPlace),(∀(j:Nat) t v,fn.params[j]?=some t->args[j]?=some v->Value.okWide C.prog W .any base t v)->DataW.TrodAll enc C.prog W 0 (λ_=>true) true fn.params.toList args.toList ds before->(∀x∈before,x.block<W.heap.size)->(DataW.weightsEach C.prog fn.params.toList ds).all (·<=reachBytes)=true->Calls C.prog f args W λe W'=>e= .returned (.bool true)/\V.Ext W W'):ReturnsInHanded {} C os f .any (s.pre6 enc C.prog fn [] false) (s.post enc C.prog fn false true false false):=by
 refine returnsInHanded_of_change_sized own started noInit hfn witness ?_;intro W base args ds gs before hval hW _ hsz _;have hW':=hW;have hltW:=hW.lt;obtain⟨p,q,hA,hV,rfl,hfz,hnd⟩:=hW;rw[hvars]at hV;obtain⟨rfl,rfl⟩:=trodVars_none hV;have hlt:∀x∈p,x.block<W.heap.size:=λx hx=>hltW x ft
 have hvt:s.plain.varTypes C.prog=[]:=by simp[DataSpec.varTypes,ChangeSpec.plain,hvars]
 rw[hvt,fH,fH]at hsz;refine(walk W base args ds p hval hA hlt hsz).mono λe W' ⟨he,hb⟩=> ?_
 subst he;refine⟨_,rfl,?_⟩;have hlen:=E9 hA;refine⟨ds,[],p++[],[],p,[],hW',?_,?_,?_,Below.frame hb _,λh=>by cases h⟩
 ·rw[fH,hspec ds hlen,hres];exact trodAll_mk1 (shut_bool hT _)
 ·rw[fH,hspec ds hlen];exact Bj hl hb hts hA hlt
 ·rw[fH,hspec ds hlen,hvars]
  rfl
def JO(w:ay)(n:Nat)(R:List aA->α->Prop)(v:aA)(xs:List α):Prop:=
 ∃(a:Option Addr) (c:Nat),v= .slice a xs c/\xs.length<=c/\(a=none->c=0)/\∀i,(h:i<xs.length)->∃b o cs,a=some ⟨b,o,none⟩/\cs.length=n/\At w b (o+i*n) cs/\R cs xs[i]
def JO.rd{enc:α->List aA}{ok:α->Prop}{v:aA}{xs:List α}(h:JO w n (λcs x=>cs=enc x/\ok x) v xs):Rd w n enc v xs/\∀x∈xs,ok x:=by
 obtain⟨a,c,h1,h2,h3,h4⟩:=h;refine⟨⟨a,c,h1,h2,h3,λi hi=> ?_⟩,λx hx=> ?_⟩
 ·obtain⟨b,o,cs,e,_,hat,rfl,_⟩:=h4 i hi;exact⟨b,o,e,hat⟩
 ·obtain⟨i,hi,rfl⟩:=fZ hx;obtain⟨b,o,cs,e,_,hat,_,hok⟩:=h4 i hi;exact hok
def mapM_some_get{β γ:Type}{f:β->Option γ}:∀ {l:List β} {r:List γ},l.mapM f=some r->r.length=l/\∀i (h:i<l.length) (h':i<r.length),f l[i]=some r[i]
 | [],r,h=>by simp at h;subst h;exact⟨rfl,λi h=>absurd h aE⟩
 |x::l,r,h=>by
  rw[List.mapM_cons]at h;cases hf:f x with
  |none=>rw[hf]at h;simp at h
  |some y=>
   rw[hf]at h;cases hl:l.mapM f with
   |none=>rw[hl]at h;simp at h
   |some ys=>
    rw[hl]at h;simp at h;subst h;obtain⟨h1,h2⟩:=mapM_some_get hl;refine⟨by simp[h1],λi hi hi'=> ?_⟩;cases i with
    |zero=>simpa using hf
    |succ i=>exact h2 i eJ (by simpa using hi')
def aal{base:Nat}{a:Addr}(h:w.cells? base a n=some cs):cs.length=n/\∀j (hj:j<cs.length),w.cell? (a.add j)=some cs[j]:=by
 unfold World.cells? at h;split at h
 ·obtain⟨h1,h2⟩:=mapM_some_get h;simp only[List.length_range]at h1;refine⟨h1,λj hj=> ?_⟩;have:=h2 j bp hj;exact sd
 ·cases h
def Light(P:Program)(t:dz)(d:DataW H):Prop:= ∀n∈d.weights P t,n<=reachBytes
def sG{H:Type}{P:Program}:∀ {ts:List dz} {ds:List (DataW H)} {i:Nat} {t:dz} {d:DataW H},ts[i]?=some t->ds[i]?=some d->∀n∈d.weights P t,n∈DataW.weightsEach P ts ds
 | [],_,_,_,_,h,_=>by simp at h
 |_::_,[],_,_,_,_,h=>by simp at h
 |t::ts,d::ds,0,_,_,h,h'=>by simp at h h';subst h;subst h';intro n hn;simp[DataW.weightsEach,hn]
 |t::ts,d::ds,i+1,_,_,h,h'=>by intro n hn;simp only[DataW.weightsEach,dJ];exact .inr (sG cT (by simpa using h') n hn)
def yY{H:Type}{P:Program}{e:dz}:∀ {ds:List (DataW H)} {d:DataW H},d∈ds->∀n∈d.weights P e,n∈DataW.weightsAll P e ds
 |d::ds,_,.head _=>λn hn=>by simp[DataW.weightsAll,hn]
 |d::ds,_,.tail _ h=>λn hn=>by simp only[DataW.weightsAll,dJ];exact .inr (yY h n hn)
def BP{fs:Array Field}{f:Field}{c:aA}(ht:P.underlying t=some (.struct fs))(hf:fs[i]?=some f)(ho:f.offset=i)(hc:P.cellsOf f.type=1)(h:DataW.trod enc P w 0 (λ_=>true) true fuel t cs=some x)(hi:cs[i]?=some c)(hl:Light P t x.1):∃n y,DataW.trod enc P w 0 (λ_=>true) true n f.type [c]=some y/\Light P f.type y.1:=by
 obtain⟨xs,n,-,hx,-,hlen,hall⟩:=DataW.trod_struct ht h;have h1:=hall i f hf;have hlt:=(List.getElem?_eq_some_iff.1 hi).1;have e1:(cs.drop f.offset).take (P.cellsOf f.type)=[c]:=by rw[ho,hc,bJ hlt];have:=(List.getElem?_eq_some_iff.1 hi).2;simp[this]
 rw[e1]at h1;have hi2:i<xs:=by rw[hlen];exact(aB.1 hf).1
 rw[aJ hi2]at h1;refine⟨n,_,h1,λm hm=>hl m ?_⟩;rw[hx];simp only[DataW.weights,ht];exact sG (i:=i) (by simp[hf]) (by simp[aJ hi2]) m hm
def Ww{t fuel:Nat}{v:aA}(R:List aA->α->Prop)(x0:α)(ht:P.underlying t=some (.slice e))(hn:P.cellsOf e=n)(hn0:0<n)(dec:∀fuel cs y,DataW.trod enc P w 0 (λ_=>true) true fuel e cs=some y->Light P e y.1->cs.length=n->∃x:α,R cs x)(h:DataW.trod enc P w 0 (λ_=>true) true fuel t [v]=some x)(hlt:Light P t x.1):∃xs:List α,JO w n R v xs/\xs.length<=maxLen/\xs.length*P.bytesOf e<=reachBytes/\((x.1= .nil/\xs=[])\/∃es sp,x.1= .slice es sp/\es.length=xs.length):=by
 rcases Go.Deep.open_slice ht h with⟨h1,h2⟩|⟨a,len,cap,m,k,D,Pl,h1,hb,hl,hm,hsp,hx,hel⟩
 ·simp only[List.cons.injEq,and_true]at h1;subst h1;subst h2;exact⟨[],⟨none,0,rfl,aE,λ_=>rfl,λi hi=>absurd hi aE⟩,aE,aE,.inl ⟨rfl,rfl⟩⟩
 ·simp only[List.cons.injEq,and_true]at h1;subst h1;simp only[if_true]at hsp;subst hsp;have hw:(len+(m-len))*P.bytesOf e<=reachBytes:=hlt _ (by rw[hx];simp[DataW.weights,ht]);have each:∀i,i<len->∃x:α,∃cs,cs.length=n/\(∀j (hj:j<cs.length),w.cell? ((a.add (i*n)).add j)=some cs[j])/\R cs x:=by
   intro i hi;obtain⟨cs,hc,hd⟩:=hel i aq;rw[hn]at hc;obtain⟨hlen,hcell⟩:=aal hc;obtain⟨x,hx'⟩:=dec _ _ _ hd (λq hq=>hlt q (by rw[hx];simp only[DataW.weights,ht,dF,dJ];exact .inr (.inl (yY (dW.2 ⟨i,List.mem_range.2 hi,rfl⟩) q hq)))) hlen
   exact⟨x,cs,hlen,hcell,hx'⟩
  have pick:∃g:Nat->α,∀i,i<len->∃cs,cs.length=n/\(∀j (hj:j<cs.length),w.cell? ((a.add (i*n)).add j)=some cs[j])/\R cs (g i):=by
   classical
   refine⟨λi=>if hi:i<len then(each i hi).choose else x0,λi hi=> ?_⟩;simp only[hi,dif_pos];exact(each i hi).choose_spec
  obtain⟨g,hg⟩:=pick;refine⟨(List.range len).map g,⟨some a,m,aE,by simpa using hl,(λh=>by cases h),λi hi=> ?_⟩,by simp;omega,?_,.inr ⟨_,_,by rw[hx],aE⟩⟩
  ·simp only[aS,List.length_range]at hi;obtain⟨cs,hlen,hcell,hr⟩:=hg i hi;have hsp:a.spot=none:=by
    obtain⟨cs0,avx,hcell0,_⟩:=hg 0 aq;have:=hcell0 0 aq;simp only[Nat.zero_mul,Addr.add,if_true]at this;cases hs:a.spot with
    |none=>rfl
    |some s=>simp only[World.cell?,hs]at this;split at this<;>simp at this
   refine⟨a.block,a.off,cs,?_,hlen,λj hj=> ?_,by simpa using hr⟩
   ·cases a;simp at hsp;subst hsp;rfl
   ·have h3:=hcell j hj;have e1:(a.add (i*n)).add j=⟨a.block,a.off+i*n+j,none⟩:=by
     cases a with
     |mk b o s=>simp at hsp;subst hsp;unfold Addr.add;by_cases h1:i*n=0<;>by_cases h2:j=0<;>simp[h1,h2]
    rw[e1]at h3;exact h3
  ·simp only[aS,List.length_range];exact aL (eY _ aq) hw
def am4{base:Nat}{sp:Nat->Bool}{held:Bool}{r:Reach}{b0:Nat}{v:aA}{ps:List MemPlace}(ht:P.underlying t=some .string)(hval:Value.okWide P w r b0 t v)(hd:DataW.Trod enc P w base sp held t v d ps):∃s:aK,v= .string s/\d= .lit (.string s.data.toList)/\ps=[]/\s.size<=maxLen:=by obtain⟨s,rfl⟩:=okWide_string ht hval;obtain⟨fuel,hf⟩:=hd;obtain⟨s',h,hx,hs⟩:=DataW.trod_string ht hf;simp[Value.cells]at h;subst h;simp at hx;exact⟨s,rfl,hx.1,hx.2,hs⟩
def OV{v:aA}(hv:∃a l c,v= .slice a l c):v.cells.toList=[v]:=by obtain⟨a,l,c,rfl⟩:=hv;rfl
def Qo{ts:List dz}{ds:List (DataW H)}(h:(DataW.weightsEach P ts ds).all (·<=reachBytes)=true)(ht:ts[i]?=some t)(hd:ds[i]?=some d):Light P t d:=λn hn=>by have:=List.all_eq_true.1 h n (sG ht hd n hn);simpa using this
end V
namespace lC
variable{a w:ay}
structure Test where
 arg:Int
 mask:Nat
 value:Nat
 action:Nat
structure Rule where
 nr:Nat
 tests:List Test
 action:Nat
structure Filter where
 jh:Int
 rules:List Rule
 dflt:Nat
structure Gc(t:Test):Prop where
 a1: -9223372036854775808<=t.arg
 a2:t.arg<=9223372036854775807
 m:t.mask<18446744073709551616
 v:t.value<18446744073709551616
 x:t.action<4294967296
structure XG(r:Rule):Prop where
 n:r.nr<4294967296
 x:r.action<4294967296
 l:r.tests.length<=140737488351232
 t:∀t∈r.tests,Gc t
structure yJ(f:Filter):Prop where
 a1: -9223372036854775808<=f.jh
 a2:f.jh<=9223372036854775807
 d:f.dflt<4294967296
 l:f.rules.length<=140737488351232
 r:∀r∈f.rules,XG r
def mg(t:Test):List aA:= [.int .i64 t.arg,.int .u64 (t.mask:Int),.int .u64 (t.value:Int),.int .u32 t.action]
def j5(t:Test):(mg t).length=4:=rfl
def wO(t:Test):∀u∈mg t,u.oneCell'=true:=by intro u hu;simp[mg]at hu;exact tD
def FV(w:ay)(cs:List aA)(r:Rule):Prop:= ∃v,cs=[.int .u32 r.nr,v,.int .u32 r.action]/\Rd w 4 mg v r.tests
def FV.ext(h:Ext a w){cs:List aA}{r:Rule}(hr:FV a cs r):FV w cs r:=by obtain⟨v,e,k⟩:=hr;exact⟨v,e,k.ext h⟩
def mQ(h:Ext a w){v:aA}{rs:List Rule}(hr:JO a 3 (FV a) v rs):JO w 3 (FV w) v rs:=by obtain⟨ad,c,h1,h2,h3,h4⟩:=hr;refine⟨ad,c,h1,h2,h3,λi hi=> ?_⟩;obtain⟨b,o,cs,e,hl,hat,hx⟩:=h4 i hi;exact⟨b,o,cs,e,hl,hat.ext h,hx.ext h⟩
def kV{v:aA}{ts:List Test}(h:Rd w 4 mg v ts):∃a c,v= .slice a ts c/\ts.length<=c/\∀i,(hi:i<ts.length)->∃b o,a=some ⟨b,o,none⟩/\w.cell? ⟨b,o+i*4,none⟩=some (.int .i64 ts[i].arg)/\w.cell? ⟨b,o+i*4+1,none⟩=some (.int .u64 (ts[i].mask:Int))/\w.cell? ⟨b,o+i*4+2,none⟩=some (.int .u64 (ts[i].value:Int))/\w.cell? ⟨b,o+i*4+3,none⟩=some (.int .u32 (ts[i].action:Int)):=by obtain⟨a,c,h1,h2,h3,h4⟩:=h;refine⟨a,c,h1,h2,λi hi=> ?_⟩;obtain⟨b,o,e,k⟩:=h4 i hi;exact⟨b,o,e,k 0 (by simp[mg]),k 1 (by simp[mg]),k 2 (by simp[mg]),k 3 (by simp[mg])⟩
def p6{v:aA}{rs:List Rule}(h:JO w 3 (FV w) v rs):∃a c,v= .slice a rs c/\rs.length<=c/\∀i,(hi:i<rs.length)->∃b o u,a=some ⟨b,o,none⟩/\w.cell? ⟨b,o+i*3,none⟩=some (.int .u32 (rs[i].nr:Int))/\w.cell? ⟨b,o+i*3+1,none⟩=some u/\w.cell? ⟨b,o+i*3+2,none⟩=some (.int .u32 (rs[i].action:Int))/\Rd w 4 mg u rs[i].tests:=by obtain⟨a,c,h1,h2,h3,h4⟩:=h;refine⟨a,c,h1,h2,λi hi=> ?_⟩;obtain⟨b,o,cs,e,hl,hat,u,rfl,hu⟩:=h4 i hi;exact⟨b,o,u,e,hat 0 aE,hat 1 aE,hat 2 aE,hu⟩
def size(rs:List Rule):Nat:=(rs.map λr=>1+r.tests.length).sum
end lC
namespace Gf
def nm(k:Nat):List aZ:=
 if k=32768 then [107,105,108,108]else if k=0 then [107,105,108,108,116,104,114,101,97,100]else if k=3 then [116,114,97,112]
 else if k=5 then [101,114,114,110,111]else if k=32704 then [110,111,116,105,102,121]else if k=32752 then [116,114,97,99,101]
 else if k=32764 then [108,111,103]else if k=32767 then [97,108,108,111,119]else []
def rk(k:Nat):Int:=
 if k=32768 then 0 else if k=0 then 1 else if k=3 then 2 else if k=5 then 3 else if k=32704 then 4 else if k=32752 then 5
 else if k=32764 then 6 else if k=32767 then 7 else-1
def kn(a:Nat):Bool:=decide (0<=rk (a/65536))
def sg(a:Nat):Int:=if 32768<=a/65536 then(a/65536:Nat)-65536 else(a/65536:Nat)
def less(a b:Nat):Bool:=decide (sg a<sg b)
def Ua(k:Nat):(nm k).isEmpty= !decide (0<=rk k):=by unfold nm rk;(repeat' split)<;>rfl
def Rw(a:Nat)(h:a<4294967296):bits .andNot .u32 a 65535=((a/65536*65536:Nat):Int):=by rw[u32_andNot _ _ aq aq az az];have e:(4294967295-Int.toNat 65535)=4294901760:=az;have h1:=nat_hi32_16 a;rw[e,dR,h1,Nat.mod_eq_of_lt h]
def codes:List Nat:= [2147483648,0,196608,327680,2143289344,2146435072,2147221504,2147418112]
def nms:List (List aZ):= [[107,105,108,108],[107,105,108,108,116,104,114,101,97,100],[116,114,97,112],[101,114,114,110,111],
 [110,111,116,105,102,121],[116,114,97,99,101],[108,111,103],[97,108,108,111,119]]
def Uc:Array aA:= #[.int .u32 2147483648,.string ⟨#[107,105,108,108]⟩,.int .u32 0,.string ⟨#[107,105,108,108,116,104,114,101,97,100]⟩,
 .int .u32 196608,.string ⟨#[116,114,97,112]⟩,.int .u32 327680,.string ⟨#[101,114,114,110,111]⟩,.int .u32 2143289344,.string ⟨#[110,111,116,105,102,121]⟩,
 .int .u32 2146435072,.string ⟨#[116,114,97,99,101]⟩,.int .u32 2147221504,.string ⟨#[108,111,103]⟩,.int .u32 2147418112,.string ⟨#[97,108,108,111,119]⟩]
def lt8(i:Nat)(h:i<8):i=0\/i=1\/i=2\/i=3\/i=4\/i=5\/i=6\/i=7:=aq
def aja(i a:Nat)(h:i<8)(e:codes.getD i 0=a/65536*65536):nm (a/65536)=nms.getD i []:=by
 rcases lt8 i h with rfl|rfl|rfl|rfl|rfl|rfl|rfl|rfl<;>simp[codes]at e
 ·rw[show a/65536=32768 from aq];rfl
 ·rw[show a/65536=0 from aq];rfl
 ·rw[show a/65536=3 from aq];rfl
 ·rw[show a/65536=5 from aq];rfl
 ·rw[show a/65536=32704 from aq];rfl
 ·rw[show a/65536=32752 from aq];rfl
 ·rw[show a/65536=32764 from aq];rfl
 ·rw[show a/65536=32767 from aq];rfl
def afU(a:Nat)(e:∀i,i<8->codes.getD i 0≠a/65536*65536):nm (a/65536)=[]:=by have e0:=e 0 aq;have e1:=e 1 aq;have e2:=e 2 aq;have e3:=e 3 aq;have e4:=e 4 aq;have e5:=e 5 aq;have e6:=e 6 aq;have e7:=e 7 aq;simp[codes]at e0 e1 e2 e3 e4 e5 e6 e7;unfold nm;rw[aN aq,aN aq,aN aq,aN aq,aN aq,aN aq,aN aq,aN aq]
theorem Ci(a:Nat)(h:a<4294967296)(w:ay):Calls prog 194 #[.int .u32 a] w λe w'=>e= .returned (.int .u32 ((a/65536*65536:Nat):Int))/\w=w':=by go_in;go_wp2;go_ret;exact⟨by simp[Rw a h],rfl⟩
theorem Zv(i:Nat)(h:i<8)(w:ay):(Instr.index 498 (.agg Uc) (.int .i64 i)).run prog w= .ok (.agg #[.int .u32 (codes.getD i 0:Nat),.string ⟨(nms.getD i []).toArray⟩]) w:=by rw[rD (n:=8) (sz:=2) underlying498 underlying497 ax _ i h];rcases lt8 i h with rfl|rfl|rfl|rfl|rfl|rfl|rfl|rfl<;>rfl
theorem P2(w:ay):Rt 399 #[] w (.agg Uc):=by unfold Rt;go_in;go_wp2;refine aM (v:= .agg Uc) (by simp[results,results399,go_sem];rfl) rfl ⟨rfl,(aj _).alloc _⟩
theorem Ud(a:Nat)(h:a<4294967296)(w:ay):Rt 367 #[.int .u32 a] w (.string ⟨(nm (a/65536)).toArray⟩):=by
 unfold Rt;go_in;go_wp2_with(go_at_call 399;refine ap (P2 _) ?_;intro w1 hb1);go_loopw [6] (λi wr=>∃k:Nat,k<=8/\i= .int .i64 k/\Ext w wr/\∀j,j<k->codes.getD j 0≠a/65536*65536) (λi _=>8-(intOf i).toNat)
 case atStart=>exact⟨0,aq,rfl,hb1,aq⟩
 case round=>
  obtain⟨k,hk,rfl,hb,hno⟩:=hrel;have HB:=ah hb;have HN:=ah hno;clear hb hno hb1;by_cases hlt:k<8
  ·have hidx:=Zv k hlt;generalize hc:codes.getD k 0=c at hidx;generalize hn:nms.getD k []=t at hidx;have HC:=ah hc;have HT:=ah hn;clear hc hn;go_wp2_with(go_quiet ((go_at_call 194;exact Calls.quiet_of_same ((Ci _ h _).mono λ_ _ ⟨e,f⟩=>⟨e,f.symm⟩))))
   ·go_ret;refine⟨?_,(HB.o.alloc _).drewN _⟩;have hcc:((c:Int)==(a:Int)/65536*65536)=true:=by assumption
    have e:codes.getD k 0=a/65536*65536:=by rw[HC.o];have:=eq_of_beq hcc;omega
    have e2:=aja k a hlt e;rw[HT.o]at e2;simp[e2]
   ·have hcc:((c:Int)==(a:Int)/65536*65536)=false:=by assumption
    have e:codes.getD k 0≠a/65536*65536:=by rw[HC.o];have:=ne_of_beq_false hcc;omega
    go_roundw
    case rel=>
     refine⟨k+1,aq,bm,(HB.o.alloc _).drewN _,λj hj=> ?_⟩;by_cases hjk:j<k
     ·exact HN.o j hjk
     ·obtain rfl:j=k:=aq;exact e
    case measure=>exact gO
  ·go_wp2;go_ret;obtain rfl:k=8:=aq;exact⟨by rw[afU a HN.o];simp,HB.o⟩
theorem Ae(a:Nat)(h:a<4294967296)(w:ay):Rt 289 #[.int .u32 a] w (.bool (kn a)):=by have hne:(nm (a/65536)).isEmpty= !kn a:=Ua _;unfold Rt;go_in;go_wp2_with(go_at_call 367;refine ap (Ud a h _) ?_;intro w1 hb1);go_ret;exact⟨aE,by assumption⟩
end Gf
def sr(h:zP:=by cases hb:v.testBit i<;>cases hc:m.testBit i<;>rw[hb,hc]at h2<;>simp at h2⊢):zP:=h
def qq(h:zP:=by unfold Rt;go_in;go_wp2_with fail;refine ap (Gh.o _) ?_;intro w1 hx1;go_wp2_with fail;go_ret;exact lP):zP:=h
def nF(h:zP:=by unfold Rt;go_in;go_wp2;go_ret;exact kz):zP:=h
namespace lC
def Vk{v m:Nat}(hv:v<18446744073709551616)(hm:m<18446744073709551616):((v&&&(18446744073709551615-m))==0)=((v&&&m)==v):=by
 rw[bB];simp only[fU];have e:18446744073709551615-m=2^64-(m+1):=aq;have hm2:m<2^64:=hm;have hv2:v<2^64:=hv;rw[e];constructor
 ·intro h;apply Nat.eq_of_testBit_eq;intro i;have h2:=congrArg (λx=>x.testBit i) h;simp only[Nat.testBit_and,Nat.testBit_two_pow_sub_succ hm2,Nat.zero_testBit]at h2;rw[Nat.testBit_and];by_cases hi:i<64
  ·rw[aQ hi,iP]at h2;exact sr
  ·have:v.testBit i=false:=Nat.testBit_lt_two_pow (gY hv2 (Nat.pow_le_pow_right az aq));rw[this];rfl
 ·intro h;apply Nat.eq_of_testBit_eq;intro i;have h2:=congrArg (λx=>x.testBit i) h;simp only[Nat.testBit_and]at h2;rw[Nat.testBit_and,Nat.testBit_two_pow_sub_succ hm2,Nat.zero_testBit];exact sr
def qW(t:Test):Bool:=decide (0<=t.arg)&&(decide (t.arg<6)&&(((t.value&&&t.mask)==t.value)&&Gf.kn t.action))
theorem Kk(t:Test)(ht:Gc t)(w:ay):Rt 369 #[.agg #[.int .i64 t.arg,.int .u64 (t.mask:Int),.int .u64 (t.value:Int),.int .u32 t.action]] w (.bool (qW t)):=by
 obtain⟨ar,m,v,x⟩:=t;have hm:=ht.m;have hv:=ht.v;have hx:=ht.x;have hA:qW ⟨ar,m,v,x⟩=(decide (0<=ar)&&(decide (ar<6)&&(((v&&&m)==v)&&Gf.kn x))):=rfl;dsimp only at hm hv hx⊢;by_cases h0:ar<0
 ·have e1:decide (0<=ar)=false:=aT aq;rw[e1,Bool.false_and]at hA;rw[hA];have pQ:=ah hA;have Oo:=ah h0;clear hA h0;exact nF
 have e1:decide (0<=ar)=true:=aQ aq;by_cases h6:6<=ar
 ·have e2:decide (ar<6)=false:=aT aq;rw[e1,e2,Bool.false_and,iP]at hA;rw[hA];have pQ:=ah hA;have Oo:=ah h0;have Hh6:=ah h6;clear hA h0 h6;exact nF
 have e2:decide (ar<6)=true:=aQ aq;rw[e1,e2,iP,iP]at hA;rw[hA];have hab:=u64_andNot_nat v m hv hm;have hq:=Vk hv hm;have hz:(((v&&&(18446744073709551615-m):Nat):Int)==0)=((v&&&(18446744073709551615-m))==0):=by rw[bB];simp
 rw[hq]at hz;generalize(v&&&(18446744073709551615-m))=z at *;generalize((v&&&m)==v)=bb at *;have hK:=λW=>Gf.Ae x hx W
 have pQ:=ah hA;have Oo:=ah h0;clear hA h0;have Hh6:=ah h6;have Gh:=ah hK;have Hhq:=ah hq;clear h6 hK hq;cases bb
 ·exact nF
 ·exact qq
end lC
def rj(h:zP:=by go_ret;exact⟨by rw[j9.o];rfl,HX.o.trans hx2⟩):zP:=h
def ju(h:zP:=by
 first
  |(go_roundw
    case rel=>exact⟨k+1,aq,bm,HX.o.trans hx2,j9.o⟩
    case measure=>simp[intOf];omega)
  |exact⟨⟨k+1,aq,bm,HX.o.trans hx2,j9.o⟩,by simp[intOf];omega⟩):zP:=h
namespace lC
def wH(p:Test->Bool):List Test->Nat->Int
 | [],_=> -1
 |t::r,k=>if p t=true then(k:Int)else wH p r (k+1)
def Lv{p:Test->Bool}{ts:List Test}{k:Nat}(h:k<ts):wH p (ts.drop k) k=if p ts[k]=true then(k:Int)else wH p (ts.drop (k+1)) (k+1):=by rw[bJ h];rfl
def QC(p:Test->Bool)(ts:List Test)(k:Nat):wH p (ts.drop ts) k= -1:=by rw[dQ];rfl
def A7(t:Test):Bool:= !qW t
def Bb(t:Test):Bool:=t.mask==0
theorem Vf(t:Test)(ht:Gc t)(w:ay):Rt 368 #[.agg #[.int .i64 t.arg,.int .u64 (t.mask:Int),.int .u64 (t.value:Int),.int .u32 t.action]] w (.bool (A7 t)):=by
 have hM:=λW=>Kk t ht W
 unfold A7;generalize qW t=mb at *;have Jz:=ah hM;clear hM;unfold Rt;go_in;go_wp2_with fail;refine ap (Jz.o _) ?_;intro w1 hx1;go_wp2_with fail;go_ret;exact lP
theorem Ou(t:Test)(_:Gc t)(w:ay):Rt 297 #[.agg #[.int .i64 t.arg,.int .u64 (t.mask:Int),.int .u64 (t.value:Int),.int .u32 t.action]] w (.bool (Bb t)):=by
 have hq:((t.mask:Int)==0)=(t.mask==0):=by rw[bB];simp
 unfold Bb;unfold Rt;go_in;go_wp2;go_ret;exact⟨by first|rfl|rw[hq]|simp[hq],(aj _).alloc _⟩
theorem Nk(v:aA)(ts:List Test)(hl:ts.length<=140737488351232)(hok:∀t∈ts,Gc t)(w:ay)(hv:Rd w 4 mg v ts):Rt 105 #[v,.func (.func 368) #[] #[]] w (.int .i64 (wH A7 ts 0)):=by
 obtain⟨a,c,rfl,hac,hca⟩:=kV hv;clear hv;have Jw:=ah hok;have rz:=ah hca;clear hok hca;unfold Rt;go_in;go_wp2;go_loopw [8] (λi wr=>∃k:Nat,k<=ts/\i= .int .i64 k/\Ext w wr/\wH A7 ts 0=wH A7 (ts.drop k) k) (λi _=>ts.length-(intOf i).toNat)
 case atStart=>exact kf
 case round=>
  obtain⟨k,hk,rfl,hx,heq⟩:=hrel;have HX:=ah hx;by_cases hlt:k<ts
  ·obtain⟨b,o,rfl,h1,h2,h3,h4⟩:=rz.o k hlt;replace h1:=hx.cell h1;replace h2:=hx.cell h2;replace h3:=hx.cell h3;replace h4:=hx.cell h4;rw[Lv hlt]at heq;have hC:=λW=>Vf (ts[k]'hlt) (Jw.o _ (aW hlt)) W
   clear hx;generalize ts[k]'hlt=t at *;cases hp:A7 t
   all_goals
    rw[hp]at hC heq;simp only[if_true,if_false,iI]at heq;have yN:=ah hC;have j9:=ah heq;have Hhp:=ah hp;clear hC heq hp;go_wp2_with fail;refine ap (yN.o _) ?_;intro w2 hx2;go_wp2_with fail
   ·exact ju
   ·exact rj
  ·obtain rfl:k=ts.length:=aq;rw[QC]at heq;exact ke
theorem Kn(v:aA)(ts:List Test)(hl:ts.length<=140737488351232)(hok:∀t∈ts,Gc t)(w:ay)(hv:Rd w 4 mg v ts):Rt 105 #[v,.func (.func 297) #[] #[]] w (.int .i64 (wH Bb ts 0)):=by
 obtain⟨a,c,rfl,hac,hca⟩:=kV hv;clear hv;have Jw:=ah hok;have rz:=ah hca;clear hok hca;unfold Rt;go_in;go_wp2;go_loopw [8] (λi wr=>∃k:Nat,k<=ts/\i= .int .i64 k/\Ext w wr/\wH Bb ts 0=wH Bb (ts.drop k) k) (λi _=>ts.length-(intOf i).toNat)
 case atStart=>exact kf
 case round=>
  obtain⟨k,hk,rfl,hx,heq⟩:=hrel;have HX:=ah hx;by_cases hlt:k<ts
  ·obtain⟨b,o,rfl,h1,h2,h3,h4⟩:=rz.o k hlt;replace h1:=hx.cell h1;replace h2:=hx.cell h2;replace h3:=hx.cell h3;replace h4:=hx.cell h4;rw[Lv hlt]at heq;have hC:=λW=>Ou (ts[k]'hlt) (Jw.o _ (aW hlt)) W
   clear hx;generalize ts[k]'hlt=t at *;cases hp:Bb t
   all_goals
    rw[hp]at hC heq;simp only[if_true,if_false,iI]at heq;have yN:=ah hC;have j9:=ah heq;have Hhp:=ah hp;clear hC heq hp;go_wp2_with fail;refine ap (yN.o _) ?_;intro w2 hx2;go_wp2_with fail
   ·exact ju
   ·exact rj
  ·obtain rfl:k=ts.length:=aq;rw[QC]at heq;exact ke
end lC
def ce(h:zP:=by simp[go_sem];rfl):zP:=h
namespace lC
def Iw(p:Test->Bool):∀(ts:List Test)(k:Nat),(wH p ts k= -1/\ts.any p=false)\/∃i,∃h:i<ts.length,wH p ts k=((k+i:Nat):Int)/\p (ts[i]'h)=true/\ts.any p=true
 | [],k=> .inl ⟨rfl,rfl⟩
 |t::r,k=>by
  cases hp:p t
  ·rcases Iw p r (k+1)with⟨h1,h2⟩|⟨i,h,h1,h2,h3⟩
   ·exact .inl ⟨by simp only[wH,hp];exact h1,by rw[List.any_cons,hp,h2];rfl⟩
   ·refine .inr ⟨i+1,by simp;omega,?_,by simpa using h2,by rw[List.any_cons,h3];simp⟩;simp only[wH,hp];have e:((k+1+i:Nat):Int)=((k+(i+1):Nat):Int):=aq;rw[<-e];exact h1
  ·exact .inr ⟨0,aE,by simp[wH,hp],by simpa using hp,by rw[List.any_cons,hp];rfl⟩
theorem IV(v:aA)(ts:List Test)(hl:ts.length<=140737488351232)(hok:∀t∈ts,Gc t)(w:ay)(hv:Rd w 4 mg v ts):Calls prog 65 #[v,.func (.func 368) #[] #[]] w λe w'=>∃t:Test,e= .returned (.tuple #[.agg #[.int .i64 t.arg,.int .u64 (t.mask:Int),.int .u64 (t.value:Int),.int .u32 t.action],.bool (ts.any A7)])/\Ext w w':=by
 have hI:=λW (hx:Ext w W)=>Nk v ts hl hok W (hv.ext hx)
 obtain⟨a,c,rfl,hac,hca⟩:=kV hv;clear hv;have Jw:=ah hok;clear hok;rcases Iw A7 ts 0 with⟨h1,h2⟩|⟨i,hi,h1,-,h2⟩
 ·rw[h1]at hI;rw[h2];have AZ:=ah hI;have Hh1:=ah h1;have Hh2:=ah h2;clear hI h1 h2 hca;go_in;go_wp2_with fail;refine ap (AZ.o _ ((aj _).alloc _)) ?_;intro w1 hx1;have z0:=hx1.cell (p:=w) ce;have z1:=hx1.cell (p:=⟨w,1,none⟩) ce;have z2:=hx1.cell (p:=⟨w,2,none⟩) ce;have z3:=hx1.cell (p:=⟨w,3,none⟩) ce;have hsz:w.heap.size<w1:=aY _ _ z0;have hf:∀j,w1.frozen? ⟨w,j,none⟩=false:=λj=>(dD (hx1.block aE)).trans cq
  have f0:=hf 0;have f1:=hf 1;have f2:=hf 2;have f3:=hf 3;have gK:=ah (((aj w).alloc _).trans hx1);clear hx1 hf;go_wp2_with fail;have hne:¬w.heap.size=w1:=aq;refine aM (v:= .tuple #[.agg #[.int .i64 0,.int .u64 0,.int .u64 0,.int .u32 0],.bool false]) (by first|(simp[results,results65,go_sem,World.cell?_alloc_old,hne,z0,z1,z2,z3];done)|(simp[results,results65,go_sem,World.cell?_alloc_old,hne,z0,z1,z2,z3];rfl)) rfl ⟨⟨0,0,0,0⟩,rfl,?_⟩
  repeat(first|exact gK.o|refine Ext.alloc ?_ _|refine Ext.setCell ?_ aE _)
 ·have hi0:(((0+i:Nat):Int))=(i:Int):=aq;rw[h1,hi0]at hI;rw[h2];obtain⟨b,o,rfl,g0,g1,g2,g3⟩:=hca i hi;generalize ts[i]'hi=t at *;have AZ:=ah hI;have Hh1:=ah h1;have Hh2:=ah h2;clear hI h1 h2 hca hi0;have d0:decide ((0:Int)<=i)=true:=aQ aq;go_in;go_wp2_with fail;refine ap (AZ.o _ ((aj _).alloc _)) ?_;intro w1 hx1;have z0:=hx1.cell (p:=w) ce;have z1:=hx1.cell (p:=⟨w,1,none⟩) ce;have z2:=hx1.cell (p:=⟨w,2,none⟩) ce;have z3:=hx1.cell (p:=⟨w,3,none⟩) ce;have hsz:w.heap.size<w1:=aY _ _ z0;have hf:∀j,w1.frozen? ⟨w,j,none⟩=false:=λj=>(dD (hx1.block aE)).trans cq
  have f0:=hf 0;have f1:=hf 1;have f2:=hf 2;have f3:=hf 3;have wI:=((aj w).alloc (.cells #[.int .i64 0,.int .u64 0,.int .u64 0,.int .u32 0] 137)).trans hx1;replace g0:=wI.cell g0;replace g1:=wI.cell g1;replace g2:=wI.cell g2;replace g3:=wI.cell g3;have gK:=ah wI;clear hx1 hf wI;go_wp2_with fail;refine aM (v:= .tuple #[.agg #[.int .i64 t.arg,.int .u64 (t.mask:Int),.int .u64 (t.value:Int),.int .u32 t.action],.bool true]) (by first|(simp[results,results65,go_sem,z0,z1,z2,z3];done)|(simp[results,results65,go_sem,z0,z1,z2,z3];rfl)) rfl ⟨t,rfl,?_⟩
  repeat(first|exact gK.o|refine Ext.alloc ?_ _|refine Ext.setCell ?_ aE _)
def BZ(r:Rule):Bool:=decide (r.tests.length<=32)&&(!r.tests.any A7&&Gf.kn r.action)
theorem Kl(r:Rule)(v:aA)(hr:XG r)(w:ay)(hv:Rd w 4 mg v r.tests):Rt 290 #[.agg #[.int .u32 r.nr,v,.int .u32 r.action]] w (.bool (BZ r)):=by
 obtain⟨nr,ts,ac⟩:=r;have hF:=λW (hx:Ext w W)=>IV v ts hr.l hr.t W (hv.ext hx)
 have hK:=λW=>Gf.Ae ac hr.x W
 have hA:BZ ⟨nr,ts,ac⟩=(decide (ts.length<=32)&&(!ts.any A7&&Gf.kn ac)):=rfl;dsimp only at hv⊢;obtain⟨a,c,rfl,hac,-⟩:=kV hv;rw[hA];generalize ts.any A7=bb at *;have e1:decide ((ts:Int)<=32)=decide (ts.length<=32):=by rw[bB];simp;omega
 clear hv;have pQ:=ah hA;have Cj:=ah hF;have Gh:=ah hK;clear hA hF hK;cases hd:decide (ts.length<=32)
 all_goals rw[hd]at e1
 all_goals cases bb
 all_goals
  unfold Rt;go_in;go_wp2_with fail;refine(Cj.o _ ((aj _).alloc _)).mono ?_;rintro e w1 ⟨t,rfl,hx1⟩;have q1:=λo=>(((hx1).trans ((aj _).alloc o))).cell (p:=⟨w,1,none⟩) ce
  have q2:=λo=>(((hx1).trans ((aj _).alloc o))).cell (p:=⟨w,2,none⟩) ce
  have gK:=ah (((aj w).alloc _).trans hx1);clear hx1;go_wp2_with((go_at_call 289;refine ap (Gh.o _) ?_;intro w2 hx2));go_ret
  first
   |exact⟨aE,gK.o.alloc _⟩
   |exact⟨aE,(gK.o.alloc _).trans hx2⟩
open jO (Dat yL EU)
def upB:Option Nat->Nat->Bool
 |none,_=>true
 |some q,n=>decide (q<n)
def iq:Option Nat->List Rule->Bool
 |_,[]=>true
 |p,r::l=>(BZ r&&upB p r.nr)&&iq (some r.nr) l
def kU(f:Filter):Bool:=decide (0<=f.jh)&&(decide (f.jh<6)&&(decide (f.rules.length<=400)&&(Gf.kn f.dflt&&iq none f.rules)))
def P7{p:Option Nat}{q:Nat}(h:upB p q=true):∀ {l:List Rule},iq (some q) l=true->iq p l=true
 | [],_=>rfl
 |r::l,k=>by
  simp only[iq,bA]at k⊢;refine⟨⟨k.1.1,?_⟩,k.2⟩;have k2:=k.1.2;cases p with
  |none=>rfl
  |some p=>unfold upB at h k2⊢;simp only[dK]at h k2⊢;omega
def P8:∀ {l:List Rule} {p:Option Nat},iq p l=true->∀r∈l,BZ r=true/\upB p r.nr=true
 |r::l,p,k,x,hx=>by
  simp only[iq,bA]at k;cases hx with
  |head=>exact k.1
  |tail _ hx=>
   have h:=P8 k.2 x hx;refine⟨h.1,?_⟩;have h2:=h.2;have k2:=k.1.2;cases p with
   |none=>rfl
   |some p=>unfold upB at h2 k2⊢;simp only[dK]at h2 k2⊢;omega
def mH:List Test->Nat->List Test×Nat
 | [],x=>([],x)
 |t::l,x=>if t.mask==0 then([],t.action)else(t::(mH l x).1,(mH l x).2)
def sJ(ts:List Test)(x:Nat):Nat->Nat
 |0=>0
 |k+1=>if (ts.getD k ⟨0,0,0,0⟩).action==x then sJ ts x k else k+1
def uN(ts:List Test)(x:Nat):List Test:=ts.take (sJ ts x ts)
def pV(r:Rule):Rule:=⟨r.nr,uN (mH r.tests r.action).1 (mH r.tests r.action).2,(mH r.tests r.action).2⟩
def FB(df:Nat)(r:Rule):Bool:= !r.tests.isEmpty|| !(r.action==df)
def qL(df:Nat)(rs:List Rule):List Rule:=(rs.map pV).filter (FB df)
def zG(f:Filter):Filter:=⟨f.jh,qL f.dflt f.rules,f.dflt⟩
def OG(ts:List Test)(x:Nat):∀k,sJ ts x k<=k
 |0=>aD _
 |k+1=>by
  unfold sJ;split
  ·have:=OG ts x k;omega
  ·exact aD _
def uy:∀(ts:List Test)(x:Nat),(mH ts x).1.length<=ts.length
 | [],_=>aD _
 |t::l,x=>by
  unfold mH;split
  ·simp
  ·simpa using uy l x
def Rb:∀(ts:List Test)(x:Nat)(t:Test),t∈(mH ts x).1->t∈ts/\(t.mask==0)=false
 |a::l,x,t,h=>by
  unfold mH at h;split at h
  ·cases h
  ·rename_i hm;cases h with
   |head=>exact⟨.head _,by simpa using hm⟩
   |tail _ h=>have:=Rb l x t h;exact⟨.tail _ this.1,this.2⟩
def Dw:∀(ts:List Test)(x:Nat),(mH ts x).2=x\/∃t∈ts,(mH ts x).2=t.action
 | [],_=> .inl rfl
 |a::l,x=>by
  unfold mH;split
  ·exact .inr ⟨a,.head _,rfl⟩
  ·rcases Dw l x with h|⟨t,h1,h2⟩
   ·exact .inl h
   ·exact .inr ⟨t,.tail _ h1,h2⟩
def Yh{ts:List Test}{x:Nat}{t:Test}(h:t∈uN ts x):t∈ts:=iU h
def Ia{r:Rule}{t:Test}(h:t∈(pV r).tests):t∈r.tests/\(t.mask==0)=false:=Rb _ _ _ (Yh h)
def Ay(df:Nat)(rs:List Rule):(qL df rs).length<=rs.length:=by unfold qL;have:=ji (FB df) (rs.map pV);exact sd
def WM{r:Rule}(h:BZ r=true):r.tests.length<=32/\(∀t∈r.tests,qW t=true)/\Gf.kn r.action=true:=by
 unfold BZ at h;simp only[bA,dK]at h;obtain⟨h1,h2,h3⟩:=h;refine⟨h1,λt ht=> ?_,h3⟩;cases hm:qW t
 ·have:r.tests.any A7=true:=List.any_eq_true.2 ⟨t,ht,by unfold A7;rw[hm];rfl⟩;rw[this]at h2;cases h2
 ·rfl
def af1{r:Rule}(h1:r.tests.length<=32)(h2:∀t∈r.tests,qW t=true)(h3:Gf.kn r.action=true):BZ r=true:=by
 unfold BZ;have:r.tests.any A7=false:=by
  cases hb:r.tests.any A7
  ·rfl
  ·obtain⟨t,ht,hq⟩:=List.any_eq_true.1 hb;unfold A7 at hq;rw[h2 t ht]at hq;cases hq
 rw[this,h3,aQ h1];rfl
def BX{t:Test}(h:qW t=true):0<=t.arg/\t.arg<6/\(t.value&&&t.mask)=t.value/\Gf.kn t.action=true:=by unfold qW at h;simp only[bA,dK,fU]at h;exact h
def YZ{r:Rule}(h:BZ r=true):BZ (pV r)=true:=by
 obtain⟨h1,h2,h3⟩:=WM h;refine af1 ?_ (λt ht=>h2 t (Ia ht).1) ?_
 ·have:=uy r.tests r.action;show(uN (mH r.tests r.action).1 _).length<=32;unfold uN;rw[bC];omega
 ·show Gf.kn (mH r.tests r.action).2=true;rcases Dw r.tests r.action with e|⟨t,ht,e⟩
  ·rw[e];exact h3
  ·rw[e];exact(BX (h2 t ht)).2.2.2
def Lj(df:Nat):∀ {rs:List Rule} {p:Option Nat},iq p rs=true->iq p (qL df rs)=true
 | [],_,_=>rfl
 |r::l,p,h=>by
  simp only[iq,bA]at h;have ih:=Lj df h.2;have e:qL df (r::l)=if FB df (pV r)=true then pV r::qL df l else qL df l:=by unfold qL;rw[bS,List.filter_cons]
  rw[e];split
  ·simp only[iq,bA];exact⟨⟨YZ h.1.1,h.1.2⟩,ih⟩
  ·exact P7 h.1.2 ih
def Az{f:Filter}(h:kU f=true):kU (zG f)=true:=by unfold kU at h⊢;simp only[bA,dK]at h⊢;obtain⟨h1,h2,h3,h4,h5⟩:=h;exact⟨h1,h2,aL (Ay _ _) h3,h4,Lj _ h5⟩
end lC
def kd(h:zP:=by
 rw[<-hW1];clear hW1 hxw;refine fE ax ax ?_
 repeat(any_goals(first|go_big_quiet_step ((go_at_call 290;exact dx (A8.o _ (N5.o _))))|quiet_step ((go_at_call 290;exact dx (A8.o _ (N5.o _))))))
 all_goals(refine i4 ?_;intro _ hw';obtain⟨xq,hw''⟩:=hw';subst hw'')
 go_wp2;go_ret;exact⟨by rw[j9.o];rfl,(gK.o.trans HX.o).trans (N5.o xq)⟩):zP:=h
def jp(h:zP:=by
 rw[<-hW1];clear hW1 hxw;refine fE ax ax ?_
 repeat(any_goals(first|go_big_quiet_step ((go_at_call 290;exact dx (A8.o _ (N5.o _))))|quiet_step ((go_at_call 290;exact dx (A8.o _ (N5.o _))))))
 all_goals(refine i4 ?_;intro _ hw';obtain⟨xq,hw''⟩:=hw';subst hw'')
 go_wp2;go_roundw
 case rel=>exact⟨k+1,aq,bm,HX.o.trans (N5.o xq),by rw[j9.o,Af.o]⟩
 case measure=>exact gO):zP:=h
def cM(h:zP:=by rw[hW1];simp[go_sem]):zP:=h
namespace lC
def prv(rs:List Rule)(k:Nat):Option Nat:=if k=0 then none else(rs[k-1]?).map (·.nr)
def Eu{rs:List Rule}{k:Nat}(h:k<rs):iq (prv rs k) (rs.drop k)=((BZ rs[k]&&upB (prv rs k) rs[k].nr)&&iq (prv rs (k+1)) (rs.drop (k+1))):=by
 rw[bJ h];have e:prv rs (k+1)=some rs[k].nr:=by unfold prv;rw[aN aq,jr,aJ h];rfl
 rw[e];rfl
def Ig(rs:List Rule)(p:Option Nat):iq p (rs.drop rs)=true:=by rw[dQ];rfl
def abT{rs:List Rule}{k:Nat}(h:k<rs):prv rs (k+1)=some rs[k].nr:=by unfold prv;rw[aN aq,jr,aJ h];rfl
theorem oD(f:Filter)(u:aA)(hf:yJ f)(w:ay)(hu:JO w 3 (FV w) u f.rules):Rt 241 #[.agg #[.int .i64 f.jh,u,.int .u32 f.dflt]] w (.bool (kU f)):=by
 obtain⟨ar,rs,df⟩:=f;have hd:=hf.d;have hok:=hf.r;have hl:=hf.l;have hA:kU ⟨ar,rs,df⟩=(decide (0<=ar)&&(decide (ar<6)&&(decide (rs.length<=400)&&(Gf.kn df&&iq none rs)))):=rfl;dsimp only at *;obtain⟨a,c,rfl,hac,hca⟩:=p6 hu;clear hu hf;rw[hA];have hK:=λW=>Gf.Ae df hd W
 have pQ:=ah hA;have Jw:=ah hok;have rz:=ah hca;clear hA hok hca;by_cases h0:ar<0
 ·have e1:decide (0<=ar)=false:=aT aq;rw[e1,Bool.false_and];have He1:=ah e1;clear e1 hK;exact nF
 have e1:decide (0<=ar)=true:=aQ aq;by_cases h6:6<=ar
 ·have e2:decide (ar<6)=false:=aT aq;rw[e1,e2,Bool.false_and,iP];have He1:=ah e1;have S4:=ah e2;clear e1 e2 hK;exact nF
 have e2:decide (ar<6)=true:=aQ aq;by_cases h4:400<rs.length
 ·have e3:decide (rs.length<=400)=false:=aT aq;have e4:decide ((400:Int)<rs)=true:=aQ aq;rw[e1,e2,e3,Bool.false_and,iP,iP];have He1:=ah e1;have S4:=ah e2;have He3:=ah e3;clear e1 e2 e3 hK;exact nF
 have e3:decide (rs.length<=400)=true:=aQ aq;have e4:decide ((400:Int)<rs)=false:=aT aq;rw[e1,e2,e3,iP,iP,iP];have He1:=ah e1;have S4:=ah e2;have He3:=ah e3;clear e1 e2 e3;cases hk:Gf.kn df
 ·rw[hk]at hK;rw[Bool.false_and];have Gh:=ah hK;have Hhk:=ah hk;clear hK hk;exact qq
 rw[hk]at hK;rw[iP];have Gh:=ah hK;have Hhk:=ah hk;clear hK hk;unfold Rt;go_in;go_wp2_with fail;refine ap (Gh.o _) ?_;intro w1 hx1;have c1:w1.cell? ⟨w,1,none⟩=some (.slice a rs c):=hx1.cell cq;have gK:=ah (((aj w).alloc (.cells #[.int .i64 ar,.slice a rs c,.int .u32 df] 73)).trans hx1);clear hx1;go_wp2_with fail;go_loopw [28] (λi wr=>∃k:Nat,k<=rs/\i= .int .i64 k/\Ext w1 wr/\iq none rs=iq (prv rs k) (rs.drop k)) (λi _=>rs.length-(intOf i).toNat)
 case atStart=>exact kf
 case round=>
  obtain⟨k,hk2,rfl,hx,heq⟩:=hrel;by_cases hlt:k<rs
  ·obtain⟨b,o,v,rfl,g1,g2,g3,g4⟩:=rz.o k hlt;replace g1:=(gK.o.trans hx).cell g1;replace g2:=(gK.o.trans hx).cell g2;replace g3:=(gK.o.trans hx).cell g3;replace g4:=g4.ext (gK.o.trans hx);have c1r:=hx.cell c1;have HX:=ah hx;rw[Eu hlt]at heq;have hR:=λW (hy:Ext wr W)=>Kl rs[k] v (Jw.o _ (aW hlt)) W (g4.ext hy)
   have hg0:∀(h0:0<k),wr.cell? ⟨b,o+(k-1)*3,none⟩=some (.int .u32 ((rs[k-1]' aq).nr:Int)):=by
    intro h0;obtain⟨b',o',v',e',p1,-,-,-⟩:=rz.o (k-1) aq;obtain⟨rfl,rfl⟩:b=b'/\o=o':=by simpa using e'
    exact(gK.o.trans hx).cell p1
   have hpv:prv rs k=if h0:0<k then some (rs[k-1]' aq).nr else none:=by
    by_cases h0:0<k
    ·rw[dif_pos h0];unfold prv;rw[aN aq,aJ aq];rfl
    ·rw[dif_neg h0];unfold prv;rw[aV aq]
   obtain⟨au,cu,rfl,-,-⟩:=kV g4;clear c1 g4 hx;have hnx:=abT hlt;generalize rs[k]'hlt=r at *;obtain⟨rn,ts,ra⟩:=r;dsimp only at *;rw[hnx]at heq;have Af:=ah hnx;clear hnx;cases hm:BZ ⟨rn,ts,ra⟩
   ·rw[hm]at hR heq;simp only[Bool.false_and]at heq;have aph:=ah hpv;have A8:=ah hR;clear hpv hg0 hR;have j9:=ah heq;have tF:=ah hm;clear heq hm;go_wp2_with fail;obtain⟨W1,hW1⟩:∃W1,W1=wr.alloc (.cells #[.int .u32 rn,.slice au ts cu,.int .u32 ra] 110):=⟨_,rfl⟩;have hxw:Ext wr W1:=by rw[hW1];exact(aj _).alloc _
    have k0:∀x:XW W1,x.w.cell? wr=some (.int .u32 rn):=λx=>x.h.cell cM
    have k1:∀x:XW W1,x.w.cell? ⟨wr,1,none⟩=some (.slice au ts cu):=λx=>x.h.cell cM
    have k2:∀x:XW W1,x.w.cell? ⟨wr,2,none⟩=some (.int .u32 ra):=λx=>x.h.cell cM
    have N5:Hid (∀x:XW W1,Ext wr x.w):=ah (λx=>hxw.trans x.h);exact kd
   rw[hm]at hR heq;simp only[iP]at heq;by_cases h0:k=0
   ·have e0:upB (prv rs k) rn=true:=by rw[h0];rfl
    have d0:decide ((0:Int)<k)=false:=aT aq;have d1:decide (0<k)=false:=aT aq;have Oo:=ah h0;clear h0;rw[e0,iP]at heq;have He0:=ah e0;have aph:=ah hpv;clear e0 hpv hg0;have A8:=ah hR;have j9:=ah heq;have tF:=ah hm;clear hR heq hm;go_wp2_with fail;obtain⟨W1,hW1⟩:∃W1,W1=wr.alloc (.cells #[.int .u32 rn,.slice au ts cu,.int .u32 ra] 110):=⟨_,rfl⟩;have hxw:Ext wr W1:=by rw[hW1];exact(aj _).alloc _
    have k0:∀x:XW W1,x.w.cell? wr=some (.int .u32 rn):=λx=>x.h.cell cM
    have k1:∀x:XW W1,x.w.cell? ⟨wr,1,none⟩=some (.slice au ts cu):=λx=>x.h.cell cM
    have k2:∀x:XW W1,x.w.cell? ⟨wr,2,none⟩=some (.int .u32 ra):=λx=>x.h.cell cM
    have N5:Hid (∀x:XW W1,Ext wr x.w):=ah (λx=>hxw.trans x.h);exact jp
   have hkp:0<k:=aq;have hg:=hg0 hkp;rw[dif_pos hkp]at hpv;rw[hpv]at heq;have b1:(0:Int)<=k-1:=aq;have b2:(k:Int)-1<rs:=aq;have d0:decide ((0:Int)<k)=true:=aQ aq;have d1:decide (0<k)=true:=aQ hkp;generalize(rs[k-1]' aq).nr=pn at *;have aph:=ah hpv;clear hpv hg0 h0;cases hu:upB (some pn) rn
   ·rw[hu,Bool.false_and]at heq;have q0:¬pn<rn:=by unfold upB at hu;simpa using hu
    have q1:decide (rn<=pn)=true:=aQ aq;have q2:decide ((rn:Int)<=pn)=true:=aQ aq;have Hhu:=ah hu;have A8:=ah hR;clear hu hR;have j9:=ah heq;have tF:=ah hm;clear heq hm;go_wp2_with fail;obtain⟨W1,hW1⟩:∃W1,W1=wr.alloc (.cells #[.int .u32 rn,.slice au ts cu,.int .u32 ra] 110):=⟨_,rfl⟩;have hxw:Ext wr W1:=by rw[hW1];exact(aj _).alloc _
    have k0:∀x:XW W1,x.w.cell? wr=some (.int .u32 rn):=λx=>x.h.cell cM
    have k1:∀x:XW W1,x.w.cell? ⟨wr,1,none⟩=some (.slice au ts cu):=λx=>x.h.cell cM
    have k2:∀x:XW W1,x.w.cell? ⟨wr,2,none⟩=some (.int .u32 ra):=λx=>x.h.cell cM
    have N5:Hid (∀x:XW W1,Ext wr x.w):=ah (λx=>hxw.trans x.h);have k3:∀x:XW W1,x.w.cell? ⟨w,1,none⟩=some (.slice (some ⟨b,o,none⟩) rs c):=λx=>(hxw.trans x.h).cell c1r
    have k4:∀x:XW W1,x.w.cell? ⟨b,o+(k-1)*3,none⟩=some (.int .u32 pn):=λx=>(hxw.trans x.h).cell hg
    exact kd
   ·rw[hu,iP]at heq;have q0:pn<rn:=by unfold upB at hu;simpa using hu
    have q1:decide (rn<=pn)=false:=aT aq;have q2:decide ((rn:Int)<=pn)=false:=aT aq;have Hhu:=ah hu;have A8:=ah hR;clear hu hR;have j9:=ah heq;have tF:=ah hm;clear heq hm;go_wp2_with fail;obtain⟨W1,hW1⟩:∃W1,W1=wr.alloc (.cells #[.int .u32 rn,.slice au ts cu,.int .u32 ra] 110):=⟨_,rfl⟩;have hxw:Ext wr W1:=by rw[hW1];exact(aj _).alloc _
    have k0:∀x:XW W1,x.w.cell? wr=some (.int .u32 rn):=λx=>x.h.cell cM
    have k1:∀x:XW W1,x.w.cell? ⟨wr,1,none⟩=some (.slice au ts cu):=λx=>x.h.cell cM
    have k2:∀x:XW W1,x.w.cell? ⟨wr,2,none⟩=some (.int .u32 ra):=λx=>x.h.cell cM
    have N5:Hid (∀x:XW W1,Ext wr x.w):=ah (λx=>hxw.trans x.h);have k3:∀x:XW W1,x.w.cell? ⟨w,1,none⟩=some (.slice (some ⟨b,o,none⟩) rs c):=λx=>(hxw.trans x.h).cell c1r
    have k4:∀x:XW W1,x.w.cell? ⟨b,o+(k-1)*3,none⟩=some (.int .u32 pn):=λx=>(hxw.trans x.h).cell hg
    exact jp
  ·obtain rfl:k=rs.length:=aq;rw[Ig]at heq;have j9:=ah heq;clear heq;have c1r:=hx.cell c1;clear c1;go_wp2;go_ret;exact⟨by rw[j9.o];rfl,gK.o.trans hx⟩
end lC
namespace jO
variable{ts xs:List Int}
def encI(a:Int):List aA:= [.int .i64 a]
def su(a:Int):(encI a).length=1:=rfl
def ady(s:Int):∀u∈encI s,u.oneCell'=true:=by intro u hu;simp[encI]at hu;subst hu;rfl
def jX{w:ay}{v:aA}(h:Rd w 1 encI v xs):∃a c,v= .slice a xs c/\xs.length<=c/\∀i,(hi:i<xs.length)->∃b o,a=some ⟨b,o,none⟩/\w.cell? ⟨b,o+i,none⟩=some (.int .i64 xs[i]):=by obtain⟨a,c,h1,h2,h3,h4⟩:=h;refine⟨a,c,h1,h2,λi hi=> ?_⟩;obtain⟨b,o,e,k⟩:=h4 i hi;have:=k 0 (by simp[encI]);rw[eO,iB]at this;exact⟨b,o,e,this⟩
def wT(a:Int):Bool:=decide (a<0)||decide (6<=a)
def oQ(p:Int->Bool):List Int->Nat->Int
 | [],_=> -1
 |t::r,k=>if p t=true then(k:Int)else oQ p r (k+1)
def wG{p:Int->Bool}{k:Nat}(h:k<ts):oQ p (ts.drop k) k=if p ts[k]=true then(k:Int)else oQ p (ts.drop (k+1)) (k+1):=by rw[bJ h];rfl
def zQ(p:Int->Bool)(ts:List Int)(k:Nat):oQ p (ts.drop ts) k= -1:=by rw[dQ];rfl
def QB(p:Int->Bool):∀(ts:List Int)(k:Nat),decide (0<=oQ p ts k)=ts.any p
 | [],k=>rfl
 |t::r,k=>by
  rw[List.any_cons];unfold oQ;cases hp:p t
  ·rw[aN aE,Bool.false_or];exact QB p r (k+1)
  ·rw[aV rfl,Bool.true_or];exact aQ aq
theorem Vg(a:Int)(w:ay):Rt 230 #[.int .i64 a] w (.bool (wT a)):=by
 unfold wT;cases h1:decide (a<0)
 ·cases h2:decide (6<=a)
  all_goals
   unfold Rt;go_in;go_wp2;go_ret;exact⟨rfl,aj _⟩
 ·unfold Rt;go_in;go_wp2;go_ret;exact⟨aE,aj _⟩
theorem Kq(v:aA)(ts:List Int)(hl:ts.length<=140737488351232)(w:ay)(hv:Rd w 1 encI v ts):Rt 280 #[v,.func (.func 230) #[] #[]] w (.int .i64 (oQ wT ts 0)):=by
 obtain⟨a,c,rfl,hac,hca⟩:=jX hv;clear hv;have rz:=ah hca;clear hca;unfold Rt;go_in;go_wp2;go_loopw [8] (λi wr=>∃k:Nat,k<=ts/\i= .int .i64 k/\Ext w wr/\oQ wT ts 0=oQ wT (ts.drop k) k) (λi _=>ts.length-(intOf i).toNat)
 case atStart=>exact kf
 case round=>
  obtain⟨k,hk,rfl,hx,heq⟩:=hrel;have HX:=ah hx;by_cases hlt:k<ts
  ·obtain⟨b,o,rfl,h1⟩:=rz.o k hlt;replace h1:=hx.cell h1;rw[wG hlt]at heq;have hC:=λW=>Vg (ts[k]'hlt) W
   clear hx;generalize ts[k]'hlt=t at *;cases hp:wT t
   all_goals
    rw[hp]at hC heq;simp only[if_true,if_false,iI]at heq;have yN:=ah hC;have j9:=ah heq;have Hhp:=ah hp;clear hC heq hp;go_wp2_with fail;refine ap (yN.o _) ?_;intro w2 hx2;go_wp2_with fail
   ·exact ju
   ·exact rj
  ·obtain rfl:k=ts.length:=aq;rw[zQ]at heq;exact ke
theorem BH(v:aA)(ts:List Int)(hl:ts.length<=140737488351232)(w:ay)(hv:Rd w 1 encI v ts):Rt 229 #[v,.func (.func 230) #[] #[]] w (.bool (ts.any wT)):=by have hI:=Kq v ts hl w hv;have hA:=QB wT ts 0;obtain⟨a,c,rfl,hac,hca⟩:=jX hv;clear hv hca;generalize oQ wT ts 0=ix at *;have AZ:=ah hI;have pQ:=ah hA;clear hI hA;unfold Rt;go_in;go_wp2_with fail;refine ap AZ.o ?_;intro w1 hx1;go_wp2_with fail;go_ret;exact⟨by rw[<-pQ.o];rfl,hx1⟩
end jO
namespace lC
open jO (Dat yL EU)
variable{a w:ay}{b b' e k n:Nat}{zs:List aA}
structure PR where
 r:Rule
 a:Option Addr
 c:Nat
def PR.v(p:PR):aA:= .slice p.a p.r.tests p.c
def qx(p:PR):List aA:= [.int .u32 p.r.nr,p.v,.int .u32 p.r.action]
def mR(p:PR):(qx p).length=3:=rfl
def zZ(p:PR):∀u∈qx p,u.oneCell'=true:=by intro u hu;simp[qx,PR.v]at hu;exact se
def nD(w:ay)(p:PR):Prop:=Rd w 4 mg p.v p.r.tests
def nD.ext(h:Ext a w){p:PR}(hp:nD a p):nD w p:=Rd.ext h hp
theorem UD:(Tryz.prog.info? 110).map (λi=>(i.zero,i.size,i.bytes))=some (some (.agg #[.int .u32 0,.slice none 0 0,.int .u32 0]),3,40):=ax
def ML{v:aA}{ps:List PR}(h:Rd w 3 qx v ps)(hg:∀p∈ps,nD w p):JO w 3 (FV w) v (ps.map PR.r):=by
 obtain⟨a,c,h1,h2,h3,h4⟩:=h;refine⟨a,c,by rw[h1,aS],by rw[aS];exact h2,h3,λi hi=> ?_⟩;rw[aS]at hi;obtain⟨b,o,e,hat⟩:=h4 i hi;refine⟨b,o,qx ps[i],e,rfl,hat,ps[i].v,?_,?_⟩
 ·rw[gQ];rfl
 ·rw[gQ];exact hg _ (aW hi)
def afN{v:aA}{rs:List Rule}(h:JO w 3 (FV w) v rs):∃ps:List PR,ps.map PR.r=rs/\Rd w 3 qx v ps/\∀p∈ps,nD w p:=by
 obtain⟨a,c,h1,h2,h3,h4⟩:=h;have each:∀i,i<rs.length->∃p:PR,p.r=rs.getD i ⟨0,[],0⟩/\nD w p/\∃b o,a=some ⟨b,o,none⟩/\At w b (o+i*3) (qx p):=by intro i hi;obtain⟨b,o,cs,e,hl,hat,u,rfl,hu⟩:=h4 i hi;have hu2:=hu;obtain⟨a',c',rfl,-⟩:=hu;refine⟨⟨rs[i],a',c'⟩,?_,hu2,b,o,e,hat⟩;rw[bQ,aJ hi];rfl
 have pick:∃g:Nat->PR,∀i,i<rs.length->(g i).r=rs.getD i ⟨0,[],0⟩/\nD w (g i)/\∃b o,a=some ⟨b,o,none⟩/\At w b (o+i*3) (qx (g i)):=by
  classical
  refine⟨λi=>if hi:i<rs.length then(each i hi).choose else⟨⟨0,[],0⟩,none,0⟩,λi hi=> ?_⟩;simp only[hi,dif_pos];exact(each i hi).choose_spec
 obtain⟨g,hg⟩:=pick;refine⟨(List.range rs).map g,?_,⟨a,c,by simpa using h1,by simpa using h2,h3,λi hi=> ?_⟩,λp hp=> ?_⟩
 ·apply List.ext_getElem aE;intro i hi hi';rw[gQ,gQ,List.getElem_range,(hg i hi').1,bQ,aJ hi'];rfl
 ·simp only[aS,List.length_range]at hi;obtain⟨-,-,b,o,e,hat⟩:=hg i hi;refine⟨b,o,e,?_⟩;rw[gQ,List.getElem_range];exact hat
 ·obtain⟨i,hi,rfl⟩:=dW.1 hp;exact(hg i (List.mem_range.1 hi)).2.1
def oZ(w:ay)(base:Nat)(p:PR):Prop:=(p.a=none/\p.r.tests=[])\/∃g cur,p.a=some ⟨g,0,none⟩/\base<=g/\w.heap[g]?=some (.cells cur 137 (0,0))
def oZ.base{p:PR}(h:oZ w b p)(hb:b'<=b):oZ w b' p:=by
 rcases h with h|⟨g,cur,h1,h2,h3⟩
 ·exact .inl h
 ·exact .inr ⟨g,cur,h1,aq,h3⟩
def oZ.ext(h:Ext a w){p:PR}(hp:oZ a b p):oZ w b p:=by
 rcases hp with hp|⟨g,cur,h1,h2,h3⟩
 ·exact .inl hp
 ·exact .inr ⟨g,cur,h1,h2,(h.block (aB.1 h3).1).trans h3⟩
theorem Ir:(Tryz.prog.info? 137).map (λi=>(i.zero,i.size,i.bytes))=some (some (.agg #[.int .i64 0,.int .u64 0,.int .u64 0,.int .u32 0]),4,32):=ax
theorem nil_eq(w:ay):(binOp .eql 108 (.slice none 0 0) (.slice none 0 0)).run prog w= .ok (.bool true) w:=by first|rfl|kernel_rfl|(simp[go_sem,binOp];done)
theorem ajc(ad:Addr)(n c:Nat)(w:ay):(binOp .eql 108 (.slice (some ad) n c) (.slice none 0 0)).run prog w= .ok (.bool false) w:=by first|rfl|kernel_rfl|(simp[go_sem,binOp];done)
theorem vE(v:aA)(ts:List Test)(hl:ts.length<=1000000)(w:ay)(hv:Rd w 4 mg v ts):Calls prog 181 #[v] w λe w'=>∃u,e= .returned u/\w'.ownsRow w 137 4 u ts (ts.flatMap mg)/\Ext w w':=by
 have HV:=ah hv;obtain⟨a,c,rfl,h1,h2,-⟩:=hv;have hl0:([]:List Test).length+ts.length=ts:=aE;have HL:=ah hl0;clear hl0;cases a with
 |none=>obtain rfl:=h2 rfl;have ht:ts=[]:=bG aq;subst ht;clear h1 h2;have hq:=nil_eq;go_in;go_wp2;go_ret;exact⟨_,rfl,⟨rfl,.inl ⟨rfl,rfl⟩⟩,aj _⟩
 |some ad=>clear h2;have hq:=ajc ad;go_in;go_wp2_with(at_builtin;refine jH rfl (.tmp 5) (.tmp 6) _ rfl underlying108 Ir rfl az j5 wO w _ _ [] ts rfl rfl (jJ j5 w [] _ _ w rfl (aD _) cz) (HV.o.ext ((aj _).alloc _)) (by rw[HL.o];omega) az ((aj _).alloc _) ?_;intro au1 cu1 w1 ho1 hx1;rw[HL.o]at ho1⊢;have HO1:=ah ho1;have gK:=ah hx1;clear ho1 hx1);go_ret;exact⟨_,rfl,HO1.o,gK.o⟩
def nk{base:Nat}{v:aA}(h:w.ownsRow base e n v k zs){p:Addr}(hp:p.block<base)(u:aA):(w.setCell p u).ownsRow base e n v k zs:=
 fO (S:=λb=>base<=b) h (Keep.setCell w aq u) (λb hb=>(h.lt b hb).1)
def kK{v:aA}(h:w.ownsRow b e n v k zs)(hb:b'<=b):w.ownsRow b' e n v k zs:=by
 refine⟨h.1,?_⟩;rcases h.2 with h2|⟨g,cap,cur,rfl,hg,r⟩
 ·exact .inl h2
 ·exact .inr ⟨g,cap,cur,rfl,aq,r⟩
theorem Tj(r:Rule)(v:aA)(hl:r.tests.length<=1000000)(w:ay)(hv:Rd w 4 mg v r.tests):Calls prog 296 #[.agg #[.int .u32 r.nr,v,.int .u32 r.action]] w λe w'=>∃a c,e= .returned (.agg #[.int .u32 r.nr,.slice a r.tests c,.int .u32 r.action])/\w'.ownsRow w 137 4 (.slice a r.tests c) r.tests (r.tests.flatMap mg)/\Ext w w':=by
 obtain⟨rn,ts,ra⟩:=r;dsimp only at *;have hC:=λW (hx:Ext w W)=>vE v ts hl W (hv.ext hx)
 obtain⟨av,cv,rfl,-,-⟩:=kV hv;have yN:=ah hC;clear hC;go_in;go_wp2_with fail;refine(yN.o _ (((aj _).alloc _).alloc _)).mono ?_;rintro e w1 ⟨u,rfl,ho,hx1⟩;obtain⟨au,cu,rfl⟩:=bU ho;have z0:=hx1.cell (p:=w) ce;have z1:=hx1.cell (p:=⟨w,1,none⟩) ce;have z2:=hx1.cell (p:=⟨w,2,none⟩) ce;have y0:=hx1.cell (p:=⟨w+1,0,none⟩) ce;have y1:=hx1.cell (p:=⟨w+1,1,none⟩) ce;have y2:=hx1.cell (p:=⟨w+1,2,none⟩) ce;have f0:w1.frozen? ⟨w,1,none⟩=false:=(dD (hx1.block bp)).trans cq;have f1:∀j,w1.frozen? ⟨w+1,j,none⟩=false:=λj=>(dD (hx1.block aE)).trans cq
 have f10:=f1 0;have f11:=f1 1;have f12:=f1 2;have hb1:w.heap.size<w1:=aY _ _ z0;have hb2:w.heap.size+1<w1.heap.size:=aY _ _ y0;have HO:=ah (kK (b':=w.heap.size+2) ho aE);have gK:=ah ((((aj w).alloc _).alloc _).trans hx1);clear hx1 ho f1;go_wp2_with fail;refine aM (v:= .agg #[.int .u32 rn,.slice au ts cu,.int .u32 ra]) (by first|(simp[results,results296,go_sem,y0,y1,y2];done)|(simp[results,results296,go_sem,y0,y1,y2];rfl)) rfl ⟨_,_,rfl,?_,?_⟩
 ·refine kK (b:=w.heap.size+2) ?_ aq
  repeat(first|exact HO.o|refine nk ?_ cy _)
 ·repeat(first|exact gK.o|refine Ext.setCell ?_ cy _)
end lC
def gj(h:zP:=by show B+1<B+2;omega):zP:=h
namespace lC
variable{B b b' c c' df e i j k k' m n rn x:Nat}{W W' w w' w1:ay}{a:Option Addr}{ar:Int}{p q:Addr}{v' v0 v1 v2:aA}{zs:List aA}
def Xz:∀(ts:List Test)(x k:Nat),(wH Bb ts k= -1/\mH ts x=(ts,x))\/∃i,∃h:i<ts.length,wH Bb ts k=((k+i:Nat):Int)/\mH ts x=(ts.take i,(ts[i]'h).action)
 | [],x,k=> .inl ⟨rfl,rfl⟩
 |t::r,x,k=>by
  cases hp:Bb t
  ·have hp':¬(t.mask==0)=true:=by unfold Bb at hp;rw[hp];simp
   rcases Xz r x (k+1)with⟨h1,h2⟩|⟨i,h,h1,h2⟩
   ·exact .inl ⟨by simp only[wH,hp];exact h1,by unfold mH;rw[aN hp',h2]⟩
   ·refine .inr ⟨i+1,by simp;omega,?_,by unfold mH;rw[aN hp',h2];rfl⟩;simp only[wH,hp];have e:((k+1+i:Nat):Int)=((k+(i+1):Nat):Int):=aq;rw[<-e];exact h1
  ·have hp':(t.mask==0)=true:=hp;exact .inr ⟨0,aE,by simp[wH,hp],by unfold mH;rw[aV hp'];rfl⟩
def Rd.setCell{α:Type}{enc:α->List aA}{xs:List α}(h:Rd w n enc (.slice a m c) xs)(hp:∀b o,a=some ⟨b,o,none⟩->b≠p.block)(u:aA):Rd (w.setCell p u) n enc (.slice a m c) xs:=by obtain⟨a',c',e,h1,h2,h3⟩:=h;simp only[aU]at e;obtain⟨rfl,rfl,rfl⟩:=e;refine⟨a,c,rfl,h1,h2,λi hi=> ?_⟩;obtain⟨b,o,e,hat⟩:=h3 i hi;refine⟨b,o,e,λj hj=> ?_⟩;have hk:=Keep.setCell (S:=λk=>k≠p.block) w (p:=p) (λh=>h rfl) u;exact(hk.cell (p:=⟨b,_,none⟩) (hp b o e)).trans (hat j hj)
def oZ.setCell{base:Nat}{p:PR}(h:oZ w base p)(hq:q.block<base)(u:aA):oZ (w.setCell q u) base p:=by
 rcases h with h|⟨g,cur,h1,h2,h3⟩
 ·exact .inl h
 ·exact .inr ⟨g,cur,h1,h2,((Keep.setCell (S:=λk=>k≠q.block) w (p:=q) (λh=>h rfl) u).block g aq).trans h3⟩
structure NS(w:ay)(B rn:Nat)(a:Option Addr)(k c x:Nat)(ts:List Test)(W:ay):Prop where
 ext:Ext w W
 hB:w.heap.size<=B
 b0:W.cell? B=some (.int .u32 rn)
 b1:W.cell? ⟨B,1,none⟩=some (.slice a k c)
 b2:W.cell? ⟨B,2,none⟩=some (.int .u32 x)
 f:∀j,W.frozen? ⟨B,j,none⟩=false
 hk:k<=ts
 kc:k<=c
 good:Rd W 4 mg (.slice a k c) (ts.take k)
 own:oZ W (B+2) ⟨⟨rn,ts.take k,x⟩,a,c⟩
 y0:W.cell? ⟨B+1,0,none⟩=some (.int .u32 0)
 y1:W.cell? ⟨B+1,1,none⟩=some (.slice none 0 0)
 y2:W.cell? ⟨B+1,2,none⟩=some (.int .u32 0)
 fy:∀j,W.frozen? ⟨B+1,j,none⟩=false
def NS.o{ts:List Test}(h:NS w B rn a k c x ts W)(b o:Nat)(e:a=some ⟨b,o,none⟩):B+2<=b/\o=0:=by
 rcases h.own with⟨h1,-⟩|⟨g,cur,h1,h2,h3⟩
 ·dsimp only at h1;rw[h1]at e;cases e
 ·dsimp only at h1;rw[h1]at e;simp at e;omega
def NS.nil{ts:List Test}(h:NS w B rn a k c x ts W):a=none->c=0:=by obtain⟨a',c',e,-,h2,-⟩:=h.good;simp only[aU]at e;obtain⟨rfl,-,rfl⟩:=e;exact h2
def tX(u:aA)(h:i≠j):(w.setCell ⟨B,i,none⟩ u).cell? ⟨B,j,none⟩=w.cell? ⟨B,j,none⟩:=by exact dG _ _ _ _ (λe=>h (Addr.mk.inj e).2.1)
def NS.cut{ts:List Test}(h:NS w B rn a k c x ts W)(hk':k'<=k)(hc:k'<=c')(hn:a=none->c'=0):NS w B rn a k' c' x ts (W.setCell ⟨B,1,none⟩ (.slice a k' c')):=by
 have hne:∀b o,a=some ⟨b,o,none⟩->b≠B:=λb o e=>by have:=h.o b o e;omega
 refine⟨h.ext.setCell h.hB _,h.hB,?_,?_,?_,λj=>(fF _ _ _ _).trans (h.f j),by have:=h.hk;omega,hc,?_,?_,by simpa[go_sem]using h.y0,by simpa[go_sem]using h.y1,by simpa[go_sem]using h.y2,λj=>(fF _ _ _ _).trans (h.fy j)⟩
 ·rw[tX _ aq];exact h.b0
 ·have:=h.b1;simp[go_sem,this]
 ·rw[tX _ aq];exact h.b2
 ·have h1:=h.good.take (k:=k') (c':=c') (by rw[bC];have:=h.hk;omega) hc hn;rw[i6,dI hk']at h1;exact Rd.setCell h1 hne _
 ·refine oZ.setCell ?_ cP _;rcases h.own with⟨h1,h2⟩|⟨g,cur,h1,h2,h3⟩
  ·refine .inl ⟨h1,?_⟩;dsimp only at h2⊢;have:(ts.take k).take k'=[]:=by rw[h2,List.take_nil]
   rw[i6,dI hk']at this;exact this
  ·exact .inr ⟨g,cur,h1,h2,h3⟩
def NS.act{ts:List Test}(h:NS w B rn a k c x ts W)(x':Nat):NS w B rn a k c x' ts (W.setCell ⟨B,2,none⟩ (.int .u32 x')):=by
 have hne:∀b o,a=some ⟨b,o,none⟩->b≠B:=λb o e=>by have:=h.o b o e;omega
 refine⟨h.ext.setCell h.hB _,h.hB,?_,?_,?_,λj=>(fF _ _ _ _).trans (h.f j),h.hk,h.kc,?_,?_,by simpa[go_sem]using h.y0,by simpa[go_sem]using h.y1,by simpa[go_sem]using h.y2,λj=>(fF _ _ _ _).trans (h.fy j)⟩
 ·rw[tX _ aq];exact h.b0
 ·rw[tX _ aq];exact h.b1
 ·have:=h.b2;simp[go_sem,this]
 ·exact Rd.setCell h.good hne _
 ·exact oZ.setCell h.own cP _
def NS.kept{ts:List Test}(h:NS w B rn a k c x ts W)(hx:Ext W W'):NS w B rn a k c x ts W':=
 ⟨h.ext.trans hx,h.hB,hx.cell h.b0,hx.cell h.b1,hx.cell h.b2,λj=>(dD (a:=⟨B,j,none⟩) (hx.block (k:=B) (aY _ ⟨B,0,none⟩ h.b0))).trans (h.f j),h.hk,h.kc,h.good.ext hx,h.own.ext hx,hx.cell h.y0,hx.cell h.y1,hx.cell h.y2,λj=>(dD (a:=⟨B+1,j,none⟩) (hx.block (k:=B+1) (aY _ ⟨B+1,0,none⟩ h.y0))).trans (h.fy j)⟩
def NS.pre{ts:List Test}(h:NS w B rn a k c x ts W)(hi:k<=i):NS w B rn a k c x (ts.take i) W:=by
 have e:(ts.take i).take k=ts.take k:=by rw[i6,dI hi]
 exact⟨h.ext,h.hB,h.b0,h.b1,h.b2,h.f,by rw[bC];have:=h.hk;omega,h.kc,by rw[e];exact h.good,by rw[e];exact h.own,h.y0,h.y1,h.y2,h.fy⟩
def NS.done{ts:List Test}(h:NS w B rn a k c x ts W)(u0 u1 u2:aA):Ext w (((W.setCell ⟨B+1,0,none⟩ u0).setCell ⟨B+1,1,none⟩ u1).setCell ⟨B+1,2,none⟩ u2)/\nD (((W.setCell ⟨B+1,0,none⟩ u0).setCell ⟨B+1,1,none⟩ u1).setCell ⟨B+1,2,none⟩ u2) ⟨⟨rn,ts.take k,x⟩,a,c⟩/\oZ (((W.setCell ⟨B+1,0,none⟩ u0).setCell ⟨B+1,1,none⟩ u1).setCell ⟨B+1,2,none⟩ u2) w ⟨⟨rn,ts.take k,x⟩,a,c⟩:=by
 have hb:=h.hB;have hne:∀b o,a=some ⟨b,o,none⟩->b≠B+1:=λb o e=>by have:=h.o b o e;omega
 refine⟨((h.ext.setCell (by show _<=B+1;omega) _).setCell (by show _<=B+1;omega) _).setCell (by show _<=B+1;omega) _,?_,?_⟩
 ·have e:(ts.take k).length=k:=by rw[bC];have:=h.hk;omega
  unfold nD PR.v;dsimp only;rw[e];exact Rd.setCell (Rd.setCell (Rd.setCell h.good hne _) hne _) hne _
 ·exact oZ.base (oZ.setCell (oZ.setCell (oZ.setCell h.own gj _) gj _) gj _) aq
def NS.adL{ts:List Test}(h:NS w B rn a k c x ts W)(hj:j<k):∃g,a=some ⟨g,0,none⟩/\W.cell? ⟨g,j*4+3,none⟩=some (.int .u32 ((ts[j]'(by have:=h.hk;omega)).action:Int)):=by have hk:=h.hk;obtain⟨a',c',e,-,hc⟩:=kV h.good;simp only[aU]at e;obtain⟨rfl,-,rfl⟩:=e;obtain⟨b,o,rfl,-,-,-,h4⟩:=hc j cQ;obtain⟨-,rfl⟩:=h.o b o rfl;refine⟨b,rfl,?_⟩;rw[List.getElem_take,cO]at h4;exact h4
def GX{ts:List Test}(h:k<ts):sJ ts x (k+1)=if (ts[k].action==x)=true then sJ ts x k else k+1:=by rw[sJ,bQ,aJ h];rfl
def NS.start{ts:List Test}(hx:Ext w w1)(hB:w.heap.size<=B)(z0:w1.cell? B=some v0)(z1:w1.cell? ⟨B,1,none⟩=some v1)(z2:w1.cell? ⟨B,2,none⟩=some v2)(f:∀j,w1.frozen? ⟨B,j,none⟩=false)(y0:w1.cell? ⟨B+1,0,none⟩=some (.int .u32 0))(y1:w1.cell? ⟨B+1,1,none⟩=some (.slice none 0 0))(y2:w1.cell? ⟨B+1,2,none⟩=some (.int .u32 0))(fy:∀j,w1.frozen? ⟨B+1,j,none⟩=false)(ho:w1.ownsRow (B+2) 137 4 (.slice a ts c) ts (ts.flatMap mg)):NS w B rn a ts c x ts (((w1.setCell B (.int .u32 rn)).setCell ⟨B,1,none⟩ (.slice a ts c)).setCell ⟨B,2,none⟩ (.int .u32 x)):=by
 have hrd:=bY j5 ho;have hne:∀b o,a=some ⟨b,o,none⟩->b≠B:=λb o e=>by
  rcases ho.2 with⟨h1,-⟩|⟨g,cap,cur,h1,hg,-⟩
  ·simp only[aU]at h1;rw[h1.1]at e;cases e
  ·simp only[aU]at h1;rw[h1.1]at e;simp only[dw,gD]at e;omega
 refine⟨((hx.setCell hB _).setCell hB _).setCell hB _,hB,?_,?_,?_,λj=> ?_,aD _,?_,?_,?_,?_,?_,?_,λj=> ?_⟩
 ·simp[go_sem,z0]
 ·simp[go_sem,z1]
 ·simp[go_sem,z2]
 ·rw[fF,fF,fF];exact f j
 ·obtain⟨a',c',e,h1,-⟩:=hrd;simp only[aU]at e;obtain⟨-,-,rfl⟩:=e;exact h1
 ·rw[bZ];exact Rd.setCell (Rd.setCell (Rd.setCell hrd hne _) hne _) hne _
 ·refine oZ.setCell (oZ.setCell (oZ.setCell ?_ cP _) cP _) cP _;rcases ho.2 with⟨h1,h2⟩|⟨g,cap,cur,h1,hg,hh,-⟩
  ·simp only[aU]at h1;exact .inl ⟨h1.1,by rw[bZ];exact bG h2⟩
  ·simp only[aU]at h1;exact .inr ⟨g,cur,h1.1,hg,hh⟩
 ·simp[go_sem,y0]
 ·simp[go_sem,y1]
 ·simp[go_sem,y2]
 ·rw[fF,fF,fF];exact fy j
def pE{base:Nat}{v:aA}(h:W.ownsRow base e n v k zs)(hx:Ext W W'):W'.ownsRow base e n v k zs:=
 fO (S:=λb=>b<W.heap.size) h (Keep.of_below hx (λ_ h=>h)) (λb hb=>(h.lt b hb).2)
def jd{base:Nat}{v:aA}(h:W.ownsRow base e n v k zs):∀g,v.ownBlock=some g->∃cur,W.heap[g]?=some (.cells cur e (0,0)):=λg hg=>by
 rcases h.2 with⟨rfl,-⟩|⟨g',cap,cur,rfl,-,hh,-⟩
 ·cases hg
 ·simp only[Value.ownBlock,dw]at hg;subst hg;exact⟨cur,hh⟩
def IL{row:Option Nat}{base:Nat}{p:PR}(hg:W.grownBy w' row)(hrow:∀k,row=some k->∃cur,W.heap[k]?=some (.cells cur 110 (0,0)))(hp:nD W p)(ho:oZ W base p):nD w' p/\oZ w' base p:=by
 have hne:∀g cur,W.heap[g]?=some (.cells cur 137 (0,0))->some g≠row:=λg cur h e=>by obtain⟨cur',h'⟩:=hrow g e.symm;rw[h]at h';simp at h'
 constructor
 ·obtain⟨a,c,e,h1,h2,h3⟩:=hp;refine⟨a,c,e,h1,h2,λi hi=> ?_⟩;obtain⟨b,o,ea,hat⟩:=h3 i hi;refine⟨b,o,ea,λj hj=> ?_⟩;rcases ho with⟨-,hn⟩|⟨g,cur,e1,-,hh⟩
  ·rw[hn]at hi;cases hi
  ·have e2:p.a=a:=by unfold PR.v at e;simp only[aU]at e;exact e.1
   rw[<-e2,e1]at ea;simp only[dw,gD]at ea;obtain⟨rfl,-⟩:=ea;exact hg.cell (hat j hj) (hne _ cur hh)
 ·rcases ho with ho|⟨g,cur,e1,hb,hh⟩
  ·exact .inl ho
  ·exact .inr ⟨g,cur,e1,hb,(hg.block g (aB.1 hh).1 (hne _ cur hh)).trans hh⟩
def zV{base:Nat}{p:PR}(hp:nD W p)(ho:oZ W base p)(hq:q.block<base)(u:aA):nD (W.setCell q u) p/\oZ (W.setCell q u) base p:=by
 refine⟨Rd.setCell hp (λb o e=> ?_) u,oZ.setCell ho hq u⟩;rcases ho with⟨h1,-⟩|⟨g,cur,h1,h2,-⟩
 ·rw[h1]at e;cases e
 ·rw[h1]at e;simp only[dw,gD]at e;omega
structure OS(w:ay)(ar:Int)(df:Nat)(v:aA)(ps:List PR)(W:ay):Prop where
 ext:Ext w W
 b0:W.cell? w=some (.int .i64 ar)
 b1:W.cell? ⟨w,1,none⟩=some v
 b2:W.cell? ⟨w,2,none⟩=some (.int .u32 df)
 f:∀j,W.frozen? ⟨w,j,none⟩=false
 own:W.ownsRow (w+1) 110 3 v ps (ps.flatMap qx)
 good:∀p∈ps,nD W p/\oZ W (w+1) p
def OS.start(w:ay)(ar:Int)(df:Nat)(t:dz):OS w ar df (.slice none 0 0) [] (w.alloc (.cells #[.int .i64 ar,.slice none 0 0,.int .u32 df] t)):=
 ⟨(aj _).alloc _,by simp[go_sem],by simp[go_sem],by simp[go_sem],λj=>by simp[go_sem],dB _ _ _ _,λp hp=>by cases hp⟩
def OS.lt{v:aA}{ps:List PR}(h:OS w ar df v ps W):w.heap.size<W:=aY _ w h.b0
def OS.kept{v:aA}{ps:List PR}(h:OS w ar df v ps W)(hx:Ext W W'):OS w ar df v ps W':=
 ⟨h.ext.trans hx,hx.cell h.b0,hx.cell h.b1,hx.cell h.b2,λj=>(dD (a:=⟨w,j,none⟩) (hx.block h.lt)).trans (h.f j),pE h.own hx,λp hp=>⟨(h.good p hp).1.ext hx,(h.good p hp).2.ext hx⟩⟩
def OS.size{v:aA}{ps:List PR}(h:OS w ar df v ps W)(hg:W.grownBy w' v.ownBlock)(j:Nat)(u:aA)(hu:W.cell? ⟨w,j,none⟩=some u):w'.cell? ⟨w,j,none⟩=some u:=
 hg.cell hu (λe=>by have:=(h.own.lt _ e.symm).1;dsimp only at this;omega)
def OS.frz{v:aA}{ps:List PR}(h:OS w ar df v ps W)(hg:W.grownBy w' v.ownBlock)(j:Nat):w'.frozen? ⟨w,j,none⟩=false:=
 (dD (a:=⟨w,j,none⟩) (hg.block w h.lt (λe=>by have:=(h.own.lt _ e.symm).1;omega))).trans (h.f j)
def OS.grown{v:aA}{ps:List PR}{p:PR}(h:OS w ar df v ps W)(hp:nD W p)(ho:oZ W (w+1) p)(hg:W.grownBy w' v.ownBlock)(hown:w'.ownsRow (w+1) 110 3 v' (ps+1) ((ps++[p]).flatMap qx)):OS w ar df v' (ps++[p]) (w'.setCell ⟨w,1,none⟩ v'):=by
 have hx:Ext w w':=h.ext.grown hg (λk e=>by have:=(h.own.lt k e).1;omega);refine⟨hx.setCell (aD _) _,?_,?_,?_,λj=>(fF _ _ _ _).trans (h.frz hg j),by rw[aH];exact nk hown cP _,λq hq=> ?_⟩
 ·rw[tX _ aq];exact h.size hg 0 _ h.b0
 ·exact World.cell?_setCell_same' _ _ _ (by rw[h.size hg 1 _ h.b1];rfl)
 ·rw[tX _ aq];exact h.size hg 2 _ h.b2
 ·have hh:nD w' q/\oZ w' (w.heap.size+1) q:=by
   rcases dJ.1 hq with hq|hq
   ·exact IL hg (jd h.own) (h.good q hq).1 (h.good q hq).2
   ·rw[e8]at hq;subst hq;exact IL hg (jd h.own) hp ho
  exact zV hh.1 hh.2 cP _
def RF(W:ay)(base:Nat)(v:aA)(ps:List PR):Prop:=W.ownsRow base 110 3 v ps (ps.flatMap qx)/\∀p∈ps,nD W p/\oZ W base p
def RF.set{base:Nat}{v:aA}{ps:List PR}(h:RF W base v ps)(hq:q.block<base)(u:aA):RF (W.setCell q u) base v ps:=
 ⟨nk h.1 hq u,λp hp=>zV (h.2 p hp).1 (h.2 p hp).2 hq u⟩
def RF.base{v:aA}{ps:List PR}(h:RF W b v ps)(hb:b'<=b):RF W b' v ps:=⟨kK h.1 hb,λp hp=>⟨(h.2 p hp).1,(h.2 p hp).2.base hb⟩⟩
def RF.ext{v:aA}{ps:List PR}(h:RF W b v ps)(hx:Ext W W'):RF W' b v ps:=⟨pE h.1 hx,λp hp=>⟨(h.2 p hp).1.ext hx,(h.2 p hp).2.ext hx⟩⟩
def RF.rd{v:aA}{ps:List PR}(h:RF W b v ps):JO W 3 (FV W) v (ps.map PR.r):=ML (bY mR h.1) (λp hp=>(h.2 p hp).1)
def OS.rf{v:aA}{ps:List PR}(h:OS w ar df v ps W):RF W (w+1) v ps:=⟨h.own,h.good⟩
end lC
def qn(h:zP:=by
 obtain⟨hlt,hk⟩:=aB.1 h;show(W.heap.modify B _)[B]?=_;rw[dL db,Array.getElem_modify_self,hk]
 rfl):zP:=h
namespace mV
open jO (Sy gB eH iM)
open lC (nk pE jd tX)
variable{B b2 e e1 e2 k k1 k2 lb n n1 n2 t:Nat}{W W' a b w' w0:ay}{X Y:Nat->Prop}{row:Option Nat}{u v' v1 v2:aA}{z1 z2 zs:List aA}
structure Jm where
 at_:Nat
 code:Nat
 th:Nat
 el:Option Nat
 bt:Nat
 bw:Nat
 ba:Nat
 bc:Nat
 bo:Nat
def pv(b:Nat):aA:= .pointer (some b)
def Jm.val(j:Jm):aA:= .func (.func 282) #[] #[pv j.bt,pv j.bw,pv j.ba,pv j.bc,pv j.bo]
def ZY(j:Jm):List aA:= [j.val]
def Dt(j:Jm):(ZY j).length=1:=rfl
def adx(j:Jm):∀u∈ZY j,u.oneCell'=true:=by intro u hu;simp[ZY]at hu;rw[hu];rfl
theorem ajp:(Tryz.prog.info? 407).map (λi=>(i.zero,i.size,i.bytes))=some (some (.agg #[.int .u16 0,.int .u32 0,.int .i64 0,.int .i64 0]),4,24):=ax
theorem ajs:(Tryz.prog.info? 1).map (λi=>(i.zero,i.size,i.bytes))=some (some (.nilFunc),1,8):=ax
structure JOk(W:ay)(B:Nat)(j:Jm):Prop where
 t:Boxed W j.bt 337 (pv j.th)
 w:Boxed W j.bw 333 (pv B)
 a:Boxed W j.ba 3 (.int .i64 j.at_)
 c:Boxed W j.bc 171 (.int .u16 j.code)
 o:Boxed W j.bo 337 (.pointer (j.el.map λb=>⟨b,0,none⟩))
structure WK(X:Nat->Prop)(W W':ay):Prop where
 size:W.heap.size<=W'
 kept:∀k cs t fr,¬X k->W.heap[k]?=some (.cells cs t fr)->t≠407->t≠1->t≠336->W'.heap[k]?=some (.cells cs t fr)
def WK.refl(X:Nat->Prop)(W:ay):WK X W W:=⟨aD _,λ_ _ _ _ _ h _ _ _=>h⟩
def WK.trans{X:Nat->Prop}{a b c:ay}(h:WK X a b)(k:WK X b c):WK X a c:=⟨aL h.size k.size,λi cs t fr hx h0 h1 h2 h3=>k.kept i cs t fr hx (h.kept i cs t fr hx h0 h1 h2 h3) h1 h2 h3⟩
def WK.mono(h:WK X a b)(hxy:∀k,X k->Y k):WK Y a b:=⟨h.size,λi cs t fr hx=>h.kept i cs t fr (λhh=>hx (hxy i hh))⟩
def WK.ext(h:Ext a b):WK X a b:=⟨h.size,λ_ _ _ _ _ h0 _ _ _=>(h.block (aB.1 h0).1).trans h0⟩
def WK.boxed(h:WK X a b){v:aA}(hb:Boxed a k t v)(hx:¬X k)(h1:t≠407)(h2:t≠1)(h3:t≠336):Boxed b k t v:=h.kept k _ _ _ hx hb h1 h2 h3
def JOk.kept(h:WK X a b){j:Jm}(hj:JOk a B j)(hX:∀k,X k->∃v,Boxed a k 339 v):JOk b B j:=by
 have hn:∀(k t:Nat) (v:aA),Boxed a k t v->t≠339->¬X k:=λk t v hb ht hx=>by obtain⟨u,hu⟩:=hX k hx;have e:=bV (hb.symm.trans hu);simp only[iT]at e;exact ht e.2.1
 exact⟨h.boxed hj.t (hn _ _ _ hj.t az) az az az,h.boxed hj.w (hn _ _ _ hj.w az) az az az,h.boxed hj.a (hn _ _ _ hj.a az) az az az,
  h.boxed hj.c (hn _ _ _ hj.c az) az az az,h.boxed hj.o (hn _ _ _ hj.o az) az az az⟩
structure WS(w0:ay)(B:Nat)(v v2:aA)(ls:List Sy)(js:List Jm)(W:ay):Prop where
 ext:Ext w0 W
 hB:w0.heap.size<=B
 box:W.heap[B]?=some (.cells #[v,v2] 336 (0,0))
 own:W.ownsRow (B+1) 407 4 v ls (ls.flatMap gB)
 late:W.ownsRow (B+1) 1 1 v2 js (js.flatMap ZY)
 jok:∀j∈js,JOk W B j/\j.at_<ls.length
def WS.lt{v:aA}{ls:List Sy}{js:List Jm}(h:WS w0 B v v2 ls js W):B<W.heap.size:=(aB.1 h.box).1
def WS.b0{v:aA}{ls:List Sy}{js:List Jm}(h:WS w0 B v v2 ls js W):W.cell? B=some v:=by simp[World.cell?,h.box]
def WS.b1{v:aA}{ls:List Sy}{js:List Jm}(h:WS w0 B v v2 ls js W):W.cell? ⟨B,1,none⟩=some v2:=by simp[World.cell?,h.box]
def WS.f{v:aA}{ls:List Sy}{js:List Jm}(h:WS w0 B v v2 ls js W)(j:Nat):W.frozen? ⟨B,j,none⟩=false:=by simp[World.frozen?,h.box]
def Ap{b1:Nat}(h1:W.ownsRow b1 e1 n1 v1 k1 z1)(h2:W.ownsRow b2 e2 n2 v2 k2 z2)(he:e1≠e2)(g:Nat)(hg:v1.ownBlock=some g):some g≠v2.ownBlock:=λe=>by obtain⟨c1,h3⟩:=jd h1 g hg;obtain⟨c2,h4⟩:=jd h2 g e.symm;have:=bV (h3.symm.trans h4);simp only[iT]at this;exact he this.2.1
def tK{base:Nat}{v:aA}(h:W.ownsRow base e n v k zs)(hg:W.grownBy w' row)(hne:∀g,v.ownBlock=some g->some g≠row):w'.ownsRow base e n v k zs:=by
 refine⟨h.1,?_⟩;rcases h.2 with h2|⟨g,cap,cur,rfl,h3,h4,r⟩
 ·exact .inl h2
 ·exact .inr ⟨g,cap,cur,rfl,h3,(hg.block g (aB.1 h4).1 (hne g rfl)).trans h4,r⟩
def adR{v:aA}(h:W.heap[B]?=some (.cells #[v,v2] t (0,0)))(u:aA):(W.setCell B u).heap[B]?=some (.cells #[u,v2] t (0,0)):=qn
def adQ{v:aA}(h:W.heap[B]?=some (.cells #[v,v2] t (0,0)))(u:aA):(W.setCell ⟨B,1,none⟩ u).heap[B]?=some (.cells #[v,u] t (0,0)):=qn
def size_set(W:ay)(p:Addr)(u:aA):(W.setCell p u).heap.size=W.heap.size:=aE
def WK.step{cur:Array aA}(hB:W.heap[B]?=some (.cells cur 336 (0,0)))(hg:W.grownBy w' row)(hrow:∀g,row=some g->∃c,W.heap[g]?=some (.cells c t (0,0)))(ht:t=407\/t=1)(i:Nat)(u:aA):WK (λ_=>False) W (w'.setCell ⟨B,i,none⟩ u):=by
 refine⟨by rw[size_set];exact hg.size,λk cs t' fr _ h0 h1 h2 h3=> ?_⟩;have hkB:k≠B:=λe=>by rw[e,hB]at h0;have:=bV h0;simp only[iT]at this;exact h3 this.2.1.symm
 have hkr:some k≠row:=λe=>by
  obtain⟨c,h4⟩:=hrow k e.symm;rw[h4]at h0;have:=bV h0;simp only[iT]at this;rcases ht with ht|ht
  ·exact h1 (by rw[<-this.2.1,ht])
  ·exact h2 (by rw[<-this.2.1,ht])
 exact(aX _ _ _ k (λe=>hkB e)).trans ((hg.block k (aB.1 h0).1 hkr).trans h0)
def WS.put{v:aA}{ls ys:List Sy}{js:List Jm}(h:WS w0 B v v2 ls js W)(hg:W.grownBy w' v.ownBlock)(hown:w'.ownsRow (B+1) 407 4 v' (ls.length+ys) ((ls++ys).flatMap gB)):WS w0 B v' v2 (ls++ys) js (w'.setCell B v')/\WK (λ_=>False) W (w'.setCell B v'):=by have hk:=WK.step h.box hg (λg e=>jd h.own g e) (.inl rfl) 0 v';have hb:w'.heap[B]?=some (.cells #[v,v2] 336 (0,0)):=(hg.block B h.lt (λe=>by have:=(h.own.lt _ e.symm).1;omega)).trans h.box;refine⟨⟨(h.ext.grown hg (λk e=>by have:=(h.own.lt k e).1;have:=h.hB;omega)).setCell h.hB _,h.hB,adR hb v',by rw[aH];exact nk hown cP _,nk (tK h.late hg (Ap h.late h.own az)) cP _,λj hj=> ?_⟩,hk⟩;obtain⟨h1,h2⟩:=h.jok j hj;exact⟨h1.kept hk (λk hk=>hk.elim),by rw[aH];omega⟩
def WS.later{v:aA}{ls:List Sy}{js:List Jm}{j:Jm}(h:WS w0 B v v2 ls js W)(hg:W.grownBy w' v2.ownBlock)(hj:JOk W B j)(hjl:j.at_<ls.length)(hown:w'.ownsRow (B+1) 1 1 v' (js+1) ((js++[j]).flatMap ZY)):WS w0 B v v' ls (js++[j]) (w'.setCell ⟨B,1,none⟩ v')/\WK (λ_=>False) W (w'.setCell ⟨B,1,none⟩ v'):=by
 have hk:=WK.step h.box hg (λg e=>jd h.late g e) (.inr rfl) 1 v';have hb:w'.heap[B]?=some (.cells #[v,v2] 336 (0,0)):=(hg.block B h.lt (λe=>by have:=(h.late.lt _ e.symm).1;omega)).trans h.box;refine⟨⟨(h.ext.grown hg (λk e=>by have:=(h.late.lt k e).1;have:=h.hB;omega)).setCell h.hB _,h.hB,adQ hb v',nk (tK h.own hg (Ap h.own h.late az)) cP _,by rw[aH];exact nk hown cP _,λi hi=> ?_⟩,hk⟩;rcases dJ.1 hi with hi|hi
 ·obtain⟨h1,h2⟩:=h.jok i hi;exact⟨h1.kept hk (λk hk=>hk.elim),h2⟩
 ·rw[e8]at hi;subst hi;exact⟨hj.kept hk (λk hk=>hk.elim),hjl⟩
def WS.kept{v:aA}{ls:List Sy}{js:List Jm}(h:WS w0 B v v2 ls js W)(hx:Ext W W'):WS w0 B v v2 ls js W':=
 ⟨h.ext.trans hx,h.hB,(hx.block h.lt).trans h.box,pE h.own hx,pE h.late hx,λj hj=>⟨(h.jok j hj).1.kept (WK.ext (X:=λ_=>False) hx) (λ_ hk=>hk.elim),(h.jok j hj).2⟩⟩
def WS.here{v:aA}{ls:List Sy}{js:List Jm}(h:WS w0 B v v2 ls js W)(hl:Boxed W lb 339 u)(hlb:w0.heap.size<=lb)(u':aA):WS w0 B v v2 ls js (W.setCell lb u')/\WK (λk=>k=lb) W (W.setCell lb u')/\Boxed (W.setCell lb u') lb 339 u':=by
 have hk:WK (λk=>k=lb) W (W.setCell lb u'):=⟨by rw[size_set];exact aD _,λk cs t fr hx h0 _ _ _=>(aX _ _ _ k (λe=>hx e)).trans h0⟩;have hne:∀(k t:Nat) (cs:Array aA) (fr:Nat×Nat),W.heap[k]?=some (.cells cs t fr)->t≠339->k≠lb:=λk t cs fr h0 ht e=>by rw[e]at h0;have:=bV (h0.symm.trans hl);simp only[iT]at this;exact ht this.2.1
 have hrow:∀ {base e n k:Nat} {v:aA} {zs:List aA},W.ownsRow base e n v k zs->e≠339->(W.setCell lb u').ownsRow base e n v k zs:=λhr he=>by refine tK hr (grownBy_setCell' W lb u') (λg hg e=> ?_);obtain⟨cur,h0⟩:=jd hr g hg;exact hne g _ _ _ h0 he (bV e)
 refine⟨⟨h.ext.setCell hlb _,h.hB,(aX _ _ _ B (λe=>hne B _ _ _ h.box az e)).trans h.box,hrow h.own az,hrow h.late az,λj hj=>⟨(h.jok j hj).1.kept hk (λk e=>⟨u,by rw[e];exact hl⟩),(h.jok j hj).2⟩⟩,hk,hl.set u'⟩
def WS.start(w:ay):WS w w (.slice none 0 0) (.slice none 0 0) [] [] (w.alloc (.cells #[.slice none 0 0,.slice none 0 0] 336)):=
 ⟨(aj _).alloc _,aD _,World.alloc_heap_new w _,dB _ _ _ _,dB _ _ _ _,λj hj=>by cases hj⟩
end mV
def pA(h:zP:=by rintro w' ⟨v',hs,hk⟩;have HH:=ah (ak hs (WK.after _ hk));clear hs hk;go_wp2_with fail;go_end0;exact⟨rfl,v',HH.o⟩):zP:=h
namespace mV
open jO (Sy gB eH iM)
open lC (nk pE jd tX)
variable{B lb:Nat}{W a b w0:ay}{u v2:aA}
theorem kT{v:aA}{ls ys:List Sy}{js:List Jm}(h:WS w0 B v v2 ls js W)(hu:Rd W 4 gB u ys)(hl:ls.length+ys<=1000000):Calls prog 281 #[pv B,u] W λe w'=>e= .returned (.tuple #[])/\∃v',WS w0 B v' v2 (ls++ys) js w'/\WK (λ_=>False) W w':=by
 have HS:=ah h;have HU:=ah hu;have b0:=h.b0;have hbb:=h.lt;obtain⟨au,cu,rfl⟩:=bU h.own;obtain⟨av,cv,rfl,-,-⟩:=jO.gJ hu;clear h hu;unfold pv;go_in
 go_wp2_with(at_builtin
             refine iX rfl (.tmp 8) (.tmp 9) _ rfl underlying215 ajp rfl az eH iM (B+1) _ _ ls ys rfl rfl HS.o.own HU.o aq az aq ?_;intro EN EJ w5 lM hg5;obtain⟨hs5,hk5⟩:=HS.o.put hg5 lM;have c0:w5.cell? B=some (.slice au ls cu):=hg5.cell b0 (λe=>by have:=(HS.o.own.lt _ e.symm).1;dsimp only at this;omega);have f0:w5.frozen? B=false:=(dD (a:=⟨B,0,none⟩) (hg5.block B hbb (λe=>by have:=(HS.o.own.lt _ e.symm).1;omega))).trans (HS.o.f 0);have hb5:=aY _ _ c0;have yS:=ah hs5;have HK5:=ah hk5;clear lM hg5 hs5 hk5)
 go_end0;exact⟨rfl,⟨_,yS.o⟩,HK5.o⟩
def MJ(W:ay)(ys:List Sy)(t:dz)(g:Nat)(hg:g=W.heap.size):Rd (W.alloc (.cells (ys.flatMap gB).toArray t)) 4 gB (.slice (some g) ys ys) ys:=gI eH W ys t g hg
def WK.alloc{X:Nat->Prop}{a b:ay}(h:WK X a b)(o:Obj):WK X a (b.alloc o):=h.trans (WK.ext ((aj _).alloc o))
def WK.after{X:Nat->Prop}(o:Obj)(h:WK X (a.alloc o) b):WK X a b:=(WK.ext ((aj _).alloc o)).trans h
theorem mO{v:aA}{ls:List Sy}{js:List Jm}(h:WS w0 B v v2 ls js W)(hl:ls.length<=100000)(k:Nat):Calls prog 231 #[pv B,.int .u32 k] W λe w'=>e= .returned (.tuple #[])/\∃v',WS w0 B v' v2 (ls++[⟨32,k,0,0⟩]) js w'/\WK (λ_=>False) W w':=by have HS:=ah h;clear h;unfold pv;go_in;go_wp2_with fail;refine ap (kT (ys:= [⟨32,k,0,0⟩]) (HS.o.kept ((aj W).alloc _)) (MJ W [⟨32,k,0,0⟩] _ _ rfl) bp) ?_;exact pA
theorem lD{v:aA}{ls:List Sy}{js:List Jm}(h:WS w0 B v v2 ls js W)(hl:ls.length<=100000)(k:Nat):Calls prog 235 #[pv B,.int .u32 k] W λe w'=>e= .returned (.tuple #[])/\∃v',WS w0 B v' v2 (ls++[⟨6,k,0,0⟩]) js w'/\WK (λ_=>False) W w':=by have HS:=ah h;clear h;unfold pv;go_in;go_wp2_with fail;refine ap (kT (ys:= [⟨6,k,0,0⟩]) (HS.o.kept ((aj W).alloc _)) (MJ W [⟨6,k,0,0⟩] _ _ rfl) bp) ?_;exact pA
theorem iy{v:aA}{ls:List Sy}{js:List Jm}(h:WS w0 B v v2 ls js W)(hb:Boxed W lb 339 u)(hlb:w0.heap.size<=lb):Calls prog 234 #[pv B,pv lb] W λe w'=>e= .returned (.tuple #[])/\WS w0 B v v2 ls js w'/\WK (λk=>k=lb) W w'/\Boxed w' lb 339 (.int .i64 ls):=by have HH:=ah (h.here hb hlb (.int .i64 ls));have b0:=h.b0;have hbb:=h.lt;have c0:=hb.cell;have f0:=hb.frozen;have hll:=hb.lt;obtain⟨au,cu,rfl⟩:=bU h.own;clear h hb;unfold pv;go_in;go_wp2_with fail;go_end0;exact⟨rfl,HH.o⟩
end mV
def ka(h:zP:=by
 go_wp2_with(go_quiet (fail));go_wp2;obtain⟨ht1,ht2⟩:=XO.o _ Jy.o;refine aM (v:= .agg #[.int .u32 rn,.slice (some g) k cc,.int .u32 x]) cE rfl ?_;obtain⟨q1,q2,q3⟩:=(HS.o.kept ((aj wr).drewN nq)).done (.int .u32 rn) (.slice (some g) k cc) (.int .u32 x);refine⟨(some g),cc,by rw[ht1],q1,?_,?_⟩
 ·rw[ht2];exact q2
 ·rw[ht2];exact q3):zP:=h
def iv(h:zP:=by
 rw[hxa]at hst hq;simp only[if_true]at hst;have akQ:=ah hxa;have He4:=ah e4;clear hxa e4;have HJ:=ah hj;have HE5:=ah e5;clear hj e5;have HEQ:=ah (heq.trans hst);clear heq hst h0;go_wp2_with(go_quiet (fail));go_wp2;go_roundw
 case rel=>exact⟨j,by rw[HE5.o],by have:=(HS.o.kept ((aj wr).drewN nq)).cut (k':=j) (c':=cc) fe fe (λh=>by cases h);have e:=HJ.o;rw[show k-1=j from aq];exact this,HEQ.o⟩
 case measure=>exact gO):zP:=h
def fe(h:zP:=by have:=HJ.o;omega):zP:=h
def cE(h:zP:=by first|(simp[results,results247,go_sem,y0,y1,y2];done)|(simp[results,results247,go_sem,y0,y1,y2];rfl)):zP:=h
namespace lC
theorem M2(r:Rule)(v:aA)(hr:XG r)(hl:r.tests.length<=1000)(w:ay)(hv:Rd w 4 mg v r.tests):Calls prog 247 #[.agg #[.int .u32 r.nr,v,.int .u32 r.action]] w λe w'=>∃a c,e= .returned (.agg #[.int .u32 ((pV r).nr:Int),.slice a (pV r).tests.length c,.int .u32 ((pV r).action:Int)])/\Ext w w'/\nD w' ⟨pV r,a,c⟩/\oZ w' w ⟨pV r,a,c⟩:=by
 have hN:pV r=⟨r.nr,uN (mH r.tests r.action).1 (mH r.tests r.action).2,(mH r.tests r.action).2⟩:=rfl;rw[hN];obtain⟨rn,ts,ra⟩:=r;dsimp only at *;have hT:=λW (hx:Ext w W)=>Tj ⟨rn,ts,ra⟩ v cP W (hv.ext hx)
 have hI:=λv' W (h:Rd W 4 mg v' ts)=>Kn v' ts hr.l hr.t W h
 dsimp only at hT;obtain⟨av,cv,rfl,-,-⟩:=kV hv;obtain⟨cs,x,hcut⟩:∃cs x,mH ts ra=(cs,x):=⟨_,_,rfl⟩;rw[hcut];dsimp only;have hcl:=uy ts ra;rw[hcut]at hcl;dsimp only at hcl;have hend:∀k,sJ cs x cs.length=k->(uN cs x).length=k/\uN cs x=cs.take k:=λk hk=>by have:=OG cs x cs.length;unfold uN;rw[hk];exact⟨by rw[bC];omega,rfl⟩
 have hcase:=Xz ts ra 0;simp only[cO]at hcase;rcases hcase with⟨hi,hc⟩|⟨i,hil,hi,hc⟩
 all_goals
  rw[hi]at hI;rw[hcut]at hc;clear hi;have XO:=ah hend;clear hend;have HC1:=ah (Prod.mk.inj hc).1;have HC2:=ah (Prod.mk.inj hc).2;clear hc;have HCL:=ah hcl;have aw8:=ah hcut;clear hcl hcut;have vV:=ah hT;have AZ:=ah hI;clear hT hI;have JQ:=ah hN;have Hhr:=ah hr;clear hN hr hv;go_in;go_wp2_with fail;refine(vV.o _ (((aj _).alloc _).alloc _)).mono ?_;rintro e w1 ⟨a1,c1,rfl,ho,hx1⟩;have z0:=hx1.cell (p:=w) ce;have z1:=hx1.cell (p:=⟨w,1,none⟩) ce;have z2:=hx1.cell (p:=⟨w,2,none⟩) ce;have f:∀j,w1.frozen? ⟨w,j,none⟩=false:=λj=>(dD (hx1.block bp)).trans cq
  have y0:=hx1.cell (p:=⟨w+1,0,none⟩) ce;have y1:=hx1.cell (p:=⟨w+1,1,none⟩) ce;have y2:=hx1.cell (p:=⟨w+1,2,none⟩) ce;have fy:∀j,w1.frozen? ⟨w+1,j,none⟩=false:=λj=>(dD (hx1.block aE)).trans cq
  have HS0:=ah (NS.start (rn:=rn) (x:=ra) ((((aj w).alloc _).alloc _).trans hx1) (aD _) z0 z1 z2 f y0 y1 y2 fy (kK ho aE));have f0:=f 0;have f1:=f 1;have f2:=f 2;clear hx1 ho f fy y0 y1 y2;go_wp2_with fail;generalize hW2:World.setCell _ _ _=W2;rw[hW2]at HS0;clear hW2 z0 z1 z2 f0 f1 f2;refine ap (AZ.o _ _ (by have:=HS0.o.good;rw[bZ]at this;exact this)) ?_;intro w2 hx2;have HS2:=ah (HS0.o.kept hx2);clear hx2;have b1:=HS2.o.b1;have hb:=aY _ _ b1
 ·go_wp2_with fail;obtain⟨W3,hW3⟩:∃W3,W3=w2:=⟨_,rfl⟩;rw[<-hW3];obtain⟨cc,hcc⟩:∃cc,cc=c1:=⟨_,rfl⟩;have wZ:Hid (NS w w rn a1 cs cc x cs W3):=by rw[hW3,HC1.o,HC2.o,hcc];exact HS2
  have HL:Hid ((ts:Int)=cs):=ah (by rw[HC1.o]);rw[HL.o];clear hcc hW3 b1 hb;go_loopw [4] (λn wr=>∃k:Nat,n= .int .i64 k/\NS w w rn a1 k cc x cs wr/\sJ cs x cs.length=sJ cs x k) (λn _=>(intOf n).toNat)
  case atStart=>exact⟨cs.length,rfl,wZ.o,rfl⟩
  case round=>
   obtain⟨k,rfl,hs,heq⟩:=hrel;have HS:=ah hs;have hk:=hs.hk;have b0:=hs.b0;have b1:=hs.b1;have b2:=hs.b2;have f1:=hs.f 1;have y0:=hs.y0;have y1:=hs.y1;have y2:=hs.y2;have fy0:=hs.fy 0;have fy1:=hs.fy 1;have fy2:=hs.fy 2;have kc:=hs.kc;have hbb:=aY _ _ b1;have hby:=aY _ _ y1;have hlc:=HCL.o;rcases Nat.eq_zero_or_pos k with h0|h0
   ·have d0:decide (0<k)=false:=aT aq;have d1:decide ((0:Int)<k)=false:=aT aq;have heq2:sJ cs x cs.length=k:=by rw[heq,h0];rfl
    clear hs;have j9:=ah heq;have Jy:=ah heq2;have Oo:=ah h0;clear heq heq2 h0;go_wp2_with(go_quiet (fail));go_wp2;obtain⟨ht1,ht2⟩:=XO.o _ Jy.o;refine aM (v:= .agg #[.int .u32 rn,.slice a1 k cc,.int .u32 x]) cE rfl ?_;obtain⟨q1,q2,q3⟩:=(HS.o.kept ((aj wr).drewN nq)).done (.int .u32 rn) (.slice a1 k cc) (.int .u32 x);refine⟨a1,cc,by rw[ht1],q1,?_,?_⟩
    ·rw[ht2];exact q2
    ·rw[ht2];exact q3
   ·obtain⟨j,hj⟩:∃j,k=j+1:=⟨k-1,aq⟩;have hjl:j<cs:=aq;have d0:decide (0<k)=true:=aQ aq;have d1:decide ((0:Int)<k)=true:=aQ aq;obtain⟨g',hg',t3⟩:=hs.adL (j:=j) aq;subst hg';have hst:=GX (x:=x) hjl;rw[<-hj]at hst;have b4:(0:Int)<=k-1:=aq;have b5:(k:Int)-1<k:=aq;have e4:k-1=j:=aq;have e5:(k:Int)-1=j:=aq;generalize(cs[j]'hjl).action=xa at *;rw[<-e4]at t3;have hq:((xa:Int)==(x:Int))=(xa==x):=by rw[bB];simp;omega
    clear hs;cases hxa:(xa==x)
    ·rw[hxa]at hst hq;have heq2:sJ cs x cs.length=k:=by rw[heq,hst];rfl
     have j9:=ah heq;have Jy:=ah heq2;clear heq heq2;have Oo:=ah h0;have ag1:=ah hst;clear h0 hst;have akQ:=ah hxa;have Hhj:=ah hj;clear hxa hj;have He4:=ah e4;have He5:=ah e5;clear e4 e5;go_wp2_with(go_quiet (fail));go_wp2;obtain⟨ht1,ht2⟩:=XO.o _ Jy.o;refine aM (v:= .agg #[.int .u32 rn,.slice (some g') k cc,.int .u32 x]) cE rfl ?_;obtain⟨q1,q2,q3⟩:=(HS.o.kept ((aj wr).drewN nq)).done (.int .u32 rn) (.slice (some g') k cc) (.int .u32 x);refine⟨(some g'),cc,by rw[ht1],q1,?_,?_⟩
     ·rw[ht2];exact q2
     ·rw[ht2];exact q3
    ·exact iv
 ·obtain⟨g,rfl,ht3⟩:=HS2.o.adL hil;have b2:=HS2.o.b2;have f1:=HS2.o.f 1;have f2:=HS2.o.f 2;have kc:=HS2.o.kc;obtain⟨cc,hcc⟩:∃cc,cc=i:=⟨_,rfl⟩;rw[<-HC2.o]at ht3;go_wp2_with fail;generalize hW3:World.setCell _ _ _=W3;have wZ:Hid (NS w w rn (some g) cs cc x cs W3):=by
   have hci:cs.length=i:=by rw[HC1.o,bC];omega
   have hk:i<=ts:=aq;have h1:=((HS2.o.act x).cut (k':=i) (c':=i) hk (aD _) (λh=>by cases h)).pre (i:=i) (aD _);rw[hW3,<-HC1.o]at h1;rw[hci,hcc];exact h1
  have HL:Hid ((i:Int)=cs):=ah (by rw[HC1.o,bC];omega);rw[HL.o];clear hcc hW3 b1 hb b2 f1 f2 kc ht3;go_loopw [4] (λn wr=>∃k:Nat,n= .int .i64 k/\NS w w rn (some g) k cc x cs wr/\sJ cs x cs.length=sJ cs x k) (λn _=>(intOf n).toNat)
  case atStart=>exact⟨cs.length,rfl,wZ.o,rfl⟩
  case round=>
   obtain⟨k,rfl,hs,heq⟩:=hrel;have HS:=ah hs;have hk:=hs.hk;have b0:=hs.b0;have b1:=hs.b1;have b2:=hs.b2;have f1:=hs.f 1;have y0:=hs.y0;have y1:=hs.y1;have y2:=hs.y2;have fy0:=hs.fy 0;have fy1:=hs.fy 1;have fy2:=hs.fy 2;have kc:=hs.kc;have hbb:=aY _ _ b1;have hby:=aY _ _ y1;have hlc:=HCL.o;rcases Nat.eq_zero_or_pos k with h0|h0
   ·have d0:decide (0<k)=false:=aT aq;have d1:decide ((0:Int)<k)=false:=aT aq;have heq2:sJ cs x cs.length=k:=by rw[heq,h0];rfl
    clear hs;have j9:=ah heq;have Jy:=ah heq2;have Oo:=ah h0;clear heq heq2 h0;exact ka
   ·obtain⟨j,hj⟩:∃j,k=j+1:=⟨k-1,aq⟩;have hjl:j<cs:=aq;have d0:decide (0<k)=true:=aQ aq;have d1:decide ((0:Int)<k)=true:=aQ aq;obtain⟨g',hg',t3⟩:=hs.adL (j:=j) aq;obtain rfl:g=g':=by simpa using hg'
    have hst:=GX (x:=x) hjl;rw[<-hj]at hst;have b4:(0:Int)<=k-1:=aq;have b5:(k:Int)-1<k:=aq;have e4:k-1=j:=aq;have e5:(k:Int)-1=j:=aq;generalize(cs[j]'hjl).action=xa at *;rw[<-e4]at t3;have hq:((xa:Int)==(x:Int))=(xa==x):=by rw[bB];simp;omega
    clear hs;cases hxa:(xa==x)
    ·rw[hxa]at hst hq;have heq2:sJ cs x cs.length=k:=by rw[heq,hst];rfl
     have j9:=ah heq;have Jy:=ah heq2;clear heq heq2;have Oo:=ah h0;have ag1:=ah hst;clear h0 hst;have akQ:=ah hxa;have Hhj:=ah hj;clear hxa hj;have He4:=ah e4;have He5:=ah e5;clear e4 e5;exact ka
    ·exact iv
end lC
def dE(h:zP:=by first|(simp[results,results179,go_sem,y0,y1,y2];done)|(simp[results,results179,go_sem,y0,y1,y2];rfl)):zP:=h
namespace lC
def T9{df:Nat}{rs:List Rule}{k:Nat}(h:k<rs):qL df (rs.take (k+1))=qL df (rs.take k)++if FB df (pV rs[k])=true then [pV rs[k]]else []:=by
 rw[bE h];unfold qL;rw[bL,jy]
 congr 1
 rw[List.map_singleton,List.filter_cons]
 rfl
theorem aaC(f:Filter)(u:aA)(hf:yJ f)(hm:kU f=false)(w:ay)(hu:JO w 3 (FV w) u f.rules):Calls prog 179 #[.agg #[.int .i64 f.jh,u,.int .u32 f.dflt]] w λe w'=>e= .returned (.tuple #[.agg #[.int .i64 0,.slice none 0 0,.int .u32 0],.int .i64 210])/\Ext w w':=by
 have hM:=λW (hx:Ext w W)=>oD f u hf W (mQ hx hu)
 rw[hm]at hM;obtain⟨av,cv,rfl,-,-⟩:=p6 hu;have Jz:=ah hM;have tF:=ah hm;clear hM hm hu;go_in;go_wp2_with fail;refine ap (Jz.o _ (((aj _).alloc _).alloc _)) ?_;intro w1 hx1;have y0:=hx1.cell (p:=⟨w+1,0,none⟩) ce;have y1:=hx1.cell (p:=⟨w+1,1,none⟩) ce;have y2:=hx1.cell (p:=⟨w+1,2,none⟩) ce;have fy:∀j,w1.frozen? ⟨w+1,j,none⟩=false:=λj=>(dD (hx1.block aE)).trans cq
 have fy0:=fy 0;have fy1:=fy 1;have fy2:=fy 2;have hby:=aY _ _ y1;have gK:=ah ((((aj w).alloc _).alloc _).trans hx1);clear hx1 fy;go_wp2_with fail;refine aM (v:= .tuple #[.agg #[.int .i64 0,.slice none 0 0,.int .u32 0],.int .i64 210]) dE rfl ⟨rfl,?_⟩
 repeat(first|exact gK.o|refine Ext.setCell ?_ cy _)
theorem Vr(f:Filter)(u:aA)(hf:yJ f)(hlr:∀r∈f.rules,r.tests.length<=1000)(hm:kU f=true)(w:ay)(hu:JO w 3 (FV w) u f.rules):Calls prog 179 #[.agg #[.int .i64 f.jh,u,.int .u32 f.dflt]] w λe w'=>∃a c ps,e= .returned (.tuple #[.agg #[.int .i64 f.jh,.slice a (ps:List PR).length c,.int .u32 f.dflt],.int .i64 0])/\ps.map PR.r=qL f.dflt f.rules/\RF w' w (.slice a ps.length c) ps/\Ext w w':=by
 have hM:=λW (hx:Ext w W)=>oD f u hf W (mQ hx hu)
 rw[hm]at hM;have hl4:f.rules.length<=400:=by unfold kU at hm;simp only[bA,dK]at hm;exact hm.2.2.1
 have hok:=hf.r;obtain⟨ar,rs,df⟩:=f;dsimp only at *;obtain⟨av,cv,rfl,-,hca⟩:=p6 hu;have Jz:=ah hM;have tF:=ah hm;clear hM hm;have Jw:=ah hok;have aeh:=ah hlr;have rz:=ah hca;clear hok hlr hca hu;go_in;go_wp2_with fail;refine ap (Jz.o _ (((aj _).alloc _).alloc _)) ?_;intro w1 hx1;have z0:=hx1.cell (p:=w) ce;have z1:=hx1.cell (p:=⟨w,1,none⟩) ce;have z2:=hx1.cell (p:=⟨w,2,none⟩) ce;have y0:=hx1.cell (p:=⟨w+1,0,none⟩) ce;have y1:=hx1.cell (p:=⟨w+1,1,none⟩) ce;have y2:=hx1.cell (p:=⟨w+1,2,none⟩) ce;have fy:∀j,w1.frozen? ⟨w+1,j,none⟩=false:=λj=>(dD (hx1.block aE)).trans cq
 have hby:=aY _ _ y1;have gK:=ah ((((aj w).alloc _).alloc _).trans hx1);have hs1:w.heap.size+2<=w1.heap.size:=by have:=hx1.size;simp at this;omega
 have q1:=λo=>((aj w1).alloc o).cell z1
 have Z1:=ah z1;have Z2:=ah z2;have Y0:=ah y0;have Y1:=ah y1;have Y2:=ah y2;have FY:=ah fy;clear hx1 fy y0 y1 y2;go_wp2_with fail;have HS0:=ah (OS.start w1 ar df 73);clear z0 z1 z2 q1;go_loopw [19] (λi wr=>∃(k:Nat) (v:aA) (ps:List PR),k<=rs/\i= .int .i64 k/\OS w1 ar df v ps wr/\ps.map PR.r=qL df (rs.take k)) (λi _=>rs.length-(intOf i).toNat)
 case atStart=>exact⟨0,_,_,aq,rfl,HS0.o,rfl⟩
 case round=>
  obtain⟨k,v,ps,hk,rfl,hs,hps⟩:=hrel;have HPS:=ah hps;have HS:=ah hs;clear hps;by_cases hlt:k<rs
  ·obtain⟨b,o,vt,rfl,g1,g2,g3,g4⟩:=rz.o k hlt;replace g1:=(gK.o.trans hs.ext).cell g1;replace g2:=(gK.o.trans hs.ext).cell g2;replace g3:=(gK.o.trans hs.ext).cell g3;replace g4:=g4.ext (gK.o.trans hs.ext);have z2:=hs.ext.cell Z2.o;have hn:=λW (hx:Ext wr W)=>M2 rs[k] vt (Jw.o _ (aW hlt)) (aeh.o _ (aW hlt)) W (g4.ext hx)
   obtain⟨at',ct,rfl,-,-⟩:=kV g4;have hnt:=T9 (df:=df) hlt;have hpl:ps.length<=400:=by have e:=congrArg List.length HPS.o;have e2:=Ay df (rs.take k);rw[aS]at e;rw[bC]at e2;omega
   generalize pV (rs[k]'hlt)=nr at *;generalize rs[k]'hlt=r at *;obtain⟨rn,ts,ra⟩:=r;obtain⟨nn,Ki,nx⟩:=nr;dsimp only at *;have Hhn:=ah hn;have ag3:=ah hnt;clear hn hnt;obtain⟨au,cu,rfl⟩:=bU hs.own;clear hs g4;have b1:=HS.o.b1;have b2:=HS.o.b2;have hbb:=aY _ _ b1;go_wp2_with fail;refine(Hhn.o _ ((aj _).alloc _)).mono ?_;rintro e w2 ⟨a2,c2,rfl,hx2,hg2,ho2⟩;have p0:=hx2.cell (p:=wr) ce;have p1:=hx2.cell (p:=⟨wr,1,none⟩) ce;have p2:=hx2.cell (p:=⟨wr,2,none⟩) ce;have fp:∀j,w2.frozen? ⟨wr,j,none⟩=false:=λj=>(dD (hx2.block aE)).trans cq
   have fp0:=fp 0;have fp1:=fp 1;have fp2:=fp 2;have hpb:=aY _ _ p1;have wI:=((aj wr).alloc (.cells #[.int .u32 rn,.slice at' ts ct,.int .u32 ra] 110)).trans hx2;replace z2:=wI.cell z2;have qO:=ah wI;have HG2:=ah hg2;have Sq:=ah (ho2.base (b':=wr.heap.size+1) aE);have b1r:=qO.o.cell b1;clear hx2 fp hg2 ho2 wI b1 b2;have hcase:(decide (0<Ki.length)=true/\decide ((0:Int)<Ki)=true/\FB df ⟨nn,Ki,nx⟩=true)\/(decide (0<Ki.length)=false/\decide ((0:Int)<Ki)=false/\((nx:Int) !=(df:Int))=true/\FB df ⟨nn,Ki,nx⟩=true)\/
    (decide (0<Ki.length)=false/\decide ((0:Int)<Ki)=false/\((nx:Int) !=(df:Int))=false/\FB df ⟨nn,Ki,nx⟩=false):=by
    have e:FB df ⟨nn,Ki,nx⟩=(!Ki.isEmpty|| !(nx==df)):=rfl;rw[e];have hq:((nx:Int) !=(df:Int))= !(nx==df):=by rw[bB];simp;omega
    rw[hq];cases Ki with
    |nil=>cases(nx==df)<;>simp
    |cons t l=>refine .inl ⟨aQ aE,aQ (by simp only[aO];omega),rfl⟩
   rcases hcase with⟨d0,d1,hkb⟩|⟨d0,d1,d2,hkb⟩|⟨d0,d1,d2,hkb⟩
   case inr.inr=>
    rw[hkb]at ag3;have atr:=ah hkb;clear hkb;go_wp2_with fail;go_roundw
    case rel=>
     refine⟨k+1,_,ps,aq,bm,HS.o.kept ?_,by rw[HPS.o,ag3.o];simp⟩
     repeat(first|exact qO.o|refine Ext.setCell ?_ cy _)
    case measure=>exact gO
   all_goals
    rw[hkb]at ag3;have atr:=ah hkb;clear hkb;go_wp2_with(
     (at_builtin
      generalize rH:World.setCell _ _ _=W4;have Ot:Hid (OS w1 ar df (.slice au ps cu) ps W4):=by
       rw[<-rH];refine ah (HS.o.kept ?_)
       repeat(first|exact qO.o|refine Ext.setCell ?_ cy _)
      have Ma:Hid (nD W4 ⟨⟨nn,Ki,nx⟩,a2,c2⟩/\oZ W4 (w1+1) ⟨⟨nn,Ki,nx⟩,a2,c2⟩):=by rw[<-rH];have h1:=zV HG2.o Sq.o (q:=wr) aE (.int .u32 nn);have h2:=zV h1.1 h1.2 (q:=⟨wr,1,none⟩) aE (.slice a2 Ki c2);have h3:=zV h2.1 h2.2 (q:=⟨wr,2,none⟩) aE (.int .u32 nx);exact ah ⟨h3.1,h3.2.base (by have:=HS.o.lt;omega)⟩
      have anx:w2.heap.size=W4:=by rw[<-rH];simp
      clear rH b1r p0 p1 p2 fp0 fp1 fp2 z2 g1 g2 g3;have arS:=Ot.o.lt;refine iX rfl (.tmp 37) (.tmp 39) _ rfl underlying71 UD rfl az mR zZ (w1+1) _ _ ps [⟨⟨nn,Ki,nx⟩,a2,c2⟩] rfl rfl (Ot.o.own.alloc _) (gI mR W4 [⟨⟨nn,Ki,nx⟩,a2,c2⟩] _ _ anx) bp az bp ?_;intro EN EJ w5 lM hg5;have yS:=ah (Ot.o.kept ((aj W4).alloc (.cells ([(⟨⟨nn,Ki,nx⟩,a2,c2⟩:PR)].flatMap qx).toArray 110)));have b1s:=yS.o.size hg5 1 _ yS.o.b1;have f1s:=yS.o.frz hg5 1;have hbs:=aY _ _ b1s;have EY:=ah lM;have JV:=ah hg5;have HG6:=ah (nD.ext ((aj W4).alloc (.cells ([(⟨⟨nn,Ki,nx⟩,a2,c2⟩:PR)].flatMap qx).toArray 110)) Ma.o.1);have HG7:=ah (oZ.ext ((aj W4).alloc (.cells ([(⟨⟨nn,Ki,nx⟩,a2,c2⟩:PR)].flatMap qx).toArray 110)) Ma.o.2);clear lM hg5 arS anx))
    go_roundw
    case rel=>refine⟨k+1,_,ps++[⟨⟨nn,Ki,nx⟩,a2,c2⟩],aq,bm,yS.o.grown HG6.o HG7.o JV.o EY.o,?_⟩;rw[bL,HPS.o,ag3.o];rfl
    case measure=>simp[intOf];omega
  ·obtain rfl:k=rs.length:=aq;have b0:=hs.b0;have b1:=hs.b1;have b2:=hs.b2;have y0:=hs.ext.cell Y0.o;have y1:=hs.ext.cell Y1.o;have y2:=hs.ext.cell Y2.o;have fy:∀j,wr.frozen? ⟨w+1,j,none⟩=false:=λj=>(dD (a:=⟨w+1,j,none⟩) (hs.ext.block hby)).trans (FY.o j)
   have fy0:=fy 0;have fy1:=fy 1;have fy2:=fy 2;have hbr:=aY _ _ y1;have hbb:=aY _ _ b1;have ar5:=hs.ext;obtain⟨au,cu,rfl⟩:=bU hs.own;clear hs fy;go_wp2_with fail;refine aM (v:= .tuple #[.agg #[.int .i64 ar,.slice au ps cu,.int .u32 df],.int .i64 0]) dE rfl ⟨au,cu,ps,rfl,by rw[HPS.o,bZ],?_,?_⟩
   ·refine RF.base (b:=w1.heap.size+1) ?_ aq
    repeat(first|exact HS.o.rf|refine RF.set ?_ cy _)
   ·repeat(first|exact gK.o.trans ar5|refine Ext.setCell ?_ cy _)
end lC
def oy(h:zP:=by have pQ:=ah hA;have Cj:=ah hF;have Oo:=ah h0;clear hA hF h0;unfold Rt;go_in;go_wp2_with(go_at_call 102;refine ap (Cj.o _ _ cq) ?_;intro w1 hx1);go_ret2;exact lP):zP:=h
namespace vR
variable{xs:List Int}
def SV(k:Nat):aK:=⟨(Ce.getD k []).toArray⟩
def sM(l:List aZ)(k:Nat):Bool:=Ce.getD k []==l
def aca(k:Nat):(SV k).toList=Ce.getD k []:=by rw[ByteArray.toList_eq];unfold SV;simp
theorem Ub(k:Nat)(tk:Nat)(s:aK)(B:Nat)(w:ay)(hB:w.cell? B=some (.string s)):Rt 344 #[.agg #[.string (SV k),.int .u32 tk],.pointer (some B)] w (.bool (sM s.toList k)):=by
 have hlt:B<w.heap.size:=aY _ _ hB;have hq:((SV k).toList==s.toList)=sM s.toList k:=by rw[aca];rfl
 generalize SV k=nm at *;cases he:sM s.toList k
 all_goals
  rw[he]at hq;have Hhe:=ah he;clear he;unfold Rt;go_in;go_wp2;go_ret;exact⟨rfl,(aj _).alloc _⟩
theorem Ko(g:Nat)(s:aK)(B:Nat)(w:ay)(hB:w.cell? B=some (.string s))(hc:∀i,i<6->w.cell? ⟨g,i*2,none⟩=some (.string ⟨(Ce.getD i []).toArray⟩)/\w.cell? ⟨g,i*2+1,none⟩=some (.int .u32 (toks.getD i 0:Nat))):Rt 156 #[.slice (some g) 6 6,.func (.func 344) #[] #[.pointer (some B)]] w (.int .i64 (ku (sM s.toList) 0)):=by
 have EW:=ah hc;clear hc;have hB0:=hB;have atY:=ah hB0;clear hB0;unfold Rt;go_in;go_wp2;go_loopw [8] (λi wr=>∃k:Nat,k<=6/\i= .int .i64 k/\Ext w wr/\ku (sM s.toList) 0=ku (sM s.toList) k) (λi _=>6-(intOf i).toNat)
 case atStart=>exact kf
 case round=>
  obtain⟨k,hk,rfl,hx,heq⟩:=hrel;have HX:=ah hx;by_cases hlt:k<6
  ·obtain⟨c1,c2⟩:=EW.o k hlt;replace c1:=hx.cell c1;replace c2:=hx.cell c2;have hb:=hx.cell atY.o;rw[kS hlt]at heq;clear hx;have hK:=λtk W (h:W.cell? B=some (.string s))=>Ub k tk s B W h
   rw[show(⟨(Ce.getD k []).toArray⟩:aK)=SV k from rfl]at c1;generalize SV k=nm at *;generalize toks.getD k 0=tk at *;cases he:sM s.toList k
   all_goals
    rw[he]at hK heq;have Hhe:=ah he;have Gh:=ah hK;have j9:=ah heq;clear he hK heq;go_wp2_with(go_at_call 344;refine ap (Gh.o _ _ hb) ?_;intro w1 hx1)
   ·go_roundw
    case rel=>exact⟨k+1,aq,bm,HX.o.trans hx1,by rw[j9.o];rfl⟩
    case measure=>exact gO
   ·go_ret;exact⟨by rw[j9.o];rfl,HX.o.trans hx1⟩
  ·obtain rfl:k=6:=aq;rw[xW]at heq;exact ke
theorem IY(s:aK)(B:Nat)(w:ay)(hB:w.cell? B=some (.string s)):Rt 102 #[.func (.func 344) #[] #[.pointer (some B)]] w (.int .i64 (ku (sM s.toList) 0)):=by
 unfold Rt;go_in;go_wp2_with(go_at_call 77;refine ap (rR _) ?_;intro w1 hx1;unfold G1);refine(Ko w1 s B _ ((hx1.alloc _).cell hB) (λi hi=> ?_)).mono ?_
 ·rcases lt6 i hi with rfl|rfl|rfl|rfl|rfl|rfl<;>simp[go_sem,Ce,toks]
 rintro e w2 ⟨rfl,hx2⟩;go_wp2;go_ret;exact tl
def afX:List aZ:= [110,97,116,105,118,101]
def lS(l:List aZ):Int×Int:=if (l==afX)=true then(0,0)else if ku (sM l) 0<0 then(0,80)else(ku (sM l) 0,0)
theorem Ac(s:aK)(w:ay):Rt 271 #[.string s] w (.tuple #[.int .i64 (lS s.toList).1,.int .i64 (lS s.toList).2]):=by
 have hb:=FJ (sM s.toList);have hF:=λB W h=>IY s B W h
 cases hn:s.toList==[110,97,116,105,118,101]
 case true=>
  have hA:lS s.toList=(0,0):=by unfold lS afX;rw[aV hn]
  rw[hA];have pQ:=ah hA;have Cj:=ah hF;clear hA hF;unfold Rt;go_in;go_wp2;go_ret2;exact kz
 case false=>
  by_cases h0:ku (sM s.toList) 0<0
  ·have hA:lS s.toList=(0,80):=by unfold lS afX;rw[aN (by rw[hn];simp),aV h0]
   rw[hA];generalize ku (sM s.toList) 0=f at *;have hd:decide (f<0)=true:=aQ h0;exact oy
  ·have hA:lS s.toList=(ku (sM s.toList) 0,0):=by unfold lS afX;rw[aN (by rw[hn];simp),aN h0]
   rw[hA];dsimp only;generalize ku (sM s.toList) 0=f at *;have hd:decide (f<0)=false:=aT h0;exact oy
theorem ED(i:Nat)(h:i<6)(w:ay):(Instr.index 157 (.agg G1) (.int .i64 i)).run prog w= .ok (.agg #[.string (SV i),.int .u32 (toks.getD i 0:Nat)]) w:=pS
theorem I1(nm:aK)(tk:Int)(w:ay):(Instr.field 156 (.agg #[.string nm,.int .u32 tk]) 0).run prog w= .ok (.string nm) w:=by rfl
theorem I0(nm:aK)(tk:Int)(w:ay):(Instr.field 156 (.agg #[.string nm,.int .u32 tk]) 1).run prog w= .ok (.int .u32 tk) w:=by rfl
def wB(a:Int):aK:=if 0<=a/\a<6 then SV a.toNat else⟨#[]⟩
theorem Js(a:Int)(w:ay):Rt 41 #[.int .i64 a] w (.string (wB a)):=by
 by_cases h0:a<0
 ·have hA:wB a=⟨#[]⟩:=by unfold wB;rw[aN aq]
  have hd:decide (a<0)=true:=aQ h0;rw[hA];have pQ:=ah hA;have Oo:=ah h0;clear hA h0;exact kh
 have hd:decide (a<0)=false:=aT h0;by_cases h1:6<=a
 ·have hA:wB a=⟨#[]⟩:=by unfold wB;rw[aN aq]
  have hd1:decide (6<=a)=true:=aQ h1;rw[hA];have pQ:=ah hA;have Oo:=ah h0;have Hh1:=ah h1;clear hA h0 h1;exact kh
 have hd1:decide (6<=a)=false:=aT h1;have hA:wB a=SV a.toNat:=by unfold wB;rw[aV aq]
 obtain⟨i,rfl⟩:=Int.eq_ofNat_of_zero_le (by omega:0<=a);rw[dR]at hA;have hidx:=ED i aq;rw[hA];generalize SV i=nm at *;generalize toks.getD i 0=tk at *;have hf0:=I1 nm (tk:Int);have hf1:=I0 nm (tk:Int);have pQ:=ah hA;clear hA;unfold Rt;go_in;go_wp2_with(go_at_call 77;refine ap (rR _) ?_;intro w1 hx1);exact vl
def encI(i:Int):List aA:= [.int .i64 i]
def jX{w:ay}{v:aA}(h:Rd w 1 encI v xs):∃a c,v= .slice a xs c/\xs.length<=c/\∀i,(hi:i<xs.length)->∃b o,a=some ⟨b,o,none⟩/\w.cell? ⟨b,o+i,none⟩=some (.int .i64 xs[i]):=nz
def oQ(a:Int):List Int->Nat->Int
 | [],_=> -1
 |x::r,k=>if (a==x)=true then(k:Int)else oQ a r (k+1)
def wG{a:Int}{k:Nat}(h:k<xs):oQ a (xs.drop k) k=if (a==xs[k])=true then(k:Int)else oQ a (xs.drop (k+1)) (k+1):=by rw[bJ h];rfl
def zQ(a:Int)(xs:List Int)(k:Nat):oQ a (xs.drop xs) k= -1:=by rw[dQ];rfl
def zO(a:Int):∀(xs:List Int)(k:Nat),decide (0<=oQ a xs k)=xs.contains a
 | [],k=>rfl
 |x::r,k=>by
  unfold oQ;rw[jA];cases h:a==x
  ·rw[aN aE,zO a r (k+1)];rfl
  ·rw[aV rfl];simp
theorem yw(v:aA)(xs:List Int)(a:Int)(hl:xs.length<=140737488351232)(w:ay)(hv:Rd w 1 encI v xs):Rt 46 #[v,.int .i64 a] w (.int .i64 (oQ a xs 0)):=by exact gA
theorem sI(v:aA)(xs:List Int)(a:Int)(hl:xs.length<=140737488351232)(w:ay)(hv:Rd w 1 encI v xs):Rt 24 #[v,.int .i64 a] w (.bool (xs.contains a)):=by exact lh
def inA(xs:List Int)(a:Int):Bool:=decide (xs.length=0)||xs.contains a
theorem RY(v:aA)(xs:List Int)(a:Int)(hl:xs.length<=140737488351232)(w:ay)(hv:Rd w 1 encI v xs):Rt 12 #[v,.int .i64 a] w (.bool (inA xs a)):=by
 have hC:=sI v xs a hl w hv;obtain⟨ad,c,rfl,-⟩:=jX hv;by_cases h0:xs.length=0
 ·have hA:inA xs a=true:=by unfold inA;rw[aQ h0];rfl
  have hd:((xs:Int)==0)=true:=by rw[h0];rfl
  rw[hA];have pQ:=ah hA;have Oo:=ah h0;have yN:=ah hC;clear hA h0 hC;exact kh
 ·have hA:inA xs a=xs.contains a:=by unfold inA;rw[aT h0];rfl
  have hd:((xs:Int)==0)=false:=bK.2 aq;rw[hA];generalize xs.contains a=r at *;have pQ:=ah hA;have Oo:=ah h0;have yN:=ah hC;clear hA h0 hC;unfold Rt;go_in;go_wp2_with(go_at_call 24;refine ap yN.o ?_;intro w1 hx1);exact vl
end vR
end Go.Proofs.YtopfefhenfineaaGreat
