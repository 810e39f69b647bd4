import Derived.Test.YtopfefhenfineaaGreatP2
import Derived.Deep.Slices
import Derived.Laws.IdiomArrays
import Derived.Deep.RegionLaw
set_option linter.all false
set_option maxRecDepth 100000
set_option maxHeartbeats 1000000
namespace Go.Proofs.YtopfefhenfineaaGreat
open Go.Proofs.Tryz Go.RowKit bh
variable{S:Prop}
def Eb(h:S:=by simp[dI]):S:=h
namespace jG
structure aD where
 c:Nat
 k:Nat
 th:Int
 el:Int
structure sP(s:aD):Prop where
 c:s.c<65536
 k:s.k<4294967296
 f3: -9223372036854775808<=s.th
 e0:s.th<=9223372036854775807
 aK: -9223372036854775808<=s.el
 aV:s.el<=9223372036854775807
def dI(s:aD):List K:= [bf s.c,M s.k,H s.th,H s.el]
def gQ(s:aD):(dI s).length=4:=rfl
def mR(s:aD):∀u∈dI s,u.oneCell'=true:=by intro u a6;simp[dI]at a6;exact Uy
def ig{w:G}{v:K}{A:List aD}(h:aS w 4 dI v A):∃a c,v=E a A c/\A.length<=c/\∀i,(hi:i<A.length)->∃b o,a=some ⟨b,o,none⟩/\w.cell? ⟨b,o+i*4,none⟩=some (bf (A[i].c:Int))/\w.cell? ⟨b,o+i*4+1,none⟩=some (M (A[i].k:Int))/\w.cell? ⟨b,o+i*4+2,none⟩=some (H A[i].th)/\w.cell? ⟨b,o+i*4+3,none⟩=some (H A[i].el):=by obtain⟨a,c,h1,h2,T,af⟩:=h;refine⟨a,c,h1,h2,λi hi=> ?_⟩;obtain⟨b,o,e,k⟩:=af i hi;exact⟨b,o,e,k 0 Eb,k 1 Eb,k 2 Eb,k 3 Eb⟩
def gK(c:Nat):Bool:=(c==21)||((c==37)||((c==53)||(c==69)))
def there(len i:Nat)(n:Int):Bool:=decide ((i:Int)<n)&&decide (n<(len:Int))
def none_(s:aD):Bool:=(s.th==0)&&(s.el==0)
def eU(len i:Nat)(s:aD):Bool:=
 if s.c=32 then none_ s&&okW s.k
 else if s.c=84\/s.c=6 then none_ s
 else if s.c=5 then(s.k==0)&&((s.el==0)&&there len i s.th)
 else gK s.c&&(there len i s.th&&there len i s.el)
def iE(len:Nat):List aD->Nat->Bool
 | [],_=>true
 |n::r,i=>eU len i n&&iE len r (i+1)
def wu(l:List aD):Nat:=match l[l.length-1]? with
 |some s=>s.c
 |none=>0
def dx(l:List aD):Bool:=decide (0<l.length)&&(decide (l.length<=131072)&&((wu l==6)&&iE l l 0))
def Y2{t:List aD}{k:Nat}(len:Nat)(h:k<t):iE len (t.drop k) k=(eU len k t[k]&&iE len (t.drop (k+1)) (k+1)):=by rw[kQ h];rfl
def Y3(len:Nat)(t:List aD)(i:Nat):iE len (t.drop t) i=true:=by rw[qy];rfl
def N8:∀ {r:List aD} {len i j:Nat},iE len r i=true->∀(h:j<r),eU len (i+j) r[j]=true
 |n::r,len,i,0,R,_=>by simp only[iE,dV]at R;exact R.1
 |n::r,len,i,j+1,R,h=>by simp only[iE,dV]at R;have:=N8 R.2 (j:=j) tH;simpa[Nat.add_assoc,Nat.add_comm 1 j]using this
def jy{l:List aD}(h:dx l=true){j:Nat}(Z:j<l):eU l j l[j]=true:=by
 unfold dx at h;simp only[dV]at h;have:=N8 h.2.2.2 Z
 rwa [gF]at this
def Y4{l:List aD}(h:0<l.length):wu l=(l[l.length-1]' aE).c:=by unfold wu;rw[dK aE]
def mV{l:List aD}(h:dx l=true):0<l.length:=by unfold dx at h;simp at h;exact h.1
def SF{l:List aD}(h:dx l=true):(l[l.length-1]'(by have:=mV h;omega)).c=6:=by have ac:=mV h;rw[<-Y4 ac];unfold dx at h;simp at h;exact h.2.2.1
theorem Mf(c:Nat)(w:G):aM 397 #[bf c] w (av (gK c)):=by
 have aK:((c:Int)==21)=(c==21):=by rw[dW];simp;omega
 have aV:((c:Int)==37)=(c==37):=by rw[dW];simp;omega
 have cC:((c:Int)==53)=(c==53):=by rw[dW];simp;omega
 have gA:((c:Int)==69)=(c==69):=by rw[dW];simp;omega
 unfold gK;generalize(c==21)=b1 at *;generalize(c==37)=b2 at *;generalize(c==53)=cV at *;generalize(c==69)=ky at *;cases b1
 ·cases b2
  ·cases cV
   ·unfold aM;go_in;go_wp2;go_ret;exact⟨ay,O _⟩
   ·exact BK
  ·exact BK
 ·exact BK
theorem afR(n:Int)(len i B C:Nat)(w:G)(hB:w.cell? B=some (H i))(cq:w.cell? C=some (H len)):aM 396 #[H n,aB (some B),aB (some C)] w (av (there len i n)):=by
 unfold there;cases h:decide ((i:Int)<n)
 all_goals
  unfold aM;go_in;go_wp2;go_ret;exact⟨ay,O _⟩
def aCG{l:List aD}(h:¬0<l.length):dx l=false:=by unfold dx;simp;omega
def aCH{l:List aD}(h:131072<l.length):dx l=false:=by unfold dx;simp;omega
def aCI{l:List aD}(h:(wu l==6)=false):dx l=false:=by unfold dx;rw[h];simp
def aeq{l:List aD}(h1:0<l.length)(h2:l.length<=131072)(T:(wu l==6)=true):dx l=iE l l 0:=by unfold dx;rw[T];simp[h1,h2]
theorem pK(alJ:∀(s:aD)(i len:Nat)(w:G),Calls prog 356 #[bg #[bf s.c,M s.k,H s.th,H s.el],H i,H len] w λe F=>e=aI (av (eU len i s))/\Ext w F)(v:K)(A:List aD)(X:A.length<=1000000)(w:G)(hv:aS w 4 dI v A):aM 283 #[v] w (av (dx A)):=by
 obtain⟨a,c,rfl,ep,bV⟩:=ig hv;clear hv;have aCJ:=z alJ;clear alJ;by_cases et:0<A.length
 case neg=>have bl:=aCG et;have cs:decide ((A:Int)<1)=true:=dH aE;have aCK:decide (A.length<1)=true:=dH aE;rw[bl];have ee:=z bl;have Y5:=z et;clear bl et bV;exact BK
 have cs:decide ((A:Int)<1)=false:=dM aE;have aCK:decide (A.length<1)=false:=dM aE;by_cases fp:131072<A.length
 ·have bl:=aCH fp;have eg:decide (131072<(A:Int))=true:=dH aE;have U':decide (131072<A.length)=true:=dH aE;rw[bl];have ee:=z bl;have Y5:=z et;have alK:=z fp;clear bl et fp bV;exact BK
 have eg:decide (131072<(A:Int))=false:=dM aE;have U':decide (131072<A.length)=false:=dM aE;obtain⟨b,o,rfl,l1,-⟩:=bV (A-1) aE;rw[<-Y4 et]at l1;have N3:=λh=>aeq et aE h
 have N4:=aCI (l:=A);obtain⟨n,hn⟩:∃n:Nat,A.length=n+1:=⟨A.length-1,aE⟩;have dp:(A:Int)-1=n:=aE;have ft:A.length-1=n:=aE;rw[ft]at l1;have hy:n<A:=aE;cases q:(wu A==6)
 ·have bl:=N4 q;have aCL:((wu A:Int) !=6)=true:=by simp at q;simp;omega
  rw[bl];generalize wu A=lc at *;have ee:=z bl;have Y5:=z et;clear bl et;have alK:=z fp;have aCM:=z N3;clear fp N3;have aCN:=z N4;have aCO:=z q;clear N4 q;have St:=z hn;have aCP:=z ft;clear hn ft bV;exact BK
 have bl:=N3 q;have aCL:((wu A:Int) !=6)=false:=by simp at q;simp;omega
 rw[bl];have alL:∀i,(hi:i<A.length)->w.cell? ⟨b,o+i*4,none⟩=some (bf (A[i].c:Int))/\w.cell? ⟨b,o+i*4+1,none⟩=some (M (A[i].k:Int))/\w.cell? ⟨b,o+i*4+2,none⟩=some (H A[i].th)/\w.cell? ⟨b,o+i*4+3,none⟩=some (H A[i].el):=by intro i hi;obtain⟨b2,o2,e,h⟩:=bV i hi;simp only[jB,pJ]at e;obtain⟨rfl,rfl,-⟩:=e;exact h
 generalize wu A=lc at *;have ee:=z bl;have Y5:=z et;clear bl et;have alK:=z fp;have aCM:=z N3;clear fp N3;have aCN:=z N4;have aCO:=z q;clear N4 q;have St:=z hn;have aCP:=z ft;have aCQ:=z alL;clear hn ft alL bV;unfold aM;go_in;go_wp2;go_loopw [25] (λi wr=>∃k:Nat,k<=A/\i=H k/\Ext w wr/\iE A A 0=iE A (A.drop k) k) (λi _=>A.length-(intOf i).toNat)
 case atStart=>exact qO
 case round=>
  obtain⟨k,hk,rfl,D,b4⟩:=hrel;have aT:=z D;by_cases ad:k<A
  ·obtain⟨h1,h2,T,af⟩:=aCQ.o k ad;replace h1:=D.cell h1;replace h2:=D.cell h2;replace T:=D.cell T;replace af:=D.cell af;rw[Y2 _ ad]at b4;have cn:=λW=>aCJ.o A[k] k A W
   clear D;generalize A[k]=s at *;cases R:eU A k s
   all_goals
    rw[R]at cn b4;have i':=z cn;have h8:=z b4;have gl:=z R;clear cn b4 R;go_wp2_with fail;refine ak (i'.o _) ?_;intro aO ag;go_wp2_with fail
   ·go_ret;exact⟨by rw[h8.o];rfl,(aT.o.alloc _).trans ag⟩
   ·first
     |(go_roundw
       case rel=>exact⟨k+1,aE,cZ,(aT.o.alloc _).trans ag,by rw[h8.o];rfl⟩
       case measure=>simp[intOf];omega)
     |exact⟨⟨k+1,aE,cZ,(aT.o.alloc _).trans ag,by rw[h8.o];rfl⟩,by simp[intOf];omega⟩
  ·obtain rfl:k=A.length:=aE;rw[Y3]at b4;have h8:=z b4;clear b4 D;go_wp2;go_ret;exact⟨by rw[h8.o];rfl,aT.o⟩
end jG
def alM(h:S:=by rcases Y6 i hi with rfl|rfl|rfl|rfl|rfl|rfl<;>simp[go_sem,Bc,toks]):S:=h
def alN(h:S:=by unfold bit;rw[show(2:Nat)^30=1073741824 from Y];by_cases V:nr/1073741824%2=1<;>simp[V]):S:=h
def alO(h:S:=by
 go_roundw
 case rel=>exact⟨k+1,aE,cZ,aT.o.trans Q,by rw[h8.o];rfl⟩
 case measure=>exact eO):S:=h
def alP(h:S:=by have ee:=z bl;have aNR:=z lh;rw[h1]at co hd hd1 V;have i8:=z co;have tD:=z h1;have n':=z ae;exact N9):S:=h
def alQ(h:S:=by rw[Uv (n:=6) (C6:=2) underlying157 underlying156 aj _ i h];rcases Y6 i h with rfl|rfl|rfl|rfl|rfl|rfl<;>rfl):S:=h
def alR(h:S:=by have bS:=alS v A a X w hv;have R:=SG a A 0;rw[<-R];generalize kY a A 0=q at *;obtain⟨jQ,c,rfl,-⟩:=tQ hv;have gl:=z R;clear R;have it:=z bS;unfold aM;go_in;go_wp2_with(go_at_call 46;refine ak it.o ?_;intro I Q);exact K7):S:=h
def N9(h:S:=by unfold aM;go_in;go_wp2_with(go_at_call 102;refine ak (i8.o _ _ fC) ?_;intro I Q);go_ret2;exact UF):S:=h
def alT(h:S:=by
 obtain⟨jQ,c,rfl,ep,bV⟩:=tQ hv;have k4:=z bV;unfold aM;go_in;go_wp2;go_loopw [8] (λi wr=>∃k:Nat,k<=A/\i=H k/\Ext w wr/\kY a A 0=kY a (A.drop k) k) (λi _=>A.length-(intOf i).toNat)
 case atStart=>exact qO
 case round=>
  obtain⟨k,hk,rfl,D,b4⟩:=hrel;have aT:=z D;by_cases ad:k<A
  ·obtain⟨b,o,rfl,h1⟩:=k4.o k ad;replace h1:=D.cell h1;rw[SH ad]at b4;generalize A[k]=x at *;cases bx:a==x
   ·rw[bx,au ay]at b4;have h8:=z b4;go_wp2_with(go_quiet (fail));go_roundw
    case rel=>exact⟨k+1,aE,cZ,K9,h8.o⟩
    case measure=>simp[intOf];omega
   ·rw[bx,aF rfl]at b4;have h8:=z b4;go_wp2_with(go_quiet (fail));go_ret;exact⟨by rw[h8.o];rfl,K9⟩
  ·obtain rfl:k=A.length:=aE;rw[SI]at b4;exact Iq):S:=h
namespace d5
def Bc:List (List aL):= [[120,56,54,45,54,52],[120,56,54],[120,51,50],[97,114,109],[97,114,109,54,52],[114,105,115,99,118,54,52]]
def toks:List Nat:= [3221225534,1073741827,3221225534,1073741864,3221225655,3221225715]
def Hr:Array K:= #[N ⟨#[120,56,54,45,54,52]⟩,M 3221225534,N ⟨#[120,56,54]⟩,M 1073741827,N ⟨#[120,51,50]⟩,M 3221225534,
 N ⟨#[97,114,109]⟩,M 1073741864,N ⟨#[97,114,109,54,52]⟩,M 3221225655,N ⟨#[114,105,115,99,118,54,52]⟩,M 3221225715]
def Y6(i:Nat)(h:i<6):i=0\/i=1\/i=2\/i=3\/i=4\/i=5:=aE
def alU(p:Nat->Bool):Nat->Nat->Int
 |0,_=> -1
 |f+1,k=>if p k=true then(k:Int)else alU p f (k+1)
def fZ(p:Nat->Bool)(k:Nat):Int:=alU p (6-k) k
def fU{p:Nat->Bool}{k:Nat}(h:k<6):fZ p k=if p k=true then(k:Int)else fZ p (k+1):=by unfold fZ;rw[show 6-k=(6-(k+1))+1 from aE];rfl
def pE(p:Nat->Bool):fZ p 6= -1:=rfl
def rP(hf k:Nat):Bool:=toks.getD k 0==hf
theorem qC(w:G):aM 77 #[] w (bg Hr):=by unfold aM;go_in;go_wp2;refine cO (v:=bg Hr) (by simp[results,results77,go_sem];rfl) rfl ⟨rfl,(O _).alloc _⟩
theorem aCR(nm:bn)(tk hf:Nat)(B:Nat)(w:G)(hB:w.cell? B=some (M hf)):aM 103 #[bg #[N nm,M tk],aB (some B)] w (av (tk==hf)):=by
 have ad:B<w.heap.size:=gD _ _ hB;have aW:((tk:Int)==(hf:Int))=(tk==hf):=by rw[dW];simp;omega
 cases bx:tk==hf
 all_goals
  rw[bx]at aW;have IA:=z bx;unfold aM;go_in;go_wp2;go_ret;exact⟨rfl,(O _).alloc _⟩
theorem aCS(g hf B:Nat)(w:G)(hB:w.cell? B=some (M hf))(ao:∀i,i<6->w.cell? ⟨g,i*2,none⟩=some (N ⟨(Bc.getD i []).toArray⟩)/\w.cell? ⟨g,i*2+1,none⟩=some (M (toks.getD i 0:Nat))):aM 156 #[E (some g) 6 6,.func (.func 103) #[] #[aB (some B)]] w (H (fZ (rP hf) 0)):=by
 have mu:=z ao;have sa:=hB;have N6:=z sa;unfold aM;go_in;go_wp2;go_loopw [8] (λi wr=>∃k:Nat,k<=6/\i=H k/\Ext w wr/\fZ (rP hf) 0=fZ (rP hf) k) (λi _=>6-(intOf i).toNat)
 case atStart=>exact qO
 case round=>
  obtain⟨k,hk,rfl,D,b4⟩:=hrel;have aT:=z D;by_cases ad:k<6
  ·obtain⟨c1,c2⟩:=mu.o k ad;replace c1:=D.cell c1;replace c2:=D.cell c2;have V:=D.cell N6.o;rw[fU ad]at b4;have ac:rP hf k=(toks.getD k 0==hf):=rfl;rw[ac]at b4;generalize(⟨(Bc.getD k []).toArray⟩:bn)=nm at *;generalize toks.getD k 0=tk at *;have am:=λW (h:W.cell? B=some (M hf))=>aCR nm tk hf B W h
   cases bx:tk==hf
   all_goals
    rw[bx]at am b4;have IA:=z bx;have nf:=z am;have h8:=z b4;go_wp2_with(go_at_call 103;refine ak (nf.o _ V) ?_;intro I Q)
   ·exact alO
   ·go_ret;exact⟨by rw[h8.o];rfl,aT.o.trans Q⟩
  ·obtain rfl:k=6:=aE;rw[pE]at b4;exact Iq
theorem aCT(hf B:Nat)(w:G)(hB:w.cell? B=some (M hf)):aM 102 #[.func (.func 103) #[] #[aB (some B)]] w (H (fZ (rP hf) 0)):=by
 unfold aM;go_in;go_wp2_with(go_at_call 77;refine ak (qC _) ?_;intro I Q;unfold Hr);refine(aCS I hf B _ ((Q.alloc _).cell hB) (λi hi=> ?_)).mono ?_
 ·exact alM
 rintro e aO ⟨rfl,ag⟩;go_wp2;go_ret;exact Pv
def bit(nr:Nat):Bool:=decide (nr/1073741824%2=1)
def Y7(n:Nat):n&&&2^30=if n.testBit 30=true then 2^30 else 0:=by
 apply Nat.eq_of_testBit_eq;intro i;rw[Nat.testBit_and,Nat.testBit_two_pow];by_cases hi:30=i
 ·subst hi;by_cases h:n.testBit 30=true
  ·rw[aF h,h];decide
  ·simp[h]
 ·by_cases h:n.testBit 30=true
  ·simp only[h,if_true,Nat.testBit_two_pow,hi,decide_false,Bool.and_false]
  ·simp[h,hi]
def aCU(nr:Nat)(h:nr<4294967296):bits .and .u32 nr 1073741824=(if bit nr=true then 1073741824 else 0):=by rw[u32_and _ _ aE aE Y Y];have e:Int.toNat 1073741824=2^30:=Y;rw[e,kr,Y7,Nat.testBit_eq_decide_div_mod_eq];exact alN
def uV(hf nr:Nat):Int×Bool:=if fZ (rP hf) 0<0 then(0,false)else if fZ (rP hf) 0=0/\bit nr=true then(2,true)else(fZ (rP hf) 0,true)
def A6(p:Nat->Bool): -1<=fZ p 0/\fZ p 0<=5:=by rw[fU aE];split;omega;rw[fU aE];split;omega;rw[fU aE];split;omega;rw[fU aE];split;omega;rw[fU aE];split;omega;rw[fU aE];split;omega;rw[pE];omega
theorem jT(hf nr:Nat)(hn:nr<4294967296)(w:G):aM 62 #[M hf,M nr] w (bH #[H (uV hf nr).1,av (uV hf nr).2]):=by
 have V:=A6 (rP hf);have co:=λB W h=>aCT hf B W h
 have iv:=aCU nr hn;by_cases ae:fZ (rP hf) 0<0
 ·have bl:uV hf nr=(0,false):=by unfold uV;rw[aF ae]
  rw[bl];generalize fZ (rP hf) 0=f at *;have hd:decide (f<0)=true:=dH ae;have n':=z ae;have ee:=z bl;have i8:=z co;have Y8:=z iv;exact N9
 have hd:decide (fZ (rP hf) 0<0)=false:=dM ae;by_cases h1:fZ (rP hf) 0=0
 ·have hd1:(fZ (rP hf) 0==0)=true:=by rw[h1];rfl
  cases lh:bit nr
  ·have bl:uV hf nr=(0,true):=by unfold uV;rw[au ae,au (by rw[lh];simp),h1]
   rw[bl];rw[lh,au ay]at iv;exact alP
  ·have bl:uV hf nr=(2,true):=by unfold uV;rw[au ae,aF ⟨h1,lh⟩]
   rw[bl];rw[lh,aF rfl]at iv;exact alP
 ·have hd1:(fZ (rP hf) 0==0)=false:=by simp[h1]
  have bl:uV hf nr=(fZ (rP hf) 0,true):=by unfold uV;rw[au ae,au (λh=>h1 h.1)]
  rw[bl];dsimp only;generalize fZ (rP hf) 0=f at *;have ee:=z bl;have i8:=z co;have tD:=z h1;have n':=z ae;have Y8:=z iv;exact N9
end d5
open Go.ChangeShapes Go.WideShapes Go.ChangeAt
namespace bh
variable{bC α:Type}{P:Program}{bz e fuel i n:Nat}{U:List K}{d:DataW bC}{enc:dD×K->bC}{t:dD}{w:G}{x:DataW bC×List MemPlace}
def alV{bC:Type}{enc:dD×K->bC}{P:Program}(X:laidOutB P=true){W aa:G}(V:Below W W aa):∀ {ts:List dD} {JX:List K} {hF:List (DataW bC)} {ap:List MemPlace},(ts.all λt=>P.readableRec t&&decide (t<P.types.size))=true->DataW.TrodAll enc P W 0 (λ_=>true) true ts JX hF ap->(∀x∈ap,x.block<W.heap.size)->DataW.TrodAll enc P aa 0 (λb=>decide (b<W.heap.size)) true ts JX hF ap
 | [],[],[],_,_,h,_=>h
 | [],[],_::_,_,_,h,_=>h.elim
 | [],_::_,_,_,_,h,_=>by cases h
 |_::_,[],_,_,_,h,_=>by cases h
 |_::_,_::_,[],_,_,h,_=>by cases h
 |t::ts,v::JX,d::hF,ap,an,h,ad=>by obtain⟨p,q,h1,h2,rfl⟩:=h;simp only[List.all_cons,dV,iM]at an;exact⟨p,q,Below.trod X an.1.1 an.1.2 h1 V (λx D=>ad x Ip),alV X V an.2 h2 (λx D=>ad x Ip),rfl⟩
def alW{bC:Type}{enc:dD×K->bC}{P:Program}{W:G}{b:Nat}{sp:Nat->Bool}{hd:Bool}:∀ {ts:List dD} {JX:List K} {hF:List (DataW bC)} {ap:List MemPlace},DataW.TrodAll enc P W b sp hd ts JX hF ap->hF.length=ts
 | [],[],[],_,_=>rfl
 | [],[],_::_,_,h=>h.elim
 | [],_::_,_,_,h=>by cases h
 |_::_,[],_,_,h=>by cases h
 |_::_,_::_,[],_,h=>by cases h
 |_::_,_::_,_::_,_,h=>by obtain⟨p,q,_,h2,_⟩:=h;simp[alW h2]
theorem aCV{C:Checked}{os:Os}{f:Nat}{fn:Func}{s:ChangeSpec}(own:ownKnob C.prog.godebug=none)(started:os.Started)(aCW:C.prog.inits.idxOf? f=none)(UI:C.prog.funcs[f]?=some fn)(X:laidOutB C.prog=true)(wg:(fn.params.toList.all λt=>C.prog.readableRec t&&decide (t<C.prog.types.size))=true)(Y9:s.vars=[])(mN:fn.resultTypes= #[bz])(bE:C.prog.underlying bz=some .bool)(Y':∀hF:List (DataW bC),hF.length=fn.params.toList->s.fn bC hF= {results:= [.lit (.bool true)],args:=hF})(witness:∃(w:G)(tape:Tape)(i:Input),w.os=os/\(w.forCall tape i).Shaped C.prog/\i.vars=[]/\Input.okWide C.prog (w.forCall tape i) .any w f i/\s.pre6 enc C.prog fn [] false (w.forCall tape i).memory i.args/\({}:Assume).holds C.prog (lone (Frame.enter C.prog f i.args .normal) [] (w.forCall tape i)))(walk:∀(W:G)(base:Nat)(args:Array K)(hF:List (DataW bC)) (before:List MemPlace),(∀(j:Nat) t v,fn.params[j]?=some t->args[j]?=some v->Value.okWide C.prog W .any base t v)->DataW.TrodAll enc C.prog W 0 (λ_=>true) true fn.params.toList args.toList hF before->(∀x∈before,x.block<W.heap.size)->(DataW.weightsEach C.prog fn.params.toList hF).all (·<=reachBytes)=true->Calls C.prog f args W λe aa=>e=aI (av true)/\bh.Ext W aa):ReturnsInHanded {} C os f .any (s.pre6 enc C.prog fn [] false) (s.post enc C.prog fn false true false false):=by
 refine returnsInHanded_of_change_sized own started aCW UI witness ?_;intro W base args hF ht before m7 cJ _ ci _;have aCX:=cJ;have aCY:=cJ.lt;obtain⟨p,q,bl,p6,rfl,wn,Li⟩:=cJ;rw[Y9]at p6;obtain⟨rfl,rfl⟩:=trodVars_none p6;have ad:∀x∈p,x.block<W.heap.size:=λx D=>aCY x Ip
 have aCZ:s.plain.varTypes C.prog=[]:=by simp[DataSpec.varTypes,ChangeSpec.plain,Y9]
 rw[aCZ,qz,qz]at ci;refine(walk W base args hF p m7 bl ad ci).mono λe aa ⟨bx,V⟩=> ?_
 subst bx;refine⟨_,rfl,?_⟩;have ey:=alW bl;refine⟨hF,[],p++[],[],p,[],aCX,?_,?_,?_,Below.frame V _,λh=>by cases h⟩
 ·rw[qz,Y' hF ey,mN];exact trodAll_mk1 (shut_bool bE _)
 ·rw[qz,Y' hF ey];exact alV X V wg bl ad
 ·rw[qz,Y' hF ey,Y9]
  rfl
def mU(w:G)(n:Nat)(aH:List K->α->Prop)(v:K)(A:List α):Prop:=
 ∃(a:Option Addr) (c:Nat),v=E a A c/\A.length<=c/\(a=none->c=0)/\∀i,(h:i<A.length)->∃b o U,a=some ⟨b,o,none⟩/\U.length=n/\At w b (o+i*n) U/\aH U A[i]
def mU.rd{enc:α->List K}{ok:α->Prop}{v:K}{A:List α}(h:mU w n (λU x=>U=enc x/\ok x) v A):aS w n enc v A/\∀x∈A,ok x:=by
 obtain⟨a,c,h1,h2,T,af⟩:=h;refine⟨⟨a,c,h1,h2,T,λi hi=> ?_⟩,λx D=> ?_⟩
 ·obtain⟨b,o,U,e,_,b8,rfl,_⟩:=af i hi;exact⟨b,o,e,b8⟩
 ·obtain⟨i,hi,rfl⟩:=uD D;obtain⟨b,o,U,e,_,b8,_,cv⟩:=af i hi;exact cv
def mapM_some_get{tp alX:Type}{f:tp->Option alX}:∀ {l:List tp} {r:List alX},l.mapM f=some r->r.length=l/\∀i (h:i<l.length) (gm:i<r.length),f l[i]=some r[i]
 | [],r,h=>by simp at h;subst h;exact⟨rfl,λi h=>absurd h ay⟩
 |x::l,r,h=>by
  rw[List.mapM_cons]at h;cases ai:f x with
  |none=>rw[ai]at h;simp at h
  |some y=>
   rw[ai]at h;cases X:l.mapM f with
   |none=>rw[X]at h;simp at h
   |some ys=>
    rw[X]at h;simp at h;subst h;obtain⟨h1,h2⟩:=mapM_some_get X;refine⟨by simp[h1],λi hi l'=> ?_⟩;cases i with
    |zero=>simpa using ai
    |succ i=>exact h2 i Im (by simpa using l')
def aC0{base:Nat}{a:Addr}(h:w.cells? base a n=some U):U.length=n/\∀j (Z:j<U.length),w.cell? (a.add j)=some U[j]:=by
 unfold World.cells? at h;split at h
 ·obtain⟨h1,h2⟩:=mapM_some_get h;simp only[List.length_range]at h1;refine⟨h1,λj Z=> ?_⟩;have:=h2 j dU Z;exact wK
 ·cases h
def Light(P:Program)(t:dD)(d:DataW bC):Prop:= ∀n∈d.weights P t,n<=reachBytes
def Za{bC:Type}{P:Program}:∀ {ts:List dD} {hF:List (DataW bC)} {i:Nat} {t:dD} {d:DataW bC},ts[i]?=some t->hF[i]?=some d->∀n∈d.weights P t,n∈DataW.weightsEach P ts hF
 | [],_,_,_,_,h,_=>by simp at h
 |_::_,[],_,_,_,_,h=>by simp at h
 |t::ts,d::hF,0,_,_,h,gm=>by simp at h gm;subst h;subst gm;intro n hn;simp[DataW.weightsEach,hn]
 |t::ts,d::hF,i+1,_,_,h,gm=>by intro n hn;simp only[DataW.weightsEach,iZ];exact .inr (Za tH (by simpa using gm) n hn)
def alY{bC:Type}{P:Program}{e:dD}:∀ {hF:List (DataW bC)} {d:DataW bC},d∈hF->∀n∈d.weights P e,n∈DataW.weightsAll P e hF
 |d::hF,_,.head _=>λn hn=>by simp[DataW.weightsAll,hn]
 |d::hF,_,.tail _ h=>λn hn=>by simp only[DataW.weightsAll,iZ];exact .inr (alY h n hn)
def IE{fs:Array Field}{f:Field}{c:K}(an:P.underlying t=some (.struct fs))(ai:fs[i]?=some f)(ho:f.offset=i)(ao:P.cellsOf f.type=1)(h:DataW.trod enc P w 0 (λ_=>true) true fuel t U=some x)(hi:U[i]?=some c)(X:Light P t x.1):∃n y,DataW.trod enc P w 0 (λ_=>true) true n f.type [c]=some y/\Light P f.type y.1:=by
 obtain⟨A,n,-,D,-,ey,fX⟩:=DataW.trod_struct an h;have h1:=fX i f ai;have ad:=(List.getElem?_eq_some_iff.1 hi).1;have aK:(U.drop f.offset).take (P.cellsOf f.type)=[c]:=by rw[ho,ao,kQ ad];have:=(List.getElem?_eq_some_iff.1 hi).2;simp[this]
 rw[aK]at h1;have p3:i<A:=by rw[ey];exact(dG.1 ai).1
 rw[dK p3]at h1;refine⟨n,_,h1,λm R=>X m ?_⟩;rw[D];simp only[DataW.weights,an];exact Za (i:=i) (by simp[ai]) (by simp[dK p3]) m R
def aeA{t fuel:Nat}{v:K}(aH:List K->α->Prop)(ly:α)(an:P.underlying t=some (.slice e))(hn:P.cellsOf e=n)(gs:0<n)(dec:∀fuel U y,DataW.trod enc P w 0 (λ_=>true) true fuel e U=some y->Light P e y.1->U.length=n->∃x:α,aH U x)(h:DataW.trod enc P w 0 (λ_=>true) true fuel t [v]=some x)(ad:Light P t x.1):∃A:List α,mU w n aH v A/\A.length<=maxLen/\A.length*P.bytesOf e<=reachBytes/\((x.1= .nil/\A=[])\/∃km sp,x.1= .slice km sp/\km.length=A.length):=by
 rcases Go.Deep.open_slice an h with⟨h1,h2⟩|⟨a,len,cap,m,k,ax,aNS,h1,V,X,R,kt,D,mt⟩
 ·simp only[List.cons.injEq,and_true]at h1;subst h1;subst h2;exact⟨[],⟨none,0,rfl,ay,λ_=>rfl,λi hi=>absurd hi ay⟩,ay,ay,.inl ⟨rfl,rfl⟩⟩
 ·simp only[List.cons.injEq,and_true]at h1;subst h1;simp only[if_true]at kt;subst kt;have bJ:(len+(m-len))*P.bytesOf e<=reachBytes:=ad _ (by rw[D];simp[DataW.weights,an]);have each:∀i,i<len->∃x:α,∃U,U.length=n/\(∀j (Z:j<U.length),w.cell? ((a.add (i*n)).add j)=some U[j])/\aH U x:=by
   intro i hi;obtain⟨U,ao,hd⟩:=mt i aE;rw[hn]at ao;obtain⟨ey,hG⟩:=aC0 ao;obtain⟨x,qi⟩:=dec _ _ _ hd (λq aW=>ad q (by rw[D];simp only[DataW.weights,an,iA,iZ];exact .inr (.inl (alY (iJ.2 ⟨i,List.mem_range.2 hi,rfl⟩) q aW)))) ey
   exact⟨x,U,ey,hG,qi⟩
  have pick:∃g:Nat->α,∀i,i<len->∃U,U.length=n/\(∀j (Z:j<U.length),w.cell? ((a.add (i*n)).add j)=some U[j])/\aH U (g i):=by
   classical
   refine⟨λi=>if hi:i<len then(each i hi).choose else ly,λi hi=> ?_⟩;simp only[hi,dif_pos];exact(each i hi).choose_spec
  obtain⟨g,hg⟩:=pick;refine⟨(List.range len).map g,⟨some a,m,ay,by simpa using X,(λh=>by cases h),λi hi=> ?_⟩,by simp;omega,?_,.inr ⟨_,_,by rw[D],ay⟩⟩
  ·simp only[dL,List.length_range]at hi;obtain⟨U,ey,hG,hr⟩:=hg i hi;have kt:a.spot=none:=by
    obtain⟨Su,aNT,aC1,_⟩:=hg 0 aE;have:=aC1 0 aE;simp only[Nat.zero_mul,Addr.add,if_true]at this;cases ab:a.spot with
    |none=>rfl
    |some s=>simp only[World.cell?,ab]at this;split at this<;>simp at this
   refine⟨a.block,a.off,U,?_,ey,λj Z=> ?_,by simpa using hr⟩
   ·cases a;simp at kt;subst kt;rfl
   ·have T:=hG j Z;have aK:(a.add (i*n)).add j=⟨a.block,a.off+i*n+j,none⟩:=by
     cases a with
     |mk b o s=>simp at kt;subst kt;unfold Addr.add;by_cases h1:i*n=0<;>by_cases h2:j=0<;>simp[h1,h2]
    rw[aK]at T;exact T
  ·simp only[dL,List.length_range];exact cB (pF _ aE) bJ
def aNU{base:Nat}{sp:Nat->Bool}{held:Bool}{r:Reach}{b0:Nat}{v:K}{ap:List MemPlace}(an:P.underlying t=some .string)(m7:Value.okWide P w r b0 t v)(hd:DataW.Trod enc P w base sp held t v d ap):∃s:bn,v=N s/\d= .lit (.string s.data.toList)/\ap=[]/\s.size<=maxLen:=by obtain⟨s,rfl⟩:=okWide_string an m7;obtain⟨fuel,ai⟩:=hd;obtain⟨s',h,D,ab⟩:=DataW.trod_string an ai;simp[Value.cells]at h;subst h;simp at D;exact⟨s,rfl,D.1,D.2,ab⟩
def aC2{v:K}(hv:∃a l c,v=E a l c):v.cells.toList=[v]:=by obtain⟨a,l,c,rfl⟩:=hv;rfl
def Zb{ts:List dD}{hF:List (DataW bC)}(h:(DataW.weightsEach P ts hF).all (·<=reachBytes)=true)(an:ts[i]?=some t)(hd:hF[i]?=some d):Light P t d:=λn hn=>by have:=List.all_eq_true.1 h n (Za an hd n hn);simpa using this
end bh
def Oa(h:S:=by go_ret;exact⟨by rw[h8.o];rfl,aT.o.trans ag⟩):S:=h
def Ob(h:S:=by repeat(first|exact bF.o|refine Ext.alloc ?_ _|refine Ext.setCell ?_ ay _)):S:=h
def Oc(h:S:=by
 first
  |(go_roundw
    case rel=>exact⟨k+1,aE,cZ,aT.o.trans ag,h8.o⟩
    case measure=>simp[intOf];omega)
  |exact⟨⟨k+1,aE,cZ,aT.o.trans ag,h8.o⟩,by simp[intOf];omega⟩):S:=h
namespace j7
variable{a w:G}{k nr:Nat}
structure Test where
 arg:Int
 mask:Nat
 value:Nat
 action:Nat
structure Rule where
 nr:Nat
 tests:List Test
 action:Nat
structure Filter where
 i6:Int
 rules:List Rule
 dflt:Nat
structure Ce(t:Test):Prop where
 a1: -9223372036854775808<=t.arg
 a2:t.arg<=9223372036854775807
 m:t.mask<18446744073709551616
 v:t.value<18446744073709551616
 x:t.action<4294967296
structure sZ(r:Rule):Prop where
 n:r.nr<4294967296
 x:r.action<4294967296
 l:r.tests.length<=140737488351232
 t:∀t∈r.tests,Ce t
structure gI(f:Filter):Prop where
 a1: -9223372036854775808<=f.i6
 a2:f.i6<=9223372036854775807
 d:f.dflt<4294967296
 l:f.rules.length<=140737488351232
 r:∀r∈f.rules,sZ r
def kW(t:Test):List K:= [H t.arg,aA (t.mask:Int),aA (t.value:Int),M t.action]
def rX(t:Test):(kW t).length=4:=rfl
def yu(t:Test):∀u∈kW t,u.oneCell'=true:=by intro u a6;simp[kW]at a6;exact Uy
def EU(w:G)(U:List K)(r:Rule):Prop:= ∃v,U=[M r.nr,v,M r.action]/\aS w 4 kW v r.tests
def EU.ext(h:Ext a w){U:List K}{r:Rule}(hr:EU a U r):EU w U r:=by obtain⟨v,e,k⟩:=hr;exact⟨v,e,k.ext h⟩
def lD(h:Ext a w){v:K}{aN:List Rule}(hr:mU a 3 (EU a) v aN):mU w 3 (EU w) v aN:=by obtain⟨jQ,c,h1,h2,T,af⟩:=hr;refine⟨jQ,c,h1,h2,T,λi hi=> ?_⟩;obtain⟨b,o,U,e,X,b8,D⟩:=af i hi;exact⟨b,o,U,e,X,b8.ext h,D.ext h⟩
def qY{v:K}{ts:List Test}(h:aS w 4 kW v ts):∃a c,v=E a ts c/\ts.length<=c/\∀i,(hi:i<ts.length)->∃b o,a=some ⟨b,o,none⟩/\w.cell? ⟨b,o+i*4,none⟩=some (H ts[i].arg)/\w.cell? ⟨b,o+i*4+1,none⟩=some (aA (ts[i].mask:Int))/\w.cell? ⟨b,o+i*4+2,none⟩=some (aA (ts[i].value:Int))/\w.cell? ⟨b,o+i*4+3,none⟩=some (M (ts[i].action:Int)):=by obtain⟨a,c,h1,h2,T,af⟩:=h;refine⟨a,c,h1,h2,λi hi=> ?_⟩;obtain⟨b,o,e,k⟩:=af i hi;exact⟨b,o,e,k 0 (by simp[kW]),k 1 (by simp[kW]),k 2 (by simp[kW]),k 3 (by simp[kW])⟩
def xW{v:K}{aN:List Rule}(h:mU w 3 (EU w) v aN):∃a c,v=E a aN c/\aN.length<=c/\∀i,(hi:i<aN.length)->∃b o u,a=some ⟨b,o,none⟩/\w.cell? ⟨b,o+i*3,none⟩=some (M (aN[i].nr:Int))/\w.cell? ⟨b,o+i*3+1,none⟩=some u/\w.cell? ⟨b,o+i*3+2,none⟩=some (M (aN[i].action:Int))/\aS w 4 kW u aN[i].tests:=by obtain⟨a,c,h1,h2,T,af⟩:=h;refine⟨a,c,h1,h2,λi hi=> ?_⟩;obtain⟨b,o,U,e,X,b8,u,rfl,a6⟩:=af i hi;exact⟨b,o,u,e,b8 0 ay,b8 1 ay,b8 2 ay,a6⟩
def size(aN:List Rule):Nat:=(aN.map λr=>1+r.tests.length).sum
def oo(nr:Nat):List Rule->Nat->Int
 | [],_=> -1
 |r::l,k=>if (r.nr==nr)=true then(k:Int)else oo nr l (k+1)
def aC3{aN:List Rule}(h:k<aN):oo nr (aN.drop k) k=if (aN[k].nr==nr)=true then(k:Int)else oo nr (aN.drop (k+1)) (k+1):=by rw[kQ h];rfl
def aC4(nr:Nat)(aN:List Rule)(k:Nat):oo nr (aN.drop aN) k= -1:=by rw[qy];rfl
def alZ(nr:Nat):∀(aN:List Rule)(k:Nat),(oo nr aN k= -1/\∀r∈aN,r.nr≠nr)\/∃i,∃h:i<aN.length,oo nr aN k=((k+i:Nat):Int)/\(aN[i]'h).nr=nr
 | [],k=> .inl ⟨rfl,λr h=>by cases h⟩
 |t::r,k=>by
  cases ac:(t.nr==nr)
  ·rcases alZ nr r (k+1)with⟨h1,h2⟩|⟨i,h,h1,h2⟩
   ·refine .inl ⟨by simp only[oo,ac];exact h1,λx D=> ?_⟩;rcases iA.1 D with rfl|D
    ·exact ne_of_beq_false ac
    ·exact h2 x D
   ·refine .inr ⟨i+1,by simp;omega,?_,by simpa using h2⟩;simp only[oo,ac];have e:((k+1+i:Nat):Int)=((k+(i+1):Nat):Int):=aE;rw[<-e];exact h1
  ·exact .inr ⟨0,ay,by simp[oo,ac],by simpa using ac⟩
theorem aC5(eE x nr B:Nat)(v:K)(w:G)(hB:w.cell? B=some (M nr)):aM 64 #[bg #[M eE,v,M x],aB (some B)] w (av (eE==nr)):=by
 have ad:B<w.heap.size:=gD _ _ hB;have aW:((eE:Int)==(nr:Int))=(eE==nr):=by rw[dW];simp;omega
 cases bx:eE==nr
 all_goals
  rw[bx]at aW;have IA:=z bx;unfold aM;go_in;go_wp2;go_ret;exact⟨rfl,(O _).alloc _⟩
theorem aC6(v:K)(aN:List Rule)(nr B:Nat)(X:aN.length<=140737488351232)(w:G)(hB:w.cell? B=some (M nr))(hv:mU w 3 (EU w) v aN):aM 104 #[v,.func (.func 64) #[] #[aB (some B)]] w (H (oo nr aN 0)):=by
 obtain⟨a,c,rfl,ep,bV⟩:=xW hv;have sa:=hB;have N6:=z sa;have k4:=z bV;unfold aM;go_in;go_wp2;go_loopw [8] (λi wr=>∃k:Nat,k<=aN/\i=H k/\Ext w wr/\oo nr aN 0=oo nr (aN.drop k) k) (λi _=>aN.length-(intOf i).toNat)
 case atStart=>exact qO
 case round=>
  obtain⟨k,hk,rfl,D,b4⟩:=hrel;have aT:=z D;by_cases ad:k<aN
  ·obtain⟨b,o,u,rfl,h1,h2,T,-⟩:=k4.o k ad;replace h1:=D.cell h1;replace h2:=D.cell h2;replace T:=D.cell T;have V:=D.cell N6.o;rw[aC3 ad]at b4;have cq:=λW h=>aC5 (aN[k]'ad).nr (aN[k]'ad).action nr B u W h
   generalize aN[k]'ad=t at *;cases ac:(t.nr==nr)
   all_goals
    rw[ac]at cq b4;simp only[if_true,if_false,rM]at b4;have hb:=z cq;have h8:=z b4;have wa:=z ac;go_wp2_with fail;refine ak (hb.o _ V) ?_;intro aO ag;go_wp2_with fail
   ·exact Oc
   ·exact Oa
  ·obtain rfl:k=aN.length:=aE;rw[aC4]at b4;exact Iq
def Zc(w:G)(nr:Nat)(aN:List Rule)(r:Rule)(u:K):Prop:=
 (oo nr aN 0= -1/\r=⟨0,[],0⟩/\u=E none 0 0)\/∃i,∃h:i<aN.length,oo nr aN 0=(i:Int)/\r=aN[i]'h/\aS w 4 kW u r.tests
theorem aC7(v:K)(aN:List Rule)(nr B:Nat)(X:aN.length<=140737488351232)(w:G)(hB:w.cell? B=some (M nr))(hv:mU w 3 (EU w) v aN):Calls prog 63 #[v,.func (.func 64) #[] #[aB (some B)]] w λe F=>∃(r:Rule)(u:K),e=aI (bH #[bg #[M r.nr,u,M r.action],av (decide (0<=oo nr aN 0))])/\Ext w F/\Zc w nr aN r u:=by
 have bS:=λW (D:Ext w W)=>aC6 v aN nr B X W (D.cell hB) (lD D hv)
 obtain⟨a,c,rfl,ep,bV⟩:=xW hv;rcases alZ nr aN 0 with⟨h1,-⟩|⟨i,hi,h1,-⟩
 ·rw[h1]at bS;rw[h1];have it:=z bS;have tD:=z h1;go_in;go_wp2_with fail;refine ak (it.o _ ((O _).alloc _)) ?_;intro I Q;have fR:=Q.cell (p:=w) fD;have ed:=Q.cell (p:=⟨w,1,none⟩) fD;have eq:=Q.cell (p:=⟨w,2,none⟩) fD;have ci:w.heap.size<I:=gD _ _ fR;have ai:∀j,I.frozen? ⟨w,j,none⟩=false:=λj=>(kS (Q.block ay)).trans fC
  have f0:=ai 0;have dg:=ai 1;have fg:=ai 2;have bF:=z (((O w).alloc _).trans Q);go_wp2_with fail;have bO:¬w.heap.size=I:=aE;refine cO (v:=bH #[bg #[M 0,E none 0 0,M 0],av false]) (by first|(simp[results,results63,go_sem,World.cell?_alloc_old,bO,fR,ed,eq];done)|(simp[results,results63,go_sem,World.cell?_alloc_old,bO,fR,ed,eq];rfl)) rfl ⟨⟨0,[],0⟩,_,rfl,?_,.inl ⟨tD.o,rfl,rfl⟩⟩
  repeat(first|exact bF.o|refine Ext.alloc ?_ _|refine Ext.setCell ?_ ay _)
 ·have kw:(((0+i:Nat):Int))=(i:Int):=aE;rw[kw]at h1;rw[h1]at bS;rw[h1];obtain⟨b,o,u,rfl,hs,dc,dv,g'⟩:=bV i hi;have aC8:=g';obtain⟨bv,bp,rfl,-,-⟩:=qY aC8;have co:Zc w nr aN (aN[i]'hi) (E bv (aN[i]'hi).tests.length bp):= .inr ⟨i,hi,h1,rfl,g'⟩;generalize aN[i]'hi=t at *;have it:=z bS;have tD:=z h1;have i8:=z co;have aNV:=z g';have dm:decide ((0:Int)<=i)=true:=dH aE;go_in;go_wp2_with fail;refine ak (it.o _ ((O _).alloc _)) ?_;intro I Q;have fR:=Q.cell (p:=w) fD;have ed:=Q.cell (p:=⟨w,1,none⟩) fD;have eq:=Q.cell (p:=⟨w,2,none⟩) fD;have ci:w.heap.size<I:=gD _ _ fR;have ai:∀j,I.frozen? ⟨w,j,none⟩=false:=λj=>(kS (Q.block ay)).trans fC
  have f0:=ai 0;have dg:=ai 1;have fg:=ai 2;have f1:=((O w).alloc (J #[M 0,E none 0 0,M 0] 110)).trans Q;replace hs:=f1.cell hs;replace dc:=f1.cell dc;replace dv:=f1.cell dv;have bF:=z f1;go_wp2_with fail;refine cO (v:=bH #[bg #[M t.nr,E bv t.tests bp,M t.action],av true]) (by first|(simp[results,results63,go_sem,fR,ed,eq];done)|(simp[results,results63,go_sem,fR,ed,eq];rfl)) rfl ⟨t,_,rfl,?_,i8.o⟩
  exact Ob
end j7
def al0(h:S:=by unfold aM;go_in;go_wp2_with fail;refine ak (nf.o _) ?_;exact Zd):S:=h
def al1(h:S:=by cases V:v.testBit i<;>cases ao:m.testBit i<;>rw[V,ao]at h2<;>simp at h2⊢):S:=h
def JY(h:S:=by unfold aM;go_in;go_wp2;go_ret;exact Dn):S:=h
def Zd(h:S:=by intro I Q;go_wp2_with fail;go_ret;exact⟨rfl,((O _).alloc _).trans Q⟩):S:=h
namespace j7
def aC9{v m:Nat}(hv:v<18446744073709551616)(R:m<18446744073709551616):((v&&&(18446744073709551615-m))==0)=((v&&&m)==v):=by
 rw[dW];simp only[jC];have e:18446744073709551615-m=2^64-(m+1):=aE;have eS:m<2^64:=R;have vA:v<2^64:=hv;rw[e];constructor
 ·intro h;apply Nat.eq_of_testBit_eq;intro i;have h2:=congrArg (λx=>x.testBit i) h;simp only[Nat.testBit_and,Nat.testBit_two_pow_sub_succ eS,Nat.zero_testBit]at h2;rw[Nat.testBit_and];by_cases hi:i<64
  ·rw[dH hi,jc]at h2;exact al1
  ·have:v.testBit i=false:=Nat.testBit_lt_two_pow (vw vA (Nat.pow_le_pow_right Y aE));rw[this];rfl
 ·intro h;apply Nat.eq_of_testBit_eq;intro i;have h2:=congrArg (λx=>x.testBit i) h;simp only[Nat.testBit_and]at h2;rw[Nat.testBit_and,Nat.testBit_two_pow_sub_succ eS,Nat.zero_testBit];exact al1
def oW(t:Test):Bool:=decide (0<=t.arg)&&(decide (t.arg<6)&&(((t.value&&&t.mask)==t.value)&&KL.kn t.action))
theorem aDa(t:Test)(an:Ce t)(w:G):aM 369 #[bg #[H t.arg,aA (t.mask:Int),aA (t.value:Int),M t.action]] w (av (oW t)):=by
 obtain⟨ar,m,v,x⟩:=t;have R:=an.m;have hv:=an.v;have D:=an.x;have bl:oW ⟨ar,m,v,x⟩=(decide (0<=ar)&&(decide (ar<6)&&(((v&&&m)==v)&&KL.kn x))):=rfl;dsimp only at R hv D⊢;by_cases ae:ar<0
 ·have aK:decide (0<=ar)=false:=dM aE;rw[aK,Bool.false_and]at bl;rw[bl];have ee:=z bl;have n':=z ae;exact JY
 have aK:decide (0<=ar)=true:=dH aE;by_cases a9:6<=ar
 ·have aV:decide (ar<6)=false:=dM aE;rw[aK,aV,Bool.false_and,jc]at bl;rw[bl];have ee:=z bl;have n':=z ae;have al2:=z a9;exact JY
 have aV:decide (ar<6)=true:=dH aE;rw[aK,aV,jc,jc]at bl;rw[bl];have iv:=u64_andNot_nat v m hv R;have aW:=aC9 hv R;have bL:(((v&&&(18446744073709551615-m):Nat):Int)==0)=((v&&&(18446744073709551615-m))==0):=by rw[dW];simp
 rw[aW]at bL;generalize(v&&&(18446744073709551615-m))=aR at *;generalize((v&&&m)==v)=sY at *;have am:=λW=>KL.Bu x D W
 have ee:=z bl;have n':=z ae;have al2:=z a9;have nf:=z am;have JZ:=z aW;cases sY
 ·exact JY
 ·exact al0
end j7
def Ze(h:S:=by obtain rfl:k=ts.length:=aE;rw[aDb]at b4;exact Iq):S:=h
namespace j7
def lJ(p:Test->Bool):List Test->Nat->Int
 | [],_=> -1
 |t::r,k=>if p t=true then(k:Int)else lJ p r (k+1)
def Zf{p:Test->Bool}{ts:List Test}{k:Nat}(h:k<ts):lJ p (ts.drop k) k=if p ts[k]=true then(k:Int)else lJ p (ts.drop (k+1)) (k+1):=by rw[kQ h];rfl
def aDb(p:Test->Bool)(ts:List Test)(k:Nat):lJ p (ts.drop ts) k= -1:=by rw[qy];rfl
def uh(t:Test):Bool:= !oW t
def Bd(t:Test):Bool:=t.mask==0
theorem aDc(t:Test)(an:Ce t)(w:G):aM 368 #[bg #[H t.arg,aA (t.mask:Int),aA (t.value:Int),M t.action]] w (av (uh t)):=by
 have em:=λW=>aDa t an W
 unfold uh;generalize oW t=bb at *;have pf:=z em;unfold aM;go_in;go_wp2_with fail;refine ak (pf.o _) ?_;exact Zd
theorem aDd(t:Test)(_:Ce t)(w:G):aM 297 #[bg #[H t.arg,aA (t.mask:Int),aA (t.value:Int),M t.action]] w (av (Bd t)):=by
 have aW:((t.mask:Int)==0)=(t.mask==0):=by rw[dW];simp
 unfold Bd;unfold aM;go_in;go_wp2;go_ret;exact⟨by first|rfl|rw[aW]|simp[aW],(O _).alloc _⟩
theorem aDe(v:K)(ts:List Test)(X:ts.length<=140737488351232)(cv:∀t∈ts,Ce t)(w:G)(hv:aS w 4 kW v ts):aM 105 #[v,.func (.func 368) #[] #[]] w (H (lJ uh ts 0)):=by
 obtain⟨a,c,rfl,ep,bV⟩:=qY hv;have sC:=z cv;have k4:=z bV;unfold aM;go_in;go_wp2;go_loopw [8] (λi wr=>∃k:Nat,k<=ts/\i=H k/\Ext w wr/\lJ uh ts 0=lJ uh (ts.drop k) k) (λi _=>ts.length-(intOf i).toNat)
 case atStart=>exact qO
 case round=>
  obtain⟨k,hk,rfl,D,b4⟩:=hrel;have aT:=z D;by_cases ad:k<ts
  ·obtain⟨b,o,rfl,h1,h2,T,af⟩:=k4.o k ad;replace h1:=D.cell h1;replace h2:=D.cell h2;replace T:=D.cell T;replace af:=D.cell af;rw[Zf ad]at b4;have cq:=λW=>aDc (ts[k]'ad) (sC.o _ (eB ad)) W
   generalize ts[k]'ad=t at *;cases ac:uh t
   all_goals
    rw[ac]at cq b4;simp only[if_true,if_false,rM]at b4;have hb:=z cq;have h8:=z b4;have wa:=z ac;go_wp2_with fail;refine ak (hb.o _) ?_;intro aO ag;go_wp2_with fail
   ·exact Oc
   ·exact Oa
  ·exact Ze
theorem aDf(v:K)(ts:List Test)(X:ts.length<=140737488351232)(cv:∀t∈ts,Ce t)(w:G)(hv:aS w 4 kW v ts):aM 105 #[v,.func (.func 297) #[] #[]] w (H (lJ Bd ts 0)):=by
 obtain⟨a,c,rfl,ep,bV⟩:=qY hv;have sC:=z cv;have k4:=z bV;unfold aM;go_in;go_wp2;go_loopw [8] (λi wr=>∃k:Nat,k<=ts/\i=H k/\Ext w wr/\lJ Bd ts 0=lJ Bd (ts.drop k) k) (λi _=>ts.length-(intOf i).toNat)
 case atStart=>exact qO
 case round=>
  obtain⟨k,hk,rfl,D,b4⟩:=hrel;have aT:=z D;by_cases ad:k<ts
  ·obtain⟨b,o,rfl,h1,h2,T,af⟩:=k4.o k ad;replace h1:=D.cell h1;replace h2:=D.cell h2;replace T:=D.cell T;replace af:=D.cell af;rw[Zf ad]at b4;have cq:=λW=>aDd (ts[k]'ad) (sC.o _ (eB ad)) W
   generalize ts[k]'ad=t at *;cases ac:Bd t
   all_goals
    rw[ac]at cq b4;simp only[if_true,if_false,rM]at b4;have hb:=z cq;have h8:=z b4;have wa:=z ac;go_wp2_with fail;refine ak (hb.o _) ?_;intro aO ag;go_wp2_with fail
   ·exact Oc
   ·exact Oa
  ·exact Ze
end j7
def al3(h:S:=by first|(simp[results,results65,go_sem,World.cell?_alloc_old,bO,fR,ed,eq,q2];done)|(simp[results,results65,go_sem,World.cell?_alloc_old,bO,fR,ed,eq,q2];rfl)):S:=h
def al4(h:S:=by first|(simp[results,results65,go_sem,fR,ed,eq,q2];done)|(simp[results,results65,go_sem,fR,ed,eq,q2];rfl)):S:=h
namespace j7
def al5(p:Test->Bool):∀(ts:List Test)(k:Nat),(lJ p ts k= -1/\ts.any p=false)\/∃i,∃h:i<ts.length,lJ p ts k=((k+i:Nat):Int)/\p (ts[i]'h)=true/\ts.any p=true
 | [],k=> .inl ⟨rfl,rfl⟩
 |t::r,k=>by
  cases ac:p t
  ·rcases al5 p r (k+1)with⟨h1,h2⟩|⟨i,h,h1,h2,T⟩
   ·exact .inl ⟨by simp only[lJ,ac];exact h1,by rw[List.any_cons,ac,h2];rfl⟩
   ·refine .inr ⟨i+1,by simp;omega,?_,by simpa using h2,by rw[List.any_cons,T];simp⟩;simp only[lJ,ac];have e:((k+1+i:Nat):Int)=((k+(i+1):Nat):Int):=aE;rw[<-e];exact h1
  ·exact .inr ⟨0,ay,by simp[lJ,ac],by simpa using ac,by rw[List.any_cons,ac];rfl⟩
theorem aDg(v:K)(ts:List Test)(X:ts.length<=140737488351232)(cv:∀t∈ts,Ce t)(w:G)(hv:aS w 4 kW v ts):Calls prog 65 #[v,.func (.func 368) #[] #[]] w λe F=>∃t:Test,e=aI (bH #[bg #[H t.arg,aA (t.mask:Int),aA (t.value:Int),M t.action],av (ts.any uh)])/\Ext w F:=by
 have bS:=λW (D:Ext w W)=>aDe v ts X cv W (hv.ext D)
 obtain⟨a,c,rfl,ep,bV⟩:=qY hv;have sC:=z cv;rcases al5 uh ts 0 with⟨h1,h2⟩|⟨i,hi,h1,-,h2⟩
 ·rw[h1]at bS;rw[h2];have it:=z bS;have tD:=z h1;have HX:=z h2;go_in;go_wp2_with fail;refine ak (it.o _ ((O _).alloc _)) ?_;intro I Q;have fR:=Q.cell (p:=w) fD;have ed:=Q.cell (p:=⟨w,1,none⟩) fD;have eq:=Q.cell (p:=⟨w,2,none⟩) fD;have q2:=Q.cell (p:=⟨w,3,none⟩) fD;have ci:w.heap.size<I:=gD _ _ fR;have ai:∀j,I.frozen? ⟨w,j,none⟩=false:=λj=>(kS (Q.block ay)).trans fC
  have f0:=ai 0;have dg:=ai 1;have fg:=ai 2;have mw:=ai 3;have bF:=z (((O w).alloc _).trans Q);go_wp2_with fail;have bO:¬w.heap.size=I:=aE;refine cO (v:=bH #[bg #[H 0,aA 0,aA 0,M 0],av false]) al3 rfl ⟨⟨0,0,0,0⟩,rfl,?_⟩
  exact Ob
 ·have kw:(((0+i:Nat):Int))=(i:Int):=aE;rw[h1,kw]at bS;rw[h2];obtain⟨b,o,rfl,hs,dc,dv,g'⟩:=bV i hi;generalize ts[i]'hi=t at *;have it:=z bS;have tD:=z h1;have HX:=z h2;have dm:decide ((0:Int)<=i)=true:=dH aE;go_in;go_wp2_with fail;refine ak (it.o _ ((O _).alloc _)) ?_;intro I Q;have fR:=Q.cell (p:=w) fD;have ed:=Q.cell (p:=⟨w,1,none⟩) fD;have eq:=Q.cell (p:=⟨w,2,none⟩) fD;have q2:=Q.cell (p:=⟨w,3,none⟩) fD;have ci:w.heap.size<I:=gD _ _ fR;have ai:∀j,I.frozen? ⟨w,j,none⟩=false:=λj=>(kS (Q.block ay)).trans fC
  have f0:=ai 0;have dg:=ai 1;have fg:=ai 2;have mw:=ai 3;have f1:=((O w).alloc (J #[H 0,aA 0,aA 0,M 0] 137)).trans Q;replace hs:=f1.cell hs;replace dc:=f1.cell dc;replace dv:=f1.cell dv;replace g':=f1.cell g';have bF:=z f1;go_wp2_with fail;refine cO (v:=bH #[bg #[H t.arg,aA (t.mask:Int),aA (t.value:Int),M t.action],av true]) al4 rfl ⟨t,rfl,?_⟩
  exact Ob
def uj(r:Rule):Bool:=decide (r.tests.length<=32)&&(!r.tests.any uh&&KL.kn r.action)
theorem aDh(r:Rule)(v:K)(hr:sZ r)(w:G)(hv:aS w 4 kW v r.tests):aM 290 #[bg #[M r.nr,v,M r.action]] w (av (uj r)):=by
 obtain⟨nr,ts,cP⟩:=r;have co:=λW (D:Ext w W)=>aDg v ts hr.l hr.t W (hv.ext D)
 have am:=λW=>KL.Bu cP hr.x W
 have bl:uj ⟨nr,ts,cP⟩=(decide (ts.length<=32)&&(!ts.any uh&&KL.kn cP)):=rfl;dsimp only at hv⊢;obtain⟨a,c,rfl,ep,-⟩:=qY hv;rw[bl];generalize ts.any uh=sY at *;have aK:decide ((ts:Int)<=32)=decide (ts.length<=32):=by rw[dW];simp;omega
 have ee:=z bl;have i8:=z co;have nf:=z am;cases hd:decide (ts.length<=32)
 all_goals rw[hd]at aK
 all_goals cases sY
 all_goals
  unfold aM;go_in;go_wp;refine(i8.o _ ((O _).alloc _)).mono ?_;rintro e I ⟨t,rfl,Q⟩;have ef:=λo=>(((Q).trans ((O _).alloc o))).cell (p:=⟨w,1,none⟩) fD
  have cY:=λo=>(((Q).trans ((O _).alloc o))).cell (p:=⟨w,2,none⟩) fD
  have bF:=z (((O w).alloc _).trans Q);go_wp2_with((go_at_call 289;refine ak (nf.o _) ?_;intro aO ag));go_ret
  first
   |exact⟨ay,bF.o.alloc _⟩
   |exact⟨ay,(bF.o.alloc _).trans ag⟩
end j7
def al6(h:S:=by unfold aM;go_in;go_wp2_with(go_quiet (fail));go_wp2;go_ret;exact⟨rfl,(((O _).alloc _).alloc _).drewN _⟩):S:=h
def J2(h:S:=by go_in;go_wp2_with(go_quiet (fail));go_wp2;go_ret;exact⟨by first|rfl|(rw[aW];rfl)|simp[aW],(((O _).alloc _).alloc _).drewN _⟩):S:=h
namespace j7
open jG (Dat gW fT)
variable{d:Dat}
def J3(d:Dat)(i:Nat):Nat:= [d.a0,d.a1,d.a2,d.a3,d.a4,d.a5].getD i 0
def E9(t:Test)(d:Dat):Bool:=decide (0<=t.arg)&&(decide (t.arg<6)&&((J3 d t.arg.toNat&&&t.mask)==t.value))
theorem aDi(t:Test)(an:Ce t)(d:Dat)(hd:fT d)(w:G):aM 67 #[bg #[H t.arg,aA (t.mask:Int),aA (t.value:Int),M t.action],gW d] w (av (E9 t d)):=by
 obtain⟨ar,m,v,x⟩:=t;have R:=an.m;have bl:E9 ⟨ar,m,v,x⟩ d=(decide (0<=ar)&&(decide (ar<6)&&((J3 d ar.toNat&&&m)==v))):=rfl;dsimp only at R⊢;unfold gW;by_cases ae:ar<0
 ·have aK:decide (0<=ar)=false:=dM aE;rw[aK,Bool.false_and]at bl;rw[bl];have ee:=z bl;have n':=z ae;exact al6
 have aK:decide (0<=ar)=true:=dH aE;by_cases a9:6<=ar
 ·have aV:decide (ar<6)=false:=dM aE;have cC:decide (ar<=5)=false:=dM aE;rw[aK,aV,Bool.false_and,jc]at bl;rw[bl];have ee:=z bl;have n':=z ae;have al2:=z a9;exact al6
 rw[bl];have ee:=z bl;rcases(show ar=0\/ar=1\/ar=2\/ar=3\/ar=4\/ar=5 from aE)with rfl|rfl|rfl|rfl|rfl|rfl
 ·have iv:=u64_and_nat d.a0 m hd.a0 R;have aW:(((d.a0&&&m:Nat):Int)==(v:Int))=((d.a0&&&m)==v):=by rw[dW];simp;omega
  show Calls _ _ _ _ λe F=>e=aI (av (true&&(true&&((d.a0&&&m)==v))))/\_
  rw[jc,jc];generalize(d.a0&&&m)=aR at *;exact J2
 ·have iv:=u64_and_nat d.a1 m hd.a1 R;have aW:(((d.a1&&&m:Nat):Int)==(v:Int))=((d.a1&&&m)==v):=by rw[dW];simp;omega
  show Calls _ _ _ _ λe F=>e=aI (av (true&&(true&&((d.a1&&&m)==v))))/\_
  rw[jc,jc];generalize(d.a1&&&m)=aR at *;exact J2
 ·have iv:=u64_and_nat d.a2 m hd.a2 R;have aW:(((d.a2&&&m:Nat):Int)==(v:Int))=((d.a2&&&m)==v):=by rw[dW];simp;omega
  show Calls _ _ _ _ λe F=>e=aI (av (true&&(true&&((d.a2&&&m)==v))))/\_
  rw[jc,jc];generalize(d.a2&&&m)=aR at *;exact J2
 ·have iv:=u64_and_nat d.a3 m hd.a3 R;have aW:(((d.a3&&&m:Nat):Int)==(v:Int))=((d.a3&&&m)==v):=by rw[dW];simp;omega
  show Calls _ _ _ _ λe F=>e=aI (av (true&&(true&&((d.a3&&&m)==v))))/\_
  rw[jc,jc];generalize(d.a3&&&m)=aR at *;exact J2
 ·have iv:=u64_and_nat d.a4 m hd.a4 R;have aW:(((d.a4&&&m:Nat):Int)==(v:Int))=((d.a4&&&m)==v):=by rw[dW];simp;omega
  show Calls _ _ _ _ λe F=>e=aI (av (true&&(true&&((d.a4&&&m)==v))))/\_
  rw[jc,jc];generalize(d.a4&&&m)=aR at *;exact J2
 ·have iv:=u64_and_nat d.a5 m hd.a5 R;have aW:(((d.a5&&&m:Nat):Int)==(v:Int))=((d.a5&&&m)==v):=by rw[dW];simp;omega
  show Calls _ _ _ _ λe F=>e=aI (av (true&&(true&&((d.a5&&&m)==v))))/\_
  rw[jc,jc];generalize(d.a5&&&m)=aR at *;exact J2
structure yD(w:G)(B:Nat)(d:Dat):Prop where
 c0:w.cell? B=some (M d.nr)
 c1:w.cell? ⟨B,1,none⟩=some (M d.ar)
 c2:w.cell? ⟨B,2,none⟩=some (aA (d.ip:Int))
 c3:w.cell? ⟨B,3,none⟩=some (aA (d.a0:Int))
 c4:w.cell? ⟨B,4,none⟩=some (aA (d.a1:Int))
 c5:w.cell? ⟨B,5,none⟩=some (aA (d.a2:Int))
 c6:w.cell? ⟨B,6,none⟩=some (aA (d.a3:Int))
 c7:w.cell? ⟨B,7,none⟩=some (aA (d.a4:Int))
 c8:w.cell? ⟨B,8,none⟩=some (aA (d.a5:Int))
def yD.ext{a w:G}(h:Ext a w){B:Nat}(ao:yD a B d):yD w B d:=
 ⟨h.cell ao.c0,h.cell ao.c1,h.cell ao.c2,h.cell ao.c3,h.cell ao.c4,h.cell ao.c5,h.cell ao.c6,h.cell ao.c7,h.cell ao.c8⟩
def kN(d:Dat)(t:Test):Bool:=E9 t d
theorem aDj(t:Test)(an:Ce t)(d:Dat)(hd:fT d)(B:Nat)(w:G)(hB:yD w B d):aM 66 #[bg #[H t.arg,aA (t.mask:Int),aA (t.value:Int),M t.action],aB (some B)] w (av (kN d t)):=by
 have h9:=λW=>aDi t an d hd W
 unfold gW at h9;unfold kN;generalize E9 t d=V at *;have aW:=λo=>hB.ext ((O w).alloc o)
 have e3:=λo=>(aW o).c0
 have ef:=λo=>(aW o).c1
 have cY:=λo=>(aW o).c2
 have eh:=λo=>(aW o).c3
 have hL:=λo=>(aW o).c4
 have s4:=λo=>(aW o).c5
 have tc:=λo=>(aW o).c6
 have Sx:=λo=>(aW o).c7
 have SD:=λo=>(aW o).c8
 have UT:=z h9;have uv:=z hB;unfold aM;go_in;go_wp2_with fail;refine ak (UT.o _) ?_;exact Zd
theorem aDk(d:Dat)(hd:fT d)(B:Nat)(v:K)(ts:List Test)(X:ts.length<=140737488351232)(cv:∀t∈ts,Ce t)(w:G)(hB:yD w B d)(hv:aS w 4 kW v ts):aM 105 #[v,.func (.func 66) #[] #[aB (some B)]] w (H (lJ (kN d) ts 0)):=by
 obtain⟨a,c,rfl,ep,bV⟩:=qY hv;have uv:=z hB;have sC:=z cv;have k4:=z bV;unfold aM;go_in;go_wp2;go_loopw [8] (λi wr=>∃k:Nat,k<=ts/\i=H k/\Ext w wr/\lJ (kN d) ts 0=lJ (kN d) (ts.drop k) k) (λi _=>ts.length-(intOf i).toNat)
 case atStart=>exact qO
 case round=>
  obtain⟨k,hk,rfl,D,b4⟩:=hrel;have aT:=z D;by_cases ad:k<ts
  ·obtain⟨b,o,rfl,h1,h2,T,af⟩:=k4.o k ad;replace h1:=D.cell h1;replace h2:=D.cell h2;replace T:=D.cell T;replace af:=D.cell af;rw[Zf ad]at b4;have cq:=λW h=>aDj (ts[k]'ad) (sC.o _ (eB ad)) d hd B W h
   have aDl:=z (uv.o.ext D);generalize ts[k]'ad=t at *;cases ac:kN d t
   all_goals
    rw[ac]at cq b4;simp only[if_true,if_false,rM]at b4;have hb:=z cq;have h8:=z b4;have wa:=z ac;go_wp2_with fail;refine ak (hb.o _ aDl.o) ?_;intro aO ag;go_wp2_with fail
   ·exact Oc
   ·exact Oa
  ·exact Ze
def SK(p:Test->Bool):∀(ts:List Test)(k:Nat),(lJ p ts k= -1/\ts.any p=false/\ts.find? p=none)\/∃i,∃h:i<ts.length,lJ p ts k=((k+i:Nat):Int)/\ts.find? p=some (ts[i]'h)/\ts.any p=true
 | [],k=> .inl ⟨rfl,rfl,rfl⟩
 |t::r,k=>by
  cases ac:p t
  ·rcases SK p r (k+1)with⟨h1,h2,af⟩|⟨i,h,h1,h2,T⟩
   ·exact .inl ⟨by simp only[lJ,ac];exact h1,by rw[List.any_cons,ac,h2];rfl,by rw[List.find?_cons,ac];exact af⟩
   ·refine .inr ⟨i+1,by simp;omega,?_,by rw[List.find?_cons,ac];simpa using h2,by rw[List.any_cons,T];simp⟩;simp only[lJ,ac];have e:((k+1+i:Nat):Int)=((k+(i+1):Nat):Int):=aE;rw[<-e];exact h1
  ·exact .inr ⟨0,ay,by simp[lJ,ac],by rw[List.find?_cons,ac];rfl,by rw[List.any_cons,ac];rfl⟩
def zF(d:Dat)(ts:List Test)(t:Test):Prop:=ts.find? (kN d)=if ts.any (kN d)=true then some t else none
def zF.no{ts:List Test}(h1:ts.any (kN d)=false)(h2:ts.find? (kN d)=none)(t:Test):zF d ts t:=by unfold zF;rw[h1,h2];rfl
def zF.yes{ts:List Test}{t:Test}(h1:ts.any (kN d)=true)(h2:ts.find? (kN d)=some t):zF d ts t:=by unfold zF;rw[h1,h2];rfl
theorem aDm(d:Dat)(hd:fT d)(B:Nat)(v:K)(ts:List Test)(X:ts.length<=140737488351232)(cv:∀t∈ts,Ce t)(w:G)(hB:yD w B d)(hv:aS w 4 kW v ts):Calls prog 65 #[v,.func (.func 66) #[] #[aB (some B)]] w λe F=>∃t:Test,e=aI (bH #[bg #[H t.arg,aA (t.mask:Int),aA (t.value:Int),M t.action],av (ts.any (kN d))])/\Ext w F/\zF d ts t:=by
 have bS:=λW (D:Ext w W)=>aDk d hd B v ts X cv W (hB.ext D) (hv.ext D)
 obtain⟨a,c,rfl,ep,bV⟩:=qY hv;have sC:=z cv;have uv:=z hB;rcases SK (kN d) ts 0 with⟨h1,h2,AB⟩|⟨i,hi,h1,AB,h2⟩
 ·rw[h1]at bS;rw[h2];have it:=z bS;have tD:=z h1;have HX:=z h2;have Zi:=z AB;go_in;go_wp2_with fail;refine ak (it.o _ ((O _).alloc _)) ?_;intro I Q;have fR:=Q.cell (p:=w) fD;have ed:=Q.cell (p:=⟨w,1,none⟩) fD;have eq:=Q.cell (p:=⟨w,2,none⟩) fD;have q2:=Q.cell (p:=⟨w,3,none⟩) fD;have ci:w.heap.size<I:=gD _ _ fR;have ai:∀j,I.frozen? ⟨w,j,none⟩=false:=λj=>(kS (Q.block ay)).trans fC
  have f0:=ai 0;have dg:=ai 1;have fg:=ai 2;have mw:=ai 3;have bF:=z (((O w).alloc _).trans Q);go_wp2_with fail;have bO:¬w.heap.size=I:=aE;refine cO (v:=bH #[bg #[H 0,aA 0,aA 0,M 0],av false]) al3 rfl ⟨⟨0,0,0,0⟩,rfl,?_,zF.no HX.o Zi.o _⟩
  exact Ob
 ·have kw:(((0+i:Nat):Int))=(i:Int):=aE;rw[h1,kw]at bS;rw[h2];obtain⟨b,o,rfl,hs,dc,dv,g'⟩:=bV i hi;generalize ts[i]'hi=t at *;have it:=z bS;have tD:=z h1;have HX:=z h2;have Zi:=z AB;have dm:decide ((0:Int)<=i)=true:=dH aE;go_in;go_wp2_with fail;refine ak (it.o _ ((O _).alloc _)) ?_;intro I Q;have fR:=Q.cell (p:=w) fD;have ed:=Q.cell (p:=⟨w,1,none⟩) fD;have eq:=Q.cell (p:=⟨w,2,none⟩) fD;have q2:=Q.cell (p:=⟨w,3,none⟩) fD;have ci:w.heap.size<I:=gD _ _ fR;have ai:∀j,I.frozen? ⟨w,j,none⟩=false:=λj=>(kS (Q.block ay)).trans fC
  have f0:=ai 0;have dg:=ai 1;have fg:=ai 2;have mw:=ai 3;have f1:=((O w).alloc (J #[H 0,aA 0,aA 0,M 0] 137)).trans Q;replace hs:=f1.cell hs;replace dc:=f1.cell dc;replace dv:=f1.cell dv;replace g':=f1.cell g';have bF:=z f1;go_wp2_with fail;refine cO (v:=bH #[bg #[H t.arg,aA (t.mask:Int),aA (t.value:Int),M t.action],av true]) al4 rfl ⟨t,rfl,?_,zF.yes HX.o Zi.o⟩
  exact Ob
end j7
abbrev wz:=@Bool.not_eq_true
namespace j7
open jG (Dat gW fT)
open d5 (uV)
variable{d:Dat}{b5 q x:Nat}
def uY:Option Nat->Nat->Bool
 |none,_=>true
 |some q,n=>decide (q<n)
def iE:Option Nat->List Rule->Bool
 |_,[]=>true
 |p,r::l=>(uj r&&uY p r.nr)&&iE (some r.nr) l
def eT(f:Filter):Bool:=decide (0<=f.i6)&&(decide (f.i6<6)&&(decide (f.rules.length<=400)&&(KL.kn f.dflt&&iE none f.rules)))
def aDn{p:Option Nat}(h:uY p q=true):∀ {l:List Rule},iE (some q) l=true->iE p l=true
 | [],_=>rfl
 |r::l,k=>by
  simp only[iE,dV]at k⊢;refine⟨⟨k.1.1,?_⟩,k.2⟩;have bW:=k.1.2;cases p with
  |none=>rfl
  |some p=>unfold uY at h bW⊢;simp only[iM]at h bW⊢;omega
def AO:∀ {l:List Rule} {p:Option Nat},iE p l=true->∀r∈l,uj r=true/\uY p r.nr=true
 |r::l,p,k,x,D=>by
  simp only[iE,dV]at k;cases D with
  |head=>exact k.1
  |tail _ D=>
   have h:=AO k.2 x D;refine⟨h.1,?_⟩;have h2:=h.2;have bW:=k.1.2;cases p with
   |none=>rfl
   |some p=>unfold uY at h2 bW⊢;simp only[iM]at h2 bW⊢;omega
def lK(d:Dat)(ts:List Test)(x:Nat):Nat:=match ts.find? (kN d)with
 |some t=>t.action
 |none=>x
def qc(d:Dat)(b5:Nat)(aN:List Rule):Nat:=match aN.find? (λr=>r.nr==d.nr)with
 |some r=>lK d r.tests r.action
 |none=>b5
def zG(f:Filter)(d:Dat):Bool:=(uV d.ar d.nr).2&&((uV d.ar d.nr).1==f.i6)
def kT(f:Filter)(d:Dat):Nat:=if zG f d=true then qc d f.dflt f.rules else 2147418112
def iw:List Test->Nat->List Test×Nat
 | [],x=>([],x)
 |t::l,x=>if t.mask==0 then([],t.action)else(t::(iw l x).1,(iw l x).2)
def qI(ts:List Test)(x:Nat):Nat->Nat
 |0=>0
 |k+1=>if (ts.getD k ⟨0,0,0,0⟩).action==x then qI ts x k else k+1
def tq(ts:List Test)(x:Nat):List Test:=ts.take (qI ts x ts)
def j6(r:Rule):Rule:=⟨r.nr,tq (iw r.tests r.action).1 (iw r.tests r.action).2,(iw r.tests r.action).2⟩
def Bf(b5:Nat)(r:Rule):Bool:= !r.tests.isEmpty|| !(r.action==b5)
def nI(b5:Nat)(aN:List Rule):List Rule:=(aN.map j6).filter (Bf b5)
def uU(f:Filter):Filter:=⟨f.i6,nI f.dflt f.rules,f.dflt⟩
def al7(ts:List Test)(x:Nat):∀k,qI ts x k<=k
 |0=>aZ _
 |k+1=>by
  unfold qI;split
  ·have:=al7 ts x k;omega
  ·exact aZ _
def al8(ts:List Test)(x:Nat):∀k j,qI ts x k<=j->j<k->(ts.getD j ⟨0,0,0,0⟩).action=x
 |0,j,_,h=>aE
 |k+1,j,h,h2=>by
  unfold qI at h;split at h
  ·rename_i bx;by_cases Z:j<k
   ·exact al8 ts x k j h Z
   ·obtain rfl:j=k:=aE;exact eq_of_beq bx
  ·omega
def GX:∀(ts:List Test)(x:Nat),(iw ts x).1.length<=ts.length
 | [],_=>aZ _
 |t::l,x=>by
  unfold iw;split
  ·simp
  ·simpa using GX l x
def al9:∀(ts:List Test)(x:Nat)(t:Test),t∈(iw ts x).1->t∈ts/\(t.mask==0)=false
 |a::l,x,t,h=>by
  unfold iw at h;split at h
  ·cases h
  ·rename_i R;cases h with
   |head=>exact⟨.head _,by simpa using R⟩
   |tail _ h=>have:=al9 l x t h;exact⟨.tail _ this.1,this.2⟩
def RP:∀(ts:List Test)(x:Nat),(iw ts x).2=x\/∃t∈ts,(iw ts x).2=t.action
 | [],_=> .inl rfl
 |a::l,x=>by
  unfold iw;split
  ·exact .inr ⟨a,.head _,rfl⟩
  ·rcases RP l x with h|⟨t,h1,h2⟩
   ·exact .inl h
   ·exact .inr ⟨t,.tail _ h1,h2⟩
def aDo{ts:List Test}{t:Test}(h:t∈tq ts x):t∈ts:=zT h
def Da{r:Rule}{t:Test}(h:t∈(j6 r).tests):t∈r.tests/\(t.mask==0)=false:=al9 _ _ _ (aDo h)
def M8(b5:Nat)(aN:List Rule):(nI b5 aN).length<=aN.length:=by unfold nI;have:=BH (Bf b5) (aN.map j6);exact wK
def OU{r:Rule}(h:uj r=true):r.tests.length<=32/\(∀t∈r.tests,oW t=true)/\KL.kn r.action=true:=by
 unfold uj at h;simp only[dV,iM]at h;obtain⟨h1,h2,T⟩:=h;refine⟨h1,λt an=> ?_,T⟩;cases R:oW t
 ·have:r.tests.any uh=true:=List.any_eq_true.2 ⟨t,an,by unfold uh;rw[R];rfl⟩;rw[this]at h2;cases h2
 ·rfl
def aDp{r:Rule}(h1:r.tests.length<=32)(h2:∀t∈r.tests,oW t=true)(T:KL.kn r.action=true):uj r=true:=by
 unfold uj;have:r.tests.any uh=false:=by
  cases V:r.tests.any uh
  ·rfl
  ·obtain⟨t,an,aW⟩:=List.any_eq_true.1 V;unfold uh at aW;rw[h2 t an]at aW;cases aW
 rw[this,T,dH h1];rfl
def yT{t:Test}(h:oW t=true):0<=t.arg/\t.arg<6/\(t.value&&&t.mask)=t.value/\KL.kn t.action=true:=by unfold oW at h;simp only[dV,iM,jC]at h;exact h
def aDq{r:Rule}(h:uj r=true):uj (j6 r)=true:=by
 obtain⟨h1,h2,T⟩:=OU h;refine aDp ?_ (λt an=>h2 t (Da an).1) ?_
 ·have:=GX r.tests r.action;show(tq (iw r.tests r.action).1 _).length<=32;unfold tq;rw[gV];omega
 ·show KL.kn (iw r.tests r.action).2=true;rcases RP r.tests r.action with e|⟨t,an,e⟩
  ·rw[e];exact T
  ·rw[e];exact(yT (h2 t an)).2.2.2
def ama(b5:Nat):∀ {aN:List Rule} {p:Option Nat},iE p aN=true->iE p (nI b5 aN)=true
 | [],_,_=>rfl
 |r::l,p,h=>by
  simp only[iE,dV]at h;have b9:=ama b5 h.2;have e:nI b5 (r::l)=if Bf b5 (j6 r)=true then j6 r::nI b5 l else nI b5 l:=by unfold nI;rw[fK,List.filter_cons]
  rw[e];split
  ·simp only[iE,dV];exact⟨⟨aDq h.1.1,h.1.2⟩,b9⟩
  ·exact aDn h.1.2 b9
def Ju{f:Filter}(h:eT f=true):eT (uU f)=true:=by unfold eT at h⊢;simp only[dV,iM]at h⊢;obtain⟨h1,h2,T,af,aQ⟩:=h;exact⟨h1,h2,cB (M8 _ _) T,af,ama _ aQ⟩
def JW{t:Test}(h:oW t=true)(R:(t.mask==0)=true):kN d t=true:=by obtain⟨h1,h2,T,-⟩:=yT h;have zW:=eq_of_beq R;rw[zW,Nat.and_zero]at T;unfold kN E9;rw[zW,<-T,dH h1,dH h2];simp
def Ht(d:Dat)(t:Test)(l:List Test)(x:Nat):lK d (t::l) x=if kN d t=true then t.action else lK d l x:=by unfold lK;rw[List.find?_cons];cases kN d t<;>rfl
def amb{d:Dat}:∀ {ts:List Test} {x:Nat},(∀t∈ts,oW t=true)->lK d (iw ts x).1 (iw ts x).2=lK d ts x
 | [],_,_=>rfl
 |t::l,x,h=>by
  rw[Ht];unfold iw;split
  ·rename_i R;rw[aF (JW (h t (.head _)) R)];rfl
  ·rw[Ht,amb (λs ab=>h s (.tail _ ab))]
def amc(d:Dat)(x:Nat)(ys:List Test)(bN:∀t∈ys,t.action=x):∀A:List Test,lK d (A++ys) x=lK d A x
 | []=>by
   show lK d ys x=x;unfold lK;cases h:ys.find? (kN d)with
   |none=>rfl
   |some t=>exact bN t (List.mem_of_find?_eq_some h)
 |t::l=>by rw[gZ,Ht,Ht,amc d x ys bN l]
def aDr(d:Dat)(ts:List Test)(x:Nat):lK d (tq ts x) x=lK d ts x:=by
 have e:ts=tq ts x++ts.drop (qI ts x ts):=by unfold tq;rw[List.take_append_drop]
 conv=>rhs;rw[e]
 refine(amc d x _ (λt an=> ?_) _).symm;obtain⟨i,hi,rfl⟩:=uD an;rw[mP]at hi;rw[List.getElem_drop];have:=al8 ts x ts (qI ts x ts.length+i) aE aE;rw[kR,dK aE]at this;exact this
def amd{r:Rule}(h:uj r=true):lK d (j6 r).tests (j6 r).action=lK d r.tests r.action:=
 (aDr d _ _).trans (amb (OU h).2.1)
def SL(d:Dat)(b5:Nat)(r:Rule)(l:List Rule):qc d b5 (r::l)=if (r.nr==d.nr)=true then lK d r.tests r.action else qc d b5 l:=by unfold qc;rw[List.find?_cons];cases(r.nr==d.nr)<;>rfl
def aDs{l:List Rule}(h:∀r∈l,r.nr≠d.nr):qc d b5 l=b5:=by unfold qc;rw[List.find?_eq_none.2 (λr hr=>by simpa using h r hr)]
def ame{d:Dat}{b5:Nat}:∀ {aN:List Rule} {p:Option Nat},iE p aN=true->qc d b5 (nI b5 aN)=qc d b5 aN
 | [],_,_=>rfl
 |r::l,p,h=>by
  simp only[iE,dV]at h;have b9:=ame (d:=d) (b5:=b5) h.2;have e:nI b5 (r::l)=if Bf b5 (j6 r)=true then j6 r::nI b5 l else nI b5 l:=by unfold nI;rw[fK,List.filter_cons]
  rw[e,SL];split
  ·rw[SL,b9,amd h.1.1];rfl
  ·rename_i hk;rw[b9];split
   ·rename_i hn;have amf:=eq_of_beq hn;rw[aDs (λs ab=>by have h2:=(AO h.2 s ab).2;unfold uY at h2;simp only[iM]at h2;omega),<-amd h.1.1]
    unfold Bf at hk;simp only[qM,not_or,wz]at hk;obtain⟨bk,bW⟩:=hk;have aDt:(j6 r).tests=[]:=by
     cases be:(j6 r).tests with
     |nil=>rfl
     |cons a b=>rw[be]at bk;cases bk
    have aDu:(j6 r).action=b5:=by
     cases V:((j6 r).action==b5)
     ·rw[V]at bW;cases bW
     ·exact eq_of_beq V
    rw[aDt,aDu];rfl
   ·rfl
def M9{f:Filter}(h:eT f=true)(d:Dat):kT (uU f) d=kT f d:=by
 unfold eT at h;simp only[dV]at h;unfold kT;have e:zG (uU f) d=zG f d:=rfl;rw[e];split
 ·exact ame h.2.2.2.2
 ·rfl
end j7
def amg(h:S:=by
 rw[<-b7];clear b7 gi;refine qR aj aj ?_
 repeat(any_goals(first|go_big_quiet_step ((go_at_call 290;exact fA (k0.o _ (vt.o _))))|quiet_step ((go_at_call 290;exact fA (k0.o _ (vt.o _))))))
 all_goals(refine qN ?_;intro _ Zj;obtain⟨he,Zk⟩:=Zj;subst Zk)
 go_wp2;go_ret;exact⟨by rw[h8.o];rfl,(bF.o.trans aT.o).trans (vt.o he)⟩):S:=h
def amh(h:S:=by
 rw[<-b7];clear b7 gi;refine qR aj aj ?_
 repeat(any_goals(first|go_big_quiet_step ((go_at_call 290;exact fA (k0.o _ (vt.o _))))|quiet_step ((go_at_call 290;exact fA (k0.o _ (vt.o _))))))
 all_goals(refine qN ?_;intro _ Zj;obtain⟨he,Zk⟩:=Zj;subst Zk)
 go_wp2;go_roundw
 case rel=>exact⟨k+1,aE,cZ,aT.o.trans (vt.o he),by rw[h8.o,sd.o]⟩
 case measure=>exact eO):S:=h
def yE(h:S:=by rw[b7];simp[go_sem]):S:=h
namespace j7
def prv(aN:List Rule)(k:Nat):Option Nat:=if k=0 then none else(aN[k-1]?).map (·.nr)
def Y2{aN:List Rule}{k:Nat}(h:k<aN):iE (prv aN k) (aN.drop k)=((uj aN[k]&&uY (prv aN k) aN[k].nr)&&iE (prv aN (k+1)) (aN.drop (k+1))):=by
 rw[kQ h];have e:prv aN (k+1)=some aN[k].nr:=by unfold prv;rw[au aE,yX,dK h];rfl
 rw[e];rfl
def Y3(aN:List Rule)(p:Option Nat):iE p (aN.drop aN)=true:=by rw[qy];rfl
def aDv{aN:List Rule}{k:Nat}(h:k<aN):prv aN (k+1)=some aN[k].nr:=by unfold prv;rw[au aE,yX,dK h];rfl
theorem pK(f:Filter)(u:K)(ai:gI f)(w:G)(a6:mU w 3 (EU w) u f.rules):aM 241 #[bg #[H f.i6,u,M f.dflt]] w (av (eT f)):=by
 obtain⟨ar,aN,b5⟩:=f;have hd:=ai.d;have cv:=ai.r;have X:=ai.l;have bl:eT ⟨ar,aN,b5⟩=(decide (0<=ar)&&(decide (ar<6)&&(decide (aN.length<=400)&&(KL.kn b5&&iE none aN)))):=rfl;dsimp only at *;obtain⟨a,c,rfl,ep,bV⟩:=xW a6;rw[bl];have am:=λW=>KL.Bu b5 hd W
 have ee:=z bl;have sC:=z cv;have k4:=z bV;by_cases ae:ar<0
 ·have aK:decide (0<=ar)=false:=dM aE;rw[aK,Bool.false_and];have xx:=z aK;exact JY
 have aK:decide (0<=ar)=true:=dH aE;by_cases a9:6<=ar
 ·have aV:decide (ar<6)=false:=dM aE;rw[aK,aV,Bool.false_and,jc];have xx:=z aK;have tz:=z aV;exact JY
 have aV:decide (ar<6)=true:=dH aE;by_cases af:400<aN.length
 ·have cC:decide (aN.length<=400)=false:=dM aE;have gA:decide ((400:Int)<aN)=true:=dH aE;rw[aK,aV,cC,Bool.false_and,jc,jc];have xx:=z aK;have tz:=z aV;have aDw:=z cC;exact JY
 have cC:decide (aN.length<=400)=true:=dH aE;have gA:decide ((400:Int)<aN)=false:=dM aE;rw[aK,aV,cC,jc,jc,jc];have xx:=z aK;have tz:=z aV;have aDw:=z cC;cases hk:KL.kn b5
 ·rw[hk]at am;rw[Bool.false_and];have nf:=z am;have Gz:=z hk;exact al0
 rw[hk]at am;rw[jc];have nf:=z am;have Gz:=z hk;unfold aM;go_in;go_wp2_with fail;refine ak (nf.o _) ?_;intro I Q;have c1:I.cell? ⟨w,1,none⟩=some (E a aN c):=Q.cell fC;have bF:=z (((O w).alloc (J #[H ar,E a aN c,M b5] 73)).trans Q);go_wp2_with fail;go_loopw [28] (λi wr=>∃k:Nat,k<=aN/\i=H k/\Ext I wr/\iE none aN=iE (prv aN k) (aN.drop k)) (λi _=>aN.length-(intOf i).toNat)
 case atStart=>exact qO
 case round=>
  obtain⟨k,qT,rfl,D,b4⟩:=hrel;by_cases ad:k<aN
  ·obtain⟨b,o,v,rfl,dc,dv,g',k3⟩:=k4.o k ad;replace dc:=(bF.o.trans D).cell dc;replace dv:=(bF.o.trans D).cell dv;replace g':=(bF.o.trans D).cell g';replace k3:=k3.ext (bF.o.trans D);have Zl:=D.cell c1;have aT:=z D;rw[Y2 ad]at b4;have bd:=λW (bN:Ext wr W)=>aDh aN[k] v (sC.o _ (eB ad)) W (k3.ext bN)
   have H3:∀(ae:0<k),wr.cell? ⟨b,o+(k-1)*3,none⟩=some (M ((aN[k-1]' aE).nr:Int)):=by
    intro ae;obtain⟨e4,fe,e7,cU,et,-,-,-⟩:=k4.o (k-1) aE;obtain⟨rfl,rfl⟩:b=e4/\o=fe:=by simpa using cU
    exact(bF.o.trans D).cell et
   have Hs:prv aN k=if ae:0<k then some (aN[k-1]' aE).nr else none:=by
    by_cases ae:0<k
    ·rw[dif_pos ae];unfold prv;rw[au aE,dK aE];rfl
    ·rw[dif_neg ae];unfold prv;rw[aF aE]
   obtain⟨bv,bp,rfl,-,-⟩:=qY k3;have dT:=aDv ad;generalize aN[k]'ad=r at *;obtain⟨eE,ts,oc⟩:=r;dsimp only at *;rw[dT]at b4;have sd:=z dT;cases R:uj ⟨eE,ts,oc⟩
   ·rw[R]at bd b4;simp only[Bool.false_and]at b4;have ami:=z Hs;have k0:=z bd;have h8:=z b4;have gl:=z R;clear bd b4 R;go_wp2_with fail;obtain⟨az,b7⟩:∃az,az=wr.alloc (J #[M eE,E bv ts bp,M oc] 110):=⟨_,rfl⟩;have gi:Ext wr az:=by rw[b7];exact(O _).alloc _
    have eK:∀x:fG az,x.w.cell? wr=some (M eE):=λx=>x.h.cell yE
    have bk:∀x:fG az,x.w.cell? ⟨wr,1,none⟩=some (E bv ts bp):=λx=>x.h.cell yE
    have bW:∀x:fG az,x.w.cell? ⟨wr,2,none⟩=some (M oc):=λx=>x.h.cell yE
    have vt:Hid (∀x:fG az,Ext wr x.w):=z (λx=>gi.trans x.h);exact amg
   rw[R]at bd b4;simp only[jc]at b4;by_cases ae:k=0
   ·have cG:uY (prv aN k) eE=true:=by rw[ae];rfl
    have dm:decide ((0:Int)<k)=false:=dM aE;have cs:decide (0<k)=false:=dM aE;have n':=z ae;clear ae;rw[cG,jc]at b4;have aNW:=z cG;have ami:=z Hs;clear cG Hs H3;have k0:=z bd;have h8:=z b4;have gl:=z R;clear bd b4 R;go_wp2_with fail;obtain⟨az,b7⟩:∃az,az=wr.alloc (J #[M eE,E bv ts bp,M oc] 110):=⟨_,rfl⟩;have gi:Ext wr az:=by rw[b7];exact(O _).alloc _
    have eK:∀x:fG az,x.w.cell? wr=some (M eE):=λx=>x.h.cell yE
    have bk:∀x:fG az,x.w.cell? ⟨wr,1,none⟩=some (E bv ts bp):=λx=>x.h.cell yE
    have bW:∀x:fG az,x.w.cell? ⟨wr,2,none⟩=some (M oc):=λx=>x.h.cell yE
    have vt:Hid (∀x:fG az,Ext wr x.w):=z (λx=>gi.trans x.h);exact amh
   have hT:0<k:=aE;have hg:=H3 hT;rw[dif_pos hT]at Hs;rw[Hs]at b4;have b1:(0:Int)<=k-1:=aE;have b2:(k:Int)-1<aN:=aE;have dm:decide ((0:Int)<k)=true:=dH aE;have cs:decide (0<k)=true:=dH hT;generalize(aN[k-1]' aE).nr=w' at *;have ami:=z Hs;clear Hs H3 ae;cases a6:uY (some w') eE
   ·rw[a6,Bool.false_and]at b4;have e3:¬w'<eE:=by unfold uY at a6;simpa using a6
    have ef:decide (eE<=w')=true:=dH aE;have cY:decide ((eE:Int)<=w')=true:=dH aE;have aDx:=z a6;have k0:=z bd;clear a6 bd;have h8:=z b4;have gl:=z R;clear b4 R;go_wp2_with fail;obtain⟨az,b7⟩:∃az,az=wr.alloc (J #[M eE,E bv ts bp,M oc] 110):=⟨_,rfl⟩;have gi:Ext wr az:=by rw[b7];exact(O _).alloc _
    have eK:∀x:fG az,x.w.cell? wr=some (M eE):=λx=>x.h.cell yE
    have bk:∀x:fG az,x.w.cell? ⟨wr,1,none⟩=some (E bv ts bp):=λx=>x.h.cell yE
    have bW:∀x:fG az,x.w.cell? ⟨wr,2,none⟩=some (M oc):=λx=>x.h.cell yE
    have vt:Hid (∀x:fG az,Ext wr x.w):=z (λx=>gi.trans x.h);have d7:∀x:fG az,x.w.cell? ⟨w,1,none⟩=some (E (some ⟨b,o,none⟩) aN c):=λx=>(gi.trans x.h).cell Zl
    have g3:∀x:fG az,x.w.cell? ⟨b,o+(k-1)*3,none⟩=some (M w'):=λx=>(gi.trans x.h).cell hg
    exact amg
   ·rw[a6,jc]at b4;have e3:w'<eE:=by unfold uY at a6;simpa using a6
    have ef:decide (eE<=w')=false:=dM aE;have cY:decide ((eE:Int)<=w')=false:=dM aE;have aDx:=z a6;have k0:=z bd;clear a6 bd;have h8:=z b4;have gl:=z R;clear b4 R;go_wp2_with fail;obtain⟨az,b7⟩:∃az,az=wr.alloc (J #[M eE,E bv ts bp,M oc] 110):=⟨_,rfl⟩;have gi:Ext wr az:=by rw[b7];exact(O _).alloc _
    have eK:∀x:fG az,x.w.cell? wr=some (M eE):=λx=>x.h.cell yE
    have bk:∀x:fG az,x.w.cell? ⟨wr,1,none⟩=some (E bv ts bp):=λx=>x.h.cell yE
    have bW:∀x:fG az,x.w.cell? ⟨wr,2,none⟩=some (M oc):=λx=>x.h.cell yE
    have vt:Hid (∀x:fG az,Ext wr x.w):=z (λx=>gi.trans x.h);have d7:∀x:fG az,x.w.cell? ⟨w,1,none⟩=some (E (some ⟨b,o,none⟩) aN c):=λx=>(gi.trans x.h).cell Zl
    have g3:∀x:fG az,x.w.cell? ⟨b,o+(k-1)*3,none⟩=some (M w'):=λx=>(gi.trans x.h).cell hg
    exact amh
  ·obtain rfl:k=aN.length:=aE;rw[Y3]at b4;have h8:=z b4;clear b4;have Zl:=D.cell c1;clear c1;go_wp2;go_ret;exact⟨by rw[h8.o];rfl,bF.o.trans D⟩
end j7
namespace jG
variable{ts A:List Int}
def qV(a:Int):List K:= [H a]
def En(a:Int):(qV a).length=1:=rfl
def aDy(s:Int):∀u∈qV s,u.oneCell'=true:=by intro u a6;simp[qV]at a6;subst a6;rfl
def tQ{w:G}{v:K}(h:aS w 1 qV v A):∃a c,v=E a A c/\A.length<=c/\∀i,(hi:i<A.length)->∃b o,a=some ⟨b,o,none⟩/\w.cell? ⟨b,o+i,none⟩=some (H A[i]):=by obtain⟨a,c,h1,h2,T,af⟩:=h;refine⟨a,c,h1,h2,λi hi=> ?_⟩;obtain⟨b,o,e,k⟩:=af i hi;have:=k 0 (by simp[qV]);rw[qA,nO]at this;exact⟨b,o,e,this⟩
def yC(a:Int):Bool:=decide (a<0)||decide (6<=a)
def kY(p:Int->Bool):List Int->Nat->Int
 | [],_=> -1
 |t::r,k=>if p t=true then(k:Int)else kY p r (k+1)
def SH{p:Int->Bool}{k:Nat}(h:k<ts):kY p (ts.drop k) k=if p ts[k]=true then(k:Int)else kY p (ts.drop (k+1)) (k+1):=by rw[kQ h];rfl
def SI(p:Int->Bool)(ts:List Int)(k:Nat):kY p (ts.drop ts) k= -1:=by rw[qy];rfl
def amj(p:Int->Bool):∀(ts:List Int)(k:Nat),decide (0<=kY p ts k)=ts.any p
 | [],k=>rfl
 |t::r,k=>by
  rw[List.any_cons];unfold kY;cases ac:p t
  ·rw[au ay,Bool.false_or];exact amj p r (k+1)
  ·rw[aF rfl,Bool.true_or];exact dH aE
theorem aDz(a:Int)(w:G):aM 230 #[H a] w (av (yC a)):=by
 unfold yC;cases h1:decide (a<0)
 ·cases h2:decide (6<=a)
  all_goals
   unfold aM;go_in;go_wp2;go_ret;exact⟨rfl,O _⟩
 ·unfold aM;go_in;go_wp2;go_ret;exact⟨ay,O _⟩
theorem aDA(v:K)(ts:List Int)(X:ts.length<=140737488351232)(w:G)(hv:aS w 1 qV v ts):aM 280 #[v,.func (.func 230) #[] #[]] w (H (kY yC ts 0)):=by
 obtain⟨a,c,rfl,ep,bV⟩:=tQ hv;have k4:=z bV;unfold aM;go_in;go_wp2;go_loopw [8] (λi wr=>∃k:Nat,k<=ts/\i=H k/\Ext w wr/\kY yC ts 0=kY yC (ts.drop k) k) (λi _=>ts.length-(intOf i).toNat)
 case atStart=>exact qO
 case round=>
  obtain⟨k,hk,rfl,D,b4⟩:=hrel;have aT:=z D;by_cases ad:k<ts
  ·obtain⟨b,o,rfl,h1⟩:=k4.o k ad;replace h1:=D.cell h1;rw[SH ad]at b4;have cq:=λW=>aDz (ts[k]'ad) W
   generalize ts[k]'ad=t at *;cases ac:yC t
   all_goals
    rw[ac]at cq b4;simp only[if_true,if_false,rM]at b4;have hb:=z cq;have h8:=z b4;have wa:=z ac;go_wp2_with fail;refine ak (hb.o _) ?_;intro aO ag;go_wp2_with fail
   ·exact Oc
   ·exact Oa
  ·obtain rfl:k=ts.length:=aE;rw[SI]at b4;exact Iq
theorem aer(v:K)(ts:List Int)(X:ts.length<=140737488351232)(w:G)(hv:aS w 1 qV v ts):aM 229 #[v,.func (.func 230) #[] #[]] w (av (ts.any yC)):=by have bS:=aDA v ts X w hv;have bl:=amj yC ts 0;obtain⟨a,c,rfl,ep,bV⟩:=tQ hv;generalize kY yC ts 0=ava at *;have it:=z bS;have ee:=z bl;unfold aM;go_in;go_wp2_with fail;refine ak it.o ?_;intro I Q;go_wp2_with fail;go_ret;exact⟨by rw[<-ee.o];rfl,Q⟩
end jG
namespace j7
open jG (Dat gW fT)
variable{a w:G}{b e4 e k n:Nat}{b3:List K}
structure PR where
 r:Rule
 a:Option Addr
 c:Nat
def PR.v(p:PR):K:=E p.a p.r.tests p.c
def kX(p:PR):List K:= [M p.r.nr,p.v,M p.r.action]
def yw(p:PR):(kX p).length=3:=rfl
def Nu(p:PR):∀u∈kX p,u.oneCell'=true:=by intro u a6;simp[kX,PR.v]at a6;exact Pt
def n6(w:G)(p:PR):Prop:=aS w 4 kW p.v p.r.tests
def n6.ext(h:Ext a w){p:PR}(ac:n6 a p):n6 w p:=aS.ext h ac
theorem Yx:(Tryz.prog.info? 110).map (λi=>(i.zero,i.size,i.bytes))=some (some (bg #[M 0,E none 0 0,M 0]),3,40):=aj
def Ow{v:K}{ap:List PR}(h:aS w 3 kX v ap)(hg:∀p∈ap,n6 w p):mU w 3 (EU w) v (ap.map PR.r):=by
 obtain⟨a,c,h1,h2,T,af⟩:=h;refine⟨a,c,by rw[h1,dL],by rw[dL];exact h2,T,λi hi=> ?_⟩;rw[dL]at hi;obtain⟨b,o,e,b8⟩:=af i hi;refine⟨b,o,kX ap[i],e,rfl,b8,ap[i].v,?_,?_⟩
 ·rw[rQ];rfl
 ·rw[rQ];exact hg _ (eB hi)
def ahW{v:K}{aN:List Rule}(h:mU w 3 (EU w) v aN):∃ap:List PR,ap.map PR.r=aN/\aS w 3 kX v ap/\∀p∈ap,n6 w p:=by
 obtain⟨a,c,h1,h2,T,af⟩:=h;have each:∀i,i<aN.length->∃p:PR,p.r=aN.getD i ⟨0,[],0⟩/\n6 w p/\∃b o,a=some ⟨b,o,none⟩/\At w b (o+i*3) (kX p):=by intro i hi;obtain⟨b,o,U,e,X,b8,u,rfl,a6⟩:=af i hi;have aDB:=a6;obtain⟨bu,c',rfl,-⟩:=a6;refine⟨⟨aN[i],bu,c'⟩,?_,aDB,b,o,e,b8⟩;rw[kR,dK hi];rfl
 have pick:∃g:Nat->PR,∀i,i<aN.length->(g i).r=aN.getD i ⟨0,[],0⟩/\n6 w (g i)/\∃b o,a=some ⟨b,o,none⟩/\At w b (o+i*3) (kX (g i)):=by
  classical
  refine⟨λi=>if hi:i<aN.length then(each i hi).choose else⟨⟨0,[],0⟩,none,0⟩,λi hi=> ?_⟩;simp only[hi,dif_pos];exact(each i hi).choose_spec
 obtain⟨g,hg⟩:=pick;refine⟨(List.range aN).map g,?_,⟨a,c,by simpa using h1,by simpa using h2,T,λi hi=> ?_⟩,λp ac=> ?_⟩
 ·apply List.ext_getElem ay;intro i hi l';rw[rQ,rQ,List.getElem_range,(hg i l').1,kR,dK l'];rfl
 ·simp only[dL,List.length_range]at hi;obtain⟨-,-,b,o,e,b8⟩:=hg i hi;refine⟨b,o,e,?_⟩;rw[rQ,List.getElem_range];exact b8
 ·obtain⟨i,hi,rfl⟩:=iJ.1 ac;exact(hg i (List.mem_range.1 hi)).2.1
def jM(w:G)(base:Nat)(p:PR):Prop:=(p.a=none/\p.r.tests=[])\/∃g bm,p.a=some ⟨g,0,none⟩/\base<=g/\w.heap[g]?=some (J bm 137 (0,0))
def jM.base{p:PR}(h:jM w b p)(V:e4<=b):jM w e4 p:=by
 rcases h with h|⟨g,bm,h1,h2,T⟩
 ·exact .inl h
 ·exact .inr ⟨g,bm,h1,aE,T⟩
def jM.ext(h:Ext a w){p:PR}(ac:jM a b p):jM w b p:=by
 rcases ac with ac|⟨g,bm,h1,h2,T⟩
 ·exact .inl ac
 ·exact .inr ⟨g,bm,h1,h2,(h.block (dG.1 T).1).trans T⟩
def ZH{d:Dat}{b5:Nat}:∀ {aN:List Rule} {i:Nat} (hi:i<aN),aN[i].nr=d.nr->(∀k (h:k<i),aN[k].nr≠d.nr)->qc d b5 aN=lK d aN[i].tests aN[i].action
 |r::l,0,_,h,_=>by rw[SL,aF tH];rfl
 |r::l,i+1,hi,h,hk=>by
  rw[SL,au (by have:=hk 0 aE;simpa using this)];have l':i<l:=by simpa using hi
  exact ZH (aN:=l) (i:=i) l' h (λk ad=>hk (k+1) aE)
theorem JM:(Tryz.prog.info? 137).map (λi=>(i.zero,i.size,i.bytes))=some (some (bg #[H 0,aA 0,aA 0,M 0]),4,32):=aj
theorem nil_eq(w:G):(binOp .eql 108 (E none 0 0) (E none 0 0)).run prog w= .ok (av true) w:=by first|rfl|kernel_rfl|(simp[go_sem,binOp];done)
theorem aDC(jQ:Addr)(n c:Nat)(w:G):(binOp .eql 108 (E (some jQ) n c) (E none 0 0)).run prog w= .ok (av false) w:=by first|rfl|kernel_rfl|(simp[go_sem,binOp];done)
theorem wT(v:K)(ts:List Test)(X:ts.length<=1000000)(w:G)(hv:aS w 4 kW v ts):Calls prog 181 #[v] w λe F=>∃u,e=aI u/\F.ownsRow w 137 4 u ts (ts.flatMap kW)/\Ext w F:=by
 have k1:=z hv;obtain⟨a,c,rfl,h1,h2,-⟩:=hv;have Ab:([]:List Test).length+ts.length=ts:=ay;have ec:=z Ab;cases a with
 |none=>obtain rfl:=h2 rfl;have an:ts=[]:=nN aE;subst an;have aW:=nil_eq;go_in;go_wp2;go_ret;exact⟨_,rfl,⟨rfl,.inl ⟨rfl,rfl⟩⟩,O _⟩
 |some jQ=>have aW:=aDC jQ;go_in;go_wp2_with(at_builtin;refine Dr rfl (.tmp 5) (.tmp 6) _ rfl underlying108 JM rfl Y rX yu w _ _ [] ts rfl rfl (qQ rX w [] _ _ w rfl (aZ _) vF) (k1.o.ext ((O _).alloc _)) (by rw[ec.o];omega) Y ((O _).alloc _) ?_;intro ar6 ar7 I d4 Q;rw[ec.o]at d4⊢;have Lc:=z d4;have bF:=z Q);go_ret;exact⟨_,rfl,Lc.o,bF.o⟩
def nT{base:Nat}{v:K}(h:w.ownsRow base e n v k b3){p:Addr}(ac:p.block<base)(u:K):(w.setCell p u).ownsRow base e n v k b3:=
 qB (a7:=λb=>base<=b) h (Keep.setCell w aE u) (λb V=>(h.lt b V).1)
def kU{v:K}(h:w.ownsRow b e n v k b3)(V:e4<=b):w.ownsRow e4 e n v k b3:=by
 refine⟨h.1,?_⟩;rcases h.2 with h2|⟨g,cap,bm,rfl,hg,r⟩
 ·exact .inl h2
 ·exact .inr ⟨g,cap,bm,rfl,aE,r⟩
theorem aDD(r:Rule)(v:K)(X:r.tests.length<=1000000)(w:G)(hv:aS w 4 kW v r.tests):Calls prog 296 #[bg #[M r.nr,v,M r.action]] w λe F=>∃a c,e=aI (bg #[M r.nr,E a r.tests c,M r.action])/\F.ownsRow w 137 4 (E a r.tests c) r.tests (r.tests.flatMap kW)/\Ext w F:=by
 obtain⟨eE,ts,oc⟩:=r;dsimp only at *;have cq:=λW (D:Ext w W)=>wT v ts X W (hv.ext D)
 obtain⟨vz,ti,rfl,-,-⟩:=qY hv;have hb:=z cq;go_in;go_wp2_with fail;refine(hb.o _ (((O _).alloc _).alloc _)).mono ?_;rintro e I ⟨u,rfl,ho,Q⟩;obtain⟨bv,bp,rfl⟩:=dP ho;have fR:=Q.cell (p:=w) fD;have ed:=Q.cell (p:=⟨w,1,none⟩) fD;have eq:=Q.cell (p:=⟨w,2,none⟩) fD;have y0:=Q.cell (p:=⟨w+1,0,none⟩) fD;have y1:=Q.cell (p:=⟨w+1,1,none⟩) fD;have y2:=Q.cell (p:=⟨w+1,2,none⟩) fD;have f0:I.frozen? ⟨w,1,none⟩=false:=(kS (Q.block dU)).trans fC;have dg:∀j,I.frozen? ⟨w+1,j,none⟩=false:=λj=>(kS (Q.block ay)).trans fC
 have Zm:=dg 0;have Zn:=dg 1;have Zo:=dg 2;have cH:w.heap.size<I:=gD _ _ fR;have ck:w.heap.size+1<I.heap.size:=gD _ _ y0;have cx:=z (kU (e4:=w.heap.size+2) ho ay);have bF:=z ((((O w).alloc _).alloc _).trans Q);go_wp2_with fail;refine cO (v:=bg #[M eE,E bv ts bp,M oc]) (by first|(simp[results,results296,go_sem,y0,y1,y2];done)|(simp[results,results296,go_sem,y0,y1,y2];rfl)) rfl ⟨_,_,rfl,?_,?_⟩
 ·refine kU (b:=w.heap.size+2) ?_ aE
  repeat(first|exact cx.o|refine nT ?_ xL _)
 ·repeat(first|exact bF.o|refine Ext.setCell ?_ xL _)
end j7
def Zp(h:S:=by show B+1<B+2;omega):S:=h
namespace j7
variable{B b e4 c c' b5 e i j k k' m n eE x:Nat}{W aa w F I:G}{a:Option Addr}{ar:Int}{p q:Addr}{e7 mj gv ct:K}{b3:List K}
def amk:∀(ts:List Test)(x k:Nat),(lJ Bd ts k= -1/\iw ts x=(ts,x))\/∃i,∃h:i<ts.length,lJ Bd ts k=((k+i:Nat):Int)/\iw ts x=(ts.take i,(ts[i]'h).action)
 | [],x,k=> .inl ⟨rfl,rfl⟩
 |t::r,x,k=>by
  cases ac:Bd t
  ·have pN:¬(t.mask==0)=true:=by unfold Bd at ac;rw[ac];simp
   rcases amk r x (k+1)with⟨h1,h2⟩|⟨i,h,h1,h2⟩
   ·exact .inl ⟨by simp only[lJ,ac];exact h1,by unfold iw;rw[au pN,h2]⟩
   ·refine .inr ⟨i+1,by simp;omega,?_,by unfold iw;rw[au pN,h2];rfl⟩;simp only[lJ,ac];have e:((k+1+i:Nat):Int)=((k+(i+1):Nat):Int):=aE;rw[<-e];exact h1
  ·have pN:(t.mask==0)=true:=ac;exact .inr ⟨0,ay,by simp[lJ,ac],by unfold iw;rw[aF pN];rfl⟩
def aS.setCell{α:Type}{enc:α->List K}{A:List α}(h:aS w n enc (E a m c) A)(ac:∀b o,a=some ⟨b,o,none⟩->b≠p.block)(u:K):aS (w.setCell p u) n enc (E a m c) A:=by obtain⟨bu,c',e,h1,h2,T⟩:=h;simp only[eZ]at e;obtain⟨rfl,rfl,rfl⟩:=e;refine⟨a,c,rfl,h1,h2,λi hi=> ?_⟩;obtain⟨b,o,e,b8⟩:=T i hi;refine⟨b,o,e,λj Z=> ?_⟩;have hk:=Keep.setCell (a7:=λk=>k≠p.block) w (p:=p) (λh=>h rfl) u;exact(hk.cell (p:=⟨b,_,none⟩) (ac b o e)).trans (b8 j Z)
def jM.setCell{base:Nat}{p:PR}(h:jM w base p)(aW:q.block<base)(u:K):jM (w.setCell q u) base p:=by
 rcases h with h|⟨g,bm,h1,h2,T⟩
 ·exact .inl h
 ·exact .inr ⟨g,bm,h1,h2,((Keep.setCell (a7:=λk=>k≠q.block) w (p:=q) (λh=>h rfl) u).block g aE).trans T⟩
structure lW(w:G)(B eE:Nat)(a:Option Addr)(k c x:Nat)(ts:List Test)(W:G):Prop where
 ext:Ext w W
 hB:w.heap.size<=B
 b0:W.cell? B=some (M eE)
 b1:W.cell? ⟨B,1,none⟩=some (E a k c)
 b2:W.cell? ⟨B,2,none⟩=some (M x)
 f:∀j,W.frozen? ⟨B,j,none⟩=false
 hk:k<=ts
 kc:k<=c
 good:aS W 4 kW (E a k c) (ts.take k)
 own:jM W (B+2) ⟨⟨eE,ts.take k,x⟩,a,c⟩
 y0:W.cell? ⟨B+1,0,none⟩=some (M 0)
 y1:W.cell? ⟨B+1,1,none⟩=some (E none 0 0)
 y2:W.cell? ⟨B+1,2,none⟩=some (M 0)
 fy:∀j,W.frozen? ⟨B+1,j,none⟩=false
def lW.o{ts:List Test}(h:lW w B eE a k c x ts W)(b o:Nat)(e:a=some ⟨b,o,none⟩):B+2<=b/\o=0:=by
 rcases h.own with⟨h1,-⟩|⟨g,bm,h1,h2,T⟩
 ·dsimp only at h1;rw[h1]at e;cases e
 ·dsimp only at h1;rw[h1]at e;simp at e;omega
def lW.nil{ts:List Test}(h:lW w B eE a k c x ts W):a=none->c=0:=by obtain⟨bu,c',e,-,h2,-⟩:=h.good;simp only[eZ]at e;obtain⟨rfl,-,rfl⟩:=e;exact h2
def Bg(u:K)(h:i≠j):(w.setCell ⟨B,i,none⟩ u).cell? ⟨B,j,none⟩=w.cell? ⟨B,j,none⟩:=by exact vo _ _ _ _ (λe=>h (Addr.mk.inj e).2.1)
def lW.cut{ts:List Test}(h:lW w B eE a k c x ts W)(oY:k'<=k)(ao:k'<=c')(hn:a=none->c'=0):lW w B eE a k' c' x ts (W.setCell ⟨B,1,none⟩ (E a k' c')):=by
 have bO:∀b o,a=some ⟨b,o,none⟩->b≠B:=λb o e=>by have:=h.o b o e;omega
 refine⟨h.ext.setCell h.hB _,h.hB,?_,?_,?_,λj=>(uE _ _ _ _).trans (h.f j),by have:=h.hk;omega,ao,?_,?_,by simpa[go_sem]using h.y0,by simpa[go_sem]using h.y1,by simpa[go_sem]using h.y2,λj=>(uE _ _ _ _).trans (h.fy j)⟩
 ·rw[Bg _ aE];exact h.b0
 ·have:=h.b1;simp[go_sem,this]
 ·rw[Bg _ aE];exact h.b2
 ·have h1:=h.good.take (k:=k') (c':=c') (by rw[gV];have:=h.hk;omega) ao hn;rw[y7,mQ oY]at h1;exact aS.setCell h1 bO _
 ·refine jM.setCell ?_ uG _;rcases h.own with⟨h1,h2⟩|⟨g,bm,h1,h2,T⟩
  ·refine .inl ⟨h1,?_⟩;dsimp only at h2⊢;have:(ts.take k).take k'=[]:=by rw[h2,List.take_nil]
   rw[y7,mQ oY]at this;exact this
  ·exact .inr ⟨g,bm,h1,h2,T⟩
def lW.act{ts:List Test}(h:lW w B eE a k c x ts W)(PQ:Nat):lW w B eE a k c PQ ts (W.setCell ⟨B,2,none⟩ (M PQ)):=by
 have bO:∀b o,a=some ⟨b,o,none⟩->b≠B:=λb o e=>by have:=h.o b o e;omega
 refine⟨h.ext.setCell h.hB _,h.hB,?_,?_,?_,λj=>(uE _ _ _ _).trans (h.f j),h.hk,h.kc,?_,?_,by simpa[go_sem]using h.y0,by simpa[go_sem]using h.y1,by simpa[go_sem]using h.y2,λj=>(uE _ _ _ _).trans (h.fy j)⟩
 ·rw[Bg _ aE];exact h.b0
 ·rw[Bg _ aE];exact h.b1
 ·have:=h.b2;simp[go_sem,this]
 ·exact aS.setCell h.good bO _
 ·exact jM.setCell h.own uG _
def lW.kept{ts:List Test}(h:lW w B eE a k c x ts W)(D:Ext W aa):lW w B eE a k c x ts aa:=
 ⟨h.ext.trans D,h.hB,D.cell h.b0,D.cell h.b1,D.cell h.b2,λj=>(kS (a:=⟨B,j,none⟩) (D.block (k:=B) (gD _ ⟨B,0,none⟩ h.b0))).trans (h.f j),h.hk,h.kc,h.good.ext D,h.own.ext D,D.cell h.y0,D.cell h.y1,D.cell h.y2,λj=>(kS (a:=⟨B+1,j,none⟩) (D.block (k:=B+1) (gD _ ⟨B+1,0,none⟩ h.y0))).trans (h.fy j)⟩
def lW.pre{ts:List Test}(h:lW w B eE a k c x ts W)(hi:k<=i):lW w B eE a k c x (ts.take i) W:=by
 have e:(ts.take i).take k=ts.take k:=by rw[y7,mQ hi]
 exact⟨h.ext,h.hB,h.b0,h.b1,h.b2,h.f,by rw[gV];have:=h.hk;omega,h.kc,by rw[e];exact h.good,by rw[e];exact h.own,h.y0,h.y1,h.y2,h.fy⟩
def lW.done{ts:List Test}(h:lW w B eE a k c x ts W)(B2 ej eR:K):Ext w (((W.setCell ⟨B+1,0,none⟩ B2).setCell ⟨B+1,1,none⟩ ej).setCell ⟨B+1,2,none⟩ eR)/\n6 (((W.setCell ⟨B+1,0,none⟩ B2).setCell ⟨B+1,1,none⟩ ej).setCell ⟨B+1,2,none⟩ eR) ⟨⟨eE,ts.take k,x⟩,a,c⟩/\jM (((W.setCell ⟨B+1,0,none⟩ B2).setCell ⟨B+1,1,none⟩ ej).setCell ⟨B+1,2,none⟩ eR) w ⟨⟨eE,ts.take k,x⟩,a,c⟩:=by
 have V:=h.hB;have bO:∀b o,a=some ⟨b,o,none⟩->b≠B+1:=λb o e=>by have:=h.o b o e;omega
 refine⟨((h.ext.setCell (by show _<=B+1;omega) _).setCell (by show _<=B+1;omega) _).setCell (by show _<=B+1;omega) _,?_,?_⟩
 ·have e:(ts.take k).length=k:=by rw[gV];have:=h.hk;omega
  unfold n6 PR.v;dsimp only;rw[e];exact aS.setCell (aS.setCell (aS.setCell h.good bO _) bO _) bO _
 ·exact jM.base (jM.setCell (jM.setCell (jM.setCell h.own Zp _) Zp _) Zp _) aE
def lW.afO{ts:List Test}(h:lW w B eE a k c x ts W)(Z:j<k):∃g,a=some ⟨g,0,none⟩/\W.cell? ⟨g,j*4+3,none⟩=some (M ((ts[j]'(by have:=h.hk;omega)).action:Int)):=by have hk:=h.hk;obtain⟨bu,c',e,-,ao⟩:=qY h.good;simp only[eZ]at e;obtain⟨rfl,-,rfl⟩:=e;obtain⟨b,o,rfl,-,-,-,af⟩:=ao j sK;obtain⟨-,rfl⟩:=h.o b o rfl;refine⟨b,rfl,?_⟩;rw[List.getElem_take,gF]at af;exact af
def aml{ts:List Test}(h:k<ts):qI ts x (k+1)=if (ts[k].action==x)=true then qI ts x k else k+1:=by rw[qI,kR,dK h];rfl
def lW.start{ts:List Test}(D:Ext w I)(hB:w.heap.size<=B)(fR:I.cell? B=some mj)(ed:I.cell? ⟨B,1,none⟩=some gv)(eq:I.cell? ⟨B,2,none⟩=some ct)(f:∀j,I.frozen? ⟨B,j,none⟩=false)(y0:I.cell? ⟨B+1,0,none⟩=some (M 0))(y1:I.cell? ⟨B+1,1,none⟩=some (E none 0 0))(y2:I.cell? ⟨B+1,2,none⟩=some (M 0))(fy:∀j,I.frozen? ⟨B+1,j,none⟩=false)(ho:I.ownsRow (B+2) 137 4 (E a ts c) ts (ts.flatMap kW)):lW w B eE a ts c x ts (((I.setCell B (M eE)).setCell ⟨B,1,none⟩ (E a ts c)).setCell ⟨B,2,none⟩ (M x)):=by
 have cX:=eD rX ho;have bO:∀b o,a=some ⟨b,o,none⟩->b≠B:=λb o e=>by
  rcases ho.2 with⟨h1,-⟩|⟨g,cap,bm,h1,hg,-⟩
  ·simp only[eZ]at h1;rw[h1.1]at e;cases e
  ·simp only[eZ]at h1;rw[h1.1]at e;simp only[jB,pJ]at e;omega
 refine⟨((D.setCell hB _).setCell hB _).setCell hB _,hB,?_,?_,?_,λj=> ?_,aZ _,?_,?_,?_,?_,?_,?_,λj=> ?_⟩
 ·simp[go_sem,fR]
 ·simp[go_sem,ed]
 ·simp[go_sem,eq]
 ·rw[uE,uE,uE];exact f j
 ·obtain⟨bu,c',e,h1,-⟩:=cX;simp only[eZ]at e;obtain⟨-,-,rfl⟩:=e;exact h1
 ·rw[iR];exact aS.setCell (aS.setCell (aS.setCell cX bO _) bO _) bO _
 ·refine jM.setCell (jM.setCell (jM.setCell ?_ uG _) uG _) uG _;rcases ho.2 with⟨h1,h2⟩|⟨g,cap,bm,h1,hg,be,-⟩
  ·simp only[eZ]at h1;exact .inl ⟨h1.1,by rw[iR];exact nN h2⟩
  ·simp only[eZ]at h1;exact .inr ⟨g,bm,h1.1,hg,be⟩
 ·simp[go_sem,y0]
 ·simp[go_sem,y1]
 ·simp[go_sem,y2]
 ·rw[uE,uE,uE];exact fy j
def qj{base:Nat}{v:K}(h:W.ownsRow base e n v k b3)(D:Ext W aa):aa.ownsRow base e n v k b3:=
 qB (a7:=λb=>b<W.heap.size) h (Keep.of_below D (λ_ h=>h)) (λb V=>(h.lt b V).2)
def jw{base:Nat}{v:K}(h:W.ownsRow base e n v k b3):∀g,v.ownBlock=some g->∃bm,W.heap[g]?=some (J bm e (0,0)):=λg hg=>by
 rcases h.2 with⟨rfl,-⟩|⟨jX,cap,bm,rfl,-,be,-⟩
 ·cases hg
 ·simp only[Value.ownBlock,jB]at hg;subst hg;exact⟨bm,be⟩
def amm{row:Option Nat}{base:Nat}{p:PR}(hg:W.grownBy F row)(oR:∀k,row=some k->∃bm,W.heap[k]?=some (J bm 110 (0,0)))(ac:n6 W p)(ho:jM W base p):n6 F p/\jM F base p:=by
 have bO:∀g bm,W.heap[g]?=some (J bm 137 (0,0))->some g≠row:=λg bm h e=>by obtain⟨aNX,gm⟩:=oR g e.symm;rw[h]at gm;simp at gm
 constructor
 ·obtain⟨a,c,e,h1,h2,T⟩:=ac;refine⟨a,c,e,h1,h2,λi hi=> ?_⟩;obtain⟨b,o,J0,b8⟩:=T i hi;refine⟨b,o,J0,λj Z=> ?_⟩;rcases ho with⟨-,hn⟩|⟨g,bm,aK,-,be⟩
  ·rw[hn]at hi;cases hi
  ·have aV:p.a=a:=by unfold PR.v at e;simp only[eZ]at e;exact e.1
   rw[<-aV,aK]at J0;simp only[jB,pJ]at J0;obtain⟨rfl,-⟩:=J0;exact hg.cell (b8 j Z) (bO _ bm be)
 ·rcases ho with ho|⟨g,bm,aK,V,be⟩
  ·exact .inl ho
  ·exact .inr ⟨g,bm,aK,V,(hg.block g (dG.1 be).1 (bO _ bm be)).trans be⟩
def Od{base:Nat}{p:PR}(ac:n6 W p)(ho:jM W base p)(aW:q.block<base)(u:K):n6 (W.setCell q u) p/\jM (W.setCell q u) base p:=by
 refine⟨aS.setCell ac (λb o e=> ?_) u,jM.setCell ho aW u⟩;rcases ho with⟨h1,-⟩|⟨g,bm,h1,h2,-⟩
 ·rw[h1]at e;cases e
 ·rw[h1]at e;simp only[jB,pJ]at e;omega
structure rF(w:G)(ar:Int)(b5:Nat)(v:K)(ap:List PR)(W:G):Prop where
 ext:Ext w W
 b0:W.cell? w=some (H ar)
 b1:W.cell? ⟨w,1,none⟩=some v
 b2:W.cell? ⟨w,2,none⟩=some (M b5)
 f:∀j,W.frozen? ⟨w,j,none⟩=false
 own:W.ownsRow (w+1) 110 3 v ap (ap.flatMap kX)
 good:∀p∈ap,n6 W p/\jM W (w+1) p
def rF.start(w:G)(ar:Int)(b5:Nat)(t:dD):rF w ar b5 (E none 0 0) [] (w.alloc (J #[H ar,E none 0 0,M b5] t)):=
 ⟨(O _).alloc _,by simp[go_sem],by simp[go_sem],by simp[go_sem],λj=>by simp[go_sem],jR _ _ _ _,λp ac=>by cases ac⟩
def rF.lt{v:K}{ap:List PR}(h:rF w ar b5 v ap W):w.heap.size<W:=gD _ w h.b0
def rF.kept{v:K}{ap:List PR}(h:rF w ar b5 v ap W)(D:Ext W aa):rF w ar b5 v ap aa:=
 ⟨h.ext.trans D,D.cell h.b0,D.cell h.b1,D.cell h.b2,λj=>(kS (a:=⟨w,j,none⟩) (D.block h.lt)).trans (h.f j),qj h.own D,λp ac=>⟨(h.good p ac).1.ext D,(h.good p ac).2.ext D⟩⟩
def rF.size{v:K}{ap:List PR}(h:rF w ar b5 v ap W)(hg:W.grownBy F v.ownBlock)(j:Nat)(u:K)(a6:W.cell? ⟨w,j,none⟩=some u):F.cell? ⟨w,j,none⟩=some u:=
 hg.cell a6 (λe=>by have:=(h.own.lt _ e.symm).1;dsimp only at this;omega)
def rF.frz{v:K}{ap:List PR}(h:rF w ar b5 v ap W)(hg:W.grownBy F v.ownBlock)(j:Nat):F.frozen? ⟨w,j,none⟩=false:=
 (kS (a:=⟨w,j,none⟩) (hg.block w h.lt (λe=>by have:=(h.own.lt _ e.symm).1;omega))).trans (h.f j)
def rF.grown{v:K}{ap:List PR}{p:PR}(h:rF w ar b5 v ap W)(ac:n6 W p)(ho:jM W (w+1) p)(hg:W.grownBy F v.ownBlock)(cc:F.ownsRow (w+1) 110 3 e7 (ap+1) ((ap++[p]).flatMap kX)):rF w ar b5 e7 (ap++[p]) (F.setCell ⟨w,1,none⟩ e7):=by
 have D:Ext w F:=h.ext.grown hg (λk e=>by have:=(h.own.lt k e).1;omega);refine⟨D.setCell (aZ _) _,?_,?_,?_,λj=>(uE _ _ _ _).trans (h.frz hg j),by rw[dA];exact nT cc uG _,λq aW=> ?_⟩
 ·rw[Bg _ aE];exact h.size hg 0 _ h.b0
 ·exact World.cell?_setCell_same' _ _ _ (by rw[h.size hg 1 _ h.b1];rfl)
 ·rw[Bg _ aE];exact h.size hg 2 _ h.b2
 ·have be:n6 F q/\jM F (w.heap.size+1) q:=by
   rcases iZ.1 aW with aW|aW
   ·exact amm hg (jw h.own) (h.good q aW).1 (h.good q aW).2
   ·rw[pI]at aW;subst aW;exact amm hg (jw h.own) ac ho
  exact Od be.1 be.2 uG _
def RF(W:G)(base:Nat)(v:K)(ap:List PR):Prop:=W.ownsRow base 110 3 v ap (ap.flatMap kX)/\∀p∈ap,n6 W p/\jM W base p
def RF.set{base:Nat}{v:K}{ap:List PR}(h:RF W base v ap)(aW:q.block<base)(u:K):RF (W.setCell q u) base v ap:=
 ⟨nT h.1 aW u,λp ac=>Od (h.2 p ac).1 (h.2 p ac).2 aW u⟩
def RF.base{v:K}{ap:List PR}(h:RF W b v ap)(V:e4<=b):RF W e4 v ap:=⟨kU h.1 V,λp ac=>⟨(h.2 p ac).1,(h.2 p ac).2.base V⟩⟩
def RF.ext{v:K}{ap:List PR}(h:RF W b v ap)(D:Ext W aa):RF aa b v ap:=⟨qj h.1 D,λp ac=>⟨(h.2 p ac).1.ext D,(h.2 p ac).2.ext D⟩⟩
def RF.rd{v:K}{ap:List PR}(h:RF W b v ap):mU W 3 (EU W) v (ap.map PR.r):=Ow (eD yw h.1) (λp ac=>(h.2 p ac).1)
def rF.rf{v:K}{ap:List PR}(h:rF w ar b5 v ap W):RF W (w+1) v ap:=⟨h.own,h.good⟩
end j7
def amn(h:S:=by
 obtain⟨ad,hk⟩:=dG.1 h;show(W.heap.modify B _)[B]?=_;rw[sG UM,Array.getElem_modify_self,hk]
 rfl):S:=h
namespace m9
open jG (aD dI gQ mR)
open j7 (nT qj jw Bg)
variable{B b2 e aK aV k bk bW lb n n1 n2 t:Nat}{W aa a b F w0:G}{aP Ad:Nat->Prop}{row:Option Nat}{u e7 gv ct:K}{ed eq b3:List K}
structure gB where
 at_:Nat
 code:Nat
 th:Nat
 el:Option Nat
 bt:Nat
 bw:Nat
 ba:Nat
 bc:Nat
 bo:Nat
def fE(b:Nat):K:=aB (some b)
def gB.val(j:gB):K:= .func (.func 282) #[] #[fE j.bt,fE j.bw,fE j.ba,fE j.bc,fE j.bo]
def J4(j:gB):List K:= [j.val]
def SN(j:gB):(J4 j).length=1:=rfl
def aDE(j:gB):∀u∈J4 j,u.oneCell'=true:=by intro u a6;simp[J4]at a6;rw[a6];rfl
theorem aDF:(Tryz.prog.info? 407).map (λi=>(i.zero,i.size,i.bytes))=some (some (bg #[bf 0,M 0,H 0,H 0]),4,24):=aj
theorem aDG:(Tryz.prog.info? 1).map (λi=>(i.zero,i.size,i.bytes))=some (some (.nilFunc),1,8):=aj
structure Hu(W:G)(B:Nat)(j:gB):Prop where
 t:Boxed W j.bt 337 (fE j.th)
 w:Boxed W j.bw 333 (fE B)
 a:Boxed W j.ba 3 (H j.at_)
 c:Boxed W j.bc 171 (bf j.code)
 o:Boxed W j.bo 337 (.pointer (j.el.map λb=>⟨b,0,none⟩))
structure fq(aP:Nat->Prop)(W aa:G):Prop where
 size:W.heap.size<=aa
 kept:∀k U t fr,¬aP k->W.heap[k]?=some (J U t fr)->t≠407->t≠1->t≠336->aa.heap[k]?=some (J U t fr)
def fq.refl(aP:Nat->Prop)(W:G):fq aP W W:=⟨aZ _,λ_ _ _ _ _ h _ _ _=>h⟩
def fq.trans{aP:Nat->Prop}{a b c:G}(h:fq aP a b)(k:fq aP b c):fq aP a c:=⟨cB h.size k.size,λi U t fr D ae h1 h2 T=>k.kept i U t fr D (h.kept i U t fr D ae h1 h2 T) h1 h2 T⟩
def fq.mono(h:fq aP a b)(aDH:∀k,aP k->Ad k):fq Ad a b:=⟨h.size,λi U t fr D=>h.kept i U t fr (λbe=>D (aDH i be))⟩
def fq.ext(h:Ext a b):fq aP a b:=⟨h.size,λ_ _ _ _ _ ae _ _ _=>(h.block (dG.1 ae).1).trans ae⟩
def fq.boxed(h:fq aP a b){v:K}(V:Boxed a k t v)(D:¬aP k)(h1:t≠407)(h2:t≠1)(T:t≠336):Boxed b k t v:=h.kept k _ _ _ D V h1 h2 T
def Hu.kept(h:fq aP a b){j:gB}(Z:Hu a B j)(g9:∀k,aP k->∃v,Boxed a k 339 v):Hu b B j:=by
 have hn:∀(k t:Nat) (v:K),Boxed a k t v->t≠339->¬aP k:=λk t v V an D=>by obtain⟨u,a6⟩:=g9 k D;have e:=gL (V.symm.trans a6);simp only[vB]at e;exact an e.2.1
 exact⟨h.boxed Z.t (hn _ _ _ Z.t Y) Y Y Y,h.boxed Z.w (hn _ _ _ Z.w Y) Y Y Y,h.boxed Z.a (hn _ _ _ Z.a Y) Y Y Y,
  h.boxed Z.c (hn _ _ _ Z.c Y) Y Y Y,h.boxed Z.o (hn _ _ _ Z.o Y) Y Y Y⟩
structure gY(w0:G)(B:Nat)(v ct:K)(ls:List aD)(bZ:List gB)(W:G):Prop where
 ext:Ext w0 W
 hB:w0.heap.size<=B
 box:W.heap[B]?=some (J #[v,ct] 336 (0,0))
 own:W.ownsRow (B+1) 407 4 v ls (ls.flatMap dI)
 late:W.ownsRow (B+1) 1 1 ct bZ (bZ.flatMap J4)
 jok:∀j∈bZ,Hu W B j/\j.at_<ls.length
def gY.lt{v:K}{ls:List aD}{bZ:List gB}(h:gY w0 B v ct ls bZ W):B<W.heap.size:=(dG.1 h.box).1
def gY.b0{v:K}{ls:List aD}{bZ:List gB}(h:gY w0 B v ct ls bZ W):W.cell? B=some v:=by simp[World.cell?,h.box]
def gY.b1{v:K}{ls:List aD}{bZ:List gB}(h:gY w0 B v ct ls bZ W):W.cell? ⟨B,1,none⟩=some ct:=by simp[World.cell?,h.box]
def gY.f{v:K}{ls:List aD}{bZ:List gB}(h:gY w0 B v ct ls bZ W)(j:Nat):W.frozen? ⟨B,j,none⟩=false:=by simp[World.frozen?,h.box]
def J5{b1:Nat}(h1:W.ownsRow b1 aK n1 gv bk ed)(h2:W.ownsRow b2 aV n2 ct bW eq)(bx:aK≠aV)(g:Nat)(hg:gv.ownBlock=some g):some g≠ct.ownBlock:=λe=>by obtain⟨c1,T⟩:=jw h1 g hg;obtain⟨c2,af⟩:=jw h2 g e.symm;have:=gL (T.symm.trans af);simp only[vB]at this;exact bx this.2.1
def J6{base:Nat}{v:K}(h:W.ownsRow base e n v k b3)(hg:W.grownBy F row)(bO:∀g,v.ownBlock=some g->some g≠row):F.ownsRow base e n v k b3:=by
 refine⟨h.1,?_⟩;rcases h.2 with h2|⟨g,cap,bm,rfl,T,af,r⟩
 ·exact .inl h2
 ·exact .inr ⟨g,cap,bm,rfl,T,(hg.block g (dG.1 af).1 (bO g rfl)).trans af,r⟩
def aDI{v:K}(h:W.heap[B]?=some (J #[v,ct] t (0,0)))(u:K):(W.setCell B u).heap[B]?=some (J #[u,ct] t (0,0)):=amn
def aDJ{v:K}(h:W.heap[B]?=some (J #[v,ct] t (0,0)))(u:K):(W.setCell ⟨B,1,none⟩ u).heap[B]?=some (J #[v,u] t (0,0)):=amn
def size_set(W:G)(p:Addr)(u:K):(W.setCell p u).heap.size=W.heap.size:=ay
def fq.step{bm:Array K}(hB:W.heap[B]?=some (J bm 336 (0,0)))(hg:W.grownBy F row)(oR:∀g,row=some g->∃c,W.heap[g]?=some (J c t (0,0)))(an:t=407\/t=1)(i:Nat)(u:K):fq (λ_=>False) W (F.setCell ⟨B,i,none⟩ u):=by
 refine⟨by rw[size_set];exact hg.size,λk U A' fr _ ae h1 h2 T=> ?_⟩;have aDK:k≠B:=λe=>by rw[e,hB]at ae;have:=gL ae;simp only[vB]at this;exact T this.2.1.symm
 have aDL:some k≠row:=λe=>by
  obtain⟨c,af⟩:=oR k e.symm;rw[af]at ae;have:=gL ae;simp only[vB]at this;rcases an with an|an
  ·exact h1 (by rw[<-this.2.1,an])
  ·exact h2 (by rw[<-this.2.1,an])
 exact(fI _ _ _ k (λe=>aDK e)).trans ((hg.block k (dG.1 ae).1 aDL).trans ae)
def gY.put{v:K}{ls ys:List aD}{bZ:List gB}(h:gY w0 B v ct ls bZ W)(hg:W.grownBy F v.ownBlock)(cc:F.ownsRow (B+1) 407 4 e7 (ls.length+ys) ((ls++ys).flatMap dI)):gY w0 B e7 ct (ls++ys) bZ (F.setCell B e7)/\fq (λ_=>False) W (F.setCell B e7):=by have hk:=fq.step h.box hg (λg e=>jw h.own g e) (.inl rfl) 0 e7;have V:F.heap[B]?=some (J #[v,ct] 336 (0,0)):=(hg.block B h.lt (λe=>by have:=(h.own.lt _ e.symm).1;omega)).trans h.box;refine⟨⟨(h.ext.grown hg (λk e=>by have:=(h.own.lt k e).1;have:=h.hB;omega)).setCell h.hB _,h.hB,aDI V e7,by rw[dA];exact nT cc uG _,nT (J6 h.late hg (J5 h.late h.own Y)) uG _,λj Z=> ?_⟩,hk⟩;obtain⟨h1,h2⟩:=h.jok j Z;exact⟨h1.kept hk (λk hk=>hk.elim),by rw[dA];omega⟩
def gY.later{v:K}{ls:List aD}{bZ:List gB}{j:gB}(h:gY w0 B v ct ls bZ W)(hg:W.grownBy F ct.ownBlock)(Z:Hu W B j)(nw:j.at_<ls.length)(cc:F.ownsRow (B+1) 1 1 e7 (bZ+1) ((bZ++[j]).flatMap J4)):gY w0 B v e7 ls (bZ++[j]) (F.setCell ⟨B,1,none⟩ e7)/\fq (λ_=>False) W (F.setCell ⟨B,1,none⟩ e7):=by
 have hk:=fq.step h.box hg (λg e=>jw h.late g e) (.inr rfl) 1 e7;have V:F.heap[B]?=some (J #[v,ct] 336 (0,0)):=(hg.block B h.lt (λe=>by have:=(h.late.lt _ e.symm).1;omega)).trans h.box;refine⟨⟨(h.ext.grown hg (λk e=>by have:=(h.late.lt k e).1;have:=h.hB;omega)).setCell h.hB _,h.hB,aDJ V e7,nT (J6 h.own hg (J5 h.own h.late Y)) uG _,by rw[dA];exact nT cc uG _,λi hi=> ?_⟩,hk⟩;rcases iZ.1 hi with hi|hi
 ·obtain⟨h1,h2⟩:=h.jok i hi;exact⟨h1.kept hk (λk hk=>hk.elim),h2⟩
 ·rw[pI]at hi;subst hi;exact⟨Z.kept hk (λk hk=>hk.elim),nw⟩
def gY.kept{v:K}{ls:List aD}{bZ:List gB}(h:gY w0 B v ct ls bZ W)(D:Ext W aa):gY w0 B v ct ls bZ aa:=
 ⟨h.ext.trans D,h.hB,(D.block h.lt).trans h.box,qj h.own D,qj h.late D,λj Z=>⟨(h.jok j Z).1.kept (fq.ext (aP:=λ_=>False) D) (λ_ hk=>hk.elim),(h.jok j Z).2⟩⟩
def gY.here{v:K}{ls:List aD}{bZ:List gB}(h:gY w0 B v ct ls bZ W)(X:Boxed W lb 339 u)(yy:w0.heap.size<=lb)(d1:K):gY w0 B v ct ls bZ (W.setCell lb d1)/\fq (λk=>k=lb) W (W.setCell lb d1)/\Boxed (W.setCell lb d1) lb 339 d1:=by
 have hk:fq (λk=>k=lb) W (W.setCell lb d1):=⟨by rw[size_set];exact aZ _,λk U t fr D ae _ _ _=>(fI _ _ _ k (λe=>D e)).trans ae⟩;have bO:∀(k t:Nat) (U:Array K) (fr:Nat×Nat),W.heap[k]?=some (J U t fr)->t≠339->k≠lb:=λk t U fr ae an e=>by rw[e]at ae;have:=gL (ae.symm.trans X);simp only[vB]at this;exact an this.2.1
 have oR:∀ {base e n k:Nat} {v:K} {b3:List K},W.ownsRow base e n v k b3->e≠339->(W.setCell lb d1).ownsRow base e n v k b3:=λhr bx=>by refine J6 hr (grownBy_setCell' W lb d1) (λg hg e=> ?_);obtain⟨bm,ae⟩:=jw hr g hg;exact bO g _ _ _ ae bx (gL e)
 refine⟨⟨h.ext.setCell yy _,h.hB,(fI _ _ _ B (λe=>bO B _ _ _ h.box Y e)).trans h.box,oR h.own Y,oR h.late Y,λj Z=>⟨(h.jok j Z).1.kept hk (λk e=>⟨u,by rw[e];exact X⟩),(h.jok j Z).2⟩⟩,hk,X.set d1⟩
def gY.start(w:G):gY w w (E none 0 0) (E none 0 0) [] [] (w.alloc (J #[E none 0 0,E none 0 0] 336)):=
 ⟨(O _).alloc _,aZ _,World.alloc_heap_new w _,jR _ _ _ _,jR _ _ _ _,λj Z=>by cases Z⟩
end m9
def amo(h:S:=by rintro F ⟨e7,ab,hk⟩;have sr:=z (ah ab (fq.after _ hk));go_wp2_with fail;go_end0;exact⟨rfl,e7,sr.o⟩):S:=h
namespace m9
open jG (aD dI gQ mR)
open j7 (nT qj jw Bg)
variable{B lb:Nat}{W a b w0:G}{u ct:K}
theorem lC{v:K}{ls ys:List aD}{bZ:List gB}(h:gY w0 B v ct ls bZ W)(a6:aS W 4 dI u ys)(X:ls.length+ys<=1000000):Calls prog 281 #[fE B,u] W λe F=>e=aI (bH #[])/\∃e7,gY w0 B e7 ct (ls++ys) bZ F/\fq (λ_=>False) W F:=by
 have bY:=z h;have pd:=z a6;have b0:=h.b0;have mC:=h.lt;obtain⟨bv,bp,rfl⟩:=dP h.own;obtain⟨vz,ti,rfl,-,-⟩:=jG.ig a6;unfold fE;go_in
 go_wp2_with(at_builtin
             refine vG rfl (.tmp 8) (.tmp 9) _ rfl underlying215 aDF rfl Y gQ mR (B+1) _ _ ls ys rfl rfl bY.o.own pd.o aE Y aE ?_;intro ri rj bQ d0 hA;obtain⟨i1,CC⟩:=bY.o.put hA d0;have c0:bQ.cell? B=some (E bv ls bp):=hA.cell b0 (λe=>by have:=(bY.o.own.lt _ e.symm).1;dsimp only at this;omega);have f0:bQ.frozen? B=false:=(kS (a:=⟨B,0,none⟩) (hA.block B mC (λe=>by have:=(bY.o.own.lt _ e.symm).1;omega))).trans (bY.o.f 0);have e8:=gD _ _ c0;have ia:=z i1;have aDM:=z CC;clear d0 hA i1 CC)
 go_end0;exact⟨rfl,⟨_,ia.o⟩,aDM.o⟩
def Zq(W:G)(ys:List aD)(t:dD)(g:Nat)(hg:g=W.heap.size):aS (W.alloc (J (ys.flatMap dI).toArray t)) 4 dI (E (some g) ys ys) ys:=jh gQ W ys t g hg
def fq.alloc{aP:Nat->Prop}{a b:G}(h:fq aP a b)(o:Obj):fq aP a (b.alloc o):=h.trans (fq.ext ((O _).alloc o))
def fq.after{aP:Nat->Prop}(o:Obj)(h:fq aP (a.alloc o) b):fq aP a b:=(fq.ext ((O _).alloc o)).trans h
theorem nC{v:K}{ls:List aD}{bZ:List gB}(h:gY w0 B v ct ls bZ W)(X:ls.length<=100000)(k:Nat):Calls prog 231 #[fE B,M k] W λe F=>e=aI (bH #[])/\∃e7,gY w0 B e7 ct (ls++[⟨32,k,0,0⟩]) bZ F/\fq (λ_=>False) W F:=by have bY:=z h;unfold fE;go_in;go_wp2_with fail;refine ak (lC (ys:= [⟨32,k,0,0⟩]) (bY.o.kept ((O W).alloc _)) (Zq W [⟨32,k,0,0⟩] _ _ rfl) dU) ?_;exact amo
theorem lZ{v:K}{ls:List aD}{bZ:List gB}(h:gY w0 B v ct ls bZ W)(X:ls.length<=100000)(k:Nat):Calls prog 235 #[fE B,M k] W λe F=>e=aI (bH #[])/\∃e7,gY w0 B e7 ct (ls++[⟨6,k,0,0⟩]) bZ F/\fq (λ_=>False) W F:=by have bY:=z h;unfold fE;go_in;go_wp2_with fail;refine ak (lC (ys:= [⟨6,k,0,0⟩]) (bY.o.kept ((O W).alloc _)) (Zq W [⟨6,k,0,0⟩] _ _ rfl) dU) ?_;exact amo
theorem iI{v:K}{ls:List aD}{bZ:List gB}(h:gY w0 B v ct ls bZ W)(V:Boxed W lb 339 u)(yy:w0.heap.size<=lb):Calls prog 234 #[fE B,fE lb] W λe F=>e=aI (bH #[])/\gY w0 B v ct ls bZ F/\fq (λk=>k=lb) W F/\Boxed F lb 339 (H ls):=by have sr:=z (h.here V yy (H ls));have b0:=h.b0;have mC:=h.lt;have c0:=V.cell;have f0:=V.frozen;have hX:=V.lt;obtain⟨bv,bp,rfl⟩:=dP h.own;unfold fE;go_in;go_wp;go_end0;exact⟨rfl,sr.o⟩
end m9
def amq(h:S:=by go_wp2_with fail;go_ret;exact⟨rfl,(((O _).alloc _).alloc _).trans Q⟩):S:=h
namespace j7
open jG (Dat gW fT)
open d5 (uV)
variable{d:Dat}{b5 i:Nat}
def SQ(nr:Nat):∀(aN:List Rule)(k:Nat),(oo nr aN k= -1/\aN.find? (λr=>r.nr==nr)=none)\/∃i,∃h:i<aN.length,oo nr aN k=((k+i:Nat):Int)/\aN.find? (λr=>r.nr==nr)=some (aN[i]'h)
 | [],k=> .inl ⟨rfl,rfl⟩
 |t::r,k=>by
  cases ac:(t.nr==nr)
  ·rcases SQ nr r (k+1)with⟨h1,h2⟩|⟨i,h,h1,h2⟩
   ·exact .inl ⟨by simp only[oo,ac];exact h1,by rw[List.find?_cons,ac];exact h2⟩
   ·refine .inr ⟨i+1,by simp;omega,?_,by rw[List.find?_cons,ac];simpa using h2⟩;simp only[oo,ac];have e:((k+1+i:Nat):Int)=((k+(i+1):Nat):Int):=aE;rw[<-e];exact h1
  ·exact .inr ⟨0,ay,by simp[oo,ac],by rw[List.find?_cons,ac];rfl⟩
def aDN{aN:List Rule}(h:oo d.nr aN 0= -1):qc d b5 aN=b5:=by
 rcases SQ d.nr aN 0 with⟨-,h2⟩|⟨i,hi,h1,-⟩
 ·unfold qc;rw[h2]
 ·omega
def aDO{aN:List Rule}(hi:i<aN)(h:oo d.nr aN 0=(i:Int)):qc d b5 aN=lK d aN[i].tests aN[i].action:=by
 rcases SQ d.nr aN 0 with⟨h1,-⟩|⟨j,Z,h1,h2⟩
 ·omega
 ·obtain rfl:i=j:=aE;unfold qc;rw[h2]
def Ko{f:Filter}(h:zG f d=false):kT f d=2147418112:=by unfold kT;rw[h];rfl
def TD{f:Filter}(h:zG f d=true):kT f d=qc d f.dflt f.rules:=by unfold kT;rw[h];rfl
theorem Qe(f:Filter)(u:K)(ai:gI f)(d:Dat)(hd:fT d)(w:G)(a6:mU w 3 (EU w) u f.rules):aM 33 #[bg #[H f.i6,u,M f.dflt],gW d] w (M (kT f d:Nat)):=by
 have cn:=λW=>d5.jT d.ar d.nr hd.nr W
 have aDP:=λW (D:Ext w W) B (hB:W.cell? ⟨B,0,none⟩=some (M d.nr))=>aC7 u f.rules d.nr B ai.l W hB (lD D a6)
 have aDQ:=λB v (ts:List Test) (X:ts.length<=140737488351232) (cv:∀t∈ts,Ce t) W (hB:yD W B d) (hv:aS W 4 kW v ts)=>aDm d hd B v ts X cv W hB hv
 have cv:=ai.r;have g6:zG f d=((uV d.ar d.nr).2&&((uV d.ar d.nr).1==f.i6)):=rfl;obtain⟨vz,ti,rfl,-,-⟩:=xW a6;unfold gW;generalize(uV d.ar d.nr).1=oa at *;generalize(uV d.ar d.nr).2=ob at *;have i':=z cn;have N':=z aDP;have amr:=z aDQ;have sC:=z cv;cases ob
 ·rw[Bool.false_and]at g6;rw[Ko g6];have amt:=z g6;unfold aM;go_in;go_wp2_with fail;refine ak (i'.o _) ?_;intro I Q;exact amq
 rw[jc]at g6;have aW:(oa !=f.i6)= !(oa==f.i6):=rfl;cases iv:(oa==f.i6)
 ·rw[iv]at g6 aW;rw[Ko g6];rw[Bool.not_false]at aW;have amt:=z g6;have Y8:=z iv;unfold aM;go_in;go_wp2_with fail;refine ak (i'.o _) ?_;intro I Q;have fR:=Q.cell (p:=w) fD;exact amq
 rw[iv]at g6 aW;rw[TD g6];rw[Bool.not_true]at aW;have amt:=z g6;have Y8:=z iv;obtain⟨ar,aN,b5⟩:=f;dsimp only at *;rcases SQ d.nr aN 0 with⟨h1,-⟩|⟨i,hi,h1,-⟩
 ·rw[aDN h1];have cg:=z h1;rw[h1]at N';unfold aM;go_in;go_wp2_with fail;refine ak (i'.o _) ?_;intro I Q;have fR:=Q.cell (p:=w) fD;have ed:=Q.cell (p:=⟨w,1,none⟩) fD;have eq:=Q.cell (p:=⟨w,2,none⟩) fD;have Oe:yD I (w+1) d:=⟨Q.cell fC,Q.cell fC,Q.cell fC,Q.cell fC,Q.cell fC,Q.cell fC,Q.cell fC,Q.cell fC,Q.cell fC⟩;have bF:=z ((((O w).alloc _).alloc _).trans Q);have Hv:=z Oe;go_wp2_with fail;refine(N'.o _ bF.o _ Hv.o.c0).mono ?_;rintro e aO ⟨r,v,rfl,ag,Of⟩;rcases Of with⟨-,rfl,rfl⟩|⟨i,hi,h1,-,-⟩
  case inr=>exact absurd (cg.o.symm.trans h1) aE
  replace eq:=ag.cell eq;have ca:=z (bF.o.trans ag);have cY:=λo=>((O aO).alloc o).cell eq
  dsimp only;go_wp2_with fail;go_ret;exact⟨rfl,ca.o.alloc _⟩
 ·rw[gF]at h1;rw[aDO hi h1];have amu:=sC.o _ (eB hi);have Hw:decide (0<=oo d.nr aN 0)=true:=dH aE;rw[Hw]at N';have cg:=z h1;have aNY:=z Hw;have bd:∀(r:Rule) (v:K) (W:G),Zc W d.nr aN r v->r=aN[i]'hi/\aS W 4 kW v r.tests:=λr v W h=>by
   rcases h with⟨h1,-,-⟩|⟨j,Z,h1,rfl,h2⟩
   ·exact absurd (h1.symm.trans cg.o) aE
   ·obtain rfl:j=i:=by have:=h1.symm.trans cg.o;omega
    exact⟨rfl,h2⟩
  have k0:=z bd;generalize aN[i]'hi=r0 at *;obtain⟨eE,ts,oc⟩:=r0;dsimp only at *;cases w1:ts.any (kN d)
  ·have oE:lK d ts oc=oc:=by
    rcases SK (kN d) ts 0 with⟨-,-,h⟩|⟨j,Z,-,-,h⟩
    ·unfold lK;rw[h]
    ·rw[w1]at h;cases h
   rw[oE];have Og:=λB v (X:ts.length<=140737488351232) (cv:∀t∈ts,Ce t) W (hB:yD W B d) (hv:aS W 4 kW v ts)=>amr.o B v ts X cv W hB hv
   rw[w1]at Og;have aDR:=z oE;have Zr:=z Og;have VU:=z w1;have Oh:=z amu;unfold aM;go_in;go_wp2_with fail;refine ak (i'.o _) ?_;intro I Q;have fR:=Q.cell (p:=w) fD;have ed:=Q.cell (p:=⟨w,1,none⟩) fD;have eq:=Q.cell (p:=⟨w,2,none⟩) fD;have Oe:yD I (w+1) d:=⟨Q.cell fC,Q.cell fC,Q.cell fC,Q.cell fC,Q.cell fC,Q.cell fC,Q.cell fC,Q.cell fC,Q.cell fC⟩;have bF:=z ((((O w).alloc _).alloc _).trans Q);have Hv:=z Oe;go_wp2_with fail;refine(N'.o _ bF.o _ Hv.o.c0).mono ?_;rintro e aO ⟨r,v,rfl,ag,Of⟩;obtain⟨rfl,cX⟩:=k0.o _ _ _ Of;have Zs:=z (Hv.o.ext ag);have ca:=z (bF.o.trans ag);replace cX:=cX.ext ag;dsimp only at cX⊢;obtain⟨aDS,aDT,rfl,-,-⟩:=qY cX;have tI:=z cX;go_wp2_with fail;refine(Zr.o _ _ Oh.o.l Oh.o.t _ (Zs.o.ext ((O _).alloc _)) (tI.o.ext ((O _).alloc _))).mono ?_;rintro e bj ⟨t,rfl,a',J1⟩;have y2:=a'.cell (p:=⟨aO,2,none⟩) fD;have cL:=z ((ca.o.alloc _).trans a');have cY:=λo=>((O bj).alloc o).cell y2
   go_wp2_with fail;go_ret;exact⟨rfl,cL.o.alloc _⟩
  ·obtain⟨xi,E7⟩:∃xi,ts.find? (kN d)=some xi:=by
    rcases SK (kN d) ts 0 with⟨-,h,-⟩|⟨j,Z,-,h,-⟩
    ·rw[w1]at h;cases h
    ·exact⟨_,h⟩
   have oE:lK d ts oc=xi.action:=by unfold lK;rw[E7]
   rw[oE];have Og:=λB v (X:ts.length<=140737488351232) (cv:∀t∈ts,Ce t) W (hB:yD W B d) (hv:aS W 4 kW v ts)=>amr.o B v ts X cv W hB hv
   rw[w1]at Og;have SJ:∀t,zF d ts t->t=xi:=λt h=>by unfold zF at h;rw[E7,w1]at h;exact(gL h).symm
   have aDU:=z SJ;have amv:=z E7;have aDR:=z oE;have Zr:=z Og;have VU:=z w1;have Oh:=z amu;unfold aM;go_in;go_wp2_with fail;refine ak (i'.o _) ?_;intro I Q;have fR:=Q.cell (p:=w) fD;have ed:=Q.cell (p:=⟨w,1,none⟩) fD;have eq:=Q.cell (p:=⟨w,2,none⟩) fD;have Oe:yD I (w+1) d:=⟨Q.cell fC,Q.cell fC,Q.cell fC,Q.cell fC,Q.cell fC,Q.cell fC,Q.cell fC,Q.cell fC,Q.cell fC⟩;have bF:=z ((((O w).alloc _).alloc _).trans Q);have Hv:=z Oe;go_wp2_with fail;refine(N'.o _ bF.o _ Hv.o.c0).mono ?_;rintro e aO ⟨r,v,rfl,ag,Of⟩;obtain⟨rfl,cX⟩:=k0.o _ _ _ Of;have Zs:=z (Hv.o.ext ag);have ca:=z (bF.o.trans ag);replace cX:=cX.ext ag;dsimp only at cX⊢;obtain⟨aDS,aDT,rfl,-,-⟩:=qY cX;have tI:=z cX;go_wp2_with fail;refine(Zr.o _ _ Oh.o.l Oh.o.t _ (Zs.o.ext ((O _).alloc _)) (tI.o.ext ((O _).alloc _))).mono ?_;rintro e bj ⟨t,rfl,a',J1⟩;obtain rfl:=aDU.o _ J1;have cL:=z ((ca.o.alloc _).trans a');go_wp2_with fail;go_ret;exact⟨rfl,cL.o.alloc _⟩
end j7
namespace d5
variable{A:List Int}
def U2(k:Nat):bn:=⟨(Bc.getD k []).toArray⟩
def uo(l:List aL)(k:Nat):Bool:=Bc.getD k []==l
def aDV(k:Nat):(U2 k).toList=Bc.getD k []:=by rw[ByteArray.toList_eq];unfold U2;simp
theorem aDW(k:Nat)(tk:Nat)(s:bn)(B:Nat)(w:G)(hB:w.cell? B=some (N s)):aM 344 #[bg #[N (U2 k),M tk],aB (some B)] w (av (uo s.toList k)):=by
 have ad:B<w.heap.size:=gD _ _ hB;have aW:((U2 k).toList==s.toList)=uo s.toList k:=by rw[aDV];rfl
 generalize U2 k=nm at *;cases bx:uo s.toList k
 all_goals
  rw[bx]at aW;have IA:=z bx;unfold aM;go_in;go_wp2;go_ret;exact⟨rfl,(O _).alloc _⟩
theorem aDX(g:Nat)(s:bn)(B:Nat)(w:G)(hB:w.cell? B=some (N s))(ao:∀i,i<6->w.cell? ⟨g,i*2,none⟩=some (N ⟨(Bc.getD i []).toArray⟩)/\w.cell? ⟨g,i*2+1,none⟩=some (M (toks.getD i 0:Nat))):aM 156 #[E (some g) 6 6,.func (.func 344) #[] #[aB (some B)]] w (H (fZ (uo s.toList) 0)):=by
 have mu:=z ao;have sa:=hB;have N6:=z sa;unfold aM;go_in;go_wp2;go_loopw [8] (λi wr=>∃k:Nat,k<=6/\i=H k/\Ext w wr/\fZ (uo s.toList) 0=fZ (uo s.toList) k) (λi _=>6-(intOf i).toNat)
 case atStart=>exact qO
 case round=>
  obtain⟨k,hk,rfl,D,b4⟩:=hrel;have aT:=z D;by_cases ad:k<6
  ·obtain⟨c1,c2⟩:=mu.o k ad;replace c1:=D.cell c1;replace c2:=D.cell c2;have V:=D.cell N6.o;rw[fU ad]at b4;have am:=λtk W (h:W.cell? B=some (N s))=>aDW k tk s B W h
   rw[show(⟨(Bc.getD k []).toArray⟩:bn)=U2 k from rfl]at c1;generalize U2 k=nm at *;generalize toks.getD k 0=tk at *;cases bx:uo s.toList k
   all_goals
    rw[bx]at am b4;have IA:=z bx;have nf:=z am;have h8:=z b4;go_wp2_with(go_at_call 344;refine ak (nf.o _ _ V) ?_;intro I Q)
   ·exact alO
   ·go_ret;exact⟨by rw[h8.o];rfl,aT.o.trans Q⟩
  ·obtain rfl:k=6:=aE;rw[pE]at b4;exact Iq
theorem aDY(s:bn)(B:Nat)(w:G)(hB:w.cell? B=some (N s)):aM 102 #[.func (.func 344) #[] #[aB (some B)]] w (H (fZ (uo s.toList) 0)):=by
 unfold aM;go_in;go_wp2_with(go_at_call 77;refine ak (qC _) ?_;intro I Q;unfold Hr);refine(aDX I s B _ ((Q.alloc _).cell hB) (λi hi=> ?_)).mono ?_
 ·exact alM
 rintro e aO ⟨rfl,ag⟩;go_wp2;go_ret;exact Pv
def SS:List aL:= [110,97,116,105,118,101]
def mG(l:List aL):Int×Int:=if (l==SS)=true then(0,0)else if fZ (uo l) 0<0 then(0,80)else(fZ (uo l) 0,0)
theorem Br(s:bn)(w:G):aM 271 #[N s] w (bH #[H (mG s.toList).1,H (mG s.toList).2]):=by
 have V:=A6 (uo s.toList);have co:=λB W h=>aDY s B W h
 cases hn:s.toList==[110,97,116,105,118,101]
 case true=>
  have bl:mG s.toList=(0,0):=by unfold mG SS;rw[aF hn]
  rw[bl];have ee:=z bl;have i8:=z co;unfold aM;go_in;go_wp2;go_ret2;exact Dn
 case false=>
  by_cases ae:fZ (uo s.toList) 0<0
  ·have bl:mG s.toList=(0,80):=by unfold mG SS;rw[au (by rw[hn];simp),aF ae]
   rw[bl];generalize fZ (uo s.toList) 0=f at *;have hd:decide (f<0)=true:=dH ae;have ee:=z bl;have i8:=z co;have n':=z ae;exact N9
  ·have bl:mG s.toList=(fZ (uo s.toList) 0,0):=by unfold mG SS;rw[au (by rw[hn];simp),au ae]
   rw[bl];dsimp only;generalize fZ (uo s.toList) 0=f at *;have hd:decide (f<0)=false:=dM ae;have ee:=z bl;have i8:=z co;have n':=z ae;exact N9
theorem Zt(i:Nat)(h:i<6)(w:G):(Instr.index 157 (bg Hr) (H i)).run prog w= .ok (bg #[N (U2 i),M (toks.getD i 0:Nat)]) w:=alQ
theorem Zu(nm:bn)(tk:Int)(w:G):(Instr.field 156 (bg #[N nm,M tk]) 0).run prog w= .ok (N nm) w:=by rfl
theorem Zv(nm:bn)(tk:Int)(w:G):(Instr.field 156 (bg #[N nm,M tk]) 1).run prog w= .ok (M tk) w:=by rfl
def xX(a:Int):bn:=if 0<=a/\a<6 then U2 a.toNat else⟨#[]⟩
theorem KJ(a:Int)(w:G):aM 41 #[H a] w (N (xX a)):=by
 by_cases ae:a<0
 ·have bl:xX a=⟨#[]⟩:=by unfold xX;rw[au aE]
  have hd:decide (a<0)=true:=dH ae;rw[bl];have ee:=z bl;have n':=z ae;exact BK
 have hd:decide (a<0)=false:=dM ae;by_cases h1:6<=a
 ·have bl:xX a=⟨#[]⟩:=by unfold xX;rw[au aE]
  have hd1:decide (6<=a)=true:=dH h1;rw[bl];have ee:=z bl;have n':=z ae;have tD:=z h1;exact BK
 have hd1:decide (6<=a)=false:=dM h1;have bl:xX a=U2 a.toNat:=by unfold xX;rw[aF aE]
 obtain⟨i,rfl⟩:=Int.eq_ofNat_of_zero_le (by omega:0<=a);rw[kr]at bl;have Rm:=Zt i aE;rw[bl];generalize U2 i=nm at *;generalize toks.getD i 0=tk at *;have AB:=Zu nm (tk:Int);have va:=Zv nm (tk:Int);have ee:=z bl;unfold aM;go_in;go_wp2_with(go_at_call 77;refine ak (qC _) ?_;intro I Q);exact K7
def Oi(i:Int):List K:= [H i]
def tQ{w:G}{v:K}(h:aS w 1 Oi v A):∃a c,v=E a A c/\A.length<=c/\∀i,(hi:i<A.length)->∃b o,a=some ⟨b,o,none⟩/\w.cell? ⟨b,o+i,none⟩=some (H A[i]):=by obtain⟨a,c,h1,h2,T,af⟩:=h;refine⟨a,c,h1,h2,λi hi=> ?_⟩;obtain⟨b,o,e,k⟩:=af i hi;have:=k 0 (by simp[Oi]);rw[qA]at this;exact⟨b,o,e,this⟩
def kY(a:Int):List Int->Nat->Int
 | [],_=> -1
 |x::r,k=>if (a==x)=true then(k:Int)else kY a r (k+1)
def SH{a:Int}{k:Nat}(h:k<A):kY a (A.drop k) k=if (a==A[k])=true then(k:Int)else kY a (A.drop (k+1)) (k+1):=by rw[kQ h];rfl
def SI(a:Int)(A:List Int)(k:Nat):kY a (A.drop A) k= -1:=by rw[qy];rfl
def SG(a:Int):∀(A:List Int)(k:Nat),decide (0<=kY a A k)=A.contains a
 | [],k=>rfl
 |x::r,k=>by
  unfold kY;rw[y5];cases h:a==x
  ·rw[au ay,SG a r (k+1)];rfl
  ·rw[aF rfl];simp
theorem alS(v:K)(A:List Int)(a:Int)(X:A.length<=140737488351232)(w:G)(hv:aS w 1 Oi v A):aM 46 #[v,H a] w (H (kY a A 0)):=by exact alT
theorem qm(v:K)(A:List Int)(a:Int)(X:A.length<=140737488351232)(w:G)(hv:aS w 1 Oi v A):aM 24 #[v,H a] w (av (A.contains a)):=by exact alR
def inA(A:List Int)(a:Int):Bool:=decide (A.length=0)||A.contains a
theorem agj(v:K)(A:List Int)(a:Int)(X:A.length<=140737488351232)(w:G)(hv:aS w 1 Oi v A):aM 12 #[v,H a] w (av (inA A a)):=by
 have cq:=qm v A a X w hv;obtain⟨jQ,c,rfl,-⟩:=tQ hv;by_cases ae:A.length=0
 ·have bl:inA A a=true:=by unfold inA;rw[dH ae];rfl
  have hd:((A:Int)==0)=true:=by rw[ae];rfl
  rw[bl];have ee:=z bl;have n':=z ae;have hb:=z cq;exact BK
 ·have bl:inA A a=A.contains a:=by unfold inA;rw[dM ae];rfl
  have hd:((A:Int)==0)=false:=iH.2 aE;rw[bl];generalize A.contains a=r at *;have ee:=z bl;have n':=z ae;have hb:=z cq;unfold aM;go_in;go_wp2_with(go_at_call 24;refine ak hb.o ?_;intro I Q);exact K7
end d5
theorem Tryz.own:ownKnob Tryz.prog.godebug=none:=aj
theorem Tryz.laidOut:laidOutB prog=true:=aj
namespace jG
section
variable {bC:Type} {enc:dD×K->bC} {W:G}
def aDZ{P:Program}{base:Nat}{pt:Nat->Bool}{held:Bool}{t e:dD}{fuel:Nat}{c0 c1 c2 c3 c4 c5:K}{x:DataW bC×List MemPlace}(an:P.underlying t=some (.array 6 e))(Jh:P.cellsOf e=1)(h:DataW.trod enc P W base pt held fuel t [c0,c1,c2,c3,c4,c5]=some x):∃y0 y1 y2 tn xe xf n,DataW.trod enc P W base pt held n e [c0]=some y0/\DataW.trod enc P W base pt held n e [c1]=some y1/\DataW.trod enc P W base pt held n e [c2]=some y2/\DataW.trod enc P W base pt held n e [c3]=some tn/\DataW.trod enc P W base pt held n e [c4]=some xe/\DataW.trod enc P W base pt held n e [c5]=some xf:=by
 cases fuel with
 |zero=>simp[DataW.trod]at h
 |succ n=>
  unfold DataW.trod at h;rw[an]at h;have wA:List.range 6=[0,1,2,3,4,5]:=rfl;simp[wA,Jh]at h;obtain⟨_,h⟩:=h;cases ae:DataW.trod enc P W base pt held n e [c0]with
  |none=>simp[ae]at h
  |some y0=>
   cases h1:DataW.trod enc P W base pt held n e [c1]with
   |none=>simp[ae,h1]at h
   |some y1=>
    cases h2:DataW.trod enc P W base pt held n e [c2]with
    |none=>simp[ae,h1,h2]at h
    |some y2=>
     cases T:DataW.trod enc P W base pt held n e [c3]with
     |none=>simp[ae,h1,h2,T]at h
     |some tn=>
      cases af:DataW.trod enc P W base pt held n e [c4]with
      |none=>simp[ae,h1,h2,T,af]at h
      |some xe=>
       cases aQ:DataW.trod enc P W base pt held n e [c5]with
       |none=>simp[ae,h1,h2,T,af,aQ]at h
       |some xf=>exact⟨y0,y1,y2,tn,xe,xf,n,ae,h1,h2,T,af,aQ⟩
def aD0{P:Program}{t:dD}{fs:Array Field}{fuel i:Nat}{f:Field}{U d':List K}{x:DataW bC×List MemPlace}(an:P.underlying t=some (.struct fs))(ai:fs[i]?=some f)(ao:(U.drop f.offset).take (P.cellsOf f.type)=d')(h:DataW.trod enc P W 0 (λ_=>true) true fuel t U=some x):∃n y,DataW.trod enc P W 0 (λ_=>true) true n f.type d'=some y:=by
 obtain⟨A,n,-,D,-,ey,fX⟩:=DataW.trod_struct an h;have h1:=fX i f ai;rw[ao]at h1;have p3:i<A:=by rw[ey];exact(dG.1 ai).1
 rw[dK p3]at h1;exact⟨n,_,h1⟩
theorem aqS{base:Nat}{v:K}{d:DataW bC}{p:List MemPlace}(hv:Value.okWide prog W .any base 57 v)(h:DataW.Trod enc prog W 0 (λ_=>true) true 57 v d p)(X:Light prog 57 d):∃x:Dat,v=gW x/\fT x:=by
 obtain⟨U,rfl,ci⟩:=okWide_struct underlying57 hv;rw[show Tryz.prog.cellsOf 57=9 from aj]at ci;obtain⟨fuel,h⟩:=h;simp only[Value.cells]at h;obtain⟨l⟩:=U;simp only[ku]at ci h
 match l,ci with
 | [c0,c1,c2,c3,c4,c5,c6,c7,c8],_=>
 obtain⟨n0,y0,ae,-⟩:=IE (i:=0) underlying57 rfl rfl aj h rfl X;obtain⟨n1,y1,h1,-⟩:=IE (i:=1) underlying57 rfl rfl aj h rfl X;obtain⟨n2,y2,h2,-⟩:=IE (i:=2) underlying57 rfl rfl aj h rfl X;obtain⟨n3,tn,T⟩:=aD0 (i:=3) (d':= [c3,c4,c5,c6,c7,c8]) underlying57 rfl (by show(List.drop 3 _).take (Tryz.prog.cellsOf 55)=_;rw[show Tryz.prog.cellsOf 55=6 from aj];rfl) h;have aD1:DataW.trod enc prog W 0 (λ_=>true) true n3 55 [c3,c4,c5,c6,c7,c8]=some tn:=T;obtain⟨fR,ed,eq,q2,DD,HU,n,eK,bk,bW,d7,g3,hV⟩:=aDZ (c0:=c3) (c1:=c4) (c2:=c5) (c3:=c6) (c4:=c7) (c5:=c8) underlying55 aj aD1;obtain⟨a0,cG,-,w0⟩:=DataW.trod_int underlying32 ae;obtain⟨a1,aK,-,I⟩:=DataW.trod_int underlying32 h1;obtain⟨a2,aV,-,aO⟩:=DataW.trod_int underlying34 h2;obtain⟨a3,cC,-,bj⟩:=DataW.trod_int underlying34 eK;obtain⟨a4,gA,-,dC⟩:=DataW.trod_int underlying34 bk;obtain⟨a5,hR,-,bQ⟩:=DataW.trod_int underlying34 bW;obtain⟨jJ,kh,-,cT⟩:=DataW.trod_int underlying34 d7;obtain⟨h5,m3,-,dy⟩:=DataW.trod_int underlying34 g3;obtain⟨Hx,J7,-,hz⟩:=DataW.trod_int underlying34 hV;simp only[List.cons.injEq,and_true]at cG aK aV cC gA hR kh m3 J7;subst cG aK aV cC gA hR kh m3 J7;obtain⟨a0,rfl,b0⟩:=wf_u32 w0;obtain⟨a1,rfl,b1⟩:=wf_u32 I;obtain⟨a2,rfl,b2⟩:=wf_u64 aO;obtain⟨a3,rfl,cV⟩:=wf_u64 bj;obtain⟨a4,rfl,ky⟩:=wf_u64 dC;obtain⟨a5,rfl,mB⟩:=wf_u64 bQ;obtain⟨jJ,rfl,pp⟩:=wf_u64 cT;obtain⟨h5,rfl,te⟩:=wf_u64 dy;obtain⟨Hx,rfl,J8⟩:=wf_u64 hz;exact⟨⟨a0,a1,a2,a3,a4,a5,jJ,h5,Hx⟩,rfl,⟨b0,b1,b2,cV,ky,mB,pp,te,J8⟩⟩
end
end jG
end Go.Proofs.YtopfefhenfineaaGreat
