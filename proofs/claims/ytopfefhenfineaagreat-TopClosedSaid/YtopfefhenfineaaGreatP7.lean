import Derived.Test.YtopfefhenfineaaGreatP1
import Derived.Deep.Onto
import Derived.Lib.AppendZerosOnto
import Derived.Lib.Overlaps
import Derived.Laws.Externs
import Derived.RangeFuncOwn
set_option linter.all false
namespace Go.Proofs.YtopfefhenfineaaGreat
open Go.Proofs.Tryz Go.RowKit V
namespace LT
variable{A W W' w w0:ay}{B base e g k n n0 n1:Nat}{K:Act->ay->Prop}{P:Program}{Q:Exit->Act->ay->Prop}{T U:Nat->Bool}{a:Act}{b c d v z:aA}{cs:Array aA}{fr:Nat×Nat}{o:Oper}{ops:Array Oper}{rest:List Oper}{t ty:dz}{zs:List aA}{α:Type}{enc:α->List aA}
theorem K0{e:dz}{bytes:Nat}(hu:P.underlying t=some (.slice e))(hinfo:(P.info? e).map (λi=>(i.zero,i.size,i.bytes))=some (some z,n,bytes))(hzs:z.cells.size=n)(hn:0<n)(henc:∀x,(enc x).length=n)(hone:∀x,∀u∈enc x,u.oneCell'=true){u:aA}{xs ys:List α}(hown:W.ownsRow base e n u xs (xs.flatMap enc))(hrd:Rd W n enc v ys)(h63:xs.length+ys<=100000000)(hbytes:bytes<=1000000)(hbase:base<=W.heap.size):∃au cu w',(Builtin.append_ #[t,t] ty #[u,v]).run P W= .ok (.slice au (xs.length+ys) cu) w'/\w'.ownsRow base e n (.slice au (xs.length+ys) cu) (xs.length+ys) ((xs++ys).flatMap enc)/\W.grownBy w' u.ownBlock/\∀b,(Value.slice au (xs.length+ys) cu).ownBlock=some b->u.ownBlock=some b\/W.heap.size<=b:=by
 have h0:=hown;rcases hown.2 with⟨rfl,h2⟩|⟨g,cap,cur,rfl,hg,hh,r⟩
 ·have hnil:W.ownsRow W e n (.slice none 0 0) xs (xs.flatMap enc):=⟨h0.1,.inl ⟨rfl,h2⟩⟩;obtain⟨au,cu,w',hr,ho,hgr⟩:=tZ (P:=P) (ty:=ty) hu hinfo hzs hn henc hone hnil hrd h63 hbytes (aD _);exact⟨au,cu,w',hr,ho.mono hbase,hgr,λb hb=> .inr (ho.lt b hb).1⟩
 ·obtain⟨gu,cu,w',hr,ho,hgr,hs⟩:=O2 (P:=P) (ty:=ty) hu hinfo hzs hn henc hone hown hrd h63 hbytes hbase;refine⟨_,cu,w',hr,ho,hgr,λb hb=> ?_⟩;cases hb
  rcases hs with rfl|rfl
  ·exact vq
  ·exact .inr (aD _)
theorem sQ(hgd:o.guard=none)(s x:Operand)(t:dz)(ho:o.op= .call {callee:= .builtin .append,args:= #[s,x],argTypes:= #[t,t]}){e:dz}{bytes:Nat}(hu:P.underlying t=some (.slice e))(hinfo:(P.info? e).map (λi=>(i.zero,i.size,i.bytes))=some (some z,n,bytes))(hzs:z.cells.size=n)(hn:0<n)(henc:∀x,(enc x).length=n)(hone:∀x,∀u∈enc x,u.oneCell'=true)(base:Nat)(u v:aA)(xs ys:List α)(hs:a.eval s=u)(hx:a.eval x=v)(hown:W.ownsRow base e n u xs (xs.flatMap enc))(hrd:Rd W n enc v ys)(h63:xs.length+ys<=100000000)(hbytes:bytes<=1000000)(hbase:base<=W.heap.size)(h:∀au cu w',w'.ownsRow base e n (.slice au (xs.length+ys) cu) (xs.length+ys) ((xs++ys).flatMap enc)->W.grownBy w' u.ownBlock->(∀b,(Value.slice au (xs.length+ys) cu).ownBlock=some b->u.ownBlock=some b\/W.heap.size<=b)->wpList P ops Q rest (a.put o.dst (.slice au (xs.length+ys) cu)) w'):wpList P ops Q (o::rest) a W:=by
 refine wpList_plain hgd λ_ hK=> ?_
 obtain⟨au,cu,w',hr,h2,h3,h4⟩:=K0 (P:=P) (ty:=o.type) hu hinfo hzs hn henc hone hown hrd h63 hbytes hbase;unfold Oper.wp execOp;simp only[ho,resolve,invoke,builtin,Sem.run_bind,Sem.run_pure,Result.andThen_ok,List.map_toArray,bS,eU,hs,hx,hr];exact hK _ _ (h au cu w' h2 h3 h4)
theorem TD(w:ay)(dT sT ty elem:dz)(k g o dLen dCap:Nat)(a:Addr)(sLen sCap:Nat)(cur:Array aA)(t:dz)(cs:List aA)(hu:P.underlying dT=some (.slice elem))(hs:(P.info? elem).map (·.size)=some k)(hg:w.heap[g]?=some (.cells cur t (0,0)))(hn:cs.length=Nat.min sLen dLen*k)(hsrc:∀j v,cs[j]?=some v->w.cell? (a.add j)=some v)(hfit:o+cs.length<=cur.size)(h1:∀v∈cs,v.oneCell'=true):(Builtin.copy_ #[dT,sT] ty #[.slice (some ⟨g,o,none⟩) dLen dCap,.slice (some a) sLen sCap]).run P w=.ok (goInt (Nat.min sLen dLen)) (w.setRow g (cur.toList.take o++cs++cur.toList.drop (o+cs.length)).toArray):=by
 have hl:=run_loadCells_list (P:=P) w a cs hsrc;have hst:=run_storeCells_at P g o t cs 0 cur w hg (by simpa using hfit) h1;rw[hn]at hl;cases hq:P.info? elem with
 |none=>simp[hq]at hs
 |some i=>
  have hi:i.size=k:=by simpa[hq]using hs
  simp[Builtin.copy_,run_underlying hu,Builtin.lenOf,Builtin.firstCells,sizeOf,typeInfo,hq,hi,hl,hst]
theorem TF(w:ay)(dT sT ty elem:dz)(k:Nat)(d a:Option Addr)(dLen dCap sLen sCap:Nat)(hu:P.underlying dT=some (.slice elem))(hs:(P.info? elem).map (·.size)=some k)(hn:Nat.min sLen dLen=0):(Builtin.copy_ #[dT,sT] ty #[.slice d dLen dCap,.slice a sLen sCap]).run P w= .ok (goInt 0) w:=by
 cases hq:P.info? elem with
 |none=>simp[hq]at hs
 |some i=>
  have hl:∀(x:Addr),(loadCells x 0).run P w= .ok #[] w:=λx=>by simpa using run_loadCells_list (P:=P) w x [] aE
  cases d<;>cases a<;>simp[Builtin.copy_,run_underlying hu,Builtin.lenOf,Builtin.firstCells,sizeOf,typeInfo,hq,hn,storeCells,hl]
theorem KR(d s:Operand)(dT sT:dz)(ho:o.op= .call {callee:= .builtin .copy,args:= #[d,s],argTypes:= #[dT,sT]})(elem:dz)(k:Nat)(hk:0<k)(hu:P.underlying dT=some (.slice elem))(hsz:(P.info? elem).map (·.size)=some k)(dp sp:Option Addr)(dLen dCap sLen sCap:Nat)(hd:a.eval d= .slice dp dLen dCap)(hs:a.eval s= .slice sp sLen sCap)(g off:Nat)(cur:List aA)(t:dz)(hg:w.heap[g]?=some (.cells cur.toArray t (0,0)))(cs:List aA)(hn:cs.length=Nat.min sLen dLen*k)(hpos:0<cs.length->dp=some ⟨g,off,none⟩/\∃ad,sp=some ad/\∀j v,cs[j]?=some v->w.cell? (ad.add j)=some v)(hfit:off+cs.length<=cur)(h1:∀v∈cs,v.oneCell'=true)(B:Nat)(w0:ay)(hb:Below B w0 w)(hBg:B<=g)(h:∀w',Hid (w'.heap[g]?=some (.cells (splice cur off cs).toArray t (0,0))/\∀m,m≠g->w'.heap[m]?=w.heap[m]?)->Below B w0 w'->K (a.put o.dst (goInt (Nat.min sLen dLen))) w'):o.wp P a w K Q:=by
 by_cases h0:cs.length=0
 ·obtain rfl:cs=[]:=bG h0;have hz:Nat.min sLen dLen=0:=by
   rcases Nat.eq_zero_or_pos (Nat.min sLen dLen)with h|h
   ·exact h
   ·have:=Nat.mul_pos h hk;simp only[bD]at hn;omega
  have hrun:=TF (P:=P) w dT sT o.type elem k dp sp dLen dCap sLen sCap hu hsz hz;rw[hz]at h;unfold Oper.wp;simp only[execOp,ho,resolve,invoke,builtin,Sem.run_bind,Sem.run_pure,Result.andThen_ok,List.map_toArray,bS,eU,hd,hs,hrun];exact h w ⟨by simpa[splice]using hg,λ_ _=>rfl⟩ hb
 ·obtain⟨rfl,ad,rfl,hsrc⟩:=hpos aq;have hrun:=TD (P:=P) w dT sT o.type elem k g off dLen dCap ad sLen sCap cur.toArray t cs hu hsz hg hn hsrc (by simpa using hfit) h1;unfold Oper.wp;simp only[execOp,ho,resolve,invoke,builtin,Sem.run_bind,Sem.run_pure,Result.andThen_ok,List.map_toArray,bS,eU,hd,hs,hrun];exact h _ ⟨by simpa[splice]using dH w g _ _ t _ hg,λm hm=>fJ w g m _ hm⟩ (below_setRow hb hBg _)
theorem mX(hgd:o.guard=none)(d s:Operand)(dT sT:dz)(ho:o.op= .call {callee:= .builtin .copy,args:= #[d,s],argTypes:= #[dT,sT]})(elem:dz)(k:Nat)(hk:0<k)(hu:P.underlying dT=some (.slice elem))(hsz:(P.info? elem).map (·.size)=some k)(dp sp:Option Addr)(dLen dCap sLen sCap:Nat)(hd:a.eval d= .slice dp dLen dCap)(hs:a.eval s= .slice sp sLen sCap)(g off:Nat)(cur:List aA)(t:dz)(hg:w.heap[g]?=some (.cells cur.toArray t (0,0)))(cs:List aA)(hn:cs.length=Nat.min sLen dLen*k)(hpos:0<cs.length->dp=some ⟨g,off,none⟩/\∃ad,sp=some ad/\∀j v,cs[j]?=some v->w.cell? (ad.add j)=some v)(hfit:off+cs.length<=cur)(h1:∀v∈cs,v.oneCell'=true)(B:Nat)(w0:ay)(hb:Below B w0 w)(hBg:B<=g)(h:∀w',Hid (w'.heap[g]?=some (.cells (splice cur off cs).toArray t (0,0))/\∀m,m≠g->w'.heap[m]?=w.heap[m]?)->Below B w0 w'->wpList P ops Q rest (a.put o.dst (goInt (Nat.min sLen dLen))) w'):wpList P ops Q (o::rest) a w:=
 wpList_plain hgd λ_ hK=>KR d s dT sT ho elem k hk hu hsz dp sp dLen dCap sLen sCap hd hs g off cur t hg cs hn hpos hfit h1 B w0 hb hBg (λw' h2 h3=>hK _ _ (h w' h2 h3))
theorem pR{E:Prop}(hgd:o.guard=none)(d s:Operand)(dT sT:dz)(ho:o.op= .call {callee:= .builtin .copy,args:= #[d,s],argTypes:= #[dT,sT]})(elem:dz)(k:Nat)(hk:0<k)(hu:P.underlying dT=some (.slice elem))(hsz:(P.info? elem).map (·.size)=some k)(dp sp:Option Addr)(dLen dCap sLen sCap:Nat)(hd:a.eval d= .slice dp dLen dCap)(hs:a.eval s= .slice sp sLen sCap)(g off:Nat)(cur:List aA)(t:dz)(hg:w.heap[g]?=some (.cells cur.toArray t (0,0)))(cs:List aA)(hn:cs.length=Nat.min sLen dLen*k)(hpos:0<cs.length->dp=some ⟨g,off,none⟩/\∃ad,sp=some ad/\∀j v,cs[j]?=some v->w.cell? (ad.add j)=some v)(hfit:off+cs.length<=cur)(h1:∀v∈cs,v.oneCell'=true)(B:Nat)(w0:ay)(hb:Below B w0 w)(hBg:B<=g)(h:∀w',Hid (w'.heap[g]?=some (.cells (splice cur off cs).toArray t (0,0))/\∀m,m≠g->w'.heap[m]?=w.heap[m]?)->Below B w0 w'->K (a.put o.dst (goInt (Nat.min sLen dLen))) w'):if Region.wanted o (yielded ops a.tmps)=true then Oper.wp P o a w K Q else E:=by
 have hw:Region.wanted o (yielded ops a.tmps)=true:=by simp[Region.wanted,hgd]
 rw[aV hw];exact KR d s dT sT ho elem k hk hu hsz dp sp dLen dCap sLen sCap hd hs g off cur t hg cs hn hpos hfit h1 B w0 hb hBg h
theorem yE(w:ay)(g off:Nat)(t ty:dz)(cur:List aA)(v:aA)(cs:List aA)(hg:w.heap[g]?=some (.cells cur.toArray t (0,0)))(hi:(P.info? ty).map (·.size)=some cs.length)(hv:v.cells=cs.toArray)(ho:off+cs.length<=cur)(h1:∀v∈cs,v.oneCell'=true):(storeVar ty ⟨g,off,none⟩ v).run P w= .ok () (w.setRow g (splice cur off cs).toArray):=by
 have:=run_storeCells_at P g off t cs 0 cur.toArray w hg (by simpa using ho) h1;cases hq:P.info? ty with
 |none=>simp[hq]at hi
 |some i=>
  have hs:cs.length=i.size:=by simp[hq]at hi;omega
  simp only[iB,bI]at this;simp[storeVar,sizeOf,typeInfo,hq,hv,hs,this,splice]
theorem pq(hgd:o.guard=none)(ty:dz)(x y:Operand)(ho:o.op= .store ty x y)(hd:o.dst=none)(g off:Nat)(v:aA)(cs:List aA)(hx:a.eval x= .pointer (some ⟨g,off,none⟩))(hy:a.eval y=v)(t:dz)(cur:List aA)(hg:w.heap[g]?=some (.cells cur.toArray t (0,0)))(hi:(P.info? ty).map (·.size)=some cs.length)(hv:v.cells=cs.toArray)(hfit:off+cs.length<=cur)(h1:∀v∈cs,v.oneCell'=true)(B:Nat)(w0:ay)(hb:Below B w0 w)(hBg:B<=g)(h:∀w',Hid (w'.heap[g]?=some (.cells (splice cur off cs).toArray t (0,0))/\∀m,m≠g->w'.heap[m]?=w.heap[m]?)->Below B w0 w'->wpList P ops Q rest a w'):wpList P ops Q (o::rest) a w:=by
 refine wpList_plain hgd λK hK=> ?_
 unfold Oper.wp execOp;simp only[ho,hx,hy,Instr.storeAt,Instr.sureAddr,Sem.run_bind,Sem.run_pure,Result.andThen_ok,yE w g off t ty cur v cs hg hi hv hfit h1];have hp:=h _ ⟨dH w g _ (splice cur off cs).toArray t _ hg,λm hm=>fJ w g m _ hm⟩ (below_setRow hb hBg _);refine hK _ _ ?_;rw[hd];exact hp
theorem O1(w:ay)(t e ty:dz)(i0:TypeInfo)(z:aA)(ht:P.underlying t=some (.slice e))(hi0:P.info? e=some i0)(hz:i0.zero=some z)(g off n c:Nat)(hn:0<n)(el:dz)(cur:List aA)(hg:w.heap[g]?=some (.cells cur.toArray el (0,0)))(hfit:off+n*z.cells.size<=cur.length)(h1:∀v∈z.cells,v.oneCell'=true):(Builtin.clear_ #[t] ty #[.slice (some ⟨g,off,none⟩) n c]).run P w= .ok (.tuple #[]) (w.setRow g (splice cur off (Builtin.zeroCells z.cells n).toList).toArray):=by
 have hl:(Builtin.zeroCells z.cells n).toList.length=n*z.cells.size:=by simp[Builtin.zeroCells]
 have ho:∀v∈(Builtin.zeroCells z.cells n).toList,v.oneCell'=true:=by
  intro v hv;simp only[Builtin.zeroCells,Array.toList_map,dW]at hv;obtain⟨j,hj,rfl⟩:=hv;have hp:0<z.cells.size:=by
   rcases Nat.eq_zero_or_pos z.cells.size with h|h
   ·rw[h]at hj;simp at hj
   ·exact h
  rw[getElem!_pos z.cells (j%z.cells.size) (Nat.mod_lt _ hp)];exact h1 _ (Array.getElem_mem _)
 have hst:=run_storeCells_at P g off el (Builtin.zeroCells z.cells n).toList 0 cur.toArray w hg (by rw[hl];simpa using hfit) ho;simp only[iB,bI]at hst;obtain⟨m,rfl⟩:∃m,n=m+1:=⟨n-1,aq⟩;simp only[Array.length_toList]at hst;simp[Builtin.clear_,run_underlying ht,zeroValue,typeInfo,hi0,hz,hst,splice]
theorem tQ(hgd:o.guard=none)(d:Operand)(t:dz)(ho:o.op= .call {callee:= .builtin .clear,args:= #[d],argTypes:= #[t]})(e:dz)(i0:TypeInfo)(z:aA)(ht:P.underlying t=some (.slice e))(hi0:P.info? e=some i0)(hz:i0.zero=some z)(g off n c:Nat)(hn:0<n)(hd:a.eval d= .slice (some ⟨g,off,none⟩) n c)(el:dz)(cur:List aA)(hg:w.heap[g]?=some (.cells cur.toArray el (0,0)))(hfit:off+n*z.cells.size<=cur.length)(h1:∀v∈z.cells,v.oneCell'=true)(B:Nat)(w0:ay)(hb:Below B w0 w)(hBg:B<=g)(h:∀w',Hid (w'.heap[g]?=some (.cells (splice cur off (Builtin.zeroCells z.cells n).toList).toArray el (0,0))/\∀m,m≠g->w'.heap[m]?=w.heap[m]?)->Below B w0 w'->wpList P ops Q rest (a.put o.dst (.tuple #[])) w'):wpList P ops Q (o::rest) a w:=by
 refine wpList_plain hgd λ_ hK=> ?_
 unfold Oper.wp execOp;simp only[ho,resolve,invoke,builtin,Sem.run_bind,Sem.run_pure,Result.andThen_ok,List.map_toArray,bS,eU,hd,O1 w t e o.type i0 z ht hi0 hz g off n c hn el cur hg hfit h1];exact hK _ _ (h _ ⟨dH w g _ _ el _ hg,λm hm=>fJ w g m _ hm⟩ (below_setRow hb hBg _))
def aiJ(L A X D:List aA)(hA:L.take A.length=A):(splice (splice L A X) (A.length+X) D).take (A.length+X+D.length)=A++(X++D):=by
 unfold splice;rw[hA];have e1:(A++(X++L.drop (A.length+X))).take (A.length+X)=A++X:=by rw[<-bI];exact List.take_left' aE
 rw[e1];have:A++X++(D++(A++(X++L.drop (A.length+X))).drop (A.length+X+D.length))=(A++(X++D))++(A++(X++L.drop (A.length+X))).drop (A.length+X+D.length):=aE;rw[this];exact List.take_left' bp
def aiI(L A X D:List aA)(hA:L.take A.length=A)(hL:A.length+X+D.length<=L):(splice (splice L (A.length+X) D) A X).take (A.length+X+D.length)=A++(X++D):=by
 unfold splice;have e1:(L.take (A.length+X)++(D++L.drop (A.length+X+D.length))).take A.length=A:=by rw[List.take_append_of_le_length cQ,i6,dI aq,hA]
 have e2:(L.take (A.length+X)++(D++L.drop (A.length+X+D.length))).drop (A.length+X)=D++L.drop (A.length+X+D.length):=by exact List.drop_left' cQ
 rw[e1,e2];have:A++(X++(D++L.drop (A.length+X+D.length)))=(A++(X++D))++L.drop (A.length+X+D.length):=aE;rw[this];exact List.take_left' bp
def mF{α:Type}{enc:α->List aA}{k:Nat}(henc:∀x,(enc x).length=k):∀(xs:List α)(i:Nat),(xs.flatMap enc).take (i*k)=(xs.take i).flatMap enc
 |_,0=>aE
 | [],_+1=>aE
 |x::r,i+1=>by
  rw[eP,List.take_succ_cons,eP,<-mF henc r i];have:(i+1)*k=(enc x).length+i*k:=by rw[henc,Nat.succ_mul];omega
  rw[this,List.take_length_add_append]
def pW{α:Type}{enc:α->List aA}{k:Nat}(henc:∀x,(enc x).length=k):∀(xs:List α)(i:Nat),(xs.flatMap enc).drop (i*k)=(xs.drop i).flatMap enc
 |_,0=>aE
 | [],_+1=>aE
 |x::r,i+1=>by
  rw[eP,List.drop_succ_cons,<-pW henc r i];have:(i+1)*k=(enc x).length+i*k:=by rw[henc,Nat.succ_mul];omega
  rw[this,List.drop_length_add_append]
def lQ{α:Type}{enc:α->List aA}{k:Nat}(henc:∀x,(enc x).length=k):∀(xs:List α),(xs.flatMap enc).length=xs.length*k
 | []=>aE
 |x::r=>by rw[eP,aH,henc,lQ henc r,aO,Nat.succ_mul];omega
structure TK(n0:Nat)(T:Nat->Bool)(W W':ay):Prop where
 os:W'.os=W.os
 tape:W'.tape=W.tape
 output:W'.output=W.output
 size:W.heap.size<=W'
 kept:∀k o,W.heap[k]?=some o->(k<n0\/∀cs t fr,o= .cells cs t fr->T t=false)->W'.heap[k]?=some o
def TK.refl(n0:Nat)(T:Nat->Bool)(W:ay):TK n0 T W W:=⟨rfl,rfl,rfl,aD _,λ_ _ h _=>h⟩
def TK.trans{n0:Nat}{T:Nat->Bool}{A B C:ay}(h:TK n0 T A B)(k:TK n0 T B C):TK n0 T A C:=
 ⟨k.os.trans h.os,k.tape.trans h.tape,k.output.trans h.output,aL h.size k.size,λi o ho hn=>k.kept i o (h.kept i o ho hn) hn⟩
def TK.ext{B:ay}(h:Ext A B):TK n0 T A B:=⟨h.os,h.tape,h.output,h.size,λ_ _ ho _=>aI ho h⟩
def TK.mono{B:ay}(h:TK n0 T A B)(hn:n1<=n0)(hU:∀t,U t=false->T t=false):TK n1 U A B:=
 ⟨h.os,h.tape,h.output,h.size,λk o ho hk=>h.kept k o ho (hk.imp (λh1=>gY h1 hn) (λh1 cs t fr e=>hU t (h1 cs t fr e)))⟩
def TK.blk{B:ay}(h:TK n0 T A B)(hb:A.heap[k]?=some (.cells cs t fr))(hk:k<n0\/T t=false):B.heap[k]?=some (.cells cs t fr):=
 h.kept k _ hb (hk.imp id (λh1 cs' t' fr' e=>by cases e;exact h1))
def TK.boxed{B:ay}(h:TK n0 T A B){t:Nat}(hb:Boxed A k t v)(ht:T t=false):Boxed B k t v:=h.blk hb (.inr ht)
def TK.own{B:ay}(h:TK n0 T A B)(ho:A.ownsRow base e n v k zs)(he:T e=false):B.ownsRow base e n v k zs:=by
 refine⟨ho.1,?_⟩;rcases ho.2 with h2|⟨g,cap,cur,rfl,hg,hh,r⟩
 ·exact .inl h2
 ·exact .inr ⟨g,cap,cur,rfl,hg,h.blk hh (.inr he),r⟩
def TK.below{B:ay}(h:TK n0 T A B)(hn:n0<=A):Below n0 A B:=
 ⟨h.os,h.tape,h.output,h.size,λk hk=>by have hk':k<A:=aq;rw[dL hk'];exact h.kept k _ (dL hk') (.inl hk)⟩
def TK.lX{B:ay}(hx:Ext w0 A)(h:TK n0 T A B)(hn:w0.heap.size<=n0):Ext w0 B:=
 ⟨h.os.trans hx.os,h.tape.trans hx.tape,h.output.trans hx.output,aL hx.size h.size,λk hk=>by have hk':k<w0:=hk;have hk2:k<A:=gY hk' hx.size;have e:=hx.block hk';rw[<-e,dL hk2];exact h.kept k _ (dL hk2) (.inl aq)⟩
def TK.set{p:Addr}(hb:W.heap[p.block]?=some (.cells cs t fr))(hT:T t=true)(hn:n0<=p.block)(v:aA):TK n0 T W (W.setCell p v):=
 ⟨rfl,rfl,rfl,by simp[World.setCell],λk o ho hk=>by
  by_cases e:p.block=k
  ·subst e;rw[hb]at ho;cases ho
   rcases hk with h1|h1
   ·omega
   ·rw[h1 cs t fr rfl]at hT;cases hT
  ·exact(aX _ _ _ _ (λh=>e h.symm)).trans ho⟩
def TK.setRow(hb:W.heap[g]?=some (.cells cs t fr))(hT:T t=true)(hn:n0<=g)(cs':Array aA):TK n0 T W (W.setRow g cs'):=
 ⟨rfl,rfl,rfl,by rw[setRow_size];exact aD _,λk o ho hk=>by
  by_cases e:g=k
  ·subst e;rw[hb]at ho;cases ho
   rcases hk with h1|h1
   ·omega
   ·rw[h1 cs t fr rfl]at hT;cases hT
  ·exact(fJ _ _ _ _ (λh=>e h.symm)).trans ho⟩
def Hu(h:W.ownsRow base e n v k zs)(g:Nat)(hg:v.ownBlock=some g):base<=g/\∃cur,W.heap[g]?=some (.cells cur e (0,0)):=by
 rcases h.2 with⟨rfl,-⟩|⟨g2,cap,cur,rfl,h1,h2,-⟩
 ·cases hg
 ·cases hg;exact⟨h1,cur,h2⟩
def TK.grown(ho:W.ownsRow base e n v k zs)(hg:W.grownBy W' v.ownBlock)(hT:T e=true)(hn:n0<=base):TK n0 T W W':=
 ⟨hg.os,hg.tape,hg.output,hg.size,λk o hk hor=>by
  have hlt:k<W:=(aB.1 hk).1;by_cases e2:some k=v.ownBlock
  ·obtain⟨h1,cur,h2⟩:=Hu ho k e2.symm;rw[h2]at hk;cases hk
   rcases hor with h3|h3
   ·omega
   ·rw[h3 _ _ _ rfl]at hT;cases hT
  ·exact(hg.block k hlt e2).trans hk⟩
def TK.alloc{n0:Nat}{T:Nat->Bool}(W:ay)(o:Obj):TK n0 T W (W.alloc o):= .ext ((aj _).alloc _)
def TK.drew(W:ay):TK n0 T W W.drew:= .ext (aj _).drew
def TK.ko{B:ay}(h:TK n0 T A B):KeepsOthers A B:=
 ⟨h.size,λk o hk ho=>h.kept k o hk (.inr (λcs t fr e=>by subst e;cases ho))⟩
def aG(h:W.heap[B]?=some (.cells cs t fr))(k:Nat):W.cell? ⟨B,k,none⟩=cs[k]?:=by simp[World.cell?,h]
def aP(h:W.heap[B]?=some (.cells cs t (0,0)))(k:Nat):W.frozen? ⟨B,k,none⟩=false:=by simp[World.frozen?,h]
def eX(h:W.heap[B]?=some (.cells cs t fr))(k:Nat)(v:aA):(W.setCell ⟨B,k,none⟩ v).heap[B]?=some (.cells (cs.setIfInBounds k v) t fr):=by rw[fQ _ _ _ _ _ _ _ h];exact dH _ _ _ _ _ _ h
def pO{a:aA}(h:W.heap[B]?=some (.cells #[a,b,c,d] t (0,0))):(W.cell? B=some a/\W.cell? ⟨B,1,none⟩=some b/\W.cell? ⟨B,2,none⟩=some c/\W.cell? ⟨B,3,none⟩=some d)/\∀k,W.frozen? ⟨B,k,none⟩=false:=
 ⟨⟨aG h 0,aG h 1,aG h 2,aG h 3⟩,aP h⟩
def sO{a:aA}(h:W.heap[B]?=some (.cells #[a,b,c] t (0,0))):(W.cell? B=some a/\W.cell? ⟨B,1,none⟩=some b/\W.cell? ⟨B,2,none⟩=some c)/\∀k,W.frozen? ⟨B,k,none⟩=false:=
 ⟨⟨aG h 0,aG h 1,aG h 2⟩,aP h⟩
end LT
end Go.Proofs.YtopfefhenfineaaGreat
