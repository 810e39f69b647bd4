import Derived.Test.YtopfefhenfineaaGreatP0
import Derived.Shelf.Small.Utf8
import Derived.Shelf.Small.Bits
import Derived.Shelf.Small.Strs
import Derived.Shelf.Small.Wraps
import Derived.Shelf.Strconv.Itoa0
import Derived.Shelf.Strings.Search1
import Derived.Shelf.Strings.Search2
import Derived.Shelf.Strings.Cut
import Derived.Shelf.LaysM
import Derived.Shelf.Strings.Shaped
import Derived.Shelf.Sort.Plain
import Derived.Shelf.Strings.Prefix
import Derived.Shelf.Strings.Runes
import Derived.Shelf.Strings.IndexAny
import Derived.Shelf.Strings.AsciiSet
import Derived.Shelf.Strings.IndexAnyAll
import Derived.Shelf.Strings.FieldsFuncAny
import Derived.Shelf.Strings.FieldsFuncGrows
import Derived.Shelf.Slices.Turned
import Derived.Shelf.Slices.Reverse
import Derived.Ground.Names2Prog
import Derived.Shelf.Slices.Clone
import Derived.Shelf.Slices.CompactI
import Derived.Shelf.Slices.CompactS
import Derived.Shelf.Slices.SearchI
import Derived.Shelf.Slices.Cells
import Derived.Shelf.Slices.In.SortNone
import Derived.Shelf.Slices.Empties
import Derived.Ground.SlgnProg
import Derived.Shelf.SlicesE.Clone
import Derived.Test.YtopfefhenfineaaGreatProg
import Derived.Shelf.Abstract
import Derived.Shelf.RegionOpen
import Derived.TacticsInMore
import Derived.LoopNIn
import Derived.LoopIn
import Derived.Laws.IdiomStrings
import Derived.Laws.EntriesVeiled
import Derived.Laws.BitsAllLaws
import Derived.Lib.SmallJoins
import Derived.Laws.StructEq
set_option linter.all false
set_option maxRecDepth 100000
set_option maxHeartbeats 4000000
namespace Go.Proofs.Tryz
open Go.Shelf Go.Lib Go.RowKit Go.Sort
theorem fa{α:Type}{x:Option α}{a b:α}(h:x=some a)(k:a=b:=by kernel_rfl):x=some b:=h.trans (congrArg some k)
theorem kk{p:Prop}(h:p:=by kernel_rfl):p:=h
def aHL:Ren:=⟨fun|119=>330|n=>n,fun|n=>n,fun|n=>n⟩
theorem aHM:Lays.n119 prog aHL:=⟨kk,fa func330,underlying4,isAgg4,sizeOf4,zeroValue4,underlying21,isAgg21,sizeOf21,zeroValue21⟩
theorem utf8_ValidRune(r:Int)(w:World):
 Calls prog 330 #[.int .i32 r] w λe F=>e= .returned (.bool (Lib.validRune r))/\F=w:=Any.utf8_ValidRune aHM r w
def aHN:Ren:=⟨fun|106=>382|213=>409|265=>418|n=>n,fun|n=>n,fun|n=>n⟩
theorem aHO:Lays.n106 prog aHN:=⟨kk,fa func382,fa func409,fa func418,underlying3,isAgg3,sizeOf3,zeroValue3,underlying9,isAgg9,sizeOf9,zeroValue9⟩
theorem strings_Compare(a b:ByteArray)(w:World):
 Calls prog 382 #[.string a,.string b] w λe F=>e= .returned (.int .i64 (Lib.compareBytes a.data.toList b.data.toList))/\F=w:=Any.strings_Compare aHO a b w
def aHP:Ren:=⟨fun|137=>329|217=>377|266=>401|n=>n,fun|n=>n,fun|n=>n⟩
theorem aHQ:Lays.n137 prog aHP:=⟨kk,fa func329,fa func377,fa func401,underlying3,isAgg3,sizeOf3,zeroValue3,underlying5,isAgg5,sizeOf5,zeroValue5,underlying9,isAgg9,sizeOf9,zeroValue9⟩
theorem strings_IndexByte(s:ByteArray)(c:Int)(w:World):
 Calls prog 329 #[.string s,.int .u8 c] w λe F=>e= .returned (.int .i64 (Lib.indexByte s.data.toList c.toNat.toUInt8))/\F=w:=Any.strings_IndexByte aHQ s c w
def aHR:Ren:=⟨fun|103=>210|210=>263|206=>266|n=>n,fun|24=>266|n=>n,fun|n=>n⟩
theorem aHS:Lays.n103 prog aHR:=⟨kk,fa func210,fa func266,fa func263,underlying3,isAgg3,sizeOf3,zeroValue3,underlying4,isAgg4,sizeOf4,zeroValue4,underlying9,isAgg9,sizeOf9,zeroValue9,underlying266,isAgg266,sizeOf266,zeroValue266⟩
theorem strings_CutPrefix(s p:ByteArray)(w:World):
 Calls prog 210 #[.string s,.string p] w λe F=>e= .returned (.tuple #[.string ⟨(Lib.trimPrefix s.data.toList p.data.toList).toArray⟩,.bool (Lib.hasPrefix s.data.toList p.data.toList)])/\F=w:=Any.strings_CutPrefix aHS s p w
def aHT:Ren:=⟨fun|104=>168|211=>209|207=>205|n=>n,fun|24=>266|n=>n,fun|n=>n⟩
theorem aHU:Lays.n104 prog aHT:=⟨kk,fa func168,fa func205,fa func209,underlying3,isAgg3,sizeOf3,zeroValue3,underlying4,isAgg4,sizeOf4,zeroValue4,underlying9,isAgg9,sizeOf9,zeroValue9,underlying266,isAgg266,sizeOf266,zeroValue266⟩
theorem strings_CutSuffix(s p:ByteArray)(w:World)(ab:s.size<=9223372036854775807):
 Calls prog 168 #[.string s,.string p] w λe F=>e= .returned (.tuple #[.string ⟨(Lib.trimSuffix s.data.toList p.data.toList).toArray⟩,.bool (Lib.hasSuffix s.data.toList p.data.toList)])/\F=w:=Any.strings_CutSuffix aHU s p w ab
def aHV:Ren:=⟨fun|219=>325|217=>377|225=>332|224=>331|267=>378|266=>401|314=>402|n=>n,fun|46=>161|146=>430|51=>32|n=>n,fun|1=>0|n=>n⟩
theorem aHW:Lays.n219 prog aHV:=⟨kk,fa func377,fa func325,fa func331,fa func332,fa func401,fa func378,fa func402,underlying3,isAgg3,sizeOf3,zeroValue3,underlying4,isAgg4,sizeOf4,zeroValue4,underlying5,isAgg5,sizeOf5,zeroValue5,underlying9,isAgg9,sizeOf9,zeroValue9,underlying161,isAgg161,sizeOf161,zeroValue161,underlying32,isAgg32,sizeOf32,zeroValue32,underlying430,isAgg430,sizeOf430,zeroValue430,kk⟩
theorem stringslite_Index_one(s:ByteArray)(c:UInt8)(w:World):
 Calls prog 325 #[.string s,.string ⟨#[c]⟩] w λe F=>e= .returned (.int .i64 (Lib.indexByte s.data.toList c))/\F=w:=Any.stringslite_Index_one aHW s c w
def aHX:Ren:=⟨fun|190=>407|125=>86|258=>417|128=>144|129=>145|302=>423|303=>424|304=>425|305=>426|306=>427|307=>428|308=>429|309=>430|310=>431|333=>433|329=>183|330=>184|334=>434|335=>435|336=>161|344=>436|n=>n,fun|31=>293|46=>161|51=>32|53=>34|183=>229|182=>228|218=>296|222=>299|228=>371|229=>372|n=>n,fun|n=>n⟩
theorem aoT:Lays.n190 prog aHX:=⟨kk,fa func86,fa func144,fa func145,fa func407,fa func417,fa func423,fa func424,fa func425,fa func426,fa func427,fa func428,fa func429,fa func430,fa func431,fa func183,fa func184,fa func433,fa func434,fa func435,fa func161,fa func436,underlying0,isAgg0,sizeOf0,zeroValue0,underlying3,isAgg3,sizeOf3,zeroValue3,underlying4,isAgg4,sizeOf4,zeroValue4,underlying5,isAgg5,sizeOf5,zeroValue5,underlying9,isAgg9,sizeOf9,zeroValue9,underlying293,isAgg293,sizeOf293,zeroValue293,underlying161,isAgg161,sizeOf161,zeroValue161,underlying32,isAgg32,sizeOf32,zeroValue32,underlying34,isAgg34,sizeOf34,zeroValue34,underlying131,isAgg131,sizeOf131,zeroValue131,underlying228,isAgg228,sizeOf228,zeroValue228,underlying229,isAgg229,sizeOf229,zeroValue229,underlying296,isAgg296,sizeOf296,zeroValue296,underlying299,isAgg299,sizeOf299,zeroValue299,underlying371,isAgg371,sizeOf371,zeroValue371,underlying372,isAgg372,sizeOf372,zeroValue372⟩
theorem slices_Sort_string(blk off cap:Nat)(bD:List (List UInt8))(w:World)(h9:Holds encStr w blk off bD.toArray)(aHY:blk<w.heap.size)(ci:bD.length<4611686018427387904):
 Calls prog 407 #[.slice (some ⟨blk,off,none⟩) bD.length cap] w λe F=>
  e= .returned (.tuple #[])/\∃n os,F=grow (putRow encStr (Sort.ahead w n) blk off (bD.mergeSort λx y=>decide (x<=y)).toArray) os:=Any.slices_Sort_string aoT blk off cap bD w h9 aHY ci
def aHZ:Ren:=⟨fun|99=>213|206=>266|n=>n,fun|n=>n,fun|n=>n⟩
theorem aH0:Lays.n99 prog aHZ:=⟨kk,fa func213,fa func266,underlying3,isAgg3,sizeOf3,zeroValue3,underlying4,isAgg4,sizeOf4,zeroValue4,underlying9,isAgg9,sizeOf9,zeroValue9⟩
theorem strings_HasPrefix(s p:ByteArray)(w:World):
 Calls prog 213 #[.string s,.string p] w λe F=>e= .returned (.bool (Lib.hasPrefix s.data.toList p.data.toList))/\F=w:=Any.strings_HasPrefix aH0 s p w
def aH1:Ren:=⟨fun|100=>162|207=>205|n=>n,fun|n=>n,fun|n=>n⟩
theorem aH2:Lays.n100 prog aH1:=⟨kk,fa func162,fa func205,underlying3,isAgg3,sizeOf3,zeroValue3,underlying4,isAgg4,sizeOf4,zeroValue4,underlying9,isAgg9,sizeOf9,zeroValue9⟩
theorem strings_HasSuffix(s p:ByteArray)(w:World)(ab:s.size<=9223372036854775807):
 Calls prog 162 #[.string s,.string p] w λe F=>e= .returned (.bool (Lib.hasSuffix s.data.toList p.data.toList))/\F=w:=Any.strings_HasSuffix aH2 s p w ab
def aH3:Ren:=⟨fun|152=>265|137=>329|119=>330|224=>331|225=>332|217=>377|266=>401|n=>n,fun|46=>161|n=>n,fun|n=>n⟩
theorem aH4:Lays.n152 prog aH3:=⟨kk,fa func330,fa func329,fa func265,fa func377,fa func331,fa func332,fa func401,underlying0,isAgg0,sizeOf0,zeroValue0,underlying3,isAgg3,sizeOf3,zeroValue3,underlying4,isAgg4,sizeOf4,zeroValue4,underlying5,isAgg5,sizeOf5,zeroValue5,underlying9,isAgg9,sizeOf9,zeroValue9,underlying21,isAgg21,sizeOf21,zeroValue21,underlying161,isAgg161,sizeOf161,zeroValue161⟩
theorem strings_IndexRune_ascii(s:ByteArray)(r:Int)(w:World)(ae:0<=r)(h1:r<128):
 Calls prog 265 #[.string s,.int .i32 r] w λe F=>e= .returned (.int .i64 (Lib.indexByte s.data.toList r.toNat.toUInt8))/\F=w:=Any.strings_IndexRune_ascii aH4 s r w ae h1
def aH5:Ren:=⟨fun|151=>212|152=>265|137=>329|119=>330|224=>331|225=>332|217=>377|266=>401|n=>n,fun|46=>161|n=>n,fun|n=>n⟩
theorem aH6:Lays.n151 prog aH5:=⟨kk,fa func330,fa func329,fa func212,fa func265,fa func377,fa func331,fa func332,fa func401,underlying0,isAgg0,sizeOf0,zeroValue0,underlying3,isAgg3,sizeOf3,zeroValue3,underlying4,isAgg4,sizeOf4,zeroValue4,underlying5,isAgg5,sizeOf5,zeroValue5,underlying9,isAgg9,sizeOf9,zeroValue9,underlying21,isAgg21,sizeOf21,zeroValue21,underlying161,isAgg161,sizeOf161,zeroValue161⟩
theorem strings_ContainsRune_ascii(s:ByteArray)(r:Int)(w:World)(ae:0<=r)(h1:r<128):
 Calls prog 212 #[.string s,.int .i32 r] w λe F=>e= .returned (.bool (decide (0<=Lib.indexByte s.data.toList r.toNat.toUInt8)))/\F=w:=Any.strings_ContainsRune_ascii aH6 s r w ae h1
def aH7:Ren:=⟨fun|226=>326|n=>n,fun|n=>n,fun|n=>n⟩
theorem aH8:Lays.n226 prog aH7:=⟨kk,fa func326,underlying3,isAgg3,sizeOf3,zeroValue3,underlying4,isAgg4,sizeOf4,zeroValue4⟩
theorem strings_shouldUseASCIISet(n:Int)(w:World):
 Calls prog 326 #[.int .i64 n] w λe F=>e= .returned (.bool (decide (8<n)))/\F=w:=Any.strings_shouldUseASCIISet aH8 n w
def aH9:Ren:=⟨fun|153=>264|152=>265|226=>326|227=>327|228=>328|137=>329|119=>330|224=>331|225=>332|217=>377|266=>401|n=>n,fun|117=>435|116=>434|46=>161|124=>478|n=>n,fun|n=>n⟩
theorem aIa:Lays.n153 prog aH9:=⟨kk,fa func330,fa func329,fa func265,fa func264,fa func377,fa func331,fa func332,fa func326,fa func327,fa func328,fa func401,underlying0,isAgg0,sizeOf0,zeroValue0,underlying3,isAgg3,sizeOf3,zeroValue3,underlying4,isAgg4,sizeOf4,zeroValue4,underlying5,isAgg5,sizeOf5,zeroValue5,underlying9,isAgg9,sizeOf9,zeroValue9,underlying21,isAgg21,sizeOf21,zeroValue21,underlying161,isAgg161,sizeOf161,zeroValue161,underlying434,isAgg434,sizeOf434,underlying435,isAgg435,sizeOf435,zeroValue435,underlying478,isAgg478,sizeOf478,zeroValue478⟩
theorem strings_IndexAny_long(aIb:∀w,(zeroValue 434).run prog w= .ok (.agg (Array.replicate 256 (.bool false))) w)(s chars:ByteArray)(w:World)(h2:2<=chars.size)(eA:8<s.size)(ab:s.size<4294967281)(kf:chars.size<4294967281)(aIc:∀(j:Nat) b,chars.data.toList[j]?=some b->b.toNat<128):
 Calls prog 264 #[.string s,.string chars] w λe F=>e= .returned (.int .i64 (Lib.indexAny s.data.toList chars.data.toList))/\F=((w.alloc (.cells (Lib.setCells chars.data.toList) 434)).alloc (.cells (Lib.setCells chars.data.toList) 434)):=Any.strings_IndexAny_long aIa aIb (by kernel_rfl) s chars w h2 eA ab kf aIc
def aId:Ren:=⟨fun|229=>342|n=>n,fun|40=>438|31=>293|152=>483|154=>485|n=>n,fun|n=>n⟩
theorem aIe:Lays.n229 prog aId:=⟨kk,fa func342,underlying0,isAgg0,sizeOf0,zeroValue0,underlying3,isAgg3,sizeOf3,zeroValue3,underlying4,isAgg4,sizeOf4,zeroValue4,underlying9,isAgg9,sizeOf9,zeroValue9,underlying21,isAgg21,sizeOf21,zeroValue21,underlying293,isAgg293,sizeOf293,zeroValue293,underlying438,isAgg438,sizeOf438,zeroValue438,underlying483,isAgg483,sizeOf483,zeroValue483,underlying485,isAgg485,sizeOf485,zeroValue485⟩
theorem strings_FieldsFunc_runes(g:Nat)(lb:Array Value)(g1:∀args w,(callFunc g args).run prog w= .ok (.enter g args) w)(p:Nat->Bool)(s:ByteArray)(w:World)(ab:s.size<=4294967296)(ac:PredAtRunes prog g lb p w):
 Calls prog 342 #[.string s,.func (.func g) #[] lb] w λe F=>∃aq,e= .returned (.slice (some ⟨aq,0,none⟩) (Lib.goFieldsP p s).length (Lib.goFieldsP p s).length)/\w.heap.size<=aq/\
  F.ownsRow w.heap.size 9 1 (.slice (some ⟨aq,0,none⟩) (Lib.goFieldsP p s).length (Lib.goFieldsP p s).length) (Lib.goFieldsP p s).length ((Lib.goFieldsP p s).map Value.string)/\Below w.heap.size w F:=Any.strings_FieldsFunc_runes aIe g lb g1 p s w ab ac (by kernel_rfl) (by kernel_rfl)
def aIf:Ren:=⟨fun|110=>354|109=>395|n=>n,fun|31=>293|n=>n,fun|n=>n⟩
theorem aIg:Lays.n110 prog aIf:=⟨kk,fa func395,fa func354,underlying0,isAgg0,sizeOf0,zeroValue0,underlying3,isAgg3,sizeOf3,zeroValue3,underlying4,isAgg4,sizeOf4,zeroValue4,underlying9,isAgg9,sizeOf9,zeroValue9,underlying293,isAgg293,sizeOf293,zeroValue293⟩
theorem slices_Contains_string(b off n c:Nat)(b3:List ByteArray)(x:ByteArray)(w:World)(bL:n<=b3.length)(S2:n<=9223372036854775807)(ao:∀j,j<b3.length->w.cell? ⟨b,off+j,none⟩=some (.string (b3.getD j ByteArray.empty))):
 Calls prog 354 #[.slice (some ⟨b,off,none⟩) n c,.string x] w λe F=>e= .returned (.bool (Lib.containsS (b3.take n) x))/\F=w:=Any.slices_Contains_string aIg b off n c b3 x w bL S2 ao
def aIh:Ren:=⟨fun|20=>376|n=>n,fun|22=>28|n=>n,fun|n=>n⟩
theorem aoV:Go.Proofs.Lays2.n20 prog aIh:=⟨kk,fa func376,underlying0,isAgg0,sizeOf0,zeroValue0,underlying3,isAgg3,sizeOf3,zeroValue3,underlying4,isAgg4,sizeOf4,zeroValue4,underlying28,isAgg28,sizeOf28,zeroValue28,kk⟩
theorem slices_Compact_int(blk off cap:Nat)(b3:List Int)(w:World)(h9:Holds (Value.int .i64) w blk off b3.toArray)(ci:b3.length<=9223372036854775807)(yp:b3.length<=cap):
 Calls prog 376 #[.slice (some ⟨blk,off,none⟩) b3.length cap] w λe F=>e= .returned (.slice (some ⟨blk,off,none⟩) (Lib.compact b3).length cap)/\∃q,F=putRow (Value.int .i64) (Sort.ahead w q) blk off (Lib.compact b3++List.replicate (b3.length-(Lib.compact b3).length) 0).toArray:=Any.slices_Compact_int aoV blk off cap b3 w h9 ci yp
theorem slices_Compact_int_empty(a:Option Addr)(cap:Nat)(w:World):
 Calls prog 376 #[.slice a 0 cap] w λe F=>e= .returned (.slice a 0 cap)/\F=w:=Any.slices_Compact_int_empty aoV a cap w
def aIi:Ren:=⟨fun|194=>408|n=>n,fun|31=>293|n=>n,fun|n=>n⟩
theorem aoW:Lays.n194 prog aIi:=⟨kk,fa func408,underlying0,isAgg0,sizeOf0,zeroValue0,underlying3,isAgg3,sizeOf3,zeroValue3,underlying4,isAgg4,sizeOf4,zeroValue4,underlying9,isAgg9,sizeOf9,zeroValue9,underlying293,isAgg293,sizeOf293,zeroValue293⟩
theorem slices_Compact_string(blk off cap:Nat)(b3:List (List UInt8))(w:World)(h9:Holds encStr w blk off b3.toArray)(ci:b3.length<=9223372036854775807)(yp:b3.length<=cap):
 Calls prog 408 #[.slice (some ⟨blk,off,none⟩) b3.length cap] w λe F=>e= .returned (.slice (some ⟨blk,off,none⟩) (Lib.compact b3).length cap)/\∃q,F=putRow encStr (Sort.ahead w q) blk off (Lib.compact b3++List.replicate (b3.length-(Lib.compact b3).length) []).toArray:=Any.slices_Compact_string aoW blk off cap b3 w h9 ci yp
theorem slices_Compact_string_empty(a:Option Addr)(cap:Nat)(w:World):
 Calls prog 408 #[.slice a 0 cap] w λe F=>e= .returned (.slice a 0 cap)/\F=w:=Any.slices_Compact_string_empty aoW a cap w
def aIj:Ren:=⟨fun|25=>347|31=>386|32=>387|37=>412|n=>n,fun|22=>28|40=>161|n=>n,fun|n=>n⟩
theorem aoX:Go.Proofs.Lays2.n25 prog aIj:=⟨kk,fa func347,fa func386,fa func387,fa func412,underlying0,isAgg0,sizeOf0,zeroValue0,underlying3,isAgg3,sizeOf3,zeroValue3,underlying4,isAgg4,sizeOf4,zeroValue4,underlying28,isAgg28,sizeOf28,zeroValue28,underlying161,isAgg161,sizeOf161,zeroValue161⟩
theorem slices_BinarySearch_int(b off n c:Nat)(b3:List Int)(x:Int)(w:World)(bL:n<=b3.length)(S2:n<4611686018427387904)(ao:∀j,j<b3.length->w.cell? ⟨b,off+j,none⟩=some (.int .i64 (b3.getD j 0)))(ab:(b3.take n).Pairwise (·<= ·)):
 Calls prog 347 #[.slice (some ⟨b,off,none⟩) n c,.int .i64 x] w λe F=>e= .returned (.tuple #[.int .i64 ((b3.take n).countP (· <x):Nat),.bool ((b3.take n).contains x)])/\∃q,F=w.drewN q:=Any.slices_BinarySearch_int aoX b off n c b3 x w bL S2 ao ab
theorem slices_Sort_string_none(p:Option Addr)(cap:Nat)(w:World):
 Calls prog 407 #[.slice p 0 cap] w λe F=>e= .returned (.tuple #[])/\F=w:=Any.slices_Sort_string_none aoT p cap w
theorem slices_BinarySearch_int_empty(a:Option Addr)(c:Nat)(x:Int)(w:World):
 Calls prog 347 #[.slice a 0 c,.int .i64 x] w λe F=>e= .returned (.tuple #[.int .i64 0,.bool false])/\F=w:=Any.slices_BinarySearch_int_empty aoX a c x w
end Go.Proofs.Tryz
namespace Go.Proofs.YtopfefhenfineaaGreat
open Go.Proofs.Tryz Go.RowKit Go.Shelf bh
attribute[local go_sem] Oper.semAt_some
namespace bM
variable{l:List aL}
def hd1(c:aL)(l:List aL):List aL:=l.takeWhile (· !=c)
def tl1(c:aL)(l:List aL):List aL:=(l.dropWhile (· !=c)).drop 1
def Tk(c:aL)(l:List aL):(hd1 c l).length<=l.length:=by unfold hd1;exact(List.takeWhile_prefix _).length_le
def aav(c:aL)(l:List aL):l.take (hd1 c l).length=hd1 c l:=ab7
def Ib(c:aL):∀(l:List aL),l.drop ((hd1 c l).length+1)=tl1 c l
 | []=>rfl
 |x::r=>by
  unfold hd1 tl1;by_cases h:x=c
  ·have D:¬(x !=c)=true:=by simp[h]
   rw[FB (p:=(· !=_)) D,List.dropWhile_cons_of_neg (p:=(· !=_)) D];rfl
  ·have D:(x !=c)=true:=by simp[h]
   rw[zP (p:=(· !=_)) D,Dk (p:=(· !=_)) D];exact Ib c r
def Ic{c:aL}:∀ {l:List aL},l.contains c=false->hd1 c l=l/\tl1 c l=[]
 | [],_=>⟨rfl,rfl⟩
 |x::r,h=>by
  rw[y5,BI]at h;have D:(x !=c)=true:=by have:=h.1;simp at this;simp;exactλe=>this e.symm
  obtain⟨h1,h2⟩:=Ic h.2;unfold hd1 tl1 at *;rw[zP (p:=(· !=_)) D,Dk (p:=(· !=_)) D,h1];exact⟨rfl,h2⟩
def KC(c:aL):∀(l:List aL),Lib.indexByte l c=if l.contains c=true then((hd1 c l).length:Int)else-1
 | []=>rfl
 |x::r=>by
  unfold Lib.indexByte;rw[y5];by_cases h:x=c
  ·subst h;have D:¬(x !=x)=true:=ay;rw[aF ay,aF ay];unfold hd1;rw[FB (p:=(· !=_)) D];rfl
  ·have D:(x !=c)=true:=by simp[h]
   have ao:(c==x)=false:=by rw[iH];exactλe=>h e.symm
   rw[au tH,ao,Bool.false_or,KC c r];unfold hd1;rw[zP (p:=(· !=_)) D];by_cases hr:r.contains c=true
   ·rw[aF hr,aF hr,au xL,dJ];simp
   ·rw[au hr,au hr,aF ay]
def Ie{c:aL}:∀ {l:List aL},l.contains c=true->(hd1 c l).length<l.length
 | [],h=>by cases h
 |x::r,h=>by
  unfold hd1;by_cases D:x=c
  ·have D:¬(x !=c)=true:=by simp[D]
   rw[FB (p:=(· !=_)) D];simp
  ·rw[y5]at h;have ao:(c==x)=false:=by rw[iH];exactλe=>D e.symm
   rw[ao,Bool.false_or]at h;have D:(x !=c)=true:=by simp[D]
   rw[zP (p:=(· !=_)) D];have:=Ie h;unfold hd1 at this;simp only[dJ];omega
def iw(c:aL)(l:List aL):K:=bH #[N (str (hd1 c l)),N (str (tl1 c l)),av (l.contains c)]
theorem ace(s:bn)(c:aL)(ab:s.size<=maxLen)(w:G):aM 262 #[N s,N ⟨#[c]⟩] w (iw c (bytes s)):=by
 have bS:=λW=>Tryz.stringslite_Index_one s c W
 rw[KC]at bS;unfold maxLen at ab;have h1:= @Ie c (bytes s);have h2:=aav c (bytes s);have T:=Ib c (bytes s);have af:= @Ic c (bytes s);unfold iw;rw[show s.data.toList=bytes s from rfl]at bS;cases ao:(bytes s).contains c
 ·exact ab9
 ·rw[ao,aF rfl]at bS;have ad:=h1 ao;rw[jS]at ad;clear h1 af;have aK:s.extract 0 (hd1 c (bytes s)).length=str (hd1 c (bytes s)):=bytes_inj (by rw[za,List.drop_zero,Nat.sub_zero,h2]);have aV:s.extract ((hd1 c (bytes s)).length+1) s.size=str (tl1 c (bytes s)):=bytes_inj (by rw[za,T,rJ (by rw[<-T,mP,jS];omega)])
  exact acg
theorem TP(s:bn)(c:aL)(ab:s.size<=maxLen)(w:G):aM 208 #[N s,N ⟨#[c]⟩] w (iw c (bytes s)):=by exact acd
def Bo(c:aL)(l:List aL):(tl1 c l).length=l.length-(hd1 c l).length-1:=by rw[<-Ib,mP];omega
def KD:Nat->List aL->List (List aL)
 |0,_=>[]
 |_+1,[]=>[]
 |f+1,x::r=>hd1 10 (x::r)::KD f (tl1 10 (x::r))
def gU(l:List aL):List (List aL):=KD l l
def aoY:∀(f g:Nat)(l:List aL),l.length<=f->l.length<=g->KD f l=KD g l
 |0,0,_,_,_=>rfl
 |0,g+1,[],_,_=>rfl
 |f+1,0,[],_,_=>rfl
 |f+1,g+1,[],_,_=>rfl
 |f+1,g+1,x::r,h,gm=>by unfold KD;have:=Bo 10 (x::r);rw[dJ]at h gm this;rw[aoY f g _ aE aE]
def Tj(h:l≠[]):gU l=hd1 10 l::gU (tl1 10 l):=by
 cases l with
 |nil=>exact absurd rfl h
 |cons x r=>have:=Bo 10 (x::r);unfold gU;rw[dJ]at this⊢;show hd1 10 (x::r)::KD r (tl1 10 (x::r))=_;rw[aoY r (tl1 10 (x::r)).length _ aE (aZ _)]
def aaw:gU []=[]:=rfl
abbrev LN:=Nat×List aL
def jP:Nat->List (List aL)->List LN
 |_,[]=>[]
 |n,x::r=>(n,x)::jP (n+1) r
def CY:∀(n:Nat)(l:List (List aL)),(jP n l).length=l.length
 |_,[]=>rfl
 |n,_::r=>by simp[jP,CY (n+1) r]
def Tm:∀(n:Nat)(l:List aL),l.length<=n->(gU l).length<=l.length
 |0,[],_=>aZ _
 |n+1,[],_=>aZ _
 |n+1,x::r,h=>by rw[Tj ay];have h1:=Bo 10 (x::r);have h2:=Tm n (tl1 10 (x::r)) (by simp only[dJ]at *;omega);simp only[dJ]at *;omega
abbrev zK:= {x:LN // x.2.length<=1000000}
def aoZ(x:LN):Array K:= #[H x.1,N (str x.2)]
def pU(x:aL):List K:= [aC x.toNat]
def Vi(x:aL):(pU x).length=1:=rfl
def ath(s:aL):∀u∈pU s,u.oneCell'=true:=by intro u a6;simp[pU]at a6;subst a6;rfl
theorem aIk{w:G}{v:K}(h:aS w 1 pU v l):(convert 22 9 v).run prog w= .ok (N (str l)) w:=by
 obtain⟨a,c,rfl,h1,h2,T⟩:=h;cases a with
 |none=>
  have ao:=h2 rfl;have X:l=[]:=nN aE;subst X;rw[run_convert_bytes_string w _ _ _ _ _ _ underlying22 underlying5 underlying9]
  rfl
 |some a=>
  by_cases ae:l=[]
  ·subst ae;exact run_convert_bytes_back w _ _ _ a c [] underlying22 underlying5 underlying9 (λj Z=>by cases Z)
  ·refine run_convert_bytes_back w _ _ _ a c l underlying22 underlying5 underlying9 (λj Z=> ?_);obtain⟨b,o,e,b8⟩:=T j Z;simp only[jB]at e;subst e;have aQ:=b8 0 (by simp[pU]);have hR:(⟨b,o,none⟩:Addr).add j=⟨b,o+j*1+0,none⟩:=by unfold Addr.add;split<;>simp_all
   rw[hR];simpa[pU]using aQ
theorem aIl(l ez lk:Nat)(v:K)(bs:List aL)(X:bs.length<=1000000)(cm g8:List zK->G->Prop)(W:G)(OT:lk<=W.heap.size)(hv:aS W 1 pU v bs)(aIm:∀p aq B,cm p aq->Ext aq B->cm p B)(hu:∀(pre:List zK)(x:zK) W,cm pre W->pre.length<(gU bs).length->YieldAt Fence.wide (3-1) prog l (aoZ x.1) W λe aa=>(e=aI (av true)/\cm (pre++[x]) aa/\Below lk W aa)\/(e=aI (av false)/\g8 (pre++[x]) aa))(ss:W.cell? ez=some v)(ae:cm [] W):CallsIn Fence.wide 3 prog 207 #[.func (.yield l) #[] #[],aB (some ez)] W λe aa=>(∃v,e=aI v)/\((∃ys:List zK,ys.map Subtype.val=jP 1 (gU bs)/\cm ys aa)\/(∃pre:List zK,pre.map Subtype.val <+: jP 1 (gU bs)/\g8 pre aa)):=by
 have z6:=aIk hv;refine y8 func207 rfl trivial ?_ rfl;simp only[ntmps207,ku,dJ,fu,Nat.reduceAdd,Nat.reduceSub,oD,oC,oH,oG,iq,gZ];gi_wp2;gi_loopw [3,4] (λu i wr=>∃(pre:List zK) (t:bn),u=N t/\i=H ((pre:Int)+1)/\t.size<=bs.length/\jP 1 (gU bs)=pre.map Subtype.val++jP (pre+1) (gU (bytes t))/\cm pre wr/\Below lk W wr) (λu _ _=>PG u)
 case atStart=>exact⟨[],str bs,rfl,rfl,aZ _,rfl,ae,Below.refl _ _⟩
 case round=>
  obtain⟨pre,t,rfl,rfl,wg,b4,ll,dT⟩:=hrel;have e':t.toList=bytes t:=ByteArray.toList_eq t;by_cases ac:bytes t=[]
  ·have bx:(!t.toList.isEmpty)=false:=by rw[e',ac];rfl
   rw[ac,aaw]at b4;have cI:=z b4;gi_wp2;go_end0;exact⟨⟨_,rfl⟩,.inl ⟨pre,by rw[cI.o];simp[jP],ll⟩⟩
  ·have bx:(!t.toList.isEmpty)=true:=by rw[e'];cases V:bytes t with
    |nil=>exact absurd V ac
    |cons x r=>rfl
   have ao0:=Tj ac;rw[ao0]at b4;have ad:pre.length<(gU bs).length:=by have:=congrArg List.length b4;rw[CY,dA,CY,dJ,dL]at this;omega
   have ci:=Bo 10 (bytes t);have oX:0<t.size:=by
    rcases Nat.eq_zero_or_pos t.size with h|h
    ·exact absurd (nN (by rw[jS];exact h)) ac
    ·exact h
   rw[jS]at ci;have xn:((pre.length+1,hd1 10 (bytes t)):LN).2.length<=1000000:=by have h1:=Tk 10 (bytes t);rw[jS]at h1;show(hd1 10 (bytes t)).length<=1000000;omega
   obtain⟨x,D⟩:∃x:zK,x.1=(pre.length+1,hd1 10 (bytes t)):=⟨⟨_,xn⟩,rfl⟩;have ut:jP 1 (gU bs)=(pre++[x]).map Subtype.val++jP ((pre++[x]).length+1) (gU (bytes (str (tl1 10 (bytes t))))):=by
    rw[b4,fQ,gJ,dA];simp only[fK,kE,D]
    rfl
   have q5:=z D;clear xn;have cq:=λW=>TP t 10 (by unfold maxLen at *;omega) W
   unfold iw at cq;have hX:=Tm bs bs (aZ _);have cH:pre.length<=1000000:=aE;have cI:=z ut;have bY:=z ci;have hb:=z cq;clear b4 e' ao0 ut ci z6 cq;gi_wp2_with(refine⟨trivial,?_⟩;gi_at_call 208;refine iN (eP.2 (hb.o _)) ?_;intro I Q;obtain⟨fn,tmps,assign,body,bN,bd⟩:=hu pre x I (aIm _ _ _ ll Q) ad;have bF:=z Q;clear Q;unfold aoZ at bN;rw[q5.o]at bN;simp only[Int.natCast_add,Int.natCast_one]at bN);refine bd.mono ?_;rintro e cd (⟨rfl,vf,hI⟩|⟨rfl,hJx3⟩)
   ·gi_wp2;go_roundw
    case rel=>exact⟨_,_,rfl,ay,by rw[vH,bY.o];omega,cI.o,vf,(dT.trans (bF.o.mono (cB OT dT.size))).trans hI⟩
    case measure=>show(str (tl1 10 (bytes t))).size<t.size;rw[vH,bY.o];omega
   ·gi_wp2;refine cO (gq rfl _ _ _) rfl ?_;exact⟨⟨_,rfl⟩,.inr ⟨_,⟨_,cI.o.symm⟩,hJx3⟩⟩
theorem ao1(a:Option Addr)(n c:Nat)(w:G):Calls prog 166 #[E a n c] w λe F=>e=aI (.func (.func 207) #[] #[aB (some w)])/\w.alloc (J #[E a n c] 22)=F:=by go_in;go_wp2;exact vE
theorem ao2(ez lk:Nat)(v:K)(bs:List aL)(X:bs.length<=1000000)(w:G)(OT:lk<=w.heap.size)(ao:w.cell? ez=some v)(bS:aS w 1 pU v bs):SeqStopsK Fence.wide 3 prog 207 #[aB (some ez)] (λx:zK=> #[H x.1.1,N (str x.1.2)]) (Below lk) (λys=>ys.map Subtype.val=jP 1 (gU bs)) (λpre=>pre.map Subtype.val <+: jP 1 (gU bs)) (gU bs).length w:=λl cm g8 W cJ lx _ hu ae=>by have cA:Ext w W:=cJ;exact aIl l ez lk v bs X cm g8 W (cB OT cA.size) (bS.ext cA) (λp aq B h D=>lx p aq B none h ⟨D.os,D.tape,D.output,D.size,λk hk _=>D.block hk⟩ (λr e=>by cases e)) hu (cA.cell ao) ae
theorem aIn(v:K)(bs:List aL)(X:bs.length<=1000000)(w:G)(hv:aS w 1 pU v bs):aM 163 #[v] w (H ((gU bs).length:Int)):=by
 have OW:=hv;obtain⟨a,c,rfl,-⟩:=hv;have hX:=Tm bs bs (aZ _);have OX:=Boxed.new w 3 (H 0);have C0:=Boxed.new (w.alloc (J #[H 0] 3)) 22 (E a bs c);rw[dR]at C0;have pM:Ext w ((w.alloc (J #[H 0] 3)).alloc (J #[E a bs c] 22)):=((O w).alloc _).alloc _;refine(eP (n:=4)).1 ?_;refine callsIn_of_wp_marks func163 rfl trivial ?_ rfl;simp only[ntmps163,ku,dJ,fu,Nat.reduceAdd,Nat.reduceSub,oD,oC,oH,oG,iq,gZ];gi_wp2_with(refine⟨trivial,?_⟩;gi_at_call 166;refine iN (eP.2 (ao1 _ _ _ _)) ?_;rintro F rfl);have h1:1<=4:=aE;refine wpIn_rangeFunc_ownF rfl h1 (gf:=207) (lb:= #[aB (some ⟨w+1,0,none⟩)]) rfl trivial (enters_of func207 aj rfl)
  (ao2 (w+1) w _ bs X _ dU C0.cell (OW.ext pM)) belowK_t (belowK_b dU) (Below.refl _ _) (λ_=>rfl)
  (λpre W=>(W.cell? w=some (H pre.length)/\W.frozen? w=false)/\Below w w W)
  (λ_ _ _=>False)
  (OwnFrom.and (Own.from (λs aq B row ab hg hr=>⟨cell_kept ab.1 hg hr,(frozen_kept ab.1 hg hr).trans ab.2⟩) _) (ownFrom_below (aZ _) dU))
  (λ_ _ _ _ _ ab _ _=>ab)
  ⟨⟨(OX.alloc _).cell,(OX.alloc _).frozen⟩,pM⟩
  (λx=> {tmps:= #[E a bs c,undef,H 0,aB (some w),E a bs c,.func (.func 207) #[] #[aB (some ⟨w+1,0,none⟩)],H x.1.1,N (str x.1.2),undef,undef,undef],defers:= []}) ?assign ?body ?done ?stop
 case assign=>intro l x W aX am;gi_wp2;simp;exact am
 case body=>rintro l pre x W ⟨⟨ao,ai⟩,hB⟩ ad;have cH:pre.length<=1000000:=aE;gi_wp2;refine⟨KeepsOthers.setCell _ _ _,(Below.refl w W).setCell (p:=w) (aZ _) _,⟨?_,by rw[uE];exact ai⟩,hB.setCell (p:=w) (aZ _) _⟩;rw[dA];exact World.cell?_setCell_same' _ _ _ (by rw[ao];rfl)
 case done=>
  rintro ax ys W cE px ⟨⟨ao,_⟩,hB⟩ am;have Gb:ys.length=(gU bs).length:=by rw[<-dL (f:=Subtype.val),px,CY]
  rw[Gb]at ao;have nY:=z px;gi_wp2;refine⟨ay,.inl ⟨_,_,rfl,run_takeDeferred am,?_⟩⟩;exact ab2
 case stop=>exact FJ
end bM
variable{S:Prop}
def ao3(h:S:=by
 rw[sG UM,Array.getElem_modify_self,hk];simp only[jB,vB,and_true];rw[<-bx]
 try rfl):S:=h
def aax(h:S:=by rw[vH];unfold maxLen;omega):S:=h
namespace bM
def TQ(l:List aL):Bool:=match xM l with
 | []=>false
 |x::_=>x==35||x==59
def aIo(x:aL)(r:List aL)(h:0<(str (x::r)).size):(str (x::r))[0]'h=x:=rfl
def Kg(l:List aL):(xM l).length<=l.length:=by unfold xM;rw[List.length_reverse];refine cB (List.dropWhile_suffix _).length_le ?_;rw[List.length_reverse];exact(List.dropWhile_suffix _).length_le
theorem aIp(s:bn)(ab:s.size<=maxLen)(w:G):Calls prog 167 #[N s] w λe F=>e=aI (av (TQ (bytes s)))/\w=F:=by
 have bE:=λW=>UO s ab W
 unfold TQ;have X:=Kg (bytes s);rw[jS]at X;unfold maxLen at ab;cases an:xM (bytes s)with
 |nil=>rw[an]at bE;have hl:=z bE;have I1:=z an;go_in;go_wp2_with fail;refine ak (hl.o _) ?_;rintro I rfl;exact Iu
 |cons x r=>
  rw[an]at bE X;have ci:(str (x::r)).size=r.length+1:=rfl;have hn:(!(str (x::r)).toList.isEmpty)=true:=by rw[ByteArray.toList_eq];rfl
  have ac:0<(str (x::r)).size:=by rw[ci];omega
  have hg:=aIo x r ac;have aK:((x.toNat:Int)==35)=(x==35):=by rw[dW];simp;rw[<-UInt8.toNat_inj];show((x.toNat:Int)=35)↔x.toNat=35;omega
  have aV:((x.toNat:Int)==59)=(x==59):=by rw[dW];simp;rw[<-UInt8.toNat_inj];show((x.toNat:Int)=59)↔x.toNat=59;omega
  dsimp only;generalize(x==35)=b1 at *;generalize(x==59)=b2 at *;generalize bU:str (x::r)=t at *;have hl:=z bE;have I1:=z an;have S7:=z bU;cases b1<;>cases b2
  all_goals
   go_in;go_wp2_with fail;refine ak (hl.o _) ?_;rintro I rfl;go_wp2_with fail;go_ret;exact⟨rfl,rfl⟩
def oI(x:LN):List K:= [H x.1,N (str x.2)]
def yL(x:LN):(oI x).length=2:=rfl
def TR(s:LN):∀u∈oI s,u.oneCell'=true:=by intro u a6;simp[oI]at a6;rcases a6 with rfl|rfl<;>rfl
theorem TS:(Tryz.prog.info? 261).map (λi=>(i.zero,i.size,i.bytes))=some (some (bg #[H 0,N ⟨#[]⟩]),2,24):=aj
def ao4{W:G}{base e n k:Nat}{u:K}{b3:List K}(h:W.ownsRow base e n u k b3):∀(j:Nat)(o:Obj),u.ownBlock=some j->W.heap[j]?=some o->o.isCells=true:=ab4
structure l8(w0:G)(ek du di:Nat)(num:Nat)(eI:List aL)(A:List LN)(u:K)(W:G):Prop where
 ext:Ext w0 W
 n0:w0.heap.size<=ek
 o0:w0.heap.size<=du
 no:ek≠du
 nb:ek<di
 ob:du<di
 bs:di<=W.heap.size
 now:W.heap[ek]?=some (J #[H num,N (str eI)] 261 (0,0))
 box:Boxed W du 206 u
 own:W.ownsRow di 261 2 u A (A.flatMap oI)
structure sD(ek du di:Nat)(W aa:G):Prop where
 kp:Keep (λk=>k<di/\k≠ek/\k≠du) W aa
 ko:KeepsOthers W aa
def sD.refl(ek du di:Nat)(W:G):sD ek du di W W:=⟨Keep.refl _ _,KeepsOthers.refl _⟩
def sD.trans{ek du di:Nat}{a b c:G}(h:sD ek du di a b)(k:sD ek du di b c):sD ek du di a c:=⟨h.kp.trans k.kp,h.ko.trans k.ko⟩
section
variable {w0 W:G} {ek du di num:Nat} {eI:List aL} {A:List LN} {u:K}
def l8.c0(h:l8 w0 ek du di num eI A u W):W.cell? ek=some (H num):=by simp[World.cell?,h.now]
def l8.c1(h:l8 w0 ek du di num eI A u W):W.cell? ⟨ek,1,none⟩=some (N (str eI)):=by simp[World.cell?,h.now]
def l8.f(h:l8 w0 ek du di num eI A u W)(j:Nat):W.frozen? ⟨ek,j,none⟩=false:=by simp[World.frozen?,h.now]
def l8.lt(h:l8 w0 ek du di num eI A u W):ek<W.heap.size:=(dG.1 h.now).1
def l8.vC(h:l8 w0 ek du di num eI A u W)(j:Nat)(v:K)(ao5:Nat)(ao7:List aL)(bx:(#[H num,N (str eI)]:Array K).setIfInBounds j v= #[H ao5,N (str ao7)]):l8 w0 ek du di ao5 ao7 A u (W.setCell ⟨ek,j,none⟩ v)/\sD ek du di W (W.setCell ⟨ek,j,none⟩ v):=by refine⟨⟨h.ext.setCell h.n0 _,h.n0,h.o0,h.no,h.nb,h.ob,by rw[zU];exact h.bs,?_,(fI _ _ _ du (λe=>h.no e.symm)).trans h.box,ownsRow_setCell_below h.own h.nb _⟩,⟨Keep.setCell W (λbe=>be.2.1 rfl) _,KeepsOthers.setCell _ _ _⟩⟩;obtain⟨ad,hk⟩:=dG.1 h.now;show(W.heap.modify ek _)[ek]?=_;exact ao3
def l8.ext'{aa:G}(h:l8 w0 ek du di num eI A u W)(D:Ext W aa):l8 w0 ek du di num eI A u aa:=
 ⟨h.ext.trans D,h.n0,h.o0,h.no,h.nb,h.ob,cB h.bs D.size,(D.block h.lt).trans h.now,(D.block h.box.lt).trans h.box,qB (a7:=λb=>b<W.heap.size) h.own (Keep.of_below D (λ_ h=>h)) (λb V=>(h.own.lt b V).2)⟩
def l8.app{aa:G}{d1:K}{ys:List LN}(h:l8 w0 ek du di num eI A u W)(hg:W.grownBy aa u.ownBlock)(ho:aa.ownsRow di 261 2 d1 (A.length+ys) ((A++ys).flatMap oI)):l8 w0 ek du di num eI (A++ys) d1 (aa.setCell du d1)/\sD ek du di W (aa.setCell du d1):=by
 have hZ:=h.own.lt;have j3:∀k,k<di->some k≠u.ownBlock:=λk hk e=>by have:=(hZ k e.symm).1;omega
 have hx:Boxed aa du 206 u:=(hg.block du h.box.lt (j3 _ h.ob)).trans h.box;refine⟨⟨(h.ext.grown hg (λk e=>by have:=(hZ k e).1;have:=h.n0;have:=h.nb;omega)).setCell h.o0 _,h.n0,h.o0,h.no,h.nb,h.ob,by rw[zU];exact cB h.bs hg.size,(fI _ _ _ ek h.no).trans ((hg.block ek h.lt (j3 _ h.nb)).trans h.now),hx.set _,by rw[dA];exact ownsRow_setCell_below ho h.ob _⟩,⟨?_,?_⟩⟩
 ·exact⟨hg.os,hg.tape,hg.output,by rw[zU];exact hg.size,λk hk=>(fI _ _ _ k hk.2.2).trans (hg.block k (by have:=h.bs;omega) (j3 k hk.1))⟩
 ·exact(KeepsOthers.of_grownBy hg (ao4 h.own)).trans (KeepsOthers.setCell _ _ _)
def sD.ext{aa:G}(V:di<=W.heap.size)(D:Ext W aa)(hk:KeepsOthers W aa):sD ek du di W aa:=⟨Keep.of_below D (λk hk=>aE),hk⟩
end
def wF(num:Nat)(eI:List aL)(A:List LN):List LN:=if xM eI=[]then A else A++[(num,xM eI)]
theorem mK{w0 W:G}{ek du di num:Nat}{eI:List aL}{A:List LN}{u:K}(h:l8 w0 ek du di num eI A u W)(an:eI.length<=100000000000)(xn:A.length<=1000000):Calls prog 164 #[aB (some ek),aB (some du)] W λe F=>e=aI (bH #[])/\∃d1,l8 w0 ek du di 0 [] (wF num eI A) d1 F/\sD ek du di W F:=by
 have bE:=λW=>UO (str eI) aax W
 have X:=Kg eI;rw[show bytes (str eI)=eI from by simp[bytes]]at bE;obtain⟨t,S8⟩:∃t,t=xM eI:=⟨_,rfl⟩;have bx:wF num eI A=if t=[]then A else A++[(num,t)]:=by rw[S8];rfl
 rw[<-S8]at bE X;rw[bx];have Ff:=h.vC 1 (N (str t)) num t rfl;have c1:=h.c1;have dg:=h.f 1;have ad:=h.lt;have bY:=z h;have jp:=z Ff;have hl:=z bE;have aPF:=z S8;have IA:=z bx;clear bE S8 bx h Ff;go_in;go_wp2_with fail;refine ak (hl.o _) ?_;rintro I rfl;go_upto_region 1 with fail;obtain⟨az,b7⟩:∃az,az=W.setCell ⟨ek,1,none⟩ (N (str t)):=⟨_,rfl⟩;rw[<-b7]at jp⊢;clear b7 c1 dg ad;have c1:=jp.o.1.c1;have c0:=jp.o.1.c0;have ad:=jp.o.1.lt;have f0:=jp.o.1.f 0;have dg:=jp.o.1.f 1;by_cases ae:t=[]
 ·subst ae;have pw:=jp.o.1.vC 0 (H 0) 0 [] rfl;have hj:=pw.1.vC 1 (N (str [])) 0 [] rfl;have w6:=z (ah hj.1 (jp.o.2.trans (pw.2.trans hj.2)));clear pw hj;go_wp2_with fail;go_end0;exact⟨rfl,⟨_,w6.o.1⟩,w6.o.2⟩
 ·have hn:(!t.isEmpty)=true:=by
   cases t with
   |nil=>exact absurd rfl ae
   |cons x r=>rfl
  have kj:t.isEmpty=false:=by
   cases t with
   |nil=>exact absurd rfl ae
   |cons x r=>rfl
  have oR:=jp.o.1.own;obtain⟨bv,bp,rfl⟩:=dP oR;have hx:=jp.o.1.box.cell;have Sc:=jp.o.1.box.frozen;have m5:=jp.o.1.box.lt;have j1:=z (jp.o.1.ext' ((O az).alloc (J #[H num,N (str t)] 261)));have Rl:=z (sD.ext (ek:=ek) (du:=du) jp.o.1.bs ((O az).alloc (J #[H num,N (str t)] 261)) (KeepsOthers.alloc _ _));have OY:=z oR;clear oR
  go_wp2_with(at_builtin
              refine vG rfl (.tmp 9) (.tmp 11) _ rfl underlying206 TS rfl Y yL TR di _ _ A [(num,t)] rfl rfl j1.o.own (jh yL az [(num,t)] _ _ rfl) dU Y j1.o.bs ?_;intro ri rj bQ d0 hA;have i1:=j1.o.app hA d0;have c5:bQ.cell? du=some (E bv A bp):=hA.cell j1.o.box.cell (λe=>by have:=(j1.o.own.lt _ e.symm).1;have:=j1.o.ob;dsimp only at *;omega);have v6:bQ.frozen? du=false:=(kS (a:=⟨du,0,none⟩) (hA.block du j1.o.box.lt (λe=>by have:=(j1.o.own.lt _ e.symm).1;have:=j1.o.ob;omega))).trans j1.o.box.frozen;have e8:=gD _ _ c5;have c6:bQ.cell? ek=some (H num):=hA.cell j1.o.c0 (λe=>by have:=(j1.o.own.lt _ e.symm).1;have:=j1.o.nb;dsimp only at *;omega);have c7:bQ.cell? ⟨ek,1,none⟩=some (N (str t)):=hA.cell j1.o.c1 (λe=>by have:=(j1.o.own.lt _ e.symm).1;have:=j1.o.nb;dsimp only at *;omega);have r7:∀j,bQ.frozen? ⟨ek,j,none⟩=false:=λj=>(kS (a:=⟨ek,j,none⟩) (hA.block ek j1.o.lt (λe=>by have:=(j1.o.own.lt _ e.symm).1;have:=j1.o.nb;omega))).trans (j1.o.f j)
              have s7:=gD _ _ c6;have hp:=j1.o.no;have aPG:du≠ek:=λe=>hp e.symm
              have ia:=z i1;have aPH:=r7 0;have aPI:=r7 1;clear d0 hA i1 r7)
  go_end0;have pw:=ia.o.1.vC 0 (H 0) 0 t rfl;have hj:=pw.1.vC 1 (N (str [])) 0 [] rfl;exact⟨rfl,⟨_,hj.1⟩,jp.o.2.trans (Rl.o.trans (ia.o.2.trans (pw.2.trans hj.2)))⟩
end bM
def ao8(h:S:=by
 have e':=Ti s [92];have w6:=z (ah hj.1 (bL.2.trans hj.2));have aIq:=z KB;have ao9:=z r8;have apa:=z mv;have aIr:=z HI;have OZ:=z KE;have S':=z Tb;gi_wp2_with(first
  |(refine⟨trivial,?_⟩;gi_at_call 167;refine iN (CallsIn.inRound l (eP.2 (OZ.o _))) ?_;rintro F rfl)
  |(refine⟨trivial,?_⟩;gi_at_call 168;refine iN (CallsIn.inRound l (eP.2 (S'.o _))) ?_;rintro F rfl))
 exact xo.o _ ⟨u,w6.o.1⟩ w6.o.2):S:=h
def apb(h:S:=by
 have w7:=mK hj.1 UL aE;have w6:=z (ah hj.1 (bL.2.trans hj.2));have aay:=z w7;have aIq:=z KB;have ao9:=z r8;have apa:=z mv;have aIr:=z HI;have OZ:=z KE;have S':=z Tb;gi_wp2_with(first
  |(refine⟨trivial,?_⟩;gi_at_call 167;refine iN (CallsIn.inRound l (eP.2 (OZ.o _))) ?_;rintro F rfl)
  |(refine⟨trivial,?_⟩;gi_at_call 168;refine iN (CallsIn.inRound l (eP.2 (S'.o _))) ?_;rintro F rfl)
  |(refine⟨trivial,?_⟩;gi_at_call 164;refine iN (CallsIn.inRound l (eP.2 aay.o)) ?_;rintro F ⟨d1,gj,hI⟩))
 exact xo.o _ ⟨d1,gj⟩ (w6.o.2.trans hI)):S:=h
def TT(h:S:=by rw[mv];simp):S:=h
def TU(h:S:=by rw[KB];rfl):S:=h
namespace bM
variable{di ek du f8 e k n num:Nat}{W aa w0:G}{u:K}
abbrev qH:=List LN×Nat×List aL
def jO(aw:qH)(x:LN):qH:=
 if TQ x.2=true then aw
 else if Lib.hasSuffix x.2 [92]=true then(aw.1,if aw.2.1=0 then x.1 else aw.2.1,aw.2.2++(Lib.trimSuffix x.2 [92]++[32]))
 else(wF (if aw.2.1=0 then x.1 else aw.2.1) (aw.2.2++x.2) aw.1,0,[])
def lM(pre:List LN):qH:=pre.foldl jO ([],0,[])
def Ki(bs:List aL):List LN:=wF (lM (jP 1 (gU bs))).2.1 (lM (jP 1 (gU bs))).2.2 (lM (jP 1 (gU bs))).1
def jk(bs:List aL):List LN×Int:=if 65536<bs.length then([],3)else if 1000<(gU bs).length then([],4)else(Ki bs,0)
def aIs(pre:List LN)(x:LN):lM (pre++[x])=jO (lM pre) x:=by unfold lM;rw[uF];rfl
def aaz(n:Nat)(t:List aL)(A:List LN):(wF n t A).length<=A.length+1:=by unfold wF;split<;>simp
def Ti(l p:List aL):(Lib.trimSuffix l p).length<=l.length:=by
 unfold Lib.trimSuffix;split
 ·exact List.length_take_le' _ _
 ·exact aZ _
def KF(f8:Nat)(aw:qH)(k:Nat):Prop:=aw.1.length<=k/\aw.2.2.length<=k*f8
def apc{aw:qH}(h:KF f8 aw k)(x:LN)(D:x.2.length+1<=f8):KF f8 (jO aw x) (k+1):=by
 obtain⟨h1,h2⟩:=h;unfold KF;rw[Nat.succ_mul];unfold jO;split
 ·exact⟨aE,aE⟩
 split
 ·have:=Ti x.2 [92];exact⟨by dsimp only;omega,by simp only[dA,dJ,fu];omega⟩
 ·exact⟨cB (aaz _ _ _) aE,ay⟩
def KG(a b:List aL):str a++str b=str (a++b):=bytes_inj (by simp[bytes])
def l8.grow{eI:List aL}{A:List LN}{row:Option Nat}(h:l8 w0 ek du di num eI A u W)(hg:W.grownBy aa row)(hr:∀r,row=some r->di<=r/\∃o:Obj,W.heap[r]?=some o/\o.isCells=false):l8 w0 ek du di num eI A u aa:=by
 have bO:∀k,k<di->some k≠row:=λk hk e=>by have:=(hr k e.symm).1;omega
 refine⟨h.ext.grown hg (λk e=>by have:=(hr k e).1;have:=h.n0;have:=h.nb;omega),h.n0,h.o0,h.no,h.nb,h.ob,cB h.bs hg.size,(hg.block ek h.lt (bO _ h.nb)).trans h.now,(hg.block du h.box.lt (bO _ h.ob)).trans h.box,World.ownsRow.kept h.own hg ?_⟩;cases a6:u.ownBlock with
 |none=>exact xI
 |some k=>
  refine .inr λe=> ?_
  obtain⟨-,o,ho,ao⟩:=hr k e.symm;rw[ao4 h.own k o a6 ho]at ao;cases ao
def kU{base CN:Nat}{b3:List K}(h:W.ownsRow base e n u k b3)(V:CN<=base):W.ownsRow CN e n u k b3:=Px
def KH(I:G)(pre:List zK)(W:G):Prop:=
 (∃u,l8 I (I+1) I (I+4) (lM (pre.map Subtype.val)).2.1 (lM (pre.map Subtype.val)).2.2 (lM (pre.map Subtype.val)).1 u W)/\KF 1000001 (lM (pre.map Subtype.val)) pre.length/\
 Boxed W (I+2) 1 (.func (.func 164) #[] #[aB (some ⟨I+1,0,none⟩),aB (some I)])
def KH.own(I:G)(n:Nat)(hn:I.heap.size+4<=n):OwnFrom n (KH I):=by intro s aq B row ab hg hr;obtain⟨⟨u,h1⟩,h2,T⟩:=ab;refine⟨⟨u,h1.grow hg (λr e=>⟨cB hn (hr r e).1,(hr r e).2⟩)⟩,h2,?_⟩;exact(hg.block _ T.lt (λe=>by have:=(hr _ e.symm).1;omega)).trans T
theorem aIt(v:K)(bs:List aL)(X:bs.length<=1000000)(w:G)(hv:aS w 1 pU v bs):Calls prog 116 #[v] w λe F=>∃u,e=aI (bH #[u,H (jk bs).2])/\Ext w F/\F.ownsRow w 261 2 u (jk bs).1.length ((jk bs).1.flatMap oI):=by
 have OW:=hv;obtain⟨a,c,rfl,-⟩:=hv;have cq:=λW=>aIn (E a bs c) bs X W
 by_cases KI:65536<bs.length
 ·have bl:jk bs=([],3):=by unfold jk;rw[aF KI]
  have hd:decide (65536<bs.length)=true:=dH KI;have HH:decide ((65536:Int)<bs)=true:=dH aE;rw[bl];have ee:=z bl;have aPJ:=z KI;have O0:=z OW;have hb:=z cq;go_in;go_wp2;go_ret2;exact⟨_,rfl,O _,jR _ _ _ _⟩
 have hd:decide (65536<bs.length)=false:=dM KI;have HH:decide ((65536:Int)<bs)=false:=dM aE;by_cases O1:1000<(gU bs).length
 ·have bl:jk bs=([],4):=by unfold jk;rw[au KI,aF O1]
  have ai:decide (1000<(gU bs).length)=true:=dH O1;have PC:decide ((1000:Int)<((gU bs).length:Int))=true:=dH aE;rw[bl];have ee:=z bl;have aPK:=z O1;have O0:=z OW;have hb:=z cq;go_in;go_wp2_with fail;refine ak (hb.o _ O0.o) ?_;intro I Q;go_wp2_with fail;go_ret2;exact⟨_,rfl,Q,jR _ _ _ _⟩
 have bl:jk bs=(Ki bs,0):=by unfold jk;rw[au KI,au O1]
 have ai:decide (1000<(gU bs).length)=false:=dM O1;have PC:decide ((1000:Int)<((gU bs).length:Int))=false:=dM aE;rw[bl];have ee:=z bl;have O0:=z OW;have hb:=z cq;refine(eP (n:=4)).1 ?_;refine callsIn_of_wp_marks func116 rfl trivial ?_ rfl;simp only[ntmps116,ku,dJ,fu,Nat.reduceAdd,Nat.reduceSub,oD,oC,oH,oG,iq,gZ];gi_wp2_with(first
  |(refine⟨trivial,?_⟩;gi_at_call 163;refine iN (eP.2 (hb.o _ O0.o)) ?_;intro I Q;have bF:=z Q)
  |(refine⟨trivial,?_⟩;gi_at_call 166;refine iN (eP.2 (ao1 _ _ _ _)) ?_;rintro F rfl))
 have eQ:l8 I (I+1) I (I+4) 0 [] [] (E none 0 0) ((((I.alloc (J #[E none 0 0] 206)).alloc (J #[H 0,N ⟨#[]⟩] 261)).alloc (J #[.func (.func 164) #[] #[aB (some ⟨I+1,0,none⟩),aB (some I)]] 1)).alloc (J #[E a bs c] 22)):=by
  have h1:=Boxed.new I 206 (E none 0 0);have h2:((I.alloc (J #[E none 0 0] 206)).alloc (J #[H 0,N ⟨#[]⟩] 261)).heap[I.heap.size+1]?=some (J #[H 0,N ⟨#[]⟩] 261 (0,0)):=by have:=bA (I.alloc (J #[E none 0 0] 206)) (J #[H 0,N ⟨#[]⟩] 261);rw[dR]at this;exact this
  have D:Ext ((I.alloc (J #[E none 0 0] 206)).alloc (J #[H 0,N ⟨#[]⟩] 261)) _:=((O _).alloc (J #[.func (.func 164) #[] #[aB (some ⟨I+1,0,none⟩),aB (some I)]] 1)).alloc (J #[E a bs c] 22);exact⟨((((O I).alloc _).alloc _).alloc _).alloc _,aE,aZ _,aE,aE,aE,ay,(D.block ay).trans h2,(D.block dU).trans (h1.alloc _),jR _ _ _ _⟩
 have SJ:Boxed ((((I.alloc (J #[E none 0 0] 206)).alloc (J #[H 0,N ⟨#[]⟩] 261)).alloc (J #[.func (.func 164) #[] #[aB (some ⟨I+1,0,none⟩),aB (some I)]] 1)).alloc (J #[E a bs c] 22)) (I+2) 1 (.func (.func 164) #[] #[aB (some ⟨I+1,0,none⟩),aB (some I)]):=by have h:=Boxed.new ((I.alloc (J #[E none 0 0] 206)).alloc (J #[H 0,N ⟨#[]⟩] 261)) 1 (.func (.func 164) #[] #[aB (some ⟨I+1,0,none⟩),aB (some I)]);rw[dR,dR]at h;exact h.alloc _
 have sa:Boxed ((((I.alloc (J #[E none 0 0] 206)).alloc (J #[H 0,N ⟨#[]⟩] 261)).alloc (J #[.func (.func 164) #[] #[aB (some ⟨I+1,0,none⟩),aB (some I)]] 1)).alloc (J #[E a bs c] 22)) (I+3) 22 (E a bs c):=by have h:=Boxed.new (((I.alloc (J #[E none 0 0] 206)).alloc (J #[H 0,N ⟨#[]⟩] 261)).alloc (J #[.func (.func 164) #[] #[aB (some ⟨I+1,0,none⟩),aB (some I)]] 1)) 22 (E a bs c);rw[dR,dR,dR]at h;exact h
 obtain⟨bX,gh⟩:∃bX,((((I.alloc (J #[E none 0 0] 206)).alloc (J #[H 0,N ⟨#[]⟩] 261)).alloc (J #[.func (.func 164) #[] #[aB (some ⟨I+1,0,none⟩),aB (some I)]] 1)).alloc (J #[E a bs c] 22))=bX:=⟨_,rfl⟩;have vh:bX.heap.size=I.heap.size+4:=by rw[<-gh];simp
 rw[gh]at eQ SJ sa⊢;have h1:1<=4:=aE;refine wpIn_rangeFunc_ownF rfl h1 (gf:=207) (lb:= #[aB (some ⟨I+3,0,none⟩)]) rfl trivial (enters_of func207 aj rfl)
  (ao2 (I+3) I _ bs X _ aE sa.cell (O0.o.ext (bF.o.trans eQ.ext))) belowK_t (belowK_b aE) (Below.refl _ _) (λ_=>rfl)
  (KH I)
  (λ_ _ _=>False)
  (KH.own I _ aE)
  (λ_ _ _ _ _ ab _ _=>ab)
  ⟨⟨_,eQ⟩,⟨aZ _,eG _⟩,SJ⟩
  (λx=> {tmps:= #[E a bs c,undef,E none 0 0,H 0,aB (some I),aB (some ⟨I+1,0,none⟩),aB (some ⟨I+1+1,0,none⟩),H x.1.1,N (str x.1.2),undef,undef,av false,E a bs c,H bs,av false,av false,E a bs c,H ((gU bs).length:Int),av false,
   .func (.func 164) #[] #[aB (some ⟨I+1,0,none⟩),aB (some I)],E a bs c,.func (.func 207) #[] #[aB (some ⟨I+3,0,none⟩)],H x.1.1,N (str x.1.2),undef,undef,undef,undef,undef,undef,undef,undef,undef,undef,undef,undef,undef,undef,undef,undef,undef,undef,undef,undef,undef,undef,undef,undef,undef,undef,undef,undef,undef],defers:= []}) ?assign ?body ?done ?stop
 case assign=>
  intro l x W aX am;gi_wp2
  first|exact am|(simp;exact am)
 case body=>
  rintro l pre ⟨⟨k,s⟩,r'⟩ W ⟨⟨u,ab⟩,BE,jW⟩ ad;have r':s.length<=1000000:=r';have bU:=aIs (pre.map Subtype.val) (k,s);have aIu:=apc BE (k,s) (by show s.length+1<=1000001;omega);have aIv:(pre++[(⟨(k,s),r'⟩:zK)]).map Subtype.val=pre.map Subtype.val++[(k,s)]:=ay;have cg:∀aa,(∃u,l8 I (I+1) I (I+4) (jO (lM (pre.map Subtype.val)) (k,s)).2.1 (jO (lM (pre.map Subtype.val)) (k,s)).2.2 (jO (lM (pre.map Subtype.val)) (k,s)).1 u aa)->sD (I+1) I (I+4) W aa->
   KeepsOthers W aa/\Below I W aa/\KH I (pre++[(⟨(k,s),r'⟩:zK)]) aa:=λaa h1 h2=>⟨h2.ko,h2.kp.below (λj Z=>⟨aE,aE,aE⟩),by
   unfold KH;rw[aIv,bU,dA];exact⟨h1,aIu,(h2.kp.block _ ⟨aE,aE,aE⟩).trans jW⟩⟩
  have ey:pre.length<=1000:=aE;obtain⟨cH,ck⟩:=BE;have m8:(lM (pre.map Subtype.val)).2.2.length<=1000*1000001:=cB ck (pF _ ey);generalize lM (pre.map Subtype.val)=aw at *;obtain⟨A,num,eI⟩:=aw;dsimp only at ab cH m8;have xo:=z cg;have c0:=ab.c0;have c1:=ab.c1;have aBo:=ab.lt;have f0:=ab.f 0;have dg:=ab.f 1;have Qo:W.cell? ⟨I+1+1,0,none⟩=some (.func (.func 164) #[] #[aB (some ⟨I+1,0,none⟩),aB (some I)]):=jW.cell;have n1:1<=4-1-1:=aE;have KE:=λW=>aIp (str s) aax W
  rw[show bytes (str s)=s from by simp[bytes]]at KE;have Tb:∀W,Calls prog 168 #[N (str s),N ⟨#[92]⟩] W λe F=>e=aI (bH #[N (str (Lib.trimSuffix s [92])),av (Lib.hasSuffix s [92])])/\W=F:=λW=>(Tryz.strings_CutSuffix (str s) ⟨#[92]⟩ W (by rw[vH];omega)).mono λe F h=>by obtain⟨rfl,rfl⟩:=h;exact⟨ay,rfl⟩
  have O2:=z ab;have yz:=z ad;cases mv:TQ s
  case true=>
   rw[mv]at KE;have r8:jO (A,num,eI) (k,s)=(A,num,eI):=by unfold jO;rw[aF mv]
   rw[r8]at xo;have ao9:=z r8;have apa:=z mv;have OZ:=z KE;have S':=z Tb;gi_wp2_with(refine⟨trivial,?_⟩;gi_at_call 167;refine iN (CallsIn.inRound l (eP.2 (OZ.o _))) ?_;rintro F rfl);exact xo.o W ⟨u,O2.o⟩ (sD.refl _ _ _ _)
  case false=>
   rw[mv]at KE;cases HI:Lib.hasSuffix s [92]
   all_goals
    rw[HI]at Tb;by_cases Th:num=0
   ·subst Th;have r8:jO (A,0,eI) (k,s)=(wF k (eI++s) A,0,[]):=by unfold jO;rw[au TT,au (by rw[HI];simp)];dsimp only;rw[aF rfl]
    rw[r8]at xo;dsimp only at xo;have bL:=O2.o.vC 0 (H k) k eI rfl;have KB:str eI++str s=str (eI++s):=KG _ _;have hj:=bL.1.vC 1 (N (str eI++str s)) k (eI++s) TU;exact apb
   ·have pT:((num:Int)==0)=false:=by rw[iH];omega
    have r8:jO (A,num,eI) (k,s)=(wF num (eI++s) A,0,[]):=by unfold jO;rw[au TT,au (by rw[HI];simp)];dsimp only;rw[au Th]
    rw[r8]at xo;dsimp only at xo;have bL:l8 I (I+1) I (I+4) num eI A u W/\sD (I+1) I (I+4) W W:=⟨O2.o,sD.refl _ _ _ _⟩;have KB:str eI++str s=str (eI++s):=KG _ _;have hj:=bL.1.vC 1 (N (str eI++str s)) num (eI++s) TU;exact apb
   ·subst Th;have r8:jO (A,0,eI) (k,s)=(A,k,eI++(Lib.trimSuffix s [92]++[32])):=by unfold jO;rw[au TT,aF HI];dsimp only;rw[aF rfl]
    rw[r8]at xo;dsimp only at xo;have bL:=O2.o.vC 0 (H k) k eI rfl;have KB:str eI++(str (Lib.trimSuffix s [92])++(⟨#[32]⟩:bn))=str (eI++(Lib.trimSuffix s [92]++[32])):=by rw[show(⟨#[32]⟩:bn)=str [32]from rfl,KG,KG]
    have hj:=bL.1.vC 1 (N (str eI++(str (Lib.trimSuffix s [92])++(⟨#[32]⟩:bn)))) k (eI++(Lib.trimSuffix s [92]++[32])) TU;exact ao8
   ·have pT:((num:Int)==0)=false:=by rw[iH];omega
    have r8:jO (A,num,eI) (k,s)=(A,num,eI++(Lib.trimSuffix s [92]++[32])):=by unfold jO;rw[au TT,aF HI];dsimp only;rw[au Th]
    rw[r8]at xo;dsimp only at xo;have bL:l8 I (I+1) I (I+4) num eI A u W/\sD (I+1) I (I+4) W W:=⟨O2.o,sD.refl _ _ _ _⟩;have KB:str eI++(str (Lib.trimSuffix s [92])++(⟨#[32]⟩:bn))=str (eI++(Lib.trimSuffix s [92]++[32])):=by rw[show(⟨#[32]⟩:bn)=str [32]from rfl,KG,KG]
    have hj:=bL.1.vC 1 (N (str eI++(str (Lib.trimSuffix s [92])++(⟨#[32]⟩:bn)))) num (eI++(Lib.trimSuffix s [92]++[32])) TU;exact ao8
 case done=>
  rintro ax ys W cE px ⟨⟨u,ab⟩,⟨cH,ck⟩,jW⟩ am;have Gb:ys.length<=1000:=by rw[<-dL (f:=Subtype.val),px,CY];omega
  have m8:(lM (ys.map Subtype.val)).2.2.length<=1000*1000001:=cB ck (pF _ Gb);rw[px]at ab cH m8;have C1:Ki bs=wF (lM (jP 1 (gU bs))).2.1 (lM (jP 1 (gU bs))).2.2 (lM (jP 1 (gU bs))).1:=rfl;generalize lM (jP 1 (gU bs))=aw at *;obtain⟨A,num,eI⟩:=aw;dsimp only at ab cH m8 C1;have w7:=mK ab aE aE;have Qo:W.cell? ⟨I+1+1,0,none⟩=some (.func (.func 164) #[] #[aB (some ⟨I+1,0,none⟩),aB (some I)]):=jW.cell;generalize wF num eI A=b3 at *;have aIw:=z (ah cE am);have aay:=z w7;have Tl:=z C1;have aPL:=z ab;gi_wp2_with(refine⟨trivial,?_⟩;gi_at_call 164;refine iN (eP.2 aay.o) ?_;rintro F ⟨d1,gj,hI⟩;have aPM:=gj.box.cell;obtain⟨bv,bp,aIx⟩:=dP gj.own;subst aIx;have hC:=z (ah gj hI));obtain⟨gj,hI⟩:=hC.o;obtain⟨cE,am⟩:=aIw.o;have Rr:=hI.ko.same ax _ am rfl;have hg:=gj.grow (grownBy_putObj' F ax (.deferred none)) (λr e=>by cases e;exact⟨aE,_,Rr,rfl⟩);refine⟨ay,.inl ⟨_,_,rfl,run_takeDeferred Rr,?_⟩⟩;refine⟨bH #[E bv b3 bp,H 0],(by simp[results,results116,go_sem]),_,rfl,?_,?_⟩
  ·exact bF.o.trans hg.ext
  ·rw[Tl.o];exact kU hg.own (by have:=bF.o.size;omega)
 case stop=>exact FJ
end bM
open Go.Sort
namespace KL
variable{A:List Nat}
def hd1(c:aL)(l:List aL):List aL:=l.takeWhile (· !=c)
def tl1(c:aL)(l:List aL):List aL:=(l.dropWhile (· !=c)).drop 1
def Ic{c:aL}:∀ {l:List aL},l.contains c=false->hd1 c l=l/\tl1 c l=[]
 | [],_=>⟨rfl,rfl⟩
 |x::r,h=>by
  rw[y5,BI]at h;have D:(x !=c)=true:=by have:=h.1;simp at this;simp;exactλe=>this e.symm
  obtain⟨h1,h2⟩:=Ic h.2;unfold hd1 tl1 at *;rw[zP (p:=(· !=_)) D,Dk (p:=(· !=_)) D,h1];exact⟨rfl,h2⟩
def Ie{c:aL}:∀ {l:List aL},l.contains c=true->(hd1 c l).length<l.length
 | [],h=>by cases h
 |x::r,h=>by
  unfold hd1;by_cases D:x=c
  ·have D:¬(x !=c)=true:=by simp[D]
   rw[FB (p:=(· !=_)) D];simp
  ·rw[y5]at h;have ao:(c==x)=false:=by rw[iH];exactλe=>D e.symm
   rw[ao,Bool.false_or]at h;have D:(x !=c)=true:=by simp[D]
   rw[zP (p:=(· !=_)) D];have:=Ie h;unfold hd1 at this;simp only[dJ];omega
theorem Xl(a:Nat)(h:a<4294967296)(w:G):Calls prog 194 #[M a] w λe F=>e=aI (M ((a/65536*65536:Nat):Int))/\w=F:=by go_in;go_wp2;go_ret;exact⟨by simp[acP a h],rfl⟩
def apd(a:Nat)(h:a<4294967296):wrap32 ((a:Int)/65536*65536)=PV a*65536:=by unfold wrap32 PV;split<;>omega
theorem aIy(a b:Nat)(h:a<4294967296)(gm:b<4294967296)(w:G):Calls prog 153 #[M a,M b] w λe F=>e=aI (av (less a b))/\w=F:=by go_in;go_wp2_with(go_at_call 194;refine ak (Xl _ (by assumption) _) ?_;rintro F rfl);go_ret;exact⟨by simp[less,apd a h,apd b gm],rfl⟩
def pick(r x:Nat):Nat:=if less x r then x else r
def aIz{r x:Nat}(h:r<4294967296)(gm:x<4294967296):pick r x<4294967296:=by unfold pick;split<;>assumption
def upto(n k:Nat):List Nat:=(List.range k).map λj=>n-1-j
def aIA(n k:Nat):upto n (k+1)=upto n k++[n-1-k]:=by simp[upto,List.range_succ]
def aIB(n k:Nat):(upto n k).length=k:=by simp[upto]
def fold(A:List Nat)(e5:List Nat):Nat:=e5.foldl (λr i=>pick r (A.getD i 0)) 2147418112
def comb(A:List Nat):Nat:=fold A (upto A A)
def aIC(A e5:List Nat)(i:Nat):fold A (e5++[i])=pick (fold A e5) (A.getD i 0):=by simp[fold]
def getD_lt(h:∀x∈A,x<4294967296)(i:Nat):A.getD i 0<4294967296:=by
 rw[kR];by_cases hi:i<A
 ·rw[dK hi];exact h _ (eB _)
 ·rw[List.getElem?_eq_none (by omega)];decide
def aID(h:∀x∈A,x<4294967296)(e5:List Nat):fold A e5<4294967296:=by
 unfold fold;generalize hr:(2147418112:Nat)=r;have xy:r<4294967296:=by omega
 clear hr
 induction e5 generalizing r with
 |nil=>exact xy
 |cons i e5 b9=>exact b9 _ (aIz xy (getD_lt h i))
def fV(a:Nat):List K:= [M a]
theorem aIE(b o c:Nat)(r x:Nat)(hr:r<4294967296)(D:x<4294967296)(ao:2<=c)(w:G)(ae:w.cell? ⟨b,o,none⟩=some (M r))(h1:w.cell? ⟨b,o+1,none⟩=some (M x)):Calls prog 95 #[E (some ⟨b,o,none⟩) 2 c] w λe F=>e=aI (M (pick r x:Nat))/\w=F:=by
 have aPN:¬(c=1):=by omega
 by_cases X:less x r=true
 all_goals
  go_in;go_wp2;refine wp_loop_rounds 2 ?_;rw[rounds_succ];go_wp2_with(go_at_call 153;refine ak (aIy _ _ D hr _) ?_;rintro F rfl);rw[rounds_succ];go_wp2;go_ret;exact⟨by simp[pick,X],rfl⟩
theorem aIF(l ez lk b o c:Nat)(n:Nat)(g:Nat->Nat)(hn:n<=9223372036854775807)(V:b<lk)(cm g8:List Nat->G->Prop)(hu:∀(pre:List Nat)(x:Nat) W,cm pre W->pre.length<n->YieldAt Fence.wide (3-1) prog l #[H x,M (g x:Nat)] W λe aa=>(e=aI (av true)/\cm (pre++[x]) aa/\Keep (λk=>k<lk\/k=ez) W aa)\/(e=aI (av false)/\g8 (pre++[x]) aa))(W:G)(ss:W.cell? ez=some (E (some ⟨b,o,none⟩) n c))(ao:∀j,j<n->W.cell? ⟨b,o+j,none⟩=some (M (g j:Nat)))(ae:cm [] W):CallsIn Fence.wide 3 prog 152 #[.func (.yield l) #[] #[],aB (some ez)] W λe aa=>(∃v,e=aI v)/\((∃ys,ys=upto n n/\cm ys aa)\/(∃pre,(∃k,k<=n/\pre=upto n k)/\g8 pre aa)):=by
 refine y8 func152 rfl trivial ?_ rfl;simp only[ntmps152,ku,dJ,fu,Nat.reduceAdd,Nat.reduceSub,oD,oC,oH,oG,iq,gZ];gi_wp2;gi_loopw [3] (λi wr=>∃k:Nat,k<=n/\i=H ((n:Int)-1-k)/\cm (upto n k) wr/\Keep (λk=>k<lk\/k=ez) W wr) (λi _=>(intOf i+1).toNat)
 case atStart=>exact⟨0,eG _,by simp,ae,Keep.refl _ _⟩
 case round=>
  obtain⟨k,hk,rfl,ll,dT⟩:=hrel;by_cases ad:k<n
  ·obtain⟨q,aW⟩:∃q:Nat,q=n-1-k:=⟨_,rfl⟩;have yn:(n:Int)-1-k=(q:Int):=by omega
   have rs:q<n:=by omega
   have aPO:=(dT.cell (p:=⟨b,o+q,none⟩) (.inl V)).trans (ao q rs);have lE:=(dT.cell (p:=⟨ez,0,none⟩) (.inr rfl)).trans ss;have gd:=aIA n k;rw[<-aW]at gd;have pd:=z gd;obtain⟨fn,tmps,assign,body,bN,bd⟩:=hu _ q wr ll (by rw[aIB];exact ad);rw[yn];clear gd aW ao ss;gi_wp2;refine bd.mono ?_;rintro e cd (⟨rfl,vf,hI⟩|⟨rfl,hJx3⟩)
   ·gi_wp2;go_roundw
    case rel=>exact⟨k+1,by omega,by first|(simp;done)|(simp;omega),by rw[pd.o];exact vf,dT.trans hI⟩
    case measure=>simp[intOf]<;>omega
   ·gi_wp2;refine cO (gq rfl _ _ _) rfl ?_;exact⟨⟨_,rfl⟩,.inr ⟨_,⟨k+1,by omega,pd.o.symm⟩,hJx3⟩⟩
  ·obtain rfl:k=n:=by omega
   exact UD
theorem aIG(l ez:Nat)(cm:List Nat->G->Prop)(W:G)(a:Option Addr)(c:Nat)(ss:W.cell? ez=some (E a 0 c))(ae:cm [] W):CallsIn Fence.wide 3 prog 152 #[.func (.yield l) #[] #[],aB (some ez)] W λe aa=>(∃v,e=aI v)/\cm [] aa:=by
 refine y8 func152 rfl trivial ?_ rfl;simp only[ntmps152,ku,dJ,fu,Nat.reduceAdd,Nat.reduceSub,oD,oC,oH,oG,iq,gZ];gi_wp2;gi_loopw [3] (λi wr=>i=H (-1)/\cm [] wr) (λ_ _=>0)
 case atStart=>exact⟨rfl,ae⟩
 case round=>exact UE
theorem aIH(a:Option Addr)(n c:Nat)(w:G):Calls prog 94 #[E a n c] w λe F=>e=aI (.func (.func 152) #[] #[aB (some w)])/\w.alloc (J #[E a n c] 33)=F:=by go_in;go_wp2;exact vE
theorem aII(ez lk:Nat)(v:K)(A:List Nat)(hn:A.length<=9223372036854775807)(w:G)(ss:ez<w.heap.size)(aHt:lk<=w.heap.size)(ao:w.cell? ez=some v)(bS:aS w 1 fV v A)(rL:∀b o c,v=E (some ⟨b,o,none⟩) A c->0<A.length->b<lk):SeqStopsK Fence.wide 3 prog 152 #[aB (some ez)] (λx:Nat=> #[Value.int .i64 x,Value.int .u32 (A.getD x 0:Nat)]) (Keep (λk=>k<lk\/k=ez)) (λys=>ys=upto A A) (λpre=>∃k,k<=A.length/\pre=upto A k) A w:=λl cm g8 W cJ _ _ hu ae=>by
 have q1:=(cJ.cell (p:=⟨ez,0,none⟩) ss).trans ao;obtain⟨a,c,rfl,ge,sc,mt⟩:=bS.ext cJ;by_cases BY:A.length=0
 ·rw[BY]at q1⊢;exact(aIG l ez cm W a c q1 ae).mono λe aa ⟨bx,Z⟩=>⟨bx,.inl ⟨_,rfl,Z⟩⟩
 ·obtain⟨b,o,rfl,_⟩:=mt 0 (by omega);refine aIF l ez lk b o c A (λj=>A.getD j 0) hn (rL b o c rfl (by omega)) cm g8 hu W q1 ?_ ae;intro j Z;obtain⟨e4,fe,e,b8⟩:=mt j Z;obtain⟨rfl,rfl⟩:b=e4/\o=fe:=by simpa using e
  have:=b8 0 (by simp[fV]);simpa[fV,Z]using this
def aIJ{a7:Nat->Prop}{w:G}(hS:∀k,a7 k->k<w.heap.size)(W:G)(l:Nat)(o fe:Obj)(X:w.heap.size<=l)(aPP:W.heap[l]?=some o)(_:o.isCells=false)(_:o.isWalk=false):Keep a7 W (W.putObj l fe):=by have hg:=grownBy_putObj' W l fe;refine⟨hg.os,hg.tape,hg.output,hg.size,λk hk=>World.putObj_heap_other (λe=> ?_)⟩;have:=hS k hk;omega
theorem akM(v:K)(A:List Nat)(hn:A.length<=9223372036854775807)(D:∀x∈A,x<4294967296)(w:G)(bS:aS w 1 fV v A):aM 51 #[v] w (M (comb A:Nat)):=by
 obtain⟨a,c,rfl,bd⟩:=id bS;have rL:∀b o c',Value.slice a A c=E (some ⟨b,o,none⟩) A c'->0<A.length->b<w.heap.size:=by
  intro b o c' e ae;obtain⟨e4,fe,cU,b8⟩:=bd.2.2 0 ae;simp only[eZ]at e;rw[e.1]at cU;obtain⟨rfl,rfl⟩:b=e4/\o=fe:=by simpa using cU
  exact gD _ _ (b8 0 (by simp[fV]))
 have OX:=Boxed.new w 32 (M 2147418112);have C0:=Boxed.new (w.alloc (J #[M 2147418112] 32)) 33 (E a A c);rw[dR]at C0;have pM:Ext w ((w.alloc (J #[M 2147418112] 32)).alloc (J #[E a A c] 33)):=((O w).alloc _).alloc _;refine(eP (n:=4)).1 ?_;refine callsIn_of_wp_marks func51 rfl trivial ?_ rfl;simp only[ntmps51,ku,dJ,fu,Nat.reduceAdd,Nat.reduceSub,oD,oC,oH,oG,iq,gZ];gi_wp2_with(refine⟨trivial,?_⟩;gi_at_call 94;refine iN (eP.2 (aIH _ _ _ _)) ?_;rintro F rfl);have h1:1<=4:=by omega
 refine wpIn_rangeFunc_ownF rfl h1 (gf:=152) (lb:= #[aB (some ⟨w+1,0,none⟩)]) rfl trivial (enters_of func152 (by kernel_rfl) rfl)
  (aII (w+1) w _ A hn _ (by simp) (by simp;omega) C0.cell (bS.ext pM) rL) Po (aIJ (by simp;omega)) (Below.refl _ _) (λ_=>rfl)
  (λpre W=>(W.cell? w=some (M (fold A pre:Nat))/\W.frozen? w=false/\W.cell? ⟨w+1,0,none⟩=some (E a A c))/\Below w w W)
  (λ_ _ _=>False)
  (OwnFrom.and (Own.from (λs aq B row ab hg hr=>⟨cell_kept ab.1 hg hr,(frozen_kept ab.1 hg hr).trans ab.2.1,cell_kept ab.2.2 hg hr⟩) _) (ownFrom_below (aZ _) (by simp;omega)))
  (λ_ _ _ _ _ ab _ _=>ab)
  ⟨⟨(OX.alloc _).cell,(OX.alloc _).frozen,C0.cell⟩,pM⟩
  (λx=> {tmps:= #[E a A c,undef,M 0,aB (some w),undef,M (A.getD x 0:Nat),E a A c,.func (.func 152) #[] #[aB (some ⟨w+1,0,none⟩)],H (x:Int),M (A.getD x 0:Nat),undef,undef,undef,undef,undef],defers:= []}) ?assign ?body ?done ?stop
 case assign=>intro l x W aX am;gi_wp2;exact am
 case body=>
  rintro l pre x W ⟨⟨ao,ai,s0⟩,hB⟩ _;have yy:w.heap.size+1<W.heap.size:=gD _ _ s0;have ad:w.heap.size<W:=gD _ _ ao;have ma:=aID D pre;have xn:=getD_lt D x;have g0:=aIC A pre x;have bY:=z g0;generalize fold A pre=r at ao ma bY⊢;generalize A.getD x 0=y at xn bY⊢;have n1:1<=4-1-1:=by omega
  gi_wp2_with(refine⟨trivial,?_⟩;gi_at_call 95;refine iN (CallsIn.inRound l (eP.2 (aIE W 0 2 r y ma xn (by omega) _ (by simp[go_sem]) (by simp[go_sem])))) ?_;rintro F rfl);refine⟨(KeepsOthers.setCell _ _ _).trans (KeepsOthers.alloc _ _),(Keep.setCell W (by intro h;rcases h with h|h<;>simp at h) _).trans (Keep.alloc _ (by intro k hk;simp only[zU];omega) _),⟨?_,?_,?_⟩,(hB.setCell (p:=w) (aZ _) _).alloc (by simp only[zU];omega) _⟩
  ·rw[bY.o];exact Ext.cell ((O _).alloc _) (World.cell?_setCell_same' _ _ _ (by rw[ao];rfl))
  ·exact Ext.frozen ((O _).alloc _) (World.cell?_setCell_same' _ _ _ (by rw[ao];rfl)) (by rw[uE];exact ai)
  ·refine Ext.cell ((O _).alloc _) ?_;rw[xD (w:=W) (fI _ _ _ _ (by simp))];exact s0
 case done=>rintro ax ys W cE rfl ⟨⟨ao,_⟩,hB⟩ am;gi_wp2;refine⟨by simp,.inl ⟨_,_,rfl,run_takeDeferred am,?_⟩⟩;exact ab2
 case stop=>exact FJ
end KL
def ape(h:S:=by have s1:=z ai;clear ai xN;go_wp2_with fail;go_ret2;exact⟨by rw[s1.o];rfl,cL.o⟩):S:=h
def TV(h:S:=by go_wp2_with fail;go_ret2;exact⟨by rw[KK.o];rfl,cL.o⟩):S:=h
namespace oh
abbrev Nm:=List aL×Nat
def bytes(s:bn):List aL:=s.data.toList
def str(l:List aL):bn:=⟨l.toArray⟩
def jS(s:bn):(bytes s).length=s.size:=rfl
def vH(l:List aL):(str l).size=l.length:=rfl
def bytes_inj{s t:bn}(h:bytes s=bytes t):s=t:=ab1
def nP(l:List aL):bytes (str l)=l:=by simp[bytes,str]
def Dt(s:bn):str (bytes s)=s:=bytes_inj (nP _)
def sM(x:Nm):List K:= [N (str x.1),M x.2]
def Ll(x:Nm):(sM x).length=2:=rfl
def yN:List Nm:= [([69,80,69,82,77],1),([69,78,79,69,78,84],2),([69,73,79],5),([69,66,65,68,70],9),([69,65,71,65,73,78],11),([69,78,79,77,69,77],12),([69,65,67,67,69,83],13),([69,70,65,85,76,84],14),([69,66,85,83,89],16),([69,78,79,68,69,86],19),([69,73,78,86,65,76],22),([69,78,79,83,89,83],38),([69,79,80,78,79,84,83,85,80,80],95),([69,65,70,78,79,83,85,80,80,79,82,84],97),([69,84,73,77,69,68,79,85,84],110)]
def Bt:Array K:= #[N ⟨#[69,80,69,82,77]⟩,M 1,N ⟨#[69,78,79,69,78,84]⟩,M 2,N ⟨#[69,73,79]⟩,M 5,N ⟨#[69,66,65,68,70]⟩,M 9,N ⟨#[69,65,71,65,73,78]⟩,M 11,N ⟨#[69,78,79,77,69,77]⟩,M 12,N ⟨#[69,65,67,67,69,83]⟩,M 13,N ⟨#[69,70,65,85,76,84]⟩,M 14,N ⟨#[69,66,85,83,89]⟩,M 16,N ⟨#[69,78,79,68,69,86]⟩,M 19,N ⟨#[69,73,78,86,65,76]⟩,M 22,N ⟨#[69,78,79,83,89,83]⟩,M 38,N ⟨#[69,79,80,78,79,84,83,85,80,80]⟩,M 95,N ⟨#[69,65,70,78,79,83,85,80,80,79,82,84]⟩,M 97,N ⟨#[69,84,73,77,69,68,79,85,84]⟩,M 110]
def apf:Bt.toList=yN.flatMap sM:=by rfl
theorem aIK(w:G):aM 340 #[] w (bg Bt):=by
 unfold aM;go_in;go_upto_region 1 with fail;apply wp_region_lit;refine bG 180 1 #[N ⟨#[69,80,69,82,77]⟩,M 1] ?_;refine bG 180 2 #[N ⟨#[69,78,79,69,78,84]⟩,M 2] ?_;refine bG 180 3 #[N ⟨#[69,73,79]⟩,M 5] ?_;refine bG 180 4 #[N ⟨#[69,66,65,68,70]⟩,M 9] ?_;refine bG 180 5 #[N ⟨#[69,65,71,65,73,78]⟩,M 11] ?_;refine bG 180 6 #[N ⟨#[69,78,79,77,69,77]⟩,M 12] ?_;refine bG 180 7 #[N ⟨#[69,65,67,67,69,83]⟩,M 13] ?_;refine bG 180 8 #[N ⟨#[69,70,65,85,76,84]⟩,M 14] ?_;refine bG 180 9 #[N ⟨#[69,66,85,83,89]⟩,M 16] ?_;refine bG 180 10 #[N ⟨#[69,78,79,68,69,86]⟩,M 19] ?_;refine bG 180 11 #[N ⟨#[69,73,78,86,65,76]⟩,M 22] ?_;refine bG 180 12 #[N ⟨#[69,78,79,83,89,83]⟩,M 38] ?_;refine bG 180 13 #[N ⟨#[69,79,80,78,79,84,83,85,80,80]⟩,M 95] ?_;refine bG 180 14 #[N ⟨#[69,65,70,78,79,83,85,80,80,79,82,84]⟩,M 97] ?_;refine bG 180 15 #[N ⟨#[69,84,73,77,69,68,79,85,84]⟩,M 110] ?_;refine bG 452 16 (Bt) ?_;refine wpList_store_rowTo rfl 452 _ _ rfl rfl w.heap.size Bt jU jU 452 _ (heap_alloc_last w _) aj aj aj ?_;rw[World.setRow_alloc_new];apply wpList_nil;rename_i am;refine am _ _ ?_;have key:∀aq:Act,aq.tmps.getD 0 undef=aB (some w)->aq.defers=[]->Code.wp prog Code.ret (bodyPost prog Tryz.f340 λe F=>e=aI (bg Bt)/\Ext w F) aq (w.alloc (J Bt 452)):=by intro aq ae hd;go_wp;exact cO (v:=bg Bt) (lQ results340 _ _ _ _ _ _ _ ae (heap_alloc_last w _) underlying452 rfl aj) hd ⟨rfl,(O _).alloc _⟩
 exact Du
def FP(t s:bn):(t.toList==s.toList)=(bytes t==bytes s):=by rw[Lib.toList_data,Lib.toList_data];rfl
def xO{α:Type}{p:α->Bool}:∀ {l:List α} {i:Nat} (h:i<l),(∀(j:Nat)(Z:j<l),j<i->p l[j]=false)->p l[i]=true->l.find? p=some l[i]
 |x::r,0,_,_,ac=>by simp at ac;simp[List.find?,ac]
 |x::r,i+1,h,hn,ac=>by have ae:p x=false:=hn 0 ay aE;have:=xO (p:=p) (l:=r) (i:=i) (Nat.lt_of_succ_lt_succ h) (λj Z lr=>hn (j+1) (Nat.succ_lt_succ Z) aE) ac;simp[List.find?,ae,this]
def FR{α:Type}{p:α->Bool}{l:List α}(h:∀(j:Nat)(Z:j<l),p l[j]=false):l.find? p=none:=Pw
def kK(l:List Nm)(s:List aL)(no:Int):Nat×Int:=match l.find? (λx=>x.1==s)with
 |some x=>(x.2,0)
 |none=>(0,no)
def P5{w:G}{v:K}{A:List Nm}(h:aS w 2 sM v A):∃a c,v=E a A c/\A.length<=c/\∀i,(hi:i<A.length)->∃b o,a=some ⟨b,o,none⟩/\w.cell? ⟨b,o+i*2,none⟩=some (N (str (A[i]).1))/\w.cell? ⟨b,o+i*2+1,none⟩=some (M ((A[i]).2:Int)):=acr
theorem Ve(l:List Nm)(v:K)(s:bn)(no:Int)(w:G)(hv:aS w 2 sM v l)(X:l.length<=1000):aM 341 #[v,N s,H no] w (bH #[M ((kK l (bytes s) no).1:Int),H (kK l (bytes s) no).2]):=by
 obtain⟨a,c,rfl,ep,ao⟩:=P5 hv;obtain⟨aH,bd⟩:∃aH,aH=kK l (bytes s) no:=⟨_,rfl⟩;rw[<-bd];have k0:=z bd;have mu:=z ao;unfold aM;go_in;go_wp;go_loopw [13] (λu wr=>∃i:Nat,i<=l/\u=H i/\(∀(j:Nat) (Z:j<l),j<i->(l[j].1==bytes s)=false)/\Ext w wr) (λu _=>l.length-(intOf u).toNat)
 case atStart=>exact UR
 case round=>
  obtain⟨i,hi,rfl,fX,D⟩:=hrel;have wi:=z fX;have aT:=z D;by_cases ad:i<l
  ·obtain⟨b,o,rfl,dm,cs⟩:=mu.o i ad;replace dm:=D.cell dm;replace cs:=D.cell cs;have bL:(i:Int)<l:=aE;have DA:IntKind.i64.wrap ((i:Int)+1)=(i:Int)+1:=IntWalk.i64_in _ aE;have b8:(l[i].1==bytes s)=true->aH=(l[i].2,0):=λh=>by rw[k0.o];unfold kK;rw[xO (p:=λx=>x.1==bytes s) ad wi.o h]
   have wj:(l[i].1==bytes s)=false->∀(j:Nat) (Z:j<l.length),j<i+1->(l[j].1==bytes s)=false:=λjW j Z h=>UW
   have jn:=FP (str l[i].1) s;rw[nP]at jn;generalize Lk:l[i]=x at *;obtain⟨t,n⟩:=x;dsimp only at dm cs jn wj b8;cases V:t==bytes s
   ·rw[V]at jn wj;generalize str t=aw at *;go_wp;go_roundw
    case rel=>exact UZ
    case measure=>exact eO
   ·rw[V]at jn b8;have ai:=b8 rfl;have s1:=z ai;generalize str t=aw at *;go_wp;go_ret2;exact UY
  ·obtain rfl:i=l.length:=aE;have bL:¬((l:Int)<l):=aE;have ai:aH=(0,no):=In
   have s1:=z ai;go_wp;go_ret2;exact PK
def Iy{W:G}{t:dD}{n:Nat}{enc:Nm->List K}(cp:∀x,(enc x).length=n){c:Array K}{l:List Nm}(h:c.toList=l.flatMap enc):aS (W.alloc (J c t)) n enc (E (some W) l l) l:=by have:=jh cp W l t W rfl;rw[<-h]at this;exact wK
theorem aIL(W:G):(storeCells W Bt.toList 0).run prog (W.alloc (J #[N ⟨#[]⟩,M 0,N ⟨#[]⟩,M 0,N ⟨#[]⟩,M 0,N ⟨#[]⟩,M 0,N ⟨#[]⟩,M 0,N ⟨#[]⟩,M 0,N ⟨#[]⟩,M 0,N ⟨#[]⟩,M 0,N ⟨#[]⟩,M 0,N ⟨#[]⟩,M 0,N ⟨#[]⟩,M 0,N ⟨#[]⟩,M 0,N ⟨#[]⟩,M 0,N ⟨#[]⟩,M 0,N ⟨#[]⟩,M 0] 452))= .ok () (W.alloc (J Bt 452)):=run_storeCells_new (P:=prog) W _ _ _ aj aj aj
def pU(x:aL):List K:= [aC x.toNat]
theorem Vj(w:G)(s:bn):(convert 9 22 (N s)).run prog w= .ok (E (some w) s.size (grownCap w s.size 0 5)) (w.drew.alloc (J (bytesRow s (grownCap w s.size 0 5)) 5 ((bytesRow s (grownCap w s.size 0 5)).size,(bytesRow s (grownCap w s.size 0 5)).size+1))):=
 run_bytes_of_string w _ _ _ s underlying9 underlying22 underlying5
def Vk(w:G)(s:bn)(cap:Nat)(ao:s.size<=cap)(fr:Nat×Nat):aS (w.alloc (J (bytesRow s cap) 5 fr)) 1 pU (E (some w) s.size cap) (bytes s):=ab5
def P7{w:G}{v:K}{A:List aL}(h:aS w 1 pU v A):∃a c,v=E a A c/\A.length<=c/\∀i,(hi:i<A.length)->∃b o,a=some ⟨b,o,none⟩/\w.cell? ⟨b,o+i,none⟩=some (aC (A[i].toNat:Int)):=by obtain⟨a,c,h1,h2,T,af⟩:=h;refine⟨a,c,h1,h2,λi hi=> ?_⟩;obtain⟨b,o,e,k⟩:=af i hi;have eK:=k 0 (by simp[pU]);exact⟨b,o,e,by simpa[pU]using eK⟩
def yO(c:aL):Bool:=decide (48<=c.toNat)&&decide (c.toNat<=57)
def Bv(l:List aL):Nat:=l.foldl (λn c=>10*n+(c.toNat-48)) 0
def aaA(s:List aL):Nat×Int:=if s.all yO=true/\1<=s.length/\s.length<=4/\Bv s<=4095 then(Bv s,0)else(0,160)
def mZ(s:List aL):Nat×Int:=if (kK yN s 160).2=0 then((kK yN s 160).1,0)else aaA s
def apg(l:List aL)(c:aL):Bv (l++[c])=10*Bv l+(c.toNat-48):=by unfold Bv;rw[uF];rfl
def apj:∀(k:Nat)(l:List aL),l.length=k->l.all yO=true->Bv l<10^k
 |0,l,h,_=>by rw[nN h];decide
 |k+1,l,h,bT=>by
  obtain⟨r,x,rfl⟩:∃r x,l=r++[x]:=⟨l.dropLast,l.getLast (by intro e;subst e;simp at h),(List.dropLast_concat_getLast _).symm⟩;rw[List.all_append,dV]at bT;have h1:=apj k r (by rw[dA]at h;simpa using h) bT.1;have h2:yO x=true:=by simpa using bT.2
  unfold yO at h2;rw[dV,wJ,wJ]at h2;rw[apg,Nat.pow_succ];omega
def apk(l:List Nm)(s:List aL)(no:Int):(kK l s no).2=0\/(kK l s no).2=no:=by
 unfold kK;split
 ·exact xI
 ·exact .inr rfl
theorem He(s:bn)(ab:s.size<=1000000)(w:G):aM 269 #[N s] w (bH #[M ((mZ (bytes s)).1:Int),H (mZ (bytes s)).2]):=by
 have bE:=λW=>aIK W
 have co:=λv W (h:aS W 2 sM v yN)=>Ve yN v s 160 W h Y
 have bU:=aIL;have z6:=λW=>Vj W s
 have cA:mZ (bytes s)=if (kK yN (bytes s) 160).2=0 then((kK yN (bytes s) 160).1,0)else aaA (bytes s):=rfl
 have cv:=apk yN (bytes s) 160;obtain⟨od,s9⟩:∃od,od=mZ (bytes s):=⟨_,rfl⟩;rw[<-s9]at cA⊢;generalize kK yN (bytes s) 160=aH at *;obtain⟨dq,ei⟩:=aH;dsimp only at cA cv co;have hl:=z bE;have i8:=z co;clear bE co s9;rcases cv with rfl|rfl
 ·rw[aF rfl]at cA;subst cA;unfold aM;go_in;go_wp2_with fail;refine ak (hl.o _) ?_;intro I Q;go_wp2_with fail;refine ak (i8.o _ _ (Iy Ll apf)) ?_;exact UU
 ·rw[au ay]at cA;have eV:od=if (bytes s).all yO=true/\1<=(bytes s).length/\(bytes s).length<=4/\Bv (bytes s)<=4095 then(Bv (bytes s),0)else(0,160):=cA
  clear cA;have si:=z eV;clear eV;unfold aM;go_in;go_wp2_with fail;refine ak (hl.o _) ?_;intro I Q;go_wp2_with fail;refine ak (i8.o _ _ (Iy Ll apf)) ?_;intro aO ag;have ca:=z ((Q.alloc (J Bt 452)).trans ag);clear Q ag;go_wp2_with fail;have cX:aS ((aO.alloc (J (bytesRow s (grownCap aO s.size 0 5)) 5 ((bytesRow s (grownCap aO s.size 0 5)).size,(bytesRow s (grownCap aO s.size 0 5)).size+1))).drew) 1 pU (E (some aO) s.size (grownCap aO s.size 0 5)) (bytes s):=Vk aO s _ (grownCap_ge _ _ _ _) _;obtain⟨bj,Fk⟩:∃bj,bj=(aO.alloc (J (bytesRow s (grownCap aO s.size 0 5)) 5 ((bytesRow s (grownCap aO s.size 0 5)).size,(bytesRow s (grownCap aO s.size 0 5)).size+1))).drew:=⟨_,rfl⟩;have cL:Hid (Ext w bj):=z (by rw[Fk];exact(ca.o.alloc _).drew);rw[<-Fk]at cX⊢;clear Fk z6 bU;obtain⟨vz,ti,apl,-,hG⟩:=P7 cX;simp only[eZ]at apl;obtain⟨rfl,-,rfl⟩:=apl;have B6:=z hG;clear hG cX;generalize grownCap aO s.size 0 5=cap at *;generalize aO.heap.size=de at *;go_loopw [7,23] (λhW rp wr=>∃i n:Nat,i<=s.size/\rp=H i/\hW=H n/\n<=1048576/\((bytes s).take i).all yO=true/\(i<=4->n=Bv ((bytes s).take i))/\bj=wr) (λ_ rp _=>s.size-(intOf rp).toNat)
  case atStart=>exact⟨0,0,eG _,rfl,rfl,aE,rfl,λ_=>rfl,rfl⟩
  case round=>
   obtain⟨i,n,hi,rfl,rfl,hn,fX,m7,rfl⟩:=hrel;by_cases ad:i<s.size
   ·have S5:i<(bytes s).length:=ad;obtain⟨b,o,e,dm⟩:=B6.o i S5;simp only[jB,pJ,and_true]at e;obtain⟨rfl,rfl⟩:=e;rw[gF]at dm;have bL:(i:Int)<s:=aE;have DA:IntKind.i64.wrap ((i:Int)+1)=(i:Int)+1:=IntWalk.i64_in _ aE;have fi:(bytes s).take (i+1)=(bytes s).take i++[(bytes s)[i]]:=mh S5;have xN:yO (bytes s)[i]=false->od=(0,160):=λh=>by rw[si.o,au];intro be;have:=List.all_eq_true.1 be.1 _ (eB S5);rw[h]at this;cases this
    generalize(bytes s)[i]=c at *;have Cu:=c.toNat_lt;have yf:=z fi;have wi:=z fX;have aaB:=z m7;clear fi fX m7;by_cases apm:c.toNat<48
    ·have ai:od=(0,160):=xN (by unfold yO;simp;omega);have dc:decide ((c.toNat:Int)<48)=true:=dH aE;have dv:decide (c.toNat<48)=true:=dH apm;exact ape
    ·have dc:decide ((c.toNat:Int)<48)=false:=dM aE;have dv:decide (c.toNat<48)=false:=dM apm;by_cases apn:57<c.toNat
     ·have ai:od=(0,160):=xN (by unfold yO;simp;omega);have g':decide ((57:Int)<c.toNat)=true:=dH aE;have k3:decide (57<c.toNat)=true:=dH apn;exact ape
     ·have g':decide ((57:Int)<c.toNat)=false:=dM aE;have k3:decide (57<c.toNat)=false:=dM apn;have cE:yO c=true:=by unfold yO;simp;omega
      obtain⟨m,R⟩:∃m,m=min (10*n+(c.toNat-48)) 1048576:=⟨_,rfl⟩;have apo:min (10*(n:Int)+((c.toNat:Int)-48)) 1048576=(m:Int):=aE;have Ft:m<=1048576:=aE;have VI:((bytes s).take (i+1)).all yO=true:=by rw[yf.o,List.all_append,wi.o];simpa using cE
      have vA:i+1<=4->m=Bv ((bytes s).take (i+1)):=λh=>by have h1:=aaB.o aE;have h2:=apj i _ sK wi.o;have T:10^i<=10^3:=Nat.pow_le_pow_right aE aE;rw[yf.o,apg,<-h1,R];rw[<-h1]at h2;omega
      have apq:=z apo;have gl:=z R;clear apo R;have I2:=z cE;have aIM:=z VI;have aIN:=z vA;clear cE VI vA xN;go_wp2_with fail;go_roundw
      case rel=>exact⟨i+1,m,aE,cZ,by first|rw[apq.o]|(have aQ:=apq.o;congr 1;first|omega|(split<;>omega)),Ft,aIM.o,aIN.o,trivial⟩
      case measure=>exact eO
   ·obtain rfl:i=s.size:=aE;have e':(bytes s).take s.size=bytes s:=rJ (by rw[jS];exact aZ _);rw[e']at fX m7;have rg:=si.o;rw[fX,jS]at rg;have wi:=z fX;have aaB:=z m7;have K2:=z e';clear fX m7 e';by_cases h1:s.size<1
    ·have dc:decide (s.size<1)=true:=dH h1;have dv:decide ((s:Int)<1)=true:=dH aE;rw[au (λh=>aE)]at rg;have KK:=z rg;clear rg;exact TV
    ·have dc:decide (s.size<1)=false:=dM h1;have dv:decide ((s:Int)<1)=false:=dM aE;by_cases af:4<s.size
     ·have g':decide (4<s.size)=true:=dH af;have k3:decide ((4:Int)<s)=true:=dH aE;rw[au (λh=>aE)]at rg;have KK:=z rg;clear rg;exact TV
     ·have g':decide (4<s.size)=false:=dM af;have k3:decide ((4:Int)<s)=false:=dM aE;have hv:=aaB.o aE;rw[<-hv]at rg;by_cases kv:4095<n
      ·have mb:decide (4095<n)=true:=dH kv;have p5:decide ((4095:Int)<n)=true:=dH aE;rw[au (λh=>aE)]at rg;have KK:=z rg;have aaC:=z hv;clear rg hv;exact TV
      ·have mb:decide (4095<n)=false:=dM kv;have p5:decide ((4095:Int)<n)=false:=dM aE;rw[aF ⟨rfl,aE,aE,aE⟩]at rg;have Xa:IntKind.u32.wrap (n:Int)=n:=by simp[IntKind.wrap,IntKind.signed,IntKind.bits];omega
       have KK:=z rg;have aaC:=z hv;clear rg hv;exact TV
end oh
def apr(h:S:=by exact aps results335 aj ⟨_,underlying442⟩ rfl rfl rfl c0 c1 c2 cL.o (aZ _)):S:=h
def apt(h:S:=by have s1:=z ai;go_wp2_with fail;go_ret2;exact⟨by rw[s1.o];rfl,aT.o.alloc _⟩):S:=h
def apu(h:S:=by
 rw[gF]
 match j,apv with
 |0,_=>exact h _ rfl
 |1,_=>exact h _ rfl
 |2,_=>exact h _ rfl
 |3,_=>exact h _ rfl):S:=h
def apw(h:S:=by go_wp2_with fail;exact apr):S:=h
def apx(h:S:=by
 have kA:Ext I cd:=by rw[fh];exact(O I).alloc _
 rw[<-fh]at cG apy apz⊢;replace c0:=kA.cell c0;replace c1:=kA.cell c1;replace c2:=kA.cell c2;replace f0:=KM kA gE f0;replace dg:=KM kA gE dg;replace fg:=KM kA gE fg;have cL:=z (bF.o.trans kA);clear fh kA;go_wp2_with fail;exact apr):S:=h
namespace oh
variable{B:Nat}{bz t:dD}{W w I bj:G}{a b c p q r v x y aR:K}{fn:Func}
def aIO(l:List aL):(str l).toList.isEmpty=decide (l=[]):=by rw[Lib.toList_data];cases l<;>simp[str]
def za(t:bn)(a b:Nat):bytes (t.extract a b)=((bytes t).drop a).take (b-a):=by simp[bytes,ByteArray.data_extract]
def hd1(c:aL)(l:List aL):List aL:=l.takeWhile (· !=c)
def tl1(c:aL)(l:List aL):List aL:=(l.dropWhile (· !=c)).drop 1
def aav(c:aL)(l:List aL):l.take (hd1 c l).length=hd1 c l:=ab7
def Ib(c:aL):∀(l:List aL),l.drop ((hd1 c l).length+1)=tl1 c l
 | []=>rfl
 |x::r=>by
  unfold hd1 tl1;by_cases h:x=c
  ·have D:¬(x !=c)=true:=by simp[h]
   rw[FB (p:=(· !=_)) D,List.dropWhile_cons_of_neg (p:=(· !=_)) D];rfl
  ·have D:(x !=c)=true:=by simp[h]
   rw[zP (p:=(· !=_)) D,Dk (p:=(· !=_)) D];exact Ib c r
def Ic{c:aL}:∀ {l:List aL},l.contains c=false->hd1 c l=l/\tl1 c l=[]
 | [],_=>⟨rfl,rfl⟩
 |x::r,h=>by
  rw[y5,BI]at h;have D:(x !=c)=true:=by have:=h.1;simp at this;simp;exactλe=>this e.symm
  obtain⟨h1,h2⟩:=Ic h.2;unfold hd1 tl1 at *;rw[zP (p:=(· !=_)) D,Dk (p:=(· !=_)) D,h1];exact⟨rfl,h2⟩
def KC(c:aL):∀(l:List aL),Lib.indexByte l c=if l.contains c=true then((hd1 c l).length:Int)else-1
 | []=>rfl
 |x::r=>by
  unfold Lib.indexByte;rw[y5];by_cases h:x=c
  ·subst h;have D:¬(x !=x)=true:=ay;rw[aF ay,aF ay];unfold hd1;rw[FB (p:=(· !=_)) D];rfl
  ·have D:(x !=c)=true:=by simp[h]
   have ao:(c==x)=false:=by rw[iH];exactλe=>h e.symm
   rw[au tH,ao,Bool.false_or,KC c r];unfold hd1;rw[zP (p:=(· !=_)) D];by_cases hr:r.contains c=true
   ·rw[aF hr,aF hr,au xL,dJ];simp
   ·rw[au hr,au hr,aF ay]
def Ie{c:aL}:∀ {l:List aL},l.contains c=true->(hd1 c l).length<l.length
 | [],h=>by cases h
 |x::r,h=>by
  unfold hd1;by_cases D:x=c
  ·have D:¬(x !=c)=true:=by simp[D]
   rw[FB (p:=(· !=_)) D];simp
  ·rw[y5]at h;have ao:(c==x)=false:=by rw[iH];exactλe=>D e.symm
   rw[ao,Bool.false_or]at h;have D:(x !=c)=true:=by simp[D]
   rw[zP (p:=(· !=_)) D];have:=Ie h;unfold hd1 at this;simp only[dJ];omega
def iw(c:aL)(l:List aL):K:=bH #[N (str (hd1 c l)),N (str (tl1 c l)),av (l.contains c)]
theorem ace(s:bn)(c:aL)(ab:s.size<=maxLen)(w:G):aM 262 #[N s,N ⟨#[c]⟩] w (iw c (bytes s)):=by
 have bS:=λW=>Tryz.stringslite_Index_one s c W
 rw[KC]at bS;unfold maxLen at ab;have h1:= @Ie c (bytes s);have h2:=aav c (bytes s);have T:=Ib c (bytes s);have af:= @Ic c (bytes s);unfold iw;rw[show s.data.toList=bytes s from rfl]at bS;cases ao:(bytes s).contains c
 ·exact ab9
 ·rw[ao,aF rfl]at bS;have ad:=h1 ao;rw[jS]at ad;clear h1 af;have aK:s.extract 0 (hd1 c (bytes s)).length=str (hd1 c (bytes s)):=bytes_inj (by rw[za,List.drop_zero,Nat.sub_zero,h2,nP]);have aV:s.extract ((hd1 c (bytes s)).length+1) s.size=str (tl1 c (bytes s)):=bytes_inj (by rw[za,T,rJ (by rw[<-T,mP,jS];omega),nP])
  exact acg
theorem TP(s:bn)(c:aL)(ab:s.size<=maxLen)(w:G):aM 208 #[N s,N ⟨#[c]⟩] w (iw c (bytes s)):=by exact acd
def Bo(c:aL)(l:List aL):(tl1 c l).length=l.length-(hd1 c l).length-1:=by rw[<-Ib,mP];omega
abbrev xQ:=List aL×Nat×Bool
def O3(x:xQ):K:=bg #[N (str x.1),M x.2.1,av x.2.2]
def jo(s:List aL):xQ×Int:=
 if hd1 58 s=[]then(([],0,false),161)
 else if s.contains 58=false then((hd1 58 s,0,false),0)
 else if tl1 58 s=[107,105,108,108]then((hd1 58 s,2147483648,true),0)
 else if (mZ (tl1 58 s)).2=0 then((hd1 58 s,327680|||(mZ (tl1 58 s)).1,true),0)
 else(([],0,false),160)
def yt(s:List aL):((mZ s).2=0/\(mZ s).1<=4095)\/((mZ s).2=160):=by
 unfold mZ;rcases apk yN s 160 with h|h
 ·rw[h,aF rfl];refine .inl ⟨rfl,?_⟩;have R:∀x∈yN,x.2<=4095:=Y;show(kK yN s 160).1<=4095;unfold kK;split
  ·rename_i x D;exact R x (List.mem_of_find?_eq_some D)
  ·exact eG _
 ·rw[h,au ay];unfold aaA;split
  ·rename_i be;exact .inl ⟨rfl,be.2.2.2⟩
  ·exact .inr rfl
theorem EP(s:bn)(w:G):Calls prog 274 #[N s] w λe F=>e=aI (bH #[N (str (Lib.trimPrefix (bytes s) [126])),av (Lib.hasPrefix (bytes s) [126])])/\F=w:=by
 have h:=λW=>Tryz.strings_CutPrefix s ⟨#[126]⟩ W
 rw[show s.data.toList=bytes s from rfl,show(⟨#[126]⟩:bn).data.toList=[126]from rfl]at h
 change∀W,Calls prog 210 #[N s,N ⟨#[126]⟩] W λe F=>e=aI (bH #[N (str (Lib.trimPrefix (bytes s) [126])),av (Lib.hasPrefix (bytes s) [126])])/\F=W at h
 generalize str (Lib.trimPrefix (bytes s) [126])=t at *;generalize Lib.hasPrefix (bytes s) [126]=b at *;have aIP:=z h;go_in;go_wp2_with fail;refine ak (aIP.o _) ?_;rintro I rfl;go_wp2_with fail;go_ret2;exact⟨rfl,rfl⟩
def vN(D:Ext (w.alloc (J #[a,b,c] t)) I):I.cell? w=some a/\I.cell? ⟨w,1,none⟩=some b/\I.cell? ⟨w,2,none⟩=some c/\I.frozen? w=false/\I.frozen? ⟨w,1,none⟩=false/\I.frozen? ⟨w,2,none⟩=false/\w.heap.size<I:=by exact acs
def Wi(x y aR:K)(c0:I.cell? B=some a)(c1:I.cell? ⟨B,1,none⟩=some b)(c2:I.cell? ⟨B,2,none⟩=some c):(((I.setCell B x).setCell ⟨B,1,none⟩ y).setCell ⟨B,2,none⟩ aR).cell? B=some x/\(((I.setCell B x).setCell ⟨B,1,none⟩ y).setCell ⟨B,2,none⟩ aR).cell? ⟨B,1,none⟩=some y/\(((I.setCell B x).setCell ⟨B,1,none⟩ y).setCell ⟨B,2,none⟩ aR).cell? ⟨B,2,none⟩=some aR:=by exact acu
theorem acp(bL:(Tryz.prog.info? t).map (·.size)=some 3)(a6:∃fs,Tryz.prog.underlying t=some (.struct fs))(c0:W.cell? B=some x)(c1:W.cell? ⟨B,1,none⟩=some y)(c2:W.cell? ⟨B,2,none⟩=some aR):(loadVar t ⟨B,0,none⟩).run prog W= .ok (bg #[x,y,aR]) W:=by
 obtain⟨fs,a6⟩:=a6;cases aW:Tryz.prog.info? t with
 |none=>simp[aW]at bL
 |some i=>simp[aW]at bL;simp[loadVar,isAgg,sizeOf,typeInfo,underlying,aW,bL,a6,loadCells,loadCellsFrom,go_sem,c0,c1,c2]
def KM{a:Addr}(D:Ext w I)(X:a.block<w.heap.size)(h:w.frozen? a=false):I.frozen? a=false:=(kS (D.block X)).trans h
def aIQ(D:Ext (I.alloc (J #[p,q,r] t)) bj)(bJ:Ext w I)(gE:B<I.heap.size)(c0:I.cell? B=some a)(c1:I.cell? ⟨B,1,none⟩=some b)(c2:I.cell? ⟨B,2,none⟩=some c)(f0:I.frozen? B=false)(dg:I.frozen? ⟨B,1,none⟩=false)(fg:I.frozen? ⟨B,2,none⟩=false)(W:G)(cJ:W=bj.setCell ⟨I,1,none⟩ v):(W.cell? I=some p/\W.cell? ⟨I,1,none⟩=some v/\W.cell? ⟨I,2,none⟩=some r)/\(W.cell? B=some a/\W.cell? ⟨B,1,none⟩=some b/\W.cell? ⟨B,2,none⟩=some c/\W.frozen? B=false/\W.frozen? ⟨B,1,none⟩=false/\W.frozen? ⟨B,2,none⟩=false)/\Ext w W:=by
 obtain⟨dm,cs,eg,-,-,-,-⟩:=vN D;have Q:Ext I bj:=((O I).alloc _).trans D;have k6:W.heap[B]?=I.heap[B]?:=by rw[cJ];exact(fI _ _ _ B (by show B≠I.heap.size;omega)).trans (Q.block gE)
 subst cJ;refine⟨⟨?_,?_,?_⟩,⟨?_,?_,?_,?_,?_,?_⟩,(bJ.trans Q).setCell bJ.size _⟩
 ·rw[vo _ _ _ _ (λe=>by cases e)];exact dm
 ·exact Pq _ _ _ cs
 ·rw[vo _ _ _ _ (λe=>by cases e)];exact eg
 ·exact(xD (a:=⟨B,0,none⟩) k6).trans c0
 ·exact(xD (a:=⟨B,1,none⟩) k6).trans c1
 ·exact(xD (a:=⟨B,2,none⟩) k6).trans c2
 ·exact(kS (a:=⟨B,0,none⟩) k6).trans f0
 ·exact(kS (a:=⟨B,1,none⟩) k6).trans dg
 ·exact(kS (a:=⟨B,2,none⟩) k6).trans fg
theorem aps{aq:Act}{n:Int}(hr:fn.results= #[.cell 2 bz,.tmp 3])(bL:(Tryz.prog.info? bz).map (·.size)=some 3)(a6:∃fs,Tryz.prog.underlying bz=some (.struct fs))(h2:aq.tmps.getD 2 undef=aB (some B))(T:aq.tmps.getD 3 undef=H n)(hd:aq.defers=[])(c0:W.cell? B=some a)(c1:W.cell? ⟨B,1,none⟩=some b)(c2:W.cell? ⟨B,2,none⟩=some c)(cA:Ext w W)(hB:w.heap.size<=B):bodyPost prog fn (λe F=>e=aI (bH #[bg #[x,y,aR],H n])/\Ext w F) .ret aq (((W.setCell B x).setCell ⟨B,1,none⟩ y).setCell ⟨B,2,none⟩ aR):=by obtain⟨tA,dl,gS⟩:=Wi x y aR c0 c1 c2;refine cO (v:=bH #[bg #[x,y,aR],H n]) ?_ hd ⟨rfl,((cA.setCell hB _).setCell hB _).setCell hB _⟩;exact aco
theorem XE(s:bn)(ab:s.size<=1000000)(w:G):aM 335 #[N s] w (bH #[O3 (jo (bytes s)).1,H (jo (bytes s)).2]):=by
 have cq:=λW=>TP s 58 y9 W
 have cA:=λW=>He (str (tl1 58 (bytes s))) (by rw[vH,Bo,jS];omega) W
 rw[nP]at cA;have bd:jo (bytes s)=if hd1 58 (bytes s)=[]then(([],0,false),161)else if (bytes s).contains 58=false then((hd1 58 (bytes s),0,false),0)else if tl1 58 (bytes s)=[107,105,108,108]then((hd1 58 (bytes s),2147483648,true),0)else if (mZ (tl1 58 (bytes s))).2=0 then((hd1 58 (bytes s),327680|||(mZ (tl1 58 (bytes s))).1,true),0)else(([],0,false),160):=rfl
 have cv:=yt (tl1 58 (bytes s));have apA:=aIO (hd1 58 (bytes s));have s2:((str (tl1 58 (bytes s))).toList==[107,105,108,108])=decide (tl1 58 (bytes s)=[107,105,108,108]):=by rw[Lib.toList_data,show(str (tl1 58 (bytes s))).data.toList=tl1 58 (bytes s)from nP _,dW,jC,wJ]
 unfold iw at cq;obtain⟨od,s9⟩:∃od,od=jo (bytes s):=⟨_,rfl⟩;rw[<-s9]at bd⊢;generalize(bytes s).contains 58=bc at *;generalize hd1 58 (bytes s)=nm at *;generalize tl1 58 (bytes s)=q3 at *;generalize mZ q3=hY at *;obtain⟨aK,aV⟩:=hY;dsimp only at *;clear s9;have hb:=z cq;have Rx:=z cA;clear cq cA;by_cases ae:nm=[]
 ·rw[aF ae]at bd;rw[dH ae]at apA;subst bd;clear ae s2 cv;generalize str nm=zg at *;unfold aM;go_in;go_wp2_with fail;refine ak (hb.o _) ?_;intro I Q;obtain⟨c0,c1,c2,f0,dg,fg,gE⟩:=vN Q;have bF:Hid (Ext w I):=z (((O w).alloc _).trans Q);clear Q;go_wp2_with fail;exact aps results335 aj ⟨_,underlying442⟩ rfl rfl rfl c0 c1 c2 bF.o (aZ _)
 ·rw[au ae]at bd;rw[dM ae]at apA;clear ae;generalize apB:str nm=zg at *;have aaD:=z apB;clear apB;cases bc
  ·rw[aF rfl]at bd;have zL:O3 od.1=bg #[N zg,M 0,av false]:=by rw[bd];show Value.agg #[N (str nm),_,_]=_;rw[aaD.o];rfl
   have gw:od.2=0:=by rw[bd]
   rw[zL,gw];clear s2 cv bd zL gw;unfold aM;go_in;go_wp2_with fail;refine ak (hb.o _) ?_;intro I Q;obtain⟨c0,c1,c2,f0,dg,fg,gE⟩:=vN Q;have bF:Hid (Ext w I):=z (((O w).alloc _).trans Q);clear Q;go_upto_region 12 with fail;obtain⟨cd,fh⟩:∃cd,cd=I.alloc (J #[N zg,M 0,av false] 442):=⟨_,rfl⟩;obtain⟨cG,apy,apz,-,-,-,-⟩:=vN (O (I.alloc (J #[N zg,M 0,av false] 442)));exact apx
  ·rw[au ay]at bd;by_cases hk:q3=[107,105,108,108]
   ·rw[aF hk]at bd;rw[dH hk]at s2;have zL:O3 od.1=bg #[N zg,M 2147483648,av true]:=by rw[bd];show Value.agg #[N (str nm),_,_]=_;rw[aaD.o];rfl
    have gw:od.2=0:=by rw[bd]
    rw[zL,gw];clear hk cv bd zL gw;generalize str q3=apC at *;unfold aM;go_in;go_wp2_with fail;refine ak (hb.o _) ?_;intro I Q;obtain⟨c0,c1,c2,f0,dg,fg,gE⟩:=vN Q;have bF:Hid (Ext w I):=z (((O w).alloc _).trans Q);clear Q;go_upto_region 12 with fail;obtain⟨cd,fh⟩:∃cd,cd=I.alloc (J #[N zg,M 2147483648,av true] 442):=⟨_,rfl⟩;obtain⟨cG,apy,apz,-,-,-,-⟩:=vN (O (I.alloc (J #[N zg,M 2147483648,av true] 442)));exact apx
   ·rw[au hk]at bd;rw[dM hk]at s2;clear hk;rcases cv with⟨rfl,ge⟩|rfl
    ·rw[aF rfl]at bd;have pD:=u32_or_nat 327680 aK aE aE;have zL:O3 od.1=bg #[N zg,M ((327680|||aK:Nat):Int),av true]:=by rw[bd];show Value.agg #[N (str nm),_,_]=_;rw[aaD.o]
     have gw:od.2=0:=by rw[bd]
     rw[zL,gw];obtain⟨g,hg⟩:∃g,g=327680|||aK:=⟨_,rfl⟩;rw[<-hg]at pD⊢;have aPQ:bits .or .u32 327680 (aK:Int)=(g:Int):=pD;clear bd zL gw hg pD;generalize str q3=apC at *;unfold aM;go_in;go_wp2_with fail;refine ak (hb.o _) ?_;intro I Q;obtain⟨c0,c1,c2,f0,dg,fg,gE⟩:=vN Q;have bF:Hid (Ext w I):=z (((O w).alloc _).trans Q);clear Q;go_wp2_with fail;refine ak (Rx.o _) ?_;intro bj a';obtain⟨eK,bk,bW,l0,l1,l2,ajf⟩:=vN a';have cW:=z (λW cJ=>aIQ (v:=M (g:Int)) a' bF.o gE c0 c1 c2 f0 dg fg W cJ);clear a' c0 c1 c2 f0 dg fg;go_upto_region 12 with fail;obtain⟨cd,fh⟩:∃cd,cd=bj.setCell ⟨I,1,none⟩ (M (g:Int)):=⟨_,rfl⟩;rw[<-fh];obtain⟨⟨x2,eN,fS⟩,⟨c0,c1,c2,f0,dg,fg⟩,D⟩:=cW.o cd fh;have cL:=z D;clear fh D eK bk bW l0 l1 l2 ajf;exact apw
    ·rw[au ay]at bd;have zL:O3 od.1=bg #[N ⟨#[]⟩,M 0,av false]:=by rw[bd];rfl
     have gw:od.2=160:=by rw[bd]
     rw[zL,gw];clear bd zL gw;generalize str q3=apC at *;unfold aM;go_in;go_wp2_with fail;refine ak (hb.o _) ?_;intro I Q;obtain⟨c0,c1,c2,f0,dg,fg,gE⟩:=vN Q;have bF:Hid (Ext w I):=z (((O w).alloc _).trans Q);clear Q;go_wp2_with fail;refine ak (Rx.o _) ?_;intro bj a';have kA:Ext I bj:=((O I).alloc _).trans a';replace c0:=kA.cell c0;replace c1:=kA.cell c1;replace c2:=kA.cell c2;replace f0:=KM kA gE f0;replace dg:=KM kA gE dg;replace fg:=KM kA gE fg;have cL:=z (bF.o.trans kA);clear a' kA;exact apw
def eF(c:Nat):Bool:=c==32||c==9||c==13
theorem aIR(c:Nat)(w:G):Calls prog 343 #[.int .i32 c] w λe F=>e=aI (av (eF c))/\w=F:=by unfold eF;exact acf
def O4:Array K:= #[N ⟨#[110,111]⟩,N ⟨#[102,97,108,115,101]⟩,N ⟨#[111,102,102]⟩,N ⟨#[48]⟩,N ⟨#[121,101,115]⟩,N ⟨#[116,114,117,101]⟩,N ⟨#[111,110]⟩,N ⟨#[49]⟩]
theorem Y1(w:G):aM 353 #[] w (bg O4):=by unfold aM;go_in;go_wp;exact cO (v:=bg O4) (by simp[results,results353,go_sem,O4]) rfl ⟨rfl,(O _).alloc _⟩
def O5:List bn:= [⟨#[110,111]⟩,⟨#[102,97,108,115,101]⟩,⟨#[111,102,102]⟩,⟨#[48]⟩]
def O6:List bn:= [⟨#[121,101,115]⟩,⟨#[116,114,117,101]⟩,⟨#[111,110]⟩,⟨#[49]⟩]
def uf(s:bn):Bool×Int:=if Lib.containsS O5 s=true then(false,0)else if Lib.containsS O6 s=true then(true,0)else(false,150)
theorem aIS(W:G):(Instr.index 463 (bg O4) (H 0)).run prog W= .ok (bg #[N ⟨#[110,111]⟩,N ⟨#[102,97,108,115,101]⟩,N ⟨#[111,102,102]⟩,N ⟨#[48]⟩]) W:=rfl
theorem aIT(W:G):(Instr.index 463 (bg O4) (H 1)).run prog W= .ok (bg #[N ⟨#[121,101,115]⟩,N ⟨#[116,114,117,101]⟩,N ⟨#[111,110]⟩,N ⟨#[49]⟩]) W:=rfl
theorem aIU(W:G)(s:bn)(t:dD):Calls prog 354 #[E (some W) 4 4,N s] (W.alloc (J #[N ⟨#[110,111]⟩,N ⟨#[102,97,108,115,101]⟩,N ⟨#[111,102,102]⟩,N ⟨#[48]⟩] t)) λe F=>e=aI (av (Lib.containsS O5 s))/\F=W.alloc (J #[N ⟨#[110,111]⟩,N ⟨#[102,97,108,115,101]⟩,N ⟨#[111,102,102]⟩,N ⟨#[48]⟩] t):=by
 refine Tryz.slices_Contains_string W 0 4 4 O5 s _ Y Y (λj Z=> ?_);have apv:j<4:=Z;have h:=λv hv=>BJ W [N ⟨#[110,111]⟩,N ⟨#[102,97,108,115,101]⟩,N ⟨#[111,102,102]⟩,N ⟨#[48]⟩] t j v hv
 exact apu
theorem aIV(W:G)(s:bn)(t:dD):Calls prog 354 #[E (some W) 4 4,N s] (W.alloc (J #[N ⟨#[121,101,115]⟩,N ⟨#[116,114,117,101]⟩,N ⟨#[111,110]⟩,N ⟨#[49]⟩] t)) λe F=>e=aI (av (Lib.containsS O6 s))/\F=W.alloc (J #[N ⟨#[121,101,115]⟩,N ⟨#[116,114,117,101]⟩,N ⟨#[111,110]⟩,N ⟨#[49]⟩] t):=by
 refine Tryz.slices_Contains_string W 0 4 4 O6 s _ Y Y (λj Z=> ?_);have apv:j<4:=Z;have h:=λv hv=>BJ W [N ⟨#[121,101,115]⟩,N ⟨#[116,114,117,101]⟩,N ⟨#[111,110]⟩,N ⟨#[49]⟩] t j v hv
 exact apu
theorem KX(s:bn)(w:G):aM 277 #[N s] w (bH #[av (uf s).1,H (uf s).2]):=by
 have bE:=λW=>Y1 W
 have hB:uf s=if Lib.containsS O5 s=true then(false,0)else if Lib.containsS O6 s=true then(true,0)else(false,150):=rfl
 have eV:=λW t=>aIU W s t
 have hu:=λW t=>aIV W s t
 generalize Lib.containsS O5 s=b1 at *;generalize Lib.containsS O6 s=b2 at *;have kw:=aIS;have I3:=aIT;obtain⟨od,s9⟩:∃od,od=uf s:=⟨_,rfl⟩;rw[<-s9]at hB⊢;have uv:=z hB;have hl:=z bE;have si:=z eV;have aIW:=z hu;unfold aM;go_in;go_wp2_with fail;refine ak (hl.o _) ?_;intro I Q;have bF:=z Q;go_wp2_with fail;go_loopw [7] (λrp wr=>(rp=H 0/\Ext w wr)\/(rp=H 1/\b1=false/\Ext w wr)\/(rp=H 2/\b1=false/\b2=false/\Ext w wr)) (λrp _=>2-(intOf rp).toNat)
 case atStart=>exact .inl ⟨rfl,bF.o⟩
 case round=>
  rcases hrel with⟨rfl,D⟩|⟨rfl,rfl,D⟩|⟨rfl,rfl,rfl,D⟩
  ·have aT:=z D;go_wp2_with fail;refine ak (si.o _ _) ?_;rintro aO rfl;cases b1
   ·go_wp2_with fail;go_roundw
    case rel=>exact .inr (.inl ⟨rfl,trivial,aT.o.alloc _⟩)
    case measure=>simp[intOf]
   ·have ai:od=(false,0):=by rw[uv.o];rfl
    exact apt
  ·have aT:=z D;go_wp2_with fail;refine ak (aIW.o _ _) ?_;rintro aO rfl;cases b2
   ·go_wp2_with fail;go_roundw
    case rel=>exact .inr (.inr ⟨rfl,trivial,trivial,aT.o.alloc _⟩)
    case measure=>simp[intOf]
   ·have ai:od=(true,0):=by rw[uv.o];rfl
    exact apt
  ·have aT:=z D;have ai:od=(false,150):=by rw[uv.o];rfl
   have s1:=z ai;go_wp2_with fail;go_ret2;exact PK
theorem aIX{P:Program}{f:FuncId}{c:Code}(ai:P.funcs[f]?=some fn)(aIY:(fn.name== "runtime.NumGoroutine")=false)(V:fn.body=some c)(args:Array K)(w:G):(callFunc f args).run P w= .ok (.enter f args) w:=by
 have h1:fn.name≠ "runtime.NumGoroutine":=by simpa using aIY
 simp[callFunc,ai,h1,V]
def A8(x:bn):List K:= [N x]
theorem oM(s:bn)(ab:s.size<=1000000)(w:G):Calls prog 270 #[N s] w λe F=>∃v,e=aI v/\Ext w F/\F.ownsRow w 9 1 v (Lib.goFieldsP eF s).length ((Lib.goFieldsP eF s).flatMap A8):=by
 have ac:∀W,PredAtRunes prog 343 #[] eF W:=λW aa x _ _=>(aIR x aa).mono (by rintro e F ⟨rfl,rfl⟩;exact⟨rfl,0,rfl⟩)
 have co:=λW=>Tryz.strings_FieldsFunc_runes 343 #[] (λargs W=>aIX func343 aj rfl args W) eF s W aE (ac W)
 have aIZ:(Lib.goFieldsP eF s).map Value.string=(Lib.goFieldsP eF s).flatMap A8:=by
  generalize Lib.goFieldsP eF s=l
  induction l with
  |nil=>rfl
  |cons x r b9=>rw[fK,b9];rfl
 rw[aIZ]at co;generalize Lib.goFieldsP eF s=L at *;have i8:=z co;go_in;go_wp2_with fail;refine(i8.o _).mono ?_;rintro e I ⟨aq,rfl,bl,ho,V⟩;go_wp2_with fail;go_ret;exact⟨_,rfl,V,ho⟩
end oh
end Go.Proofs.YtopfefhenfineaaGreat
