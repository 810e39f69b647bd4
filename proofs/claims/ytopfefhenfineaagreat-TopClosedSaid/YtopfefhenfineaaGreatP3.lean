import Derived.Shelf.Small.Utf8
import Derived.Shelf.Small.Bits
import Derived.Shelf.Small.Strs
import Derived.Shelf.Small.Wraps
import Derived.Shelf.Strconv.Itoa0
import Derived.Shelf.Strings.Search1
import Derived.Shelf.Strings.Search2
import Derived.Shelf.Strings.Cut
import Derived.Shelf.LaysM
import Derived.Shelf.Strings.Shaped
import Derived.Shelf.Sort.Plain
import Derived.Shelf.Strings.Prefix
import Derived.Shelf.Strings.Runes
import Derived.Shelf.Strings.IndexAny
import Derived.Shelf.Strings.AsciiSet
import Derived.Shelf.Strings.IndexAnyAll
import Derived.Shelf.Strings.FieldsFuncAny
import Derived.Shelf.Strings.FieldsFuncGrows
import Derived.Shelf.Slices.Turned
import Derived.Shelf.Slices.Reverse
import Derived.Ground.Names2Prog
import Derived.Shelf.Slices.Clone
import Derived.Shelf.Slices.CompactI
import Derived.Shelf.Slices.CompactS
import Derived.Shelf.Slices.SearchI
import Derived.Shelf.Slices.Cells
import Derived.Shelf.Slices.In.SortNone
import Derived.Shelf.Slices.Empties
import Derived.Ground.SlgnProg
import Derived.Shelf.SlicesE.Clone
import Derived.Test.YtopfefhenfineaaGreatProg
import Derived.Shelf.SlGeneric
import Derived.Shelf.SlSortCmp.WholeK
import Derived.Ground.SlsfProg
set_option linter.all false
namespace Go.Proofs.Tryz
open Go.Shelf Go.Lib Go.RowKit Go.Sort
theorem fa{α:Type}{x:Option α}{a b:α}(h:x=some a)(k:a=b:=by kernel_rfl):x=some b:=h.trans (congrArg some k)
theorem kk{p:Prop}(h:p:=by kernel_rfl):p:=h
def r119:Ren:=⟨fun|119=>330|n=>n,fun|n=>n,fun|n=>n⟩
theorem lays119:Lays.n119 prog r119:=⟨kk,fa func330,underlying4,isAgg4,sizeOf4,zeroValue4,underlying21,isAgg21,sizeOf21,zeroValue21⟩
theorem utf8_ValidRune(r:Int)(w:World):
 Calls prog 330 #[.int .i32 r] w λe w'=>e= .returned (.bool (Lib.validRune r))/\w'=w:=Any.utf8_ValidRune lays119 r w
def r106:Ren:=⟨fun|106=>382|213=>409|265=>418|n=>n,fun|n=>n,fun|n=>n⟩
theorem lays106:Lays.n106 prog r106:=⟨kk,fa func382,fa func409,fa func418,underlying3,isAgg3,sizeOf3,zeroValue3,underlying9,isAgg9,sizeOf9,zeroValue9⟩
theorem strings_Compare(a b:ByteArray)(w:World):
 Calls prog 382 #[.string a,.string b] w λe w'=>e= .returned (.int .i64 (Lib.compareBytes a.data.toList b.data.toList))/\w'=w:=Any.strings_Compare lays106 a b w
def r137:Ren:=⟨fun|137=>329|217=>377|266=>401|n=>n,fun|n=>n,fun|n=>n⟩
theorem lays137:Lays.n137 prog r137:=⟨kk,fa func329,fa func377,fa func401,underlying3,isAgg3,sizeOf3,zeroValue3,underlying5,isAgg5,sizeOf5,zeroValue5,underlying9,isAgg9,sizeOf9,zeroValue9⟩
theorem strings_IndexByte(s:ByteArray)(c:Int)(w:World):
 Calls prog 329 #[.string s,.int .u8 c] w λe w'=>e= .returned (.int .i64 (Lib.indexByte s.data.toList c.toNat.toUInt8))/\w'=w:=Any.strings_IndexByte lays137 s c w
def r103:Ren:=⟨fun|103=>210|210=>263|206=>266|n=>n,fun|24=>266|n=>n,fun|n=>n⟩
theorem lays103:Lays.n103 prog r103:=⟨kk,fa func210,fa func266,fa func263,underlying3,isAgg3,sizeOf3,zeroValue3,underlying4,isAgg4,sizeOf4,zeroValue4,underlying9,isAgg9,sizeOf9,zeroValue9,underlying266,isAgg266,sizeOf266,zeroValue266⟩
theorem strings_CutPrefix(s p:ByteArray)(w:World):
 Calls prog 210 #[.string s,.string p] w λe w'=>e= .returned (.tuple #[.string ⟨(Lib.trimPrefix s.data.toList p.data.toList).toArray⟩,.bool (Lib.hasPrefix s.data.toList p.data.toList)])/\w'=w:=Any.strings_CutPrefix lays103 s p w
def r104:Ren:=⟨fun|104=>168|211=>209|207=>205|n=>n,fun|24=>266|n=>n,fun|n=>n⟩
theorem lays104:Lays.n104 prog r104:=⟨kk,fa func168,fa func205,fa func209,underlying3,isAgg3,sizeOf3,zeroValue3,underlying4,isAgg4,sizeOf4,zeroValue4,underlying9,isAgg9,sizeOf9,zeroValue9,underlying266,isAgg266,sizeOf266,zeroValue266⟩
theorem strings_CutSuffix(s p:ByteArray)(w:World)(hs:s.size<=9223372036854775807):
 Calls prog 168 #[.string s,.string p] w λe w'=>e= .returned (.tuple #[.string ⟨(Lib.trimSuffix s.data.toList p.data.toList).toArray⟩,.bool (Lib.hasSuffix s.data.toList p.data.toList)])/\w'=w:=Any.strings_CutSuffix lays104 s p w hs
def r219:Ren:=⟨fun|219=>325|217=>377|225=>332|224=>331|267=>378|266=>401|314=>402|n=>n,fun|46=>161|146=>430|51=>32|n=>n,fun|1=>0|n=>n⟩
theorem lays219:Lays.n219 prog r219:=⟨kk,fa func377,fa func325,fa func331,fa func332,fa func401,fa func378,fa func402,underlying3,isAgg3,sizeOf3,zeroValue3,underlying4,isAgg4,sizeOf4,zeroValue4,underlying5,isAgg5,sizeOf5,zeroValue5,underlying9,isAgg9,sizeOf9,zeroValue9,underlying161,isAgg161,sizeOf161,zeroValue161,underlying32,isAgg32,sizeOf32,zeroValue32,underlying430,isAgg430,sizeOf430,zeroValue430,kk⟩
theorem stringslite_Index_one(s:ByteArray)(c:UInt8)(w:World):
 Calls prog 325 #[.string s,.string ⟨#[c]⟩] w λe w'=>e= .returned (.int .i64 (Lib.indexByte s.data.toList c))/\w'=w:=Any.stringslite_Index_one lays219 s c w
def r190:Ren:=⟨fun|190=>407|125=>86|258=>417|128=>144|129=>145|302=>423|303=>424|304=>425|305=>426|306=>427|307=>428|308=>429|309=>430|310=>431|333=>433|329=>183|330=>184|334=>434|335=>435|336=>161|344=>436|n=>n,fun|31=>293|46=>161|51=>32|53=>34|183=>229|182=>228|218=>296|222=>299|228=>371|229=>372|n=>n,fun|n=>n⟩
theorem lays190:Lays.n190 prog r190:=⟨kk,fa func86,fa func144,fa func145,fa func407,fa func417,fa func423,fa func424,fa func425,fa func426,fa func427,fa func428,fa func429,fa func430,fa func431,fa func183,fa func184,fa func433,fa func434,fa func435,fa func161,fa func436,underlying0,isAgg0,sizeOf0,zeroValue0,underlying3,isAgg3,sizeOf3,zeroValue3,underlying4,isAgg4,sizeOf4,zeroValue4,underlying5,isAgg5,sizeOf5,zeroValue5,underlying9,isAgg9,sizeOf9,zeroValue9,underlying293,isAgg293,sizeOf293,zeroValue293,underlying161,isAgg161,sizeOf161,zeroValue161,underlying32,isAgg32,sizeOf32,zeroValue32,underlying34,isAgg34,sizeOf34,zeroValue34,underlying131,isAgg131,sizeOf131,zeroValue131,underlying228,isAgg228,sizeOf228,zeroValue228,underlying229,isAgg229,sizeOf229,zeroValue229,underlying296,isAgg296,sizeOf296,zeroValue296,underlying299,isAgg299,sizeOf299,zeroValue299,underlying371,isAgg371,sizeOf371,zeroValue371,underlying372,isAgg372,sizeOf372,zeroValue372⟩
theorem slices_Sort_string(blk off cap:Nat)(ss:List (List UInt8))(w:World)(hH:Holds encStr w blk off ss.toArray)(hblk:blk<w.heap.size)(hsz:ss.length<4611686018427387904):
 Calls prog 407 #[.slice (some ⟨blk,off,none⟩) ss.length cap] w λe w'=>
  e= .returned (.tuple #[])/\∃n os,w'=grow (putRow encStr (Sort.ahead w n) blk off (ss.mergeSort λx y=>decide (x<=y)).toArray) os:=Any.slices_Sort_string lays190 blk off cap ss w hH hblk hsz
def r99:Ren:=⟨fun|99=>213|206=>266|n=>n,fun|n=>n,fun|n=>n⟩
theorem lays99:Lays.n99 prog r99:=⟨kk,fa func213,fa func266,underlying3,isAgg3,sizeOf3,zeroValue3,underlying4,isAgg4,sizeOf4,zeroValue4,underlying9,isAgg9,sizeOf9,zeroValue9⟩
theorem strings_HasPrefix(s p:ByteArray)(w:World):
 Calls prog 213 #[.string s,.string p] w λe w'=>e= .returned (.bool (Lib.hasPrefix s.data.toList p.data.toList))/\w'=w:=Any.strings_HasPrefix lays99 s p w
def r100:Ren:=⟨fun|100=>162|207=>205|n=>n,fun|n=>n,fun|n=>n⟩
theorem lays100:Lays.n100 prog r100:=⟨kk,fa func162,fa func205,underlying3,isAgg3,sizeOf3,zeroValue3,underlying4,isAgg4,sizeOf4,zeroValue4,underlying9,isAgg9,sizeOf9,zeroValue9⟩
theorem strings_HasSuffix(s p:ByteArray)(w:World)(hs:s.size<=9223372036854775807):
 Calls prog 162 #[.string s,.string p] w λe w'=>e= .returned (.bool (Lib.hasSuffix s.data.toList p.data.toList))/\w'=w:=Any.strings_HasSuffix lays100 s p w hs
def r152:Ren:=⟨fun|152=>265|137=>329|119=>330|224=>331|225=>332|217=>377|266=>401|n=>n,fun|46=>161|n=>n,fun|n=>n⟩
theorem lays152:Lays.n152 prog r152:=⟨kk,fa func330,fa func329,fa func265,fa func377,fa func331,fa func332,fa func401,underlying0,isAgg0,sizeOf0,zeroValue0,underlying3,isAgg3,sizeOf3,zeroValue3,underlying4,isAgg4,sizeOf4,zeroValue4,underlying5,isAgg5,sizeOf5,zeroValue5,underlying9,isAgg9,sizeOf9,zeroValue9,underlying21,isAgg21,sizeOf21,zeroValue21,underlying161,isAgg161,sizeOf161,zeroValue161⟩
theorem strings_IndexRune_ascii(s:ByteArray)(r:Int)(w:World)(h0:0<=r)(h1:r<128):
 Calls prog 265 #[.string s,.int .i32 r] w λe w'=>e= .returned (.int .i64 (Lib.indexByte s.data.toList r.toNat.toUInt8))/\w'=w:=Any.strings_IndexRune_ascii lays152 s r w h0 h1
def r151:Ren:=⟨fun|151=>212|152=>265|137=>329|119=>330|224=>331|225=>332|217=>377|266=>401|n=>n,fun|46=>161|n=>n,fun|n=>n⟩
theorem lays151:Lays.n151 prog r151:=⟨kk,fa func330,fa func329,fa func212,fa func265,fa func377,fa func331,fa func332,fa func401,underlying0,isAgg0,sizeOf0,zeroValue0,underlying3,isAgg3,sizeOf3,zeroValue3,underlying4,isAgg4,sizeOf4,zeroValue4,underlying5,isAgg5,sizeOf5,zeroValue5,underlying9,isAgg9,sizeOf9,zeroValue9,underlying21,isAgg21,sizeOf21,zeroValue21,underlying161,isAgg161,sizeOf161,zeroValue161⟩
theorem strings_ContainsRune_ascii(s:ByteArray)(r:Int)(w:World)(h0:0<=r)(h1:r<128):
 Calls prog 212 #[.string s,.int .i32 r] w λe w'=>e= .returned (.bool (decide (0<=Lib.indexByte s.data.toList r.toNat.toUInt8)))/\w'=w:=Any.strings_ContainsRune_ascii lays151 s r w h0 h1
def r226:Ren:=⟨fun|226=>326|n=>n,fun|n=>n,fun|n=>n⟩
theorem lays226:Lays.n226 prog r226:=⟨kk,fa func326,underlying3,isAgg3,sizeOf3,zeroValue3,underlying4,isAgg4,sizeOf4,zeroValue4⟩
theorem strings_shouldUseASCIISet(n:Int)(w:World):
 Calls prog 326 #[.int .i64 n] w λe w'=>e= .returned (.bool (decide (8<n)))/\w'=w:=Any.strings_shouldUseASCIISet lays226 n w
def r153:Ren:=⟨fun|153=>264|152=>265|226=>326|227=>327|228=>328|137=>329|119=>330|224=>331|225=>332|217=>377|266=>401|n=>n,fun|117=>435|116=>434|46=>161|124=>478|n=>n,fun|n=>n⟩
theorem lays153:Lays.n153 prog r153:=⟨kk,fa func330,fa func329,fa func265,fa func264,fa func377,fa func331,fa func332,fa func326,fa func327,fa func328,fa func401,underlying0,isAgg0,sizeOf0,zeroValue0,underlying3,isAgg3,sizeOf3,zeroValue3,underlying4,isAgg4,sizeOf4,zeroValue4,underlying5,isAgg5,sizeOf5,zeroValue5,underlying9,isAgg9,sizeOf9,zeroValue9,underlying21,isAgg21,sizeOf21,zeroValue21,underlying161,isAgg161,sizeOf161,zeroValue161,underlying434,isAgg434,sizeOf434,underlying435,isAgg435,sizeOf435,zeroValue435,underlying478,isAgg478,sizeOf478,zeroValue478⟩
theorem strings_IndexAny_long(hv116:∀w,(zeroValue 434).run prog w= .ok (.agg (Array.replicate 256 (.bool false))) w)(s chars:ByteArray)(w:World)(h2:2<=chars.size)(h8:8<s.size)(hs:s.size<4294967281)(hcs:chars.size<4294967281)(hascii:∀(j:Nat) b,chars.data.toList[j]?=some b->b.toNat<128):
 Calls prog 264 #[.string s,.string chars] w λe w'=>e= .returned (.int .i64 (Lib.indexAny s.data.toList chars.data.toList))/\w'=((w.alloc (.cells (Lib.setCells chars.data.toList) 434)).alloc (.cells (Lib.setCells chars.data.toList) 434)):=Any.strings_IndexAny_long lays153 hv116 (by kernel_rfl) s chars w h2 h8 hs hcs hascii
def r229:Ren:=⟨fun|229=>342|n=>n,fun|40=>438|31=>293|152=>483|154=>485|n=>n,fun|n=>n⟩
theorem lays229:Lays.n229 prog r229:=⟨kk,fa func342,underlying0,isAgg0,sizeOf0,zeroValue0,underlying3,isAgg3,sizeOf3,zeroValue3,underlying4,isAgg4,sizeOf4,zeroValue4,underlying9,isAgg9,sizeOf9,zeroValue9,underlying21,isAgg21,sizeOf21,zeroValue21,underlying293,isAgg293,sizeOf293,zeroValue293,underlying438,isAgg438,sizeOf438,zeroValue438,underlying483,isAgg483,sizeOf483,zeroValue483,underlying485,isAgg485,sizeOf485,zeroValue485⟩
theorem strings_FieldsFunc_runes(g:Nat)(lb:Array Value)(eg:∀args w,(callFunc g args).run prog w= .ok (.enter g args) w)(p:Nat->Bool)(s:ByteArray)(w:World)(hs:s.size<=4294967296)(hp:PredAtRunes prog g lb p w):
 Calls prog 342 #[.string s,.func (.func g) #[] lb] w λe w'=>∃A,e= .returned (.slice (some ⟨A,0,none⟩) (Lib.goFieldsP p s).length (Lib.goFieldsP p s).length)/\w.heap.size<=A/\
  w'.ownsRow w.heap.size 9 1 (.slice (some ⟨A,0,none⟩) (Lib.goFieldsP p s).length (Lib.goFieldsP p s).length) (Lib.goFieldsP p s).length ((Lib.goFieldsP p s).map Value.string)/\Below w.heap.size w w':=Any.strings_FieldsFunc_runes lays229 g lb eg p s w hs hp (by kernel_rfl) (by kernel_rfl)
def r110:Ren:=⟨fun|110=>354|109=>395|n=>n,fun|31=>293|n=>n,fun|n=>n⟩
theorem lays110:Lays.n110 prog r110:=⟨kk,fa func395,fa func354,underlying0,isAgg0,sizeOf0,zeroValue0,underlying3,isAgg3,sizeOf3,zeroValue3,underlying4,isAgg4,sizeOf4,zeroValue4,underlying9,isAgg9,sizeOf9,zeroValue9,underlying293,isAgg293,sizeOf293,zeroValue293⟩
theorem slices_Contains_string(b off n c:Nat)(zs:List ByteArray)(x:ByteArray)(w:World)(hz:n<=zs.length)(hbig:n<=9223372036854775807)(hc:∀j,j<zs.length->w.cell? ⟨b,off+j,none⟩=some (.string (zs.getD j ByteArray.empty))):
 Calls prog 354 #[.slice (some ⟨b,off,none⟩) n c,.string x] w λe w'=>e= .returned (.bool (Lib.containsS (zs.take n) x))/\w'=w:=Any.slices_Contains_string lays110 b off n c zs x w hz hbig hc
def rNm220:Ren:=⟨fun|20=>376|n=>n,fun|22=>28|n=>n,fun|n=>n⟩
theorem laysNm220:Go.Proofs.Lays2.n20 prog rNm220:=⟨kk,fa func376,underlying0,isAgg0,sizeOf0,zeroValue0,underlying3,isAgg3,sizeOf3,zeroValue3,underlying4,isAgg4,sizeOf4,zeroValue4,underlying28,isAgg28,sizeOf28,zeroValue28,kk⟩
theorem slices_Compact_int(blk off cap:Nat)(zs:List Int)(w:World)(hH:Holds (Value.int .i64) w blk off zs.toArray)(hsz:zs.length<=9223372036854775807)(hcap:zs.length<=cap):
 Calls prog 376 #[.slice (some ⟨blk,off,none⟩) zs.length cap] w λe w'=>e= .returned (.slice (some ⟨blk,off,none⟩) (Lib.compact zs).length cap)/\∃q,w'=putRow (Value.int .i64) (Sort.ahead w q) blk off (Lib.compact zs++List.replicate (zs.length-(Lib.compact zs).length) 0).toArray:=Any.slices_Compact_int laysNm220 blk off cap zs w hH hsz hcap
theorem slices_Compact_int_empty(a:Option Addr)(cap:Nat)(w:World):
 Calls prog 376 #[.slice a 0 cap] w λe w'=>e= .returned (.slice a 0 cap)/\w'=w:=Any.slices_Compact_int_empty laysNm220 a cap w
def r194:Ren:=⟨fun|194=>408|n=>n,fun|31=>293|n=>n,fun|n=>n⟩
theorem lays194:Lays.n194 prog r194:=⟨kk,fa func408,underlying0,isAgg0,sizeOf0,zeroValue0,underlying3,isAgg3,sizeOf3,zeroValue3,underlying4,isAgg4,sizeOf4,zeroValue4,underlying9,isAgg9,sizeOf9,zeroValue9,underlying293,isAgg293,sizeOf293,zeroValue293⟩
theorem slices_Compact_string(blk off cap:Nat)(zs:List (List UInt8))(w:World)(hH:Holds encStr w blk off zs.toArray)(hsz:zs.length<=9223372036854775807)(hcap:zs.length<=cap):
 Calls prog 408 #[.slice (some ⟨blk,off,none⟩) zs.length cap] w λe w'=>e= .returned (.slice (some ⟨blk,off,none⟩) (Lib.compact zs).length cap)/\∃q,w'=putRow encStr (Sort.ahead w q) blk off (Lib.compact zs++List.replicate (zs.length-(Lib.compact zs).length) []).toArray:=Any.slices_Compact_string lays194 blk off cap zs w hH hsz hcap
theorem slices_Compact_string_empty(a:Option Addr)(cap:Nat)(w:World):
 Calls prog 408 #[.slice a 0 cap] w λe w'=>e= .returned (.slice a 0 cap)/\w'=w:=Any.slices_Compact_string_empty lays194 a cap w
def rNm225:Ren:=⟨fun|25=>347|31=>386|32=>387|37=>412|n=>n,fun|22=>28|40=>161|n=>n,fun|n=>n⟩
theorem laysNm225:Go.Proofs.Lays2.n25 prog rNm225:=⟨kk,fa func347,fa func386,fa func387,fa func412,underlying0,isAgg0,sizeOf0,zeroValue0,underlying3,isAgg3,sizeOf3,zeroValue3,underlying4,isAgg4,sizeOf4,zeroValue4,underlying28,isAgg28,sizeOf28,zeroValue28,underlying161,isAgg161,sizeOf161,zeroValue161⟩
theorem slices_BinarySearch_int(b off n c:Nat)(zs:List Int)(x:Int)(w:World)(hz:n<=zs.length)(hbig:n<4611686018427387904)(hc:∀j,j<zs.length->w.cell? ⟨b,off+j,none⟩=some (.int .i64 (zs.getD j 0)))(hs:(zs.take n).Pairwise (·<= ·)):
 Calls prog 347 #[.slice (some ⟨b,off,none⟩) n c,.int .i64 x] w λe w'=>e= .returned (.tuple #[.int .i64 ((zs.take n).countP (· <x):Nat),.bool ((zs.take n).contains x)])/\∃q,w'=w.drewN q:=Any.slices_BinarySearch_int laysNm225 b off n c zs x w hz hbig hc hs
theorem slices_Sort_string_none(p:Option Addr)(cap:Nat)(w:World):
 Calls prog 407 #[.slice p 0 cap] w λe w'=>e= .returned (.tuple #[])/\w'=w:=Any.slices_Sort_string_none lays190 p cap w
theorem slices_BinarySearch_int_empty(a:Option Addr)(c:Nat)(x:Int)(w:World):
 Calls prog 347 #[.slice a 0 c,.int .i64 x] w λe w'=>e= .returned (.tuple #[.int .i64 0,.bool false])/\w'=w:=Any.slices_BinarySearch_int_empty laysNm225 a c x w
theorem fb{α:Type}{x:Option α}{a b:α}(h:x=some a)(k:a=b:=by kernel_rfl):x=some b:=h.trans (congrArg some k)
theorem kl{p:Prop}(h:p:=by kernel_rfl):p:=h
def rSortR:Ren:=⟨fun|6=>43|15=>86|14=>85|28=>144|29=>145|20=>136|21=>137|22=>138|23=>139|24=>140|25=>141|26=>142|27=>143|46=>182|47=>183|48=>184|49=>185|50=>186|57=>250|n=>n,fun|22=>71|24=>110|25=>112|39=>161|53=>32|55=>34|46=>229|45=>228|50=>131|66=>296|70=>299|76=>371|77=>372|n=>n,fun|n=>n⟩
theorem laysSortR:SlLaysF0.n6 prog rSortR:=⟨kl,⟨f43.name,by decide,fb func43⟩,⟨f85.name,by decide,fb func85⟩,fb func86,⟨f136.name,by decide,fb func136⟩,⟨f137.name,by decide,fb func137⟩,⟨f138.name,by decide,fb func138⟩,⟨f139.name,by decide,fb func139⟩,⟨f140.name,by decide,fb func140⟩,⟨f141.name,by decide,fb func141⟩,⟨f142.name,by decide,fb func142⟩,⟨f143.name,by decide,fb func143⟩,fb func144,fb func145,⟨f182.name,by decide,fb func182⟩,fb func183,fb func184,⟨f185.name,by decide,fb func185⟩,⟨f186.name,by decide,fb func186⟩,⟨f250.name,by decide,fb func250⟩,underlying0,isAgg0,sizeOf0,zeroValue0,underlying3,isAgg3,sizeOf3,zeroValue3,underlying4,isAgg4,sizeOf4,zeroValue4,underlying5,isAgg5,sizeOf5,zeroValue5,underlying9,isAgg9,sizeOf9,zeroValue9,underlying71,isAgg71,sizeOf71,zeroValue71,underlying112,isAgg112,sizeOf112,zeroValue112,underlying161,isAgg161,sizeOf161,zeroValue161,underlying228,isAgg228,sizeOf228,zeroValue228,underlying229,isAgg229,sizeOf229,zeroValue229,underlying131,isAgg131,sizeOf131,zeroValue131,underlying32,isAgg32,sizeOf32,zeroValue32,underlying34,isAgg34,sizeOf34,zeroValue34,underlying296,isAgg296,sizeOf296,zeroValue296,underlying299,isAgg299,sizeOf299,zeroValue299,underlying371,isAgg371,sizeOf371,zeroValue371,underlying372,isAgg372,sizeOf372,zeroValue372⟩
def rSort:Ren:=⟨fun|6=>109|15=>86|14=>160|28=>144|29=>145|20=>197|21=>198|22=>199|23=>200|24=>201|25=>202|26=>203|27=>204|46=>259|47=>183|48=>184|49=>260|50=>261|57=>324|n=>n,fun|22=>25|25=>203|39=>161|53=>32|55=>34|46=>229|45=>228|50=>131|66=>296|70=>299|76=>371|77=>372|n=>n,fun|n=>n⟩
theorem laysSort:SlLaysF0.n6 prog rSort:=⟨kl,⟨f109.name,by decide,fb func109⟩,⟨f160.name,by decide,fb func160⟩,fb func86,⟨f197.name,by decide,fb func197⟩,⟨f198.name,by decide,fb func198⟩,⟨f199.name,by decide,fb func199⟩,⟨f200.name,by decide,fb func200⟩,⟨f201.name,by decide,fb func201⟩,⟨f202.name,by decide,fb func202⟩,⟨f203.name,by decide,fb func203⟩,⟨f204.name,by decide,fb func204⟩,fb func144,fb func145,⟨f259.name,by decide,fb func259⟩,fb func183,fb func184,⟨f260.name,by decide,fb func260⟩,⟨f261.name,by decide,fb func261⟩,⟨f324.name,by decide,fb func324⟩,underlying0,isAgg0,sizeOf0,zeroValue0,underlying3,isAgg3,sizeOf3,zeroValue3,underlying4,isAgg4,sizeOf4,zeroValue4,underlying5,isAgg5,sizeOf5,zeroValue5,underlying9,isAgg9,sizeOf9,zeroValue9,underlying25,isAgg25,sizeOf25,zeroValue25,underlying203,isAgg203,sizeOf203,zeroValue203,underlying161,isAgg161,sizeOf161,zeroValue161,underlying228,isAgg228,sizeOf228,zeroValue228,underlying229,isAgg229,sizeOf229,zeroValue229,underlying131,isAgg131,sizeOf131,zeroValue131,underlying32,isAgg32,sizeOf32,zeroValue32,underlying34,isAgg34,sizeOf34,zeroValue34,underlying296,isAgg296,sizeOf296,zeroValue296,underlying299,isAgg299,sizeOf299,zeroValue299,underlying371,isAgg371,sizeOf371,zeroValue371,underlying372,isAgg372,sizeOf372,zeroValue372⟩
end Go.Proofs.Tryz
