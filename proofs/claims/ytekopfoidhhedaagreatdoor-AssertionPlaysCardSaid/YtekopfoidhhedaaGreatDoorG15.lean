import Derived.Shelf.SlSortCmp.WholeK
import Derived.Ground.SlsfProg
import Derived.Shelf.Strings.Builder1
import Derived.Shelf.Strings.Builder2
import Derived.Shelf.Strings.OnBuilder
import Derived.Shelf.Strings.Trim
import Derived.Shelf.Small.Utf8
import Derived.Shelf.Small.Bits
import Derived.Shelf.Small.Strs
import Derived.Shelf.Small.Wraps
import Derived.Shelf.Strings.BuilderF
import Derived.Shelf.Strings.BuilderK
import Derived.Shelf.Utf8.RuneCount
import Derived.Shelf.Strconv.Atoi
import Derived.Shelf.Strconv.Itoa0
import Derived.Shelf.Strconv.Itoa1
import Derived.Shelf.LaysM
import Derived.Shelf.Strconv.Itoa2
import Derived.Shelf.Strconv.Itoa3
import Derived.Shelf.Strconv.AtoiErrFast
import Derived.Shelf.Strconv.ParseIntEmpty
import Derived.Shelf.Strconv.AtoiFail
import Derived.Shelf.Strconv.Clone
import Derived.Shelf.Strconv.SyntaxError
import Derived.Shelf.LaysC
import Derived.Shelf.Strconv.ToError
import Derived.Shelf.Strconv.Lower
import Derived.Shelf.Strconv.ParseUint10
import Derived.Shelf.Strconv.ParseUint10Empty
import Derived.Shelf.Strconv.ParseUint10Any
import Derived.Shelf.Strconv.ParseInt10
import Derived.Shelf.Strconv.AtoiLong
import Derived.Shelf.Strconv.AtoiInnerAll
import Derived.Shelf.Strconv.RangeError
import Derived.Shelf.Strconv.ToErrorRange
import Derived.Shelf.Strconv.AtoiAll
import Derived.Shelf.Strconv.ErrVarAll
import Derived.Shelf.Strings.Search1
import Derived.Shelf.Strings.Search2
import Derived.Shelf.Strings.Search3
import Derived.Shelf.Strings.Count
import Derived.Shelf.Strings.Shaped
import Derived.Shelf.Sort.Plain
import Derived.Shelf.Strings.LastIndex
import Derived.Shelf.Strings.Prefix
import Derived.Shelf.Strings.Split
import Derived.Shelf.Strings.SplitShaped
import Derived.Shelf.Unicode.Decode
import Derived.Shelf.Strings.Runes
import Derived.Shelf.Strings.RuneCount
import Derived.Shelf.Strings.AsciiSet
import Derived.Shelf.Strings.Explode
import Derived.Shelf.Unicode.DecodeSlow
import Derived.Shelf.Unicode.DecodeAny
import Derived.Shelf.Unicode.DecodeLast
import Derived.Shelf.Slices.CompactS
import Derived.Ground.Names2Prog
import Derived.Shelf.Slices.SearchI
import Derived.Shelf.Slices.Cells
import Derived.Shelf.Slices.In.SortNone
import Derived.Test.YtekopfoidhhedaaGreatDoorProg
set_option linter.unusedVariables false
set_option linter.unusedSimpArgs false
set_option linter.unnecessarySimpa false
namespace Go.Proofs
open Go.Shelf
theorem fx {α:Type}{a:Option α}{b c:α}(h:a=some b)(e:b=c):a=some c:=h.trans (congrArg some e)
open Tryz
set_option maxRecDepth 100000
def Tryz.lays169_ren:Go.Shelf.Ren:=⟨fun | 169=>98|n=>n,fun | 70=>141 | 9=>9 | 0=>0 | 72=>144 | 37=>142 | 127=>201 | 3=>3 | 5=>5|n=>n,fun|n=>n⟩
theorem Tryz.lays169:Go.Proofs.Lays.n169 Tryz.prog Tryz.lays169_ren:=by
 refine⟨?_,fx func98 ?_,underlying0,isAgg0,sizeOf0,zeroValue0,underlying3,isAgg3,sizeOf3,zeroValue3,underlying9,isAgg9,sizeOf9,zeroValue9,underlying142,isAgg142,sizeOf142,zeroValue142,underlying141,isAgg141,sizeOf141,zeroValue141,underlying144,isAgg144,sizeOf144,zeroValue144,underlying201,isAgg201,sizeOf201,zeroValue201⟩ <;> kernel_rfl
theorem Tryz.Builder_Extra_169:Builder.Extra Tryz.prog Tryz.lays169_ren:={
 sizeBuilder:=by kernel_rfl
 liesBuilder:=by kernel_rfl
 t5:=Tryz.underlying5
 a5:=Tryz.isAgg5
 z5:=Tryz.sizeOf5
 v5:=Tryz.zeroValue5
 infoByte:=by kernel_rfl
 cellsByte:=by kernel_rfl
 sizeByte:=by kernel_rfl
 neB5:=by decide }
def Tryz.lays156_ren:Go.Shelf.Ren:=⟨fun | 156=>161 | 165=>212 | 166=>93 | 169=>98 | 240=>151 | 241=>247 | 276=>210 | 277=>266|n=>n,fun | 31=>62 | 9=>9 | 3=>3 | 4=>4 | 0=>0 | 20=>20 | 72=>144 | 76=>147 | 70=>141 | 37=>142 | 75=>146 | 127=>201 | 164=>229 | 5=>5 | 80=>150|n=>n,fun|n=>n⟩
theorem Tryz.lays156:Go.Proofs.Lays.n156 Tryz.prog Tryz.lays156_ren:=by
 refine⟨?_,fx func161 ?_,fx func212 ?_,fx func93 ?_,fx func98 ?_,fx func151 ?_,fx func247 ?_,fx func210 ?_,fx func266 ?_,underlying0,isAgg0,sizeOf0,zeroValue0,underlying3,isAgg3,sizeOf3,zeroValue3,underlying4,isAgg4,sizeOf4,zeroValue4,underlying9,isAgg9,sizeOf9,zeroValue9,underlying20,isAgg20,sizeOf20,zeroValue20,underlying62,isAgg62,sizeOf62,zeroValue62,underlying142,isAgg142,sizeOf142,zeroValue142,underlying141,isAgg141,sizeOf141,zeroValue141,underlying144,isAgg144,sizeOf144,zeroValue144,underlying146,isAgg146,sizeOf146,zeroValue146,underlying147,isAgg147,sizeOf147,zeroValue147,underlying201,isAgg201,sizeOf201,zeroValue201,underlying229,isAgg229,sizeOf229,zeroValue229⟩ <;> kernel_rfl
theorem Tryz.Builder_Extra_156:Builder.Extra Tryz.prog Tryz.lays156_ren:={
 sizeBuilder:=by kernel_rfl
 liesBuilder:=by kernel_rfl
 t5:=Tryz.underlying5
 a5:=Tryz.isAgg5
 z5:=Tryz.sizeOf5
 v5:=Tryz.zeroValue5
 infoByte:=by kernel_rfl
 cellsByte:=by kernel_rfl
 sizeByte:=by kernel_rfl
 neB5:=by decide }
open Go.RowKit in
theorem Tryz.strings_Join_none (a:Option Addr)(c:Nat)(sep:ByteArray)(w:World):
  Calls Tryz.prog 161 #[.slice a 0 c,.string sep] w fun e w'=>e= .returned (.string ⟨#[]⟩)∧w'=w:=Any.strings_Join_none Tryz.lays156 Tryz.Builder_Extra_156 a c sep w
open Go.RowKit in
theorem Tryz.strings_Join (bk o c:Nat)(xs:List ByteArray)(sep:ByteArray)(w:World)(hcells:∀(j:Nat) x,xs[j]?=some x→w.cell? ⟨bk,o+j,none⟩=some (.string x))(hbk:bk<w.heap.size)(hN:xs.length≤140737488355328)(hcap:xs.length≤c)(hlen:(Lib.join (xs.map (·.data.toList)) sep.data.toList).length≤140737488355328):
  Calls Tryz.prog 161 #[.slice (some ⟨bk,o,none⟩) xs.length c,.string sep] w fun e w'=>e= .returned (.string ⟨(Lib.join (xs.map (·.data.toList)) sep.data.toList).toArray⟩)∧Below w.heap.size w w':=Any.strings_Join Tryz.lays156 Tryz.Builder_Extra_156 bk o c xs sep w hcells hbk hN hcap hlen
def Tryz.lays160_ren:Go.Shelf.Ren:=⟨fun | 160=>256 | 232=>272 | 231=>271 | 227=>273 | 234=>275 | 233=>274 | 236=>277 | 235=>276 | 228=>284 | 271=>285 | 151=>110 | 197=>214 | 120=>286 | 152=>172 | 260=>248 | 137=>165 | 119=>222 | 224=>223 | 225=>224 | 217=>217 | 266=>250|n=>n,fun | 9=>9 | 4=>4 | 3=>3 | 5=>5 | 117=>283 | 116=>282 | 0=>0 | 124=>286 | 21=>21 | 105=>233 | 46=>182 | 119=>269 | 139=>272 | 138=>271|n=>n,fun | 3=>3 | 4=>4|n=>n⟩
theorem Tryz.lays160:Go.Proofs.Lays.n160 Tryz.prog Tryz.lays160_ren:=by
 refine⟨?_,fx func222 ?_,fx func286 ?_,fx func165 ?_,fx func110 ?_,fx func172 ?_,fx func256 ?_,fx func214 ?_,fx func217 ?_,fx func223 ?_,fx func224 ?_,fx func273 ?_,fx func284 ?_,fx func271 ?_,fx func272 ?_,fx func274 ?_,fx func275 ?_,fx func276 ?_,fx func277 ?_,fx func248 ?_,fx func250 ?_,fx func285 ?_,underlying0,isAgg0,sizeOf0,zeroValue0,underlying3,isAgg3,sizeOf3,zeroValue3,underlying4,isAgg4,sizeOf4,zeroValue4,underlying5,isAgg5,sizeOf5,zeroValue5,underlying9,isAgg9,sizeOf9,zeroValue9,underlying21,isAgg21,sizeOf21,zeroValue21,underlying182,isAgg182,sizeOf182,zeroValue182,underlying233,isAgg233,sizeOf233,zeroValue233,underlying282,isAgg282,sizeOf282,underlying283,isAgg283,sizeOf283,zeroValue283,underlying269,isAgg269,sizeOf269,underlying286,isAgg286,sizeOf286,zeroValue286,underlying271,isAgg271,sizeOf271,zeroValue271,underlying272,isAgg272,sizeOf272,zeroValue272,?_,?_⟩ <;> kernel_rfl
open Go.RowKit in
theorem Tryz.strings_Trim_one (s:ByteArray)(c:UInt8)(hc:c.toNat<128)(w:World)(hs:s.size≤9223372036854775807):
  Calls Tryz.prog 256 #[.string s,.string ⟨#[c]⟩] w fun e w'=>e= .returned (.string ⟨(Lib.trimB s.data.toList c).toArray⟩)∧(w'=w∨w'=w.drew):=Any.strings_Trim_one Tryz.lays160 s c hc w hs
def Tryz.lays119_ren:Go.Shelf.Ren:=⟨fun | 119=>222|n=>n,fun | 21=>21 | 4=>4|n=>n,fun|n=>n⟩
theorem Tryz.lays119:Go.Proofs.Lays.n119 Tryz.prog Tryz.lays119_ren:=by
 refine⟨?_,fx func222 ?_,underlying4,isAgg4,sizeOf4,zeroValue4,underlying21,isAgg21,sizeOf21,zeroValue21⟩ <;> kernel_rfl
theorem Tryz.utf8_ValidRune (r:Int)(w:World):
  Calls Tryz.prog 222 #[.int .i32 r] w fun e w'=>e= .returned (.bool (Lib.validRune r))∧w'=w:=Any.utf8_ValidRune Tryz.lays119 r w
def Tryz.lays125_ren:Go.Shelf.Ren:=⟨fun | 125=>136 | 128=>200 | 129=>201|n=>n,fun | 46=>182 | 3=>3 | 51=>223 | 53=>184 | 4=>4 | 5=>5 | 9=>9|n=>n,fun|n=>n⟩
theorem Tryz.lays125:Go.Proofs.Lays.n125 Tryz.prog Tryz.lays125_ren:=by
 refine⟨?_,fx func136 ?_,fx func200 ?_,fx func201 ?_,underlying3,isAgg3,sizeOf3,zeroValue3,underlying4,isAgg4,sizeOf4,zeroValue4,underlying5,isAgg5,sizeOf5,zeroValue5,underlying9,isAgg9,sizeOf9,zeroValue9,underlying182,isAgg182,sizeOf182,zeroValue182,underlying223,isAgg223,sizeOf223,zeroValue223,underlying184,isAgg184,sizeOf184,zeroValue184⟩ <;> kernel_rfl
theorem Tryz.bits_Len (x:Int)(w:World)(h0:0≤x)(h1:x≤18446744073709551615):
  Calls Tryz.prog 136 #[.int .u64 x] w fun e w'=>e= .returned (.int .i64 (Lib.bitLen x.toNat))∧w'=w:=Any.bits_Len Tryz.lays125 x w h0 h1
def Tryz.lays137_ren:Go.Shelf.Ren:=⟨fun | 137=>165 | 217=>217 | 266=>250|n=>n,fun | 9=>9 | 5=>5 | 3=>3|n=>n,fun|n=>n⟩
theorem Tryz.lays137:Go.Proofs.Lays.n137 Tryz.prog Tryz.lays137_ren:=by
 refine⟨?_,fx func165 ?_,fx func217 ?_,fx func250 ?_,underlying3,isAgg3,sizeOf3,zeroValue3,underlying5,isAgg5,sizeOf5,zeroValue5,underlying9,isAgg9,sizeOf9,zeroValue9⟩ <;> kernel_rfl
open Go.RowKit in
theorem Tryz.strings_IndexByte (s:ByteArray)(c:Int)(w:World):
  Calls Tryz.prog 165 #[.string s,.int .u8 c] w fun e w'=>e= .returned (.int .i64 (Lib.indexByte s.data.toList c.toNat.toUInt8))∧w'=w:=Any.strings_IndexByte Tryz.lays137 s c w
def Tryz.lays103_ren:Go.Shelf.Ren:=⟨fun | 103=>104 | 210=>168 | 206=>221|n=>n,fun | 9=>9 | 4=>4 | 24=>157 | 3=>3|n=>n,fun|n=>n⟩
theorem Tryz.lays103:Go.Proofs.Lays.n103 Tryz.prog Tryz.lays103_ren:=by
 refine⟨?_,fx func104 ?_,fx func221 ?_,fx func168 ?_,underlying3,isAgg3,sizeOf3,zeroValue3,underlying4,isAgg4,sizeOf4,zeroValue4,underlying9,isAgg9,sizeOf9,zeroValue9,underlying157,isAgg157,sizeOf157,zeroValue157⟩ <;> kernel_rfl
open Go.RowKit in
theorem Tryz.strings_CutPrefix (s p:ByteArray)(w:World):
  Calls Tryz.prog 104 #[.string s,.string p] w fun e w'=>e= .returned (.tuple #[.string ⟨(Lib.trimPrefix s.data.toList p.data.toList).toArray⟩,.bool (Lib.hasPrefix s.data.toList p.data.toList)])∧w'=w:=Any.strings_CutPrefix Tryz.lays103 s p w
def Tryz.laysM171_ren:Go.Shelf.Ren:=⟨fun | 171=>80 | 243=>137 | 246=>202 | 283=>234 | 284=>235 | 285=>236 | 286=>237 | 129=>201 | 317=>258 | 318=>259 | 319=>260 | 320=>261 | 337=>278 | 338=>279|n=>n,fun | 3=>3 | 9=>9 | 2=>2 | 4=>4 | 171=>243 | 0=>0 | 53=>184 | 37=>142 | 5=>5 | 173=>245 | 212=>263 | 51=>223 | 20=>20 | 213=>264 | 46=>182 | 232=>292 | 233=>293|n=>n,fun | 17=>2 | 18=>7 | 19=>8|n=>n⟩
theorem Tryz.laysM171:Go.Proofs.LaysM.n171 Tryz.prog Tryz.laysM171_ren:=by
 refine { mixed:=?_,f129:=fx func201 ?_,f171:=fx func80 ?_,f243:=fx func137 ?_,f246:=fx func202 ?_,f283:=fx func234 ?_,f284:=fx func235 ?_,f285:=fx func236 ?_,f286:=fx func237 ?_,f317:=fx func258 ?_,f318:=fx func259 ?_,f319:=fx func260 ?_,f320:=fx func261 ?_,f337:=fx func278 ?_,f338:=fx func279 ?_,t0:=underlying0,a0:=isAgg0,z0:=sizeOf0,v0:=zeroValue0,t2:=underlying2,a2:=isAgg2,z2:=sizeOf2,v2:=zeroValue2,t3:=underlying3,a3:=isAgg3,z3:=sizeOf3,v3:=zeroValue3,t4:=underlying4,a4:=isAgg4,z4:=sizeOf4,v4:=zeroValue4,t5:=underlying5,a5:=isAgg5,z5:=sizeOf5,v5:=zeroValue5,t9:=underlying9,a9:=isAgg9,z9:=sizeOf9,v9:=zeroValue9,t20:=underlying20,a20:=isAgg20,z20:=sizeOf20,v20:=zeroValue20,t37:=underlying142,a37:=isAgg142,z37:=sizeOf142,v37:=zeroValue142,t46:=underlying182,a46:=isAgg182,z46:=sizeOf182,v46:=zeroValue182,t51:=underlying223,a51:=isAgg223,z51:=sizeOf223,v51:=zeroValue223,t53:=underlying184,a53:=isAgg184,z53:=sizeOf184,v53:=zeroValue184,t171:=underlying243,a171:=isAgg243,z171:=sizeOf243,v171:=zeroValue243,t173:=underlying245,a173:=isAgg245,z173:=sizeOf245,v173:=zeroValue245,t212:=underlying263,a212:=isAgg263,z212:=sizeOf263,v212:=zeroValue263,t213:=underlying264,a213:=isAgg264,z213:=sizeOf264,t232:=underlying292,a232:=isAgg292,z232:=sizeOf292,v232:=zeroValue292,t233:=underlying293,a233:=isAgg293,z233:=sizeOf293,v233:=zeroValue293,g17:=?_,g18:=?_,g19:=?_,i0:=?_,i2:=?_,i3:=?_,i4:=?_,i5:=?_,i9:=?_,i20:=?_,i37:=?_,i46:=?_,i51:=?_,i53:=?_,i171:=?_,i173:=?_,i212:=?_,i232:=?_,i233:=?_,m17:=?_,m18:=?_,m19:=?_ } <;> kernel_rfl
open Go.RowKit Go.Sort Go.Lib in
theorem Tryz.strconv_Itoa (n:Int)(h0:-9223372036854775808≤n)(h1:n≤9223372036854775807)(w:World)(htab:Lib.TabIs Tryz.prog w "internal/strconv.uint64pow10" .u64 Lib.pow10Tab):
  Calls Tryz.prog 80 #[.int .i64 n] w fun e w'=>e= .returned (.string ⟨(Lib.itoa n).toArray⟩)∧∃k os,w'=grow (w.drewN k) os:=Any.strconv_Itoa Tryz.laysM171 n h0 h1 w htab
def Tryz.laysC172_ren:Go.Shelf.Ren:=⟨fun | 172=>167 | 244=>219 | 245=>220 | 247=>251 | 279=>252 | 280=>253 | 281=>254 | 282=>255 | 287=>268 | 316=>269 | 171=>80 | 205=>270 | 321=>282 | 322=>283 | 243=>137 | 246=>202 | 283=>234 | 284=>235 | 285=>236 | 286=>237 | 129=>201 | 317=>258 | 318=>259 | 319=>260 | 320=>261 | 337=>278 | 338=>279|n=>n,fun | 9=>9 | 3=>3 | 75=>146 | 76=>147 | 4=>4 | 5=>5 | 167=>253 | 37=>142 | 0=>0 | 85=>254 | 2=>2 | 168=>256 | 53=>184 | 175=>275 | 46=>182 | 210=>278 | 127=>201 | 145=>291 | 143=>289 | 21=>21 | 171=>243 | 173=>245 | 212=>263 | 51=>223 | 20=>20 | 213=>264 | 232=>292 | 233=>293 | 80=>150|n=>n,fun | 15=>5 | 16=>6 | 17=>2 | 18=>7 | 19=>8|n=>n⟩
theorem Tryz.laysC172:Go.Proofs.LaysC.n172 Tryz.prog Tryz.laysC172_ren:=by
 refine { mixed:=?_,f129:=fx func201 ?_,f171:=fx func80 ?_,f172:=fx func167 ?_,f205:=fx func270 ?_,f243:=fx func137 ?_,f244:=fx func219 ?_,f245:=fx func220 ?_,f246:=fx func202 ?_,f247:=fx func251 ?_,f279:=fx func252 ?_,f280:=fx func253 ?_,f281:=fx func254 ?_,f282:=fx func255 ?_,f283:=fx func234 ?_,f284:=fx func235 ?_,f285:=fx func236 ?_,f286:=fx func237 ?_,f287:=fx func268 ?_,f316:=fx func269 ?_,f317:=fx func258 ?_,f318:=fx func259 ?_,f319:=fx func260 ?_,f320:=fx func261 ?_,f321:=fx func282 ?_,f322:=fx func283 ?_,f337:=fx func278 ?_,f338:=fx func279 ?_,t0:=underlying0,a0:=isAgg0,z0:=sizeOf0,v0:=zeroValue0,t2:=underlying2,a2:=isAgg2,z2:=sizeOf2,v2:=zeroValue2,t3:=underlying3,a3:=isAgg3,z3:=sizeOf3,v3:=zeroValue3,t4:=underlying4,a4:=isAgg4,z4:=sizeOf4,v4:=zeroValue4,t5:=underlying5,a5:=isAgg5,z5:=sizeOf5,v5:=zeroValue5,t9:=underlying9,a9:=isAgg9,z9:=sizeOf9,v9:=zeroValue9,t20:=underlying20,a20:=isAgg20,z20:=sizeOf20,v20:=zeroValue20,t21:=underlying21,a21:=isAgg21,z21:=sizeOf21,v21:=zeroValue21,t37:=underlying142,a37:=isAgg142,z37:=sizeOf142,v37:=zeroValue142,t46:=underlying182,a46:=isAgg182,z46:=sizeOf182,v46:=zeroValue182,t51:=underlying223,a51:=isAgg223,z51:=sizeOf223,v51:=zeroValue223,t53:=underlying184,a53:=isAgg184,z53:=sizeOf184,v53:=zeroValue184,t75:=underlying146,a75:=isAgg146,z75:=sizeOf146,v75:=zeroValue146,t76:=underlying147,a76:=isAgg147,z76:=sizeOf147,v76:=zeroValue147,t85:=underlying254,a85:=isAgg254,z85:=sizeOf254,v85:=zeroValue254,t127:=underlying201,a127:=isAgg201,z127:=sizeOf201,v127:=zeroValue201,t143:=underlying289,a143:=isAgg289,z143:=sizeOf289,v143:=zeroValue289,t145:=underlying291,a145:=isAgg291,z145:=sizeOf291,v145:=zeroValue291,t167:=underlying253,a167:=isAgg253,z167:=sizeOf253,v167:=zeroValue253,t168:=underlying256,a168:=isAgg256,z168:=sizeOf256,v168:=zeroValue256,t171:=underlying243,a171:=isAgg243,z171:=sizeOf243,v171:=zeroValue243,t173:=underlying245,a173:=isAgg245,z173:=sizeOf245,v173:=zeroValue245,t175:=underlying275,a175:=isAgg275,z175:=sizeOf275,v175:=zeroValue275,t210:=underlying278,a210:=isAgg278,z210:=sizeOf278,v210:=zeroValue278,t212:=underlying263,a212:=isAgg263,z212:=sizeOf263,v212:=zeroValue263,t213:=underlying264,a213:=isAgg264,z213:=sizeOf264,t232:=underlying292,a232:=isAgg292,z232:=sizeOf292,v232:=zeroValue292,t233:=underlying293,a233:=isAgg293,z233:=sizeOf293,v233:=zeroValue293,g15:=?_,g16:=?_,g17:=?_,g18:=?_,g19:=?_,t80:=underlying150,a80:=isAgg150,z80:=sizeOf150,v80:=zeroValue150,i0:=?_,i2:=?_,i3:=?_,i4:=?_,i5:=?_,i9:=?_,i20:=?_,i21:=?_,i37:=?_,i46:=?_,i51:=?_,i53:=?_,i75:=?_,i76:=?_,i80:=?_,i85:=?_,i127:=?_,i143:=?_,i145:=?_,i167:=?_,i168:=?_,i171:=?_,i173:=?_,i175:=?_,i210:=?_,i212:=?_,i232:=?_,i233:=?_,m15:=?_,m16:=?_,m17:=?_,m18:=?_,m19:=?_,c0:=?_,c2:=?_,c3:=?_,c4:=?_,c5:=?_,c9:=?_,c20:=?_,c21:=?_,c37:=?_,c46:=?_,c51:=?_,c53:=?_,c75:=?_,c76:=?_,c80:=?_,c85:=?_,c127:=?_,c143:=?_,c145:=?_,c167:=?_,c168:=?_,c171:=?_,c173:=?_,c175:=?_,c210:=?_,c212:=?_,c213:=?_,c232:=?_,c233:=?_ } <;> kernel_rfl
open Go.RowKit in
theorem Tryz.strconv_Atoi_ok (s:ByteArray)(hmax:s.size≤9223372036854775806)(v:Int)(h:Lib.atoiAll s.data.toList= .ok v)(w:World):
  Calls Tryz.prog 167 #[.string s] w fun e w'=>e= .returned (.tuple #[.int .i64 v,.nilIface])∧(w'=w∨∃t,w'=Lib.bytesWorld w 5 t):=Any.strconv_Atoi_ok Tryz.laysC172 s hmax v h w
open Go.RowKit in
theorem Tryz.strconv_Atoi_range (s:ByteArray)(hlim:s.size≤281474976710656)(h:Lib.atoiAll s.data.toList= .range)(ev:Value)(w:World)(hv:w.cell? ⟨6,0,none⟩=some ev)(hev:ev= .nilIface∨∃te pe,ev= .iface te pe):
  Calls Tryz.prog 167 #[.string s] w fun e w'=>∃N,e= .returned (.tuple #[.int .i64 (Lib.atoiSat s.data.toList),.iface 256 (.pointer (some ⟨N,0,none⟩))])∧w.heap.size≤N∧w'.heap[N]?=some (.cells #[.string ⟨#[65,116,111,105]⟩,.string s,ev] 278 (0,0))∧Below w.heap.size w w':=Any.strconv_Atoi_range Tryz.laysC172 s hlim h ev w hv hev
def Tryz.lays190_ren:Go.Shelf.Ren:=⟨fun | 190=>75 | 125=>136 | 258=>135 | 128=>200 | 129=>201 | 302=>191 | 303=>192 | 304=>193 | 305=>194 | 306=>195 | 307=>196 | 308=>197 | 309=>198 | 310=>199 | 333=>228 | 329=>229 | 330=>230 | 334=>231 | 335=>232 | 336=>233 | 344=>257|n=>n,fun | 31=>62 | 9=>9 | 3=>3 | 46=>182 | 0=>0 | 51=>223 | 53=>184 | 4=>4 | 183=>216 | 182=>215 | 131=>191 | 5=>5 | 218=>237 | 222=>241 | 228=>259 | 229=>260|n=>n,fun|n=>n⟩
theorem Tryz.lays190:Go.Proofs.Lays.n190 Tryz.prog Tryz.lays190_ren:=by
 refine⟨?_,fx func136 ?_,fx func200 ?_,fx func201 ?_,fx func75 ?_,fx func135 ?_,fx func191 ?_,fx func192 ?_,fx func193 ?_,fx func194 ?_,fx func195 ?_,fx func196 ?_,fx func197 ?_,fx func198 ?_,fx func199 ?_,fx func229 ?_,fx func230 ?_,fx func228 ?_,fx func231 ?_,fx func232 ?_,fx func233 ?_,fx func257 ?_,underlying0,isAgg0,sizeOf0,zeroValue0,underlying3,isAgg3,sizeOf3,zeroValue3,underlying4,isAgg4,sizeOf4,zeroValue4,underlying5,isAgg5,sizeOf5,zeroValue5,underlying9,isAgg9,sizeOf9,zeroValue9,underlying62,isAgg62,sizeOf62,zeroValue62,underlying182,isAgg182,sizeOf182,zeroValue182,underlying223,isAgg223,sizeOf223,zeroValue223,underlying184,isAgg184,sizeOf184,zeroValue184,underlying191,isAgg191,sizeOf191,zeroValue191,underlying215,isAgg215,sizeOf215,zeroValue215,underlying216,isAgg216,sizeOf216,zeroValue216,underlying237,isAgg237,sizeOf237,zeroValue237,underlying241,isAgg241,sizeOf241,zeroValue241,underlying259,isAgg259,sizeOf259,zeroValue259,underlying260,isAgg260,sizeOf260,zeroValue260⟩ <;> kernel_rfl
open Go.Sort Go.RowKit in
theorem Tryz.slices_Sort_string (blk off cap:Nat)(ss:List (List UInt8))(w:World)(hH:Holds encStr w blk off ss.toArray)(hblk:blk<w.heap.size)(hsz:ss.length<4611686018427387904):
  Calls Tryz.prog 75 #[.slice (some ⟨blk,off,none⟩) ss.length cap] w fun e w'=>
   e= .returned (.tuple #[])∧∃n os,w'=grow (putRow encStr (Sort.ahead w n) blk off (ss.mergeSort fun x y=>decide (x≤y)).toArray) os:=Any.slices_Sort_string Tryz.lays190 blk off cap ss w hH hblk hsz
def Tryz.lays149_ren:Go.Shelf.Ren:=⟨fun | 149=>141 | 222=>203|n=>n,fun | 9=>9 | 5=>5 | 3=>3 | 4=>4|n=>n,fun|n=>n⟩
theorem Tryz.lays149:Go.Proofs.Lays.n149 Tryz.prog Tryz.lays149_ren:=by
 refine⟨?_,fx func141 ?_,fx func203 ?_,underlying3,isAgg3,sizeOf3,zeroValue3,underlying4,isAgg4,sizeOf4,zeroValue4,underlying5,isAgg5,sizeOf5,zeroValue5,underlying9,isAgg9,sizeOf9,zeroValue9⟩ <;> kernel_rfl
open Go.RowKit Go.Lib in
theorem Tryz.strings_LastIndexByte (s:ByteArray)(c:Int)(hs:s.size<4611686018427387904)(w:World):
  Calls Tryz.prog 141 #[.string s,.int .u8 c] w fun e w'=>e= .returned (.int .i64 (Lib.lastIndexByte s c))∧w'=w:=Any.strings_LastIndexByte Tryz.lays149 s c hs w
def Tryz.lays99_ren:Go.Shelf.Ren:=⟨fun | 99=>208 | 206=>221|n=>n,fun | 9=>9 | 4=>4 | 3=>3|n=>n,fun|n=>n⟩
theorem Tryz.lays99:Go.Proofs.Lays.n99 Tryz.prog Tryz.lays99_ren:=by
 refine⟨?_,fx func208 ?_,fx func221 ?_,underlying3,isAgg3,sizeOf3,zeroValue3,underlying4,isAgg4,sizeOf4,zeroValue4,underlying9,isAgg9,sizeOf9,zeroValue9⟩ <;> kernel_rfl
open Go.RowKit Go.Lib in
theorem Tryz.strings_HasPrefix (s p:ByteArray)(w:World):
  Calls Tryz.prog 208 #[.string s,.string p] w fun e w'=>e= .returned (.bool (Lib.hasPrefix s.data.toList p.data.toList))∧w'=w:=Any.strings_HasPrefix Tryz.lays99 s p w
def Tryz.lays101_ren:Go.Shelf.Ren:=⟨fun | 101=>166 | 208=>218 | 206=>221|n=>n,fun | 9=>9 | 4=>4 | 3=>3|n=>n,fun|n=>n⟩
theorem Tryz.lays101:Go.Proofs.Lays.n101 Tryz.prog Tryz.lays101_ren:=by
 refine⟨?_,fx func166 ?_,fx func221 ?_,fx func218 ?_,underlying3,isAgg3,sizeOf3,zeroValue3,underlying4,isAgg4,sizeOf4,zeroValue4,underlying9,isAgg9,sizeOf9,zeroValue9⟩ <;> kernel_rfl
open Go.RowKit Go.Lib in
theorem Tryz.strings_TrimPrefix (s p:ByteArray)(w:World):
  Calls Tryz.prog 166 #[.string s,.string p] w fun e w'=>e= .returned (.string ⟨(Lib.trimPrefix s.data.toList p.data.toList).toArray⟩)∧w'=w:=Any.strings_TrimPrefix Tryz.lays101 s p w
def Tryz.lays146_ren:Go.Shelf.Ren:=⟨fun | 146=>49 | 221=>101 | 268=>162 | 138=>163 | 143=>164 | 195=>213 | 197=>214 | 218=>215 | 219=>216 | 260=>248 | 217=>217 | 225=>224 | 224=>223 | 267=>249 | 266=>250 | 314=>267|n=>n,fun | 9=>9 | 31=>62 | 3=>3 | 4=>4 | 0=>0 | 105=>233 | 21=>21 | 5=>5 | 46=>182 | 119=>269 | 139=>272 | 138=>271 | 146=>273 | 51=>223|n=>n,fun | 1=>1 | 3=>3 | 4=>4|n=>n⟩
theorem Tryz.lays146:Go.Proofs.Lays.n146 Tryz.prog Tryz.lays146_ren:=by
 refine⟨?_,fx func163 ?_,fx func164 ?_,fx func49 ?_,fx func213 ?_,fx func214 ?_,fx func217 ?_,fx func215 ?_,fx func216 ?_,fx func101 ?_,fx func223 ?_,fx func224 ?_,fx func248 ?_,fx func250 ?_,fx func249 ?_,fx func162 ?_,fx func267 ?_,underlying0,isAgg0,sizeOf0,zeroValue0,underlying3,isAgg3,sizeOf3,zeroValue3,underlying4,isAgg4,sizeOf4,zeroValue4,underlying5,isAgg5,sizeOf5,zeroValue5,underlying9,isAgg9,sizeOf9,zeroValue9,underlying21,isAgg21,sizeOf21,zeroValue21,underlying62,isAgg62,sizeOf62,zeroValue62,underlying182,isAgg182,sizeOf182,zeroValue182,underlying223,isAgg223,sizeOf223,zeroValue223,underlying233,isAgg233,sizeOf233,zeroValue233,underlying269,isAgg269,sizeOf269,underlying271,isAgg271,sizeOf271,zeroValue271,underlying272,isAgg272,sizeOf272,zeroValue272,underlying273,isAgg273,sizeOf273,zeroValue273,?_,?_,?_⟩ <;> kernel_rfl
open Go.RowKit Go.Lib in
theorem Tryz.strings_Split (s sep:ByteArray)(m:Int)(w:World)(hs:s.size<4294967281)(hm:w.cell? ⟨1,0,none⟩=some (.int .i64 m))(h1:1≤sep.size):
  Calls Tryz.prog 49 #[.string s,.string sep] w fun e w'=>
   e= .returned (.slice (some ⟨w.heap.size,0,none⟩) (Lib.countB s sep+1) (Lib.countB s sep+1))∧w'=w.alloc (.cells ((Lib.splitB sep 0 (Lib.countB s sep) s).map Value.string).toArray 9):=Any.strings_Split Tryz.lays146 (by kernel_rfl) s sep m w hs hm h1
def Tryz.lays151_ren:Go.Shelf.Ren:=⟨fun | 151=>110 | 152=>172 | 137=>165 | 119=>222 | 224=>223 | 225=>224 | 217=>217 | 266=>250|n=>n,fun | 9=>9 | 21=>21 | 4=>4 | 3=>3 | 5=>5 | 0=>0 | 46=>182|n=>n,fun|n=>n⟩
theorem Tryz.lays151:Go.Proofs.Lays.n151 Tryz.prog Tryz.lays151_ren:=by
 refine⟨?_,fx func222 ?_,fx func165 ?_,fx func110 ?_,fx func172 ?_,fx func217 ?_,fx func223 ?_,fx func224 ?_,fx func250 ?_,underlying0,isAgg0,sizeOf0,zeroValue0,underlying3,isAgg3,sizeOf3,zeroValue3,underlying4,isAgg4,sizeOf4,zeroValue4,underlying5,isAgg5,sizeOf5,zeroValue5,underlying9,isAgg9,sizeOf9,zeroValue9,underlying21,isAgg21,sizeOf21,zeroValue21,underlying182,isAgg182,sizeOf182,zeroValue182⟩ <;> kernel_rfl
open Go.RowKit Go.Lib in
theorem Tryz.strings_ContainsRune_ascii (s:ByteArray)(r:Int)(w:World)(h0:0≤r)(h1:r<128):
  Calls Tryz.prog 110 #[.string s,.int .i32 r] w fun e w'=>e= .returned (.bool (decide (0≤Lib.indexByte s.data.toList r.toNat.toUInt8)))∧w'=w:=Any.strings_ContainsRune_ascii Tryz.lays151 s r w h0 h1
open Go.RowKit Go.Sort in
theorem Tryz.slices_Sort_string_none (p:Option Addr)(cap:Nat)(w:World):
  Calls Tryz.prog 75 #[.slice p 0 cap] w fun e w'=>e= .returned (.tuple #[])∧w'=w:=Any.slices_Sort_string_none Tryz.lays190 p cap w
def Tryz.sortAt_ren:Go.Shelf.Ren:=⟨fun | 6=>159 | 15=>136 | 14=>211 | 28=>200 | 29=>201 | 20=>239 | 21=>240 | 22=>241 | 23=>242 | 24=>243 | 25=>244 | 26=>245 | 27=>246 | 46=>263 | 47=>229 | 48=>230 | 49=>264 | 50=>265 | 57=>281|n=>n,fun | 22=>22 | 24=>75 | 25=>200 | 3=>3 | 39=>182 | 0=>0 | 53=>223 | 55=>184 | 4=>4 | 46=>216 | 45=>215 | 50=>191 | 5=>5 | 9=>9 | 66=>237 | 70=>241 | 76=>259 | 77=>260|n=>n,fun|n=>n⟩
theorem Tryz.sortAt:Go.Proofs.SlLaysF0.n6 Tryz.prog Tryz.sortAt_ren:=by
 refine⟨?_,⟨f159.name,by decide,func159.trans (congrArg some (by kernel_rfl))⟩,⟨f211.name,by decide,func211.trans (congrArg some (by kernel_rfl))⟩,fx func136 ?_,⟨f239.name,by decide,func239.trans (congrArg some (by kernel_rfl))⟩,⟨f240.name,by decide,func240.trans (congrArg some (by kernel_rfl))⟩,⟨f241.name,by decide,func241.trans (congrArg some (by kernel_rfl))⟩,⟨f242.name,by decide,func242.trans (congrArg some (by kernel_rfl))⟩,⟨f243.name,by decide,func243.trans (congrArg some (by kernel_rfl))⟩,⟨f244.name,by decide,func244.trans (congrArg some (by kernel_rfl))⟩,⟨f245.name,by decide,func245.trans (congrArg some (by kernel_rfl))⟩,⟨f246.name,by decide,func246.trans (congrArg some (by kernel_rfl))⟩,fx func200 ?_,fx func201 ?_,⟨f263.name,by decide,func263.trans (congrArg some (by kernel_rfl))⟩,fx func229 ?_,fx func230 ?_,⟨f264.name,by decide,func264.trans (congrArg some (by kernel_rfl))⟩,⟨f265.name,by decide,func265.trans (congrArg some (by kernel_rfl))⟩,⟨f281.name,by decide,func281.trans (congrArg some (by kernel_rfl))⟩,underlying0,isAgg0,sizeOf0,zeroValue0,underlying3,isAgg3,sizeOf3,zeroValue3,underlying4,isAgg4,sizeOf4,zeroValue4,underlying5,isAgg5,sizeOf5,zeroValue5,underlying9,isAgg9,sizeOf9,zeroValue9,underlying22,isAgg22,sizeOf22,zeroValue22,underlying200,isAgg200,sizeOf200,zeroValue200,underlying182,isAgg182,sizeOf182,zeroValue182,underlying215,isAgg215,sizeOf215,zeroValue215,underlying216,isAgg216,sizeOf216,zeroValue216,underlying191,isAgg191,sizeOf191,zeroValue191,underlying223,isAgg223,sizeOf223,zeroValue223,underlying184,isAgg184,sizeOf184,zeroValue184,underlying237,isAgg237,sizeOf237,zeroValue237,underlying241,isAgg241,sizeOf241,zeroValue241,underlying259,isAgg259,sizeOf259,zeroValue259,underlying260,isAgg260,sizeOf260,zeroValue260⟩ <;> kernel_rfl
end Go.Proofs
