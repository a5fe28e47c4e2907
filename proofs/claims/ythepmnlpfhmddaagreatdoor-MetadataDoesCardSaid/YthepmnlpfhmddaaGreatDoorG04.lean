import Derived.Shelf.Strings.Builder1
import Derived.Shelf.Strings.Builder2
import Derived.Shelf.Strings.OnBuilder
import Derived.Shelf.Strings.Trim
import Derived.Shelf.Small.Utf8
import Derived.Shelf.Small.Bits
import Derived.Shelf.Small.Strs
import Derived.Shelf.Small.Wraps
import Derived.Shelf.Strings.BuilderF
import Derived.Shelf.Strings.BuilderK
import Derived.Shelf.Utf8.RuneCount
import Derived.Shelf.Strconv.Atoi
import Derived.Shelf.Strconv.Itoa0
import Derived.Shelf.Strconv.Itoa1
import Derived.Shelf.LaysM
import Derived.Shelf.Strconv.Itoa2
import Derived.Shelf.Strconv.Itoa3
import Derived.Shelf.Strconv.AtoiErrFast
import Derived.Shelf.Strconv.ParseIntEmpty
import Derived.Shelf.Strconv.AtoiFail
import Derived.Shelf.Strconv.Clone
import Derived.Shelf.Strconv.SyntaxError
import Derived.Shelf.LaysC
import Derived.Shelf.Strconv.ToError
import Derived.Shelf.Strconv.Lower
import Derived.Shelf.Strconv.ParseUint10
import Derived.Shelf.Strconv.ParseUint10Empty
import Derived.Shelf.Strconv.ParseUint10Any
import Derived.Shelf.Strconv.ParseInt10
import Derived.Shelf.Strconv.AtoiLong
import Derived.Shelf.Strconv.AtoiInnerAll
import Derived.Shelf.Strconv.RangeError
import Derived.Shelf.Strconv.ToErrorRange
import Derived.Shelf.Strconv.AtoiAll
import Derived.Shelf.Strconv.ErrVarAll
import Derived.Shelf.Strings.Search1
import Derived.Shelf.Strings.Search2
import Derived.Shelf.Strings.Search3
import Derived.Shelf.Strings.Cut
import Derived.Shelf.Strings.Count
import Derived.Shelf.Strings.Shaped
import Derived.Shelf.Sort.Plain
import Derived.Shelf.Strings.LastIndex
import Derived.Shelf.Strings.Prefix
import Derived.Shelf.Strings.Split
import Derived.Shelf.Strings.SplitShaped
import Derived.Shelf.Unicode.Decode
import Derived.Shelf.Strings.Runes
import Derived.Shelf.Strings.RuneCount
import Derived.Shelf.Strings.AsciiSet
import Derived.Shelf.Strings.Explode
import Derived.Shelf.Unicode.DecodeSlow
import Derived.Shelf.Unicode.DecodeAny
import Derived.Shelf.Unicode.DecodeLast
import Derived.Shelf.Slices.In.SortNone
import Derived.Test.YthepmnlpfhmddaaGreatDoorProg
set_option linter.unusedVariables false
set_option linter.unusedSimpArgs false
set_option linter.unnecessarySimpa false
namespace Go.Proofs
open Go.Shelf
theorem fx {α : Type} {a : Option α} {b c : α} (h : a = some b) (e : b = c) : a = some c := h.trans (congrArg some e)
open Tryz
set_option maxRecDepth 100000
def Tryz.lays169_ren : Go.Shelf.Ren := ⟨fun | 169 => 125 | n => n, fun | 70 => 136 | 9 => 9 | 0 => 0 | 72 => 138 | 37 => 111 | 127 => 165 | 3 => 3 | 5 => 5 | n => n, fun | n => n⟩
theorem Tryz.lays169 : Go.Proofs.Lays.n169 Tryz.prog Tryz.lays169_ren := by
 refine ⟨?_, fx func125 ?_, underlying0, isAgg0, sizeOf0, zeroValue0, underlying3, isAgg3, sizeOf3, zeroValue3, underlying9, isAgg9, sizeOf9, zeroValue9, underlying111, isAgg111, sizeOf111, zeroValue111, underlying136, isAgg136, sizeOf136, zeroValue136, underlying138, isAgg138, sizeOf138, zeroValue138, underlying165, isAgg165, sizeOf165, zeroValue165⟩ <;> kernel_rfl
theorem Tryz.Builder_Extra_169 : Builder.Extra Tryz.prog Tryz.lays169_ren := {
 sizeBuilder := by kernel_rfl
 liesBuilder := by kernel_rfl
 t5 := Tryz.underlying5
 a5 := Tryz.isAgg5
 z5 := Tryz.sizeOf5
 v5 := Tryz.zeroValue5
 infoByte := by kernel_rfl
 cellsByte := by kernel_rfl
 sizeByte := by kernel_rfl
 neB5 := by decide }
def Tryz.lays156_ren : Go.Shelf.Ren := ⟨fun | 156 => 159 | 165 => 189 | 166 => 190 | 169 => 125 | 240 => 158 | 241 => 208 | 276 => 188 | 277 => 222 | n => n, fun | 31 => 50 | 9 => 9 | 3 => 3 | 4 => 4 | 0 => 0 | 20 => 20 | 72 => 138 | 76 => 166 | 70 => 136 | 37 => 111 | 75 => 140 | 127 => 165 | 164 => 189 | 5 => 5 | 80 => 142 | n => n, fun | n => n⟩
theorem Tryz.lays156 : Go.Proofs.Lays.n156 Tryz.prog Tryz.lays156_ren := by
 refine ⟨?_, fx func159 ?_, fx func189 ?_, fx func190 ?_, fx func125 ?_, fx func158 ?_, fx func208 ?_, fx func188 ?_, fx func222 ?_, underlying0, isAgg0, sizeOf0, zeroValue0, underlying3, isAgg3, sizeOf3, zeroValue3, underlying4, isAgg4, sizeOf4, zeroValue4, underlying9, isAgg9, sizeOf9, zeroValue9, underlying20, isAgg20, sizeOf20, zeroValue20, underlying50, isAgg50, sizeOf50, zeroValue50, underlying111, isAgg111, sizeOf111, zeroValue111, underlying136, isAgg136, sizeOf136, zeroValue136, underlying138, isAgg138, sizeOf138, zeroValue138, underlying140, isAgg140, sizeOf140, zeroValue140, underlying166, isAgg166, sizeOf166, zeroValue166, underlying165, isAgg165, sizeOf165, zeroValue165, underlying189, isAgg189, sizeOf189, zeroValue189⟩ <;> kernel_rfl
theorem Tryz.Builder_Extra_156 : Builder.Extra Tryz.prog Tryz.lays156_ren := {
 sizeBuilder := by kernel_rfl
 liesBuilder := by kernel_rfl
 t5 := Tryz.underlying5
 a5 := Tryz.isAgg5
 z5 := Tryz.sizeOf5
 v5 := Tryz.zeroValue5
 infoByte := by kernel_rfl
 cellsByte := by kernel_rfl
 sizeByte := by kernel_rfl
 neB5 := by decide }
open Go.RowKit in
theorem Tryz.strings_Join_none (a : Option Addr) (c : Nat) (sep : ByteArray) (w : World) :
  Calls Tryz.prog 159 #[.slice a 0 c, .string sep] w fun e w' => e = .returned (.string ⟨#[]⟩) ∧ w' = w := Any.strings_Join_none Tryz.lays156 Tryz.Builder_Extra_156 a c sep w
open Go.RowKit in
theorem Tryz.strings_Join (bk o c : Nat) (xs : List ByteArray) (sep : ByteArray) (w : World) (hcells : ∀ (j : Nat) x, xs[j]? = some x → w.cell? ⟨bk, o + j, none⟩ = some (.string x)) (hbk : bk < w.heap.size) (hN : xs.length ≤ 140737488355328) (hcap : xs.length ≤ c) (hlen : (Lib.join (xs.map (·.data.toList)) sep.data.toList).length ≤ 140737488355328) :
  Calls Tryz.prog 159 #[.slice (some ⟨bk, o, none⟩) xs.length c, .string sep] w fun e w' => e = .returned (.string ⟨(Lib.join (xs.map (·.data.toList)) sep.data.toList).toArray⟩) ∧ Below w.heap.size w w' := Any.strings_Join Tryz.lays156 Tryz.Builder_Extra_156 bk o c xs sep w hcells hbk hN hcap hlen
def Tryz.lays160_ren : Go.Shelf.Ren := ⟨fun | 160 => 156 | 232 => 181 | 231 => 180 | 227 => 182 | 234 => 184 | 233 => 183 | 236 => 186 | 235 => 185 | 228 => 204 | 271 => 207 | 151 => 206 | 197 => 205 | 120 => 221 | 152 => 220 | 260 => 219 | 137 => 130 | 119 => 228 | 224 => 192 | 225 => 191 | 217 => 163 | 266 => 194 | n => n, fun | 9 => 9 | 4 => 4 | 3 => 3 | 5 => 5 | 117 => 184 | 116 => 183 | 0 => 0 | 124 => 187 | 21 => 21 | 105 => 200 | 46 => 129 | 119 => 221 | 139 => 224 | 138 => 223 | n => n, fun | 3 => 7 | 4 => 8 | n => n⟩
theorem Tryz.lays160 : Go.Proofs.Lays.n160 Tryz.prog Tryz.lays160_ren := by
 refine ⟨?_, fx func228 ?_, fx func221 ?_, fx func130 ?_, fx func206 ?_, fx func220 ?_, fx func156 ?_, fx func205 ?_, fx func163 ?_, fx func192 ?_, fx func191 ?_, fx func182 ?_, fx func204 ?_, fx func180 ?_, fx func181 ?_, fx func183 ?_, fx func184 ?_, fx func185 ?_, fx func186 ?_, fx func219 ?_, fx func194 ?_, fx func207 ?_, underlying0, isAgg0, sizeOf0, zeroValue0, underlying3, isAgg3, sizeOf3, zeroValue3, underlying4, isAgg4, sizeOf4, zeroValue4, underlying5, isAgg5, sizeOf5, zeroValue5, underlying9, isAgg9, sizeOf9, zeroValue9, underlying21, isAgg21, sizeOf21, zeroValue21, underlying129, isAgg129, sizeOf129, zeroValue129, underlying200, isAgg200, sizeOf200, zeroValue200, underlying183, isAgg183, sizeOf183, underlying184, isAgg184, sizeOf184, zeroValue184, underlying221, isAgg221, sizeOf221, underlying187, isAgg187, sizeOf187, zeroValue187, underlying223, isAgg223, sizeOf223, zeroValue223, underlying224, isAgg224, sizeOf224, zeroValue224, ?_, ?_⟩ <;> kernel_rfl
open Go.RowKit in
theorem Tryz.strings_Trim_one (s : ByteArray) (c : UInt8) (hc : c.toNat < 128) (w : World) (hs : s.size ≤ 9223372036854775807) :
  Calls Tryz.prog 156 #[.string s, .string ⟨#[c]⟩] w fun e w' => e = .returned (.string ⟨(Lib.trimB s.data.toList c).toArray⟩) ∧ (w' = w ∨ w' = w.drew) := Any.strings_Trim_one Tryz.lays160 s c hc w hs
def Tryz.lays137_ren : Go.Shelf.Ren := ⟨fun | 137 => 130 | 217 => 163 | 266 => 194 | n => n, fun | 9 => 9 | 5 => 5 | 3 => 3 | n => n, fun | n => n⟩
theorem Tryz.lays137 : Go.Proofs.Lays.n137 Tryz.prog Tryz.lays137_ren := by
 refine ⟨?_, fx func130 ?_, fx func163 ?_, fx func194 ?_, underlying3, isAgg3, sizeOf3, zeroValue3, underlying5, isAgg5, sizeOf5, zeroValue5, underlying9, isAgg9, sizeOf9, zeroValue9⟩ <;> kernel_rfl
open Go.RowKit in
theorem Tryz.strings_IndexByte (s : ByteArray) (c : Int) (w : World) :
  Calls Tryz.prog 130 #[.string s, .int .u8 c] w fun e w' => e = .returned (.int .i64 (Lib.indexByte s.data.toList c.toNat.toUInt8)) ∧ w' = w := Any.strings_IndexByte Tryz.lays137 s c w
def Tryz.lays103_ren : Go.Shelf.Ren := ⟨fun | 103 => 128 | 210 => 161 | 206 => 121 | n => n, fun | 9 => 9 | 4 => 4 | 24 => 100 | 3 => 3 | n => n, fun | n => n⟩
theorem Tryz.lays103 : Go.Proofs.Lays.n103 Tryz.prog Tryz.lays103_ren := by
 refine ⟨?_, fx func128 ?_, fx func121 ?_, fx func161 ?_, underlying3, isAgg3, sizeOf3, zeroValue3, underlying4, isAgg4, sizeOf4, zeroValue4, underlying9, isAgg9, sizeOf9, zeroValue9, underlying100, isAgg100, sizeOf100, zeroValue100⟩ <;> kernel_rfl
open Go.RowKit in
theorem Tryz.strings_CutPrefix (s p : ByteArray) (w : World) :
  Calls Tryz.prog 128 #[.string s, .string p] w fun e w' => e = .returned (.tuple #[.string ⟨(Lib.trimPrefix s.data.toList p.data.toList).toArray⟩, .bool (Lib.hasPrefix s.data.toList p.data.toList)]) ∧ w' = w := Any.strings_CutPrefix Tryz.lays103 s p w
def Tryz.laysM171_ren : Go.Shelf.Ren := ⟨fun | 171 => 61 | 243 => 105 | 246 => 140 | 283 => 170 | 284 => 171 | 285 => 172 | 286 => 173 | 129 => 152 | 317 => 199 | 318 => 200 | 319 => 201 | 320 => 202 | 337 => 217 | 338 => 218 | n => n, fun | 3 => 3 | 9 => 9 | 2 => 2 | 4 => 4 | 171 => 171 | 0 => 0 | 53 => 124 | 37 => 111 | 5 => 5 | 173 => 173 | 212 => 195 | 51 => 161 | 20 => 20 | 213 => 196 | 46 => 129 | 232 => 219 | 233 => 220 | n => n, fun | 17 => 2 | 18 => 5 | 19 => 6 | n => n⟩
theorem Tryz.laysM171 : Go.Proofs.LaysM.n171 Tryz.prog Tryz.laysM171_ren := by
 refine { mixed := ?_, f129 := fx func152 ?_, f171 := fx func61 ?_, f243 := fx func105 ?_, f246 := fx func140 ?_, f283 := fx func170 ?_, f284 := fx func171 ?_, f285 := fx func172 ?_, f286 := fx func173 ?_, f317 := fx func199 ?_, f318 := fx func200 ?_, f319 := fx func201 ?_, f320 := fx func202 ?_, f337 := fx func217 ?_, f338 := fx func218 ?_, t0 := underlying0, a0 := isAgg0, z0 := sizeOf0, v0 := zeroValue0, t2 := underlying2, a2 := isAgg2, z2 := sizeOf2, v2 := zeroValue2, t3 := underlying3, a3 := isAgg3, z3 := sizeOf3, v3 := zeroValue3, t4 := underlying4, a4 := isAgg4, z4 := sizeOf4, v4 := zeroValue4, t5 := underlying5, a5 := isAgg5, z5 := sizeOf5, v5 := zeroValue5, t9 := underlying9, a9 := isAgg9, z9 := sizeOf9, v9 := zeroValue9, t20 := underlying20, a20 := isAgg20, z20 := sizeOf20, v20 := zeroValue20, t37 := underlying111, a37 := isAgg111, z37 := sizeOf111, v37 := zeroValue111, t46 := underlying129, a46 := isAgg129, z46 := sizeOf129, v46 := zeroValue129, t51 := underlying161, a51 := isAgg161, z51 := sizeOf161, v51 := zeroValue161, t53 := underlying124, a53 := isAgg124, z53 := sizeOf124, v53 := zeroValue124, t171 := underlying171, a171 := isAgg171, z171 := sizeOf171, v171 := zeroValue171, t173 := underlying173, a173 := isAgg173, z173 := sizeOf173, v173 := zeroValue173, t212 := underlying195, a212 := isAgg195, z212 := sizeOf195, v212 := zeroValue195, t213 := underlying196, a213 := isAgg196, z213 := sizeOf196, t232 := underlying219, a232 := isAgg219, z232 := sizeOf219, v232 := zeroValue219, t233 := underlying220, a233 := isAgg220, z233 := sizeOf220, v233 := zeroValue220, g17 := ?_, g18 := ?_, g19 := ?_, i0 := ?_, i2 := ?_, i3 := ?_, i4 := ?_, i5 := ?_, i9 := ?_, i20 := ?_, i37 := ?_, i46 := ?_, i51 := ?_, i53 := ?_, i171 := ?_, i173 := ?_, i212 := ?_, i232 := ?_, i233 := ?_, m17 := ?_, m18 := ?_, m19 := ?_ } <;> kernel_rfl
open Go.RowKit Go.Sort Go.Lib in
theorem Tryz.strconv_Itoa (n : Int) (h0 : -9223372036854775808 ≤ n) (h1 : n ≤ 9223372036854775807) (w : World) (htab : Lib.TabIs Tryz.prog w "internal/strconv.uint64pow10" .u64 Lib.pow10Tab) :
  Calls Tryz.prog 61 #[.int .i64 n] w fun e w' => e = .returned (.string ⟨(Lib.itoa n).toArray⟩) ∧ ∃ k os, w' = grow (w.drewN k) os := Any.strconv_Itoa Tryz.laysM171 n h0 h1 w htab
def Tryz.laysC172_ren : Go.Shelf.Ren := ⟨fun | 172 => 165 | 244 => 196 | 245 => 197 | 247 => 210 | 279 => 211 | 280 => 212 | 281 => 213 | 282 => 214 | 287 => 223 | 316 => 224 | 171 => 61 | 205 => 225 | 321 => 229 | 322 => 230 | 243 => 105 | 246 => 140 | 283 => 170 | 284 => 171 | 285 => 172 | 286 => 173 | 129 => 152 | 317 => 199 | 318 => 200 | 319 => 201 | 320 => 202 | 337 => 217 | 338 => 218 | n => n, fun | 9 => 9 | 3 => 3 | 75 => 140 | 76 => 166 | 4 => 4 | 5 => 5 | 167 => 205 | 37 => 111 | 0 => 0 | 85 => 206 | 2 => 2 | 168 => 208 | 53 => 124 | 175 => 214 | 46 => 129 | 210 => 217 | 127 => 165 | 145 => 229 | 143 => 227 | 21 => 21 | 171 => 171 | 173 => 173 | 212 => 195 | 51 => 161 | 20 => 20 | 213 => 196 | 232 => 219 | 233 => 220 | 80 => 142 | n => n, fun | 15 => 3 | 16 => 4 | 17 => 2 | 18 => 5 | 19 => 6 | n => n⟩
theorem Tryz.laysC172 : Go.Proofs.LaysC.n172 Tryz.prog Tryz.laysC172_ren := by
 refine { mixed := ?_, f129 := fx func152 ?_, f171 := fx func61 ?_, f172 := fx func165 ?_, f205 := fx func225 ?_, f243 := fx func105 ?_, f244 := fx func196 ?_, f245 := fx func197 ?_, f246 := fx func140 ?_, f247 := fx func210 ?_, f279 := fx func211 ?_, f280 := fx func212 ?_, f281 := fx func213 ?_, f282 := fx func214 ?_, f283 := fx func170 ?_, f284 := fx func171 ?_, f285 := fx func172 ?_, f286 := fx func173 ?_, f287 := fx func223 ?_, f316 := fx func224 ?_, f317 := fx func199 ?_, f318 := fx func200 ?_, f319 := fx func201 ?_, f320 := fx func202 ?_, f321 := fx func229 ?_, f322 := fx func230 ?_, f337 := fx func217 ?_, f338 := fx func218 ?_, t0 := underlying0, a0 := isAgg0, z0 := sizeOf0, v0 := zeroValue0, t2 := underlying2, a2 := isAgg2, z2 := sizeOf2, v2 := zeroValue2, t3 := underlying3, a3 := isAgg3, z3 := sizeOf3, v3 := zeroValue3, t4 := underlying4, a4 := isAgg4, z4 := sizeOf4, v4 := zeroValue4, t5 := underlying5, a5 := isAgg5, z5 := sizeOf5, v5 := zeroValue5, t9 := underlying9, a9 := isAgg9, z9 := sizeOf9, v9 := zeroValue9, t20 := underlying20, a20 := isAgg20, z20 := sizeOf20, v20 := zeroValue20, t21 := underlying21, a21 := isAgg21, z21 := sizeOf21, v21 := zeroValue21, t37 := underlying111, a37 := isAgg111, z37 := sizeOf111, v37 := zeroValue111, t46 := underlying129, a46 := isAgg129, z46 := sizeOf129, v46 := zeroValue129, t51 := underlying161, a51 := isAgg161, z51 := sizeOf161, v51 := zeroValue161, t53 := underlying124, a53 := isAgg124, z53 := sizeOf124, v53 := zeroValue124, t75 := underlying140, a75 := isAgg140, z75 := sizeOf140, v75 := zeroValue140, t76 := underlying166, a76 := isAgg166, z76 := sizeOf166, v76 := zeroValue166, t85 := underlying206, a85 := isAgg206, z85 := sizeOf206, v85 := zeroValue206, t127 := underlying165, a127 := isAgg165, z127 := sizeOf165, v127 := zeroValue165, t143 := underlying227, a143 := isAgg227, z143 := sizeOf227, v143 := zeroValue227, t145 := underlying229, a145 := isAgg229, z145 := sizeOf229, v145 := zeroValue229, t167 := underlying205, a167 := isAgg205, z167 := sizeOf205, v167 := zeroValue205, t168 := underlying208, a168 := isAgg208, z168 := sizeOf208, v168 := zeroValue208, t171 := underlying171, a171 := isAgg171, z171 := sizeOf171, v171 := zeroValue171, t173 := underlying173, a173 := isAgg173, z173 := sizeOf173, v173 := zeroValue173, t175 := underlying214, a175 := isAgg214, z175 := sizeOf214, v175 := zeroValue214, t210 := underlying217, a210 := isAgg217, z210 := sizeOf217, v210 := zeroValue217, t212 := underlying195, a212 := isAgg195, z212 := sizeOf195, v212 := zeroValue195, t213 := underlying196, a213 := isAgg196, z213 := sizeOf196, t232 := underlying219, a232 := isAgg219, z232 := sizeOf219, v232 := zeroValue219, t233 := underlying220, a233 := isAgg220, z233 := sizeOf220, v233 := zeroValue220, g15 := ?_, g16 := ?_, g17 := ?_, g18 := ?_, g19 := ?_, t80 := underlying142, a80 := isAgg142, z80 := sizeOf142, v80 := zeroValue142, i0 := ?_, i2 := ?_, i3 := ?_, i4 := ?_, i5 := ?_, i9 := ?_, i20 := ?_, i21 := ?_, i37 := ?_, i46 := ?_, i51 := ?_, i53 := ?_, i75 := ?_, i76 := ?_, i80 := ?_, i85 := ?_, i127 := ?_, i143 := ?_, i145 := ?_, i167 := ?_, i168 := ?_, i171 := ?_, i173 := ?_, i175 := ?_, i210 := ?_, i212 := ?_, i232 := ?_, i233 := ?_, m15 := ?_, m16 := ?_, m17 := ?_, m18 := ?_, m19 := ?_, c0 := ?_, c2 := ?_, c3 := ?_, c4 := ?_, c5 := ?_, c9 := ?_, c20 := ?_, c21 := ?_, c37 := ?_, c46 := ?_, c51 := ?_, c53 := ?_, c75 := ?_, c76 := ?_, c80 := ?_, c85 := ?_, c127 := ?_, c143 := ?_, c145 := ?_, c167 := ?_, c168 := ?_, c171 := ?_, c173 := ?_, c175 := ?_, c210 := ?_, c212 := ?_, c213 := ?_, c232 := ?_, c233 := ?_ } <;> kernel_rfl
open Go.RowKit in
theorem Tryz.strconv_Atoi_ok (s : ByteArray) (hmax : s.size ≤ 9223372036854775806) (v : Int) (h : Lib.atoiAll s.data.toList = .ok v) (w : World) :
  Calls Tryz.prog 165 #[.string s] w fun e w' => e = .returned (.tuple #[.int .i64 v, .nilIface]) ∧ (w' = w ∨ ∃ t, w' = Lib.bytesWorld w 5 t) := Any.strconv_Atoi_ok Tryz.laysC172 s hmax v h w
open Go.RowKit in
theorem Tryz.strconv_Atoi_range (s : ByteArray) (hlim : s.size ≤ 281474976710656) (h : Lib.atoiAll s.data.toList = .range) (ev : Value) (w : World) (hv : w.cell? ⟨4, 0, none⟩ = some ev) (hev : ev = .nilIface ∨ ∃ te pe, ev = .iface te pe) :
  Calls Tryz.prog 165 #[.string s] w fun e w' => ∃ N, e = .returned (.tuple #[.int .i64 (Lib.atoiSat s.data.toList), .iface 208 (.pointer (some ⟨N, 0, none⟩))]) ∧ w.heap.size ≤ N ∧ w'.heap[N]? = some (.cells #[.string ⟨#[65, 116, 111, 105]⟩, .string s, ev] 217 (0, 0)) ∧ Below w.heap.size w w' := Any.strconv_Atoi_range Tryz.laysC172 s hlim h ev w hv hev
def Tryz.lays144_ren : Go.Shelf.Ren := ⟨fun | 144 => 94 | 143 => 129 | 219 => 162 | 217 => 163 | 225 => 191 | 224 => 192 | 267 => 193 | 266 => 194 | 314 => 209 | n => n, fun | 9 => 9 | 4 => 4 | 3 => 3 | 5 => 5 | 46 => 129 | 146 => 203 | 51 => 161 | n => n, fun | 1 => 1 | n => n⟩
theorem Tryz.lays144 : Go.Proofs.Lays.n144 Tryz.prog Tryz.lays144_ren := by
 refine ⟨?_, fx func129 ?_, fx func94 ?_, fx func163 ?_, fx func162 ?_, fx func192 ?_, fx func191 ?_, fx func194 ?_, fx func193 ?_, fx func209 ?_, underlying3, isAgg3, sizeOf3, zeroValue3, underlying4, isAgg4, sizeOf4, zeroValue4, underlying5, isAgg5, sizeOf5, zeroValue5, underlying9, isAgg9, sizeOf9, zeroValue9, underlying129, isAgg129, sizeOf129, zeroValue129, underlying161, isAgg161, sizeOf161, zeroValue161, underlying203, isAgg203, sizeOf203, zeroValue203, ?_⟩ <;> kernel_rfl
open Go.RowKit Go.Lib in
theorem Tryz.strings_Contains (s sub : ByteArray) (m : Int) (w : World) (hs : s.size < 4294967281) (hm : w.cell? ⟨1, 0, none⟩ = some (.int .i64 m)) :
  Calls Tryz.prog 94 #[.string s, .string sub] w fun e w' => e = .returned (.bool (Lib.contains s.data.toList sub.data.toList)) ∧ w' = w := Any.strings_Contains Tryz.lays144 s sub m w hs hm
def Tryz.lays145_ren : Go.Shelf.Ren := ⟨fun | 145 => 127 | 220 => 160 | 219 => 162 | 217 => 163 | 225 => 191 | 224 => 192 | 267 => 193 | 266 => 194 | 314 => 209 | n => n, fun | 9 => 9 | 4 => 4 | 59 => 143 | 3 => 3 | 5 => 5 | 46 => 129 | 146 => 203 | 51 => 161 | n => n, fun | 1 => 1 | n => n⟩
theorem Tryz.lays145 : Go.Proofs.Lays.n145 Tryz.prog Tryz.lays145_ren := by
 refine ⟨?_, fx func127 ?_, fx func163 ?_, fx func162 ?_, fx func160 ?_, fx func192 ?_, fx func191 ?_, fx func194 ?_, fx func193 ?_, fx func209 ?_, underlying3, isAgg3, sizeOf3, zeroValue3, underlying4, isAgg4, sizeOf4, zeroValue4, underlying5, isAgg5, sizeOf5, zeroValue5, underlying9, isAgg9, sizeOf9, zeroValue9, underlying129, isAgg129, sizeOf129, zeroValue129, underlying161, isAgg161, sizeOf161, zeroValue161, underlying143, isAgg143, sizeOf143, zeroValue143, underlying203, isAgg203, sizeOf203, zeroValue203, ?_⟩ <;> kernel_rfl
open Go.RowKit Go.Lib in
theorem Tryz.strings_Cut (s sep : ByteArray) (m : Int) (w : World) (hs : s.size < 4294967281) (hm : w.cell? ⟨1, 0, none⟩ = some (.int .i64 m)) :
  Calls Tryz.prog 127 #[.string s, .string sep] w fun e w' => e = .returned (.tuple #[.string ⟨(Lib.cut s.data.toList sep.data.toList).1.toArray⟩, .string ⟨(Lib.cut s.data.toList sep.data.toList).2.1.toArray⟩, .bool (Lib.cut s.data.toList sep.data.toList).2.2]) ∧ ∃ n, w' = w.drewN n := Any.strings_Cut Tryz.lays145 s sep m w hs hm
def Tryz.lays190_ren : Go.Shelf.Ren := ⟨fun | 190 => 69 | 125 => 114 | 258 => 113 | 128 => 151 | 129 => 152 | 302 => 142 | 303 => 143 | 304 => 144 | 305 => 145 | 306 => 146 | 307 => 147 | 308 => 148 | 309 => 149 | 310 => 150 | 333 => 174 | 329 => 175 | 330 => 176 | 334 => 177 | 335 => 178 | 336 => 179 | 344 => 203 | n => n, fun | 31 => 50 | 9 => 9 | 3 => 3 | 46 => 129 | 0 => 0 | 51 => 161 | 53 => 124 | 4 => 4 | 183 => 155 | 182 => 154 | 131 => 158 | 5 => 5 | 218 => 175 | 222 => 179 | 228 => 197 | 229 => 198 | n => n, fun | n => n⟩
theorem Tryz.lays190 : Go.Proofs.Lays.n190 Tryz.prog Tryz.lays190_ren := by
 refine ⟨?_, fx func114 ?_, fx func151 ?_, fx func152 ?_, fx func69 ?_, fx func113 ?_, fx func142 ?_, fx func143 ?_, fx func144 ?_, fx func145 ?_, fx func146 ?_, fx func147 ?_, fx func148 ?_, fx func149 ?_, fx func150 ?_, fx func175 ?_, fx func176 ?_, fx func174 ?_, fx func177 ?_, fx func178 ?_, fx func179 ?_, fx func203 ?_, underlying0, isAgg0, sizeOf0, zeroValue0, underlying3, isAgg3, sizeOf3, zeroValue3, underlying4, isAgg4, sizeOf4, zeroValue4, underlying5, isAgg5, sizeOf5, zeroValue5, underlying9, isAgg9, sizeOf9, zeroValue9, underlying50, isAgg50, sizeOf50, zeroValue50, underlying129, isAgg129, sizeOf129, zeroValue129, underlying161, isAgg161, sizeOf161, zeroValue161, underlying124, isAgg124, sizeOf124, zeroValue124, underlying158, isAgg158, sizeOf158, zeroValue158, underlying154, isAgg154, sizeOf154, zeroValue154, underlying155, isAgg155, sizeOf155, zeroValue155, underlying175, isAgg175, sizeOf175, zeroValue175, underlying179, isAgg179, sizeOf179, zeroValue179, underlying197, isAgg197, sizeOf197, zeroValue197, underlying198, isAgg198, sizeOf198, zeroValue198⟩ <;> kernel_rfl
open Go.Sort Go.RowKit in
theorem Tryz.slices_Sort_string (blk off cap : Nat) (ss : List (List UInt8)) (w : World) (hH : Holds encStr w blk off ss.toArray) (hblk : blk < w.heap.size) (hsz : ss.length < 4611686018427387904) :
  Calls Tryz.prog 69 #[.slice (some ⟨blk, off, none⟩) ss.length cap] w fun e w' =>
   e = .returned (.tuple #[]) ∧ ∃ n os, w' = grow (putRow encStr (Sort.ahead w n) blk off (ss.mergeSort fun x y => decide (x ≤ y)).toArray) os := Any.slices_Sort_string Tryz.lays190 blk off cap ss w hH hblk hsz
def Tryz.lays149_ren : Go.Shelf.Ren := ⟨fun | 149 => 116 | 222 => 153 | n => n, fun | 9 => 9 | 5 => 5 | 3 => 3 | 4 => 4 | n => n, fun | n => n⟩
theorem Tryz.lays149 : Go.Proofs.Lays.n149 Tryz.prog Tryz.lays149_ren := by
 refine ⟨?_, fx func116 ?_, fx func153 ?_, underlying3, isAgg3, sizeOf3, zeroValue3, underlying4, isAgg4, sizeOf4, zeroValue4, underlying5, isAgg5, sizeOf5, zeroValue5, underlying9, isAgg9, sizeOf9, zeroValue9⟩ <;> kernel_rfl
open Go.RowKit Go.Lib in
theorem Tryz.strings_LastIndexByte (s : ByteArray) (c : Int) (hs : s.size < 4611686018427387904) (w : World) :
  Calls Tryz.prog 116 #[.string s, .int .u8 c] w fun e w' => e = .returned (.int .i64 (Lib.lastIndexByte s c)) ∧ w' = w := Any.strings_LastIndexByte Tryz.lays149 s c hs w
def Tryz.lays99_ren : Go.Shelf.Ren := ⟨fun | 99 => 82 | 206 => 121 | n => n, fun | 9 => 9 | 4 => 4 | 3 => 3 | n => n, fun | n => n⟩
theorem Tryz.lays99 : Go.Proofs.Lays.n99 Tryz.prog Tryz.lays99_ren := by
 refine ⟨?_, fx func82 ?_, fx func121 ?_, underlying3, isAgg3, sizeOf3, zeroValue3, underlying4, isAgg4, sizeOf4, zeroValue4, underlying9, isAgg9, sizeOf9, zeroValue9⟩ <;> kernel_rfl
open Go.RowKit Go.Lib in
theorem Tryz.strings_HasPrefix (s p : ByteArray) (w : World) :
  Calls Tryz.prog 82 #[.string s, .string p] w fun e w' => e = .returned (.bool (Lib.hasPrefix s.data.toList p.data.toList)) ∧ w' = w := Any.strings_HasPrefix Tryz.lays99 s p w
def Tryz.lays101_ren : Go.Shelf.Ren := ⟨fun | 101 => 164 | 208 => 195 | 206 => 121 | n => n, fun | 9 => 9 | 4 => 4 | 3 => 3 | n => n, fun | n => n⟩
theorem Tryz.lays101 : Go.Proofs.Lays.n101 Tryz.prog Tryz.lays101_ren := by
 refine ⟨?_, fx func164 ?_, fx func121 ?_, fx func195 ?_, underlying3, isAgg3, sizeOf3, zeroValue3, underlying4, isAgg4, sizeOf4, zeroValue4, underlying9, isAgg9, sizeOf9, zeroValue9⟩ <;> kernel_rfl
open Go.RowKit Go.Lib in
theorem Tryz.strings_TrimPrefix (s p : ByteArray) (w : World) :
  Calls Tryz.prog 164 #[.string s, .string p] w fun e w' => e = .returned (.string ⟨(Lib.trimPrefix s.data.toList p.data.toList).toArray⟩) ∧ w' = w := Any.strings_TrimPrefix Tryz.lays101 s p w
def Tryz.lays146_ren : Go.Shelf.Ren := ⟨fun | 146 => 166 | 221 => 198 | 268 => 215 | 138 => 216 | 143 => 129 | 195 => 226 | 197 => 205 | 218 => 227 | 219 => 162 | 260 => 219 | 217 => 163 | 225 => 191 | 224 => 192 | 267 => 193 | 266 => 194 | 314 => 209 | n => n, fun | 9 => 9 | 31 => 50 | 3 => 3 | 4 => 4 | 0 => 0 | 105 => 200 | 21 => 21 | 5 => 5 | 46 => 129 | 119 => 221 | 139 => 224 | 138 => 223 | 146 => 203 | 51 => 161 | n => n, fun | 1 => 1 | 3 => 7 | 4 => 8 | n => n⟩
theorem Tryz.lays146 : Go.Proofs.Lays.n146 Tryz.prog Tryz.lays146_ren := by
 refine ⟨?_, fx func216 ?_, fx func129 ?_, fx func166 ?_, fx func226 ?_, fx func205 ?_, fx func163 ?_, fx func227 ?_, fx func162 ?_, fx func198 ?_, fx func192 ?_, fx func191 ?_, fx func219 ?_, fx func194 ?_, fx func193 ?_, fx func215 ?_, fx func209 ?_, underlying0, isAgg0, sizeOf0, zeroValue0, underlying3, isAgg3, sizeOf3, zeroValue3, underlying4, isAgg4, sizeOf4, zeroValue4, underlying5, isAgg5, sizeOf5, zeroValue5, underlying9, isAgg9, sizeOf9, zeroValue9, underlying21, isAgg21, sizeOf21, zeroValue21, underlying50, isAgg50, sizeOf50, zeroValue50, underlying129, isAgg129, sizeOf129, zeroValue129, underlying161, isAgg161, sizeOf161, zeroValue161, underlying200, isAgg200, sizeOf200, zeroValue200, underlying221, isAgg221, sizeOf221, underlying223, isAgg223, sizeOf223, zeroValue223, underlying224, isAgg224, sizeOf224, zeroValue224, underlying203, isAgg203, sizeOf203, zeroValue203, ?_, ?_, ?_⟩ <;> kernel_rfl
open Go.RowKit Go.Lib in
theorem Tryz.strings_Split (s sep : ByteArray) (m : Int) (w : World) (hs : s.size < 4294967281) (hm : w.cell? ⟨1, 0, none⟩ = some (.int .i64 m)) (h1 : 1 ≤ sep.size) :
  Calls Tryz.prog 166 #[.string s, .string sep] w fun e w' =>
   e = .returned (.slice (some ⟨w.heap.size, 0, none⟩) (Lib.countB s sep + 1) (Lib.countB s sep + 1)) ∧ w' = w.alloc (.cells ((Lib.splitB sep 0 (Lib.countB s sep) s).map Value.string).toArray 9) := Any.strings_Split Tryz.lays146 (by kernel_rfl) s sep m w hs hm h1
open Go.RowKit Go.Sort in
theorem Tryz.slices_Sort_string_none (p : Option Addr) (cap : Nat) (w : World) :
  Calls Tryz.prog 69 #[.slice p 0 cap] w fun e w' => e = .returned (.tuple #[]) ∧ w' = w := Any.slices_Sort_string_none Tryz.lays190 p cap w
end Go.Proofs
