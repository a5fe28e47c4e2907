import Derived.Test.YthepmnlpfhmddaaGreatDoorG03
import Derived.Test.YthepmnlpfhmddaaGreatDoorG04
import Derived.Test.YthepmnlpfhmddaaGreatDoorG02
import Derived.Shelf.Strings.BuilderK
import Derived.Lib.AtoiAll
import Derived.Lib.ItoaNum
import Derived.Lib.Strings
set_option linter.unusedVariables false
set_option linter.unusedSimpArgs false
set_option linter.unnecessarySimpa false
namespace Go.Proofs
open Go Go.Id
theorem below_drewN (w : World) (n : Nat) : RowKit.Below w.heap.size w (w.drewN n) := ⟨rfl, rfl, rfl, Nat.le_refl _, fun _ _ => rfl⟩
theorem below_drew (w : World) : RowKit.Below w.heap.size w w.drew := ⟨rfl, rfl, rfl, Nat.le_refl _, fun _ _ => rfl⟩
theorem lib_contains (s t : List UInt8) (hs : s.length < 4294967281) : CallP Pr 94 [.str s, .str t] (.bool (Lib.contains s t)) :=
 .str2 (bodied_of Tryz.func94 (by kernel_rfl) (by kernel_rfl)) fun M w b c hb hc hI hn hM => by
  obtain ⟨⟨m, hm⟩, _⟩ := hI
  refine (Tryz.strings_Contains b c m w (by rw [size_list, hb]; exact hs) hm).mono ?_
  rintro e w' ⟨rfl, rfl⟩
  exact ⟨_, rfl, .refl _ _, by rw [hb, hc]; exact .bool _⟩
theorem lib_trimPrefix (s t : List UInt8) : CallP Pr 164 [.str s, .str t] (.str (Lib.trimPrefix s t)) :=
 .str2 (bodied_of Tryz.func164 (by kernel_rfl) (by kernel_rfl)) fun M w b c hb hc hI hn hM => by
  refine (Tryz.strings_TrimPrefix b c w).mono ?_
  rintro e w' ⟨rfl, rfl⟩
  exact ⟨_, rfl, .refl _ _, by rw [hb, hc]; exact rep_strOf _⟩
theorem lib_indexByte (s : List UInt8) (n : Int) : CallP Pr 130 [.str s, .int .u8 n] (.int .i64 (Lib.indexByte s n.toNat.toUInt8)) :=
 .strInt (bodied_of Tryz.func130 (by kernel_rfl) (by kernel_rfl)) fun M w b hb hI hn hM => by
  refine (Tryz.strings_IndexByte b n w).mono ?_
  rintro e w' ⟨rfl, rfl⟩
  exact ⟨_, rfl, .refl _ _, by rw [hb]; exact .int _ _⟩
theorem lib_trim (s : List UInt8) (c : UInt8) (hc : c.toNat < 128) (hs : s.length ≤ 9223372036854775807) : CallP Pr 156 [.str s, .str [c]] (.str (Lib.trimB s c)) :=
 .str2 (bodied_of Tryz.func156 (by kernel_rfl) (by kernel_rfl)) fun M w b d hb hd hI hn hM => by
  obtain ⟨⟨l⟩⟩ := d
  simp only at hd
  subst hd
  refine (Tryz.strings_Trim_one b c hc w (by rw [size_list, hb]; exact hs)).mono ?_
  rintro e w' ⟨rfl, rfl | rfl⟩
  ·exact ⟨_, rfl, .refl _ _, by rw [hb]; exact rep_strOf _⟩
  ·exact ⟨_, rfl, below_drew _, by rw [hb]; exact rep_strOf _⟩
def splitL (s t : List UInt8) : List (List UInt8) := (Lib.splitB ⟨t.toArray⟩ 0 (Lib.countB ⟨s.toArray⟩ ⟨t.toArray⟩) ⟨s.toArray⟩).map (·.data.toList)
def atoiD (s : List UInt8) : D :=
 match Lib.atoiAll s with
 | .ok v => .tup [.int .i64 v, .niliface]
 | .range => .tup [.int .i64 (Lib.atoiSat s), .iface 208 .junk]
 | _ => .tup [.int .i64 0, .iface 208 .junk]
theorem rep_two {M : Nat → Nat → Prop} {γ : Nat → Option G} {w : World} {a b : D} {x y : Value} (h1 : Rep M γ w a x) (h2 : Rep M γ w b y) : Rep M γ w (.tup [a, b]) (.tuple #[x, y]) :=
 .tup rfl fun i d v q1 q2 => by
  match i with
  | 0 => simp at q1 q2; subst q1; subst q2; exact h1
  | 1 => simp at q1 q2; subst q1; subst q2; exact h2
  | i + 2 => simp at q1
theorem lib_atoi (s : List UInt8) (hs : s.length ≤ 281474976710656) : CallP Pr 165 [.str s] (atoiD s) :=
 .str1 (bodied_of Tryz.func165 (by kernel_rfl) (by kernel_rfl)) fun M w b hb hI hn hM => by
  obtain ⟨_, _, ⟨t1, p1, h1⟩, ⟨t2, p2, h2⟩, _⟩ := hI
  subst hb
  have hs' : b.size ≤ 281474976710656 := hs
  unfold atoiD
  cases h : Lib.atoiAll b.data.toList with
  | ok v =>
   refine (Tryz.strconv_Atoi_ok b (by omega) v h w).mono ?_
   rintro e w' ⟨rfl, rfl | ⟨t, rfl⟩⟩
   ·exact ⟨_, rfl, .refl _ _, rep_two (.int _ _) .niliface⟩
   ·exact ⟨_, rfl, Lib.bytesWorld_below _ _ _, rep_two (.int _ _) .niliface⟩
  | range =>
   refine (Tryz.strconv_Atoi_range b hs' h _ w h2 (.inr ⟨_, _, rfl⟩)).mono ?_
   rintro e w' ⟨N, rfl, _, _, hbl⟩
   exact ⟨_, rfl, hbl, rep_two (.int _ _) (.iface (.junk _))⟩
  | _ =>
   refine (Any.strconv_Atoi_syntax Tryz.laysC172 b hs' h _ w h1 (.inr ⟨_, _, rfl⟩)).mono ?_
   rintro e w' ⟨N, rfl, _, _, hbl⟩
   exact ⟨_, rfl, hbl, rep_two (.int _ _) (.iface (.junk _))⟩
theorem below_grow (w : World) (k : Nat) (os : Array Obj) : RowKit.Below w.heap.size w (Sort.grow (w.drewN k) os) :=
 ⟨rfl, rfl, rfl, by simp only [Sort.grow, Array.size_append]; exact Nat.le_add_right _ _, fun k hk => by simp only [Sort.grow]; exact Array.getElem?_append_left hk⟩
theorem lib_itoa (n : Int) (h0 : -9223372036854775808 ≤ n) (h1 : n ≤ 9223372036854775807) : CallP Pr 61 [.int .i64 n] (.str (Lib.itoa n)) :=
 .int1 (bodied_of Tryz.func61 (by kernel_rfl) (by kernel_rfl)) fun M w hI hn hM => by
  refine (Tryz.strconv_Itoa n h0 h1 w hI.2.1).mono ?_
  rintro e w' ⟨rfl, k, os, rfl⟩
  exact ⟨_, rfl, below_grow w k os, rep_strOf _⟩
theorem lib_join (ls : List (List UInt8)) (nil : Bool) (t : List UInt8) (hn : ls.length ≤ 140737488355328) (hl : (Lib.join ls t).length ≤ 140737488355328) : CallP Pr 159 [.slice 1 nil (ls.map fun s => [.str s]) none, .str t] (.str (Lib.join ls t)) := by
 refine .quiet (bodied_of Tryz.func159 (by kernel_rfl) (by kernel_rfl)) fun M w vs hI hnn hlen hM hr => ?_
 match vs, hlen with
 | [v, v'], _ =>
  obtain ⟨c, rfl, rfl⟩ := inv_str (hr 1 _ _ rfl rfl)
  have h0 := hr 0 _ _ rfl rfl
  rcases rep_slice_cells h0 with ⟨rfl, hnil, _⟩ | ⟨a, cap, us, rfl, _, hspot, hvs, hcap, hsz, hc, hrr, _⟩
  ·have : ls = [] := by simpa using hnil
   subst this
   refine (Tryz.strings_Join_none none 0 c w).mono ?_
   rintro e w' ⟨rfl, rfl⟩
   exact ⟨_, rfl, .refl _ _, rep_strOf []⟩
  ·by_cases hls : ls = []
   ·subst hls
    refine (Tryz.strings_Join_none (some a) cap c w).mono ?_
    rintro e w' ⟨rfl, rfl⟩
    exact ⟨_, rfl, .refl _ _, rep_strOf []⟩
   obtain ⟨bk, o, sp⟩ := a
   have hspot := hspot (by simpa using hls)
   simp only at hspot
   subst hspot
   simp only [List.length_map, Nat.mul_one] at hvs hcap
   have hget : ∀ (j : Nat) s, ls[j]? = some s → us[j]? = some (.string ⟨s.toArray⟩) := by
    intro j s hs
    have hlt : j < us.length := by rw [hvs]; exact (List.getElem?_eq_some_iff.1 hs).1
    have h3 := hrr j 0 [.str s] (.str s) us[j] (by simp [hs]) rfl (by simp [hlt])
    obtain ⟨b, hb, hb2⟩ := inv_str h3
    rw [List.getElem?_eq_getElem hlt, hb, ← hb2]
   ·have hmm : (ls.map fun s => (⟨s.toArray⟩ : ByteArray)).map (·.data.toList) = ls := by rw [List.map_map]; exact List.map_id ls
    have hcells : ∀ (j : Nat) x, (ls.map fun s => (⟨s.toArray⟩ : ByteArray))[j]? = some x → w.cell? ⟨bk, o + j, none⟩ = some (.string x) := by
     intro j x hx
     rw [List.getElem?_map, Option.map_eq_some_iff] at hx
     obtain ⟨s, hs, rfl⟩ := hx
     exact (hc j _ (hget j s hs)).1
    have hbk : bk < w.heap.size := by
     obtain ⟨s, hs⟩ : ∃ s, ls[0]? = some s := ⟨_, List.getElem?_eq_getElem (List.length_pos_iff.2 hls)⟩
     exact cell_lt (hc 0 _ (hget 0 s hs)).1
    have := Tryz.strings_Join bk o cap (ls.map fun s => (⟨s.toArray⟩ : ByteArray)) c w hcells hbk (by simpa using hn) (by simpa using hcap) (by rw [hmm]; exact hl)
    rw [hmm] at this
    simp only [List.length_map] at this ⊢
    refine this.mono ?_
    rintro e w' ⟨rfl, hbl⟩
    exact ⟨_, rfl, hbl, rep_strOf _⟩
end Go.Proofs
namespace Go.Proofs
open Go.Shelf Go.RowKit
variable {P : Program} {ρ : Ren}
set_option maxHeartbeats 2000000 in
set_option maxRecDepth 100000 in
theorem bld_string_exact (L : Lays.n169 P ρ) (X : Builder.Extra P ρ) (b g cap : Nat) (l : List UInt8) (cur : Array Value) (w : World) (hc1 : w.cell? ⟨b, 1, none⟩ = some (.slice (some ⟨g, 0, none⟩) l.length cap))
  (hg : w.heap[g]? = some (.cells cur (ρ.t 5) (0, 0))) (hnc : l.length ≤ cap) (hcm : cap ≤ maxLen) (hcs : cur.size = cap * 1) (htake : cur.toList.take l.length = Lib.byteCells l) (h0 : l ≠ []) :
  Calls P (ρ.f 169) #[.pointer (some ⟨b, 0, none⟩)] w fun e w' => e = .returned (.string ⟨l.toArray⟩) ∧ w' = w.drew.freeze ⟨g, 0, none⟩ l.length := by
 have hl0 : l.length ≠ 0 := by simpa using h0
 have c1 : w.drew.cell? ⟨b, 1, none⟩ = some (.slice (some ⟨g, 0, none⟩) l.length cap) := hc1
 have hSD : (Builtin.unsafeSliceData_ #[(ρ.t 37)] (ρ.t 127) #[.slice (some ⟨g, 0, none⟩) l.length cap]).run P w.drew = .ok (.pointer (some ⟨g, 0, none⟩)) w.drew :=
  Lib.run_unsafeSliceData_row _ _ _ _ _ _ (by omega)
 have hUS : (Builtin.unsafeString_ #[(ρ.t 127), (ρ.t 3)] (ρ.t 9) #[.pointer (some ⟨g, 0, none⟩), .int .i64 l.length]).run P w.drew = .ok (.string ⟨l.toArray⟩) (w.drew.freeze ⟨g, 0, none⟩ l.length) := by
  refine Lib.run_unsafeString_row w.drew (ρ.t 127) (ρ.t 3) (ρ.t 9) (ρ.t 5) L.t127 X.cellsByte g cur.size (by have hg' : w.drew.heap[g]? = some (.cells cur (ρ.t 5) (0, 0)) := hg; simp [World.shape?, hg']) l h0 (by omega) (by unfold maxLen at hcm; omega) ?_
  intro j x hx
  have e1 : (Lib.byteCells l)[j]? = some (.int .u8 x.toNat) := by simp [Lib.byteCells, hx]
  rw [← htake, List.getElem?_take] at e1
  split at e1
  ·have hg' : w.drew.heap[g]? = some (.cells cur (ρ.t 5) (0, 0)) := hg
   rw [Addr.add_lit, Nat.zero_add, Lib.cell_of_heap hg']
   simpa using e1
  ·cases e1
 have mixed := L.mixed
 have t72 := L.t72; have a72 := L.a72; have z72 := L.z72; have v72 := L.v72; have u72 := run_underlying L.t72
 have t70 := L.t70; have a70 := L.a70; have z70 := L.z70; have v70 := L.v70; have u70 := run_underlying L.t70
 have t37 := L.t37; have a37 := L.a37; have z37 := L.z37; have v37 := L.v37; have u37 := run_underlying L.t37
 have t127 := L.t127; have a127 := L.a127; have z127 := L.z127; have v127 := L.v127; have u127 := run_underlying L.t127
 have t3 := L.t3; have a3 := L.a3; have z3 := L.z3; have v3 := L.v3; have u3 := run_underlying L.t3
 have t9 := L.t9; have a9 := L.a9; have z9 := L.z9; have v9 := L.v9; have u9 := run_underlying L.t9
 have t5 := X.t5; have a5 := X.a5; have z5 := X.z5; have v5 := X.v5; have u5 := run_underlying X.t5
 go_enter L.f169, Body.n169_ntmps ρ
 go_wp2
 go_region_o
 all_goals (go_wp2; go_ret; exact ⟨rfl, rfl⟩)
set_option maxHeartbeats 2000000 in
set_option maxRecDepth 100000 in
theorem bld_string_nil (L : Lays.n169 P ρ) (X : Builder.Extra P ρ) (b : Nat) (w : World) (hc1 : w.cell? ⟨b, 1, none⟩ = some (.slice none 0 0)) :
  Calls P (ρ.f 169) #[.pointer (some ⟨b, 0, none⟩)] w fun e w' => e = .returned (.string ⟨#[]⟩) ∧ w' = w.drew := by
 have hUS := Any.unsafeString_none L X
 have c1 : w.drew.cell? ⟨b, 1, none⟩ = some (.slice none 0 0) := hc1
 have hSD : (Builtin.unsafeSliceData_ #[(ρ.t 37)] (ρ.t 127) #[.slice none 0 0]).run P w.drew = .ok (.pointer none) w.drew := rfl
 have mixed := L.mixed
 have t72 := L.t72; have a72 := L.a72; have z72 := L.z72; have v72 := L.v72; have u72 := run_underlying L.t72
 have t70 := L.t70; have a70 := L.a70; have z70 := L.z70; have v70 := L.v70; have u70 := run_underlying L.t70
 have t37 := L.t37; have a37 := L.a37; have z37 := L.z37; have v37 := L.v37; have u37 := run_underlying L.t37
 have t127 := L.t127; have a127 := L.a127; have z127 := L.z127; have v127 := L.v127; have u127 := run_underlying L.t127
 have t3 := L.t3; have a3 := L.a3; have z3 := L.z3; have v3 := L.v3; have u3 := run_underlying L.t3
 have t9 := L.t9; have a9 := L.a9; have z9 := L.z9; have v9 := L.v9; have u9 := run_underlying L.t9
 have t5 := X.t5; have a5 := X.a5; have z5 := X.z5; have v5 := X.v5; have u5 := run_underlying X.t5
 go_enter L.f169, Body.n169_ntmps ρ
 go_wp2
 go_region_o
 all_goals (go_wp2; go_ret; exact ⟨rfl, rfl⟩)
def Tryz.ren240 : Ren := ⟨fun | 240 => 158 | 276 => 188 | n => n, fun | 72 => 138 | 70 => 136 | 37 => 111 | 164 => 189 | n => n, fun n => n⟩
theorem Tryz.lays240 : Lays.n240 Tryz.prog Tryz.ren240 where
 mixed := by kernel_rfl
 f240 := by kernel_rfl
 f276 := by kernel_rfl
 t0 := Tryz.underlying0
 a0 := Tryz.isAgg0
 z0 := Tryz.sizeOf0
 v0 := Tryz.zeroValue0
 t4 := Tryz.underlying4
 a4 := Tryz.isAgg4
 z4 := Tryz.sizeOf4
 v4 := Tryz.zeroValue4
 t9 := Tryz.underlying9
 a9 := Tryz.isAgg9
 z9 := Tryz.sizeOf9
 v9 := Tryz.zeroValue9
 t20 := Tryz.underlying20
 a20 := Tryz.isAgg20
 z20 := Tryz.sizeOf20
 v20 := Tryz.zeroValue20
 t70 := Tryz.underlying136
 a70 := Tryz.isAgg136
 z70 := Tryz.sizeOf136
 v70 := Tryz.zeroValue136
 t72 := Tryz.underlying138
 a72 := Tryz.isAgg138
 z72 := Tryz.sizeOf138
 v72 := Tryz.zeroValue138
 t164 := Tryz.underlying189
 a164 := Tryz.isAgg189
 z164 := Tryz.sizeOf189
 v164 := Tryz.zeroValue189
theorem Tryz.Builder_X72_240 : Builder.X72 Tryz.prog Tryz.ren240 where
 sizeBuilder := by kernel_rfl
 liesBuilder := by kernel_rfl
open Go.Id in
theorem rep_ref_box {M : Nat → Nat → Prop} {γ : Nat → Option G} {w : World} {b off B : Nat} {v : Value} (h : Rep M γ w (.ref b off) v) (hg : γ b = some (.box B)) : v = .pointer (some ⟨B, off, none⟩) := by
 cases h with
 | ref hγ => rcases hγ with hγ | ⟨_, _, hγ⟩ | hγ <;> rw [hg] at hγ <;> cases hγ <;> rfl
open Go.Id in
theorem bld_copy_fresh (b : Nat) (x : D) (rest : List (Nat × Blk)) : CallE Pr 158 [.ref b 0] ((b, .box 138 [.nilptr, x]) :: rest) (.tup []) ((b, .box 138 [.ref b 0, x]) :: rest) :=
 CallE.wrote (cs := [.nilptr, x]) 0 (by simp) (.ref b 0) (bodied_of Tryz.func158 (by kernel_rfl) (by kernel_rfl)) fun M γ w vs B us fz hst hl hr hg hB hlen h1 hrr => by
  match vs, hl with
  | [v], _ =>
   obtain rfl := rep_ref_box (hr 0 _ _ rfl rfl) hg
   have hlt : 0 < us.size := by rw [hlen]; simp
   have hu : us[0]? = some us[0] := Array.getElem?_eq_getElem hlt
   have hp : us[0] = .pointer none := by
    have := hrr 0 _ _ rfl hu
    generalize us[0] = u0 at this
    cases this; rfl
   rw [hp] at hu
   have h0 : w.cell? ⟨B, 0, none⟩ = some (.pointer none) := by rw [cell_of_row w B 0 us 138 fz hB]; exact hu
   have hsh : w.shape? B = some (138, 2) := by simp [World.shape?, hB, hlen]
   refine (Any.Builder_copyCheck_fresh Tryz.lays240 Tryz.Builder_X72_240 B w h0 hsh (h1 0 _ hu).2).mono ?_
   rintro e w' ⟨rfl, rfl⟩
   exact ⟨_, _, rfl, rfl, rfl, .ref (.inl hg), .tup rfl (by simp)⟩
open Go.Id in
theorem bld_copy_used (b : Nat) (x : D) (rest : List (Nat × Blk)) : CallE Pr 158 [.ref b 0] ((b, .box 138 [.ref b 0, x]) :: rest) (.tup []) ((b, .box 138 [.ref b 0, x]) :: rest) :=
 CallE.same (bodied_of Tryz.func158 (by kernel_rfl) (by kernel_rfl)) fun M γ w vs hst hl hr => by
  match vs, hl with
  | [v], _ =>
   have hlk : lk ((b, Blk.box 138 [.ref b 0, x]) :: rest) b = some (.box 138 [.ref b 0, x]) := by simp [lk]
   obtain ⟨g, h2, h3⟩ := hst.hit hlk
   cases h3 with
   | @box _ B us _ fz hB hlen h1 hrr =>
    obtain rfl := rep_ref_box (hr 0 _ _ rfl rfl) h2
    have hlt : 0 < us.size := by rw [hlen]; simp
    have hu : us[0]? = some us[0] := Array.getElem?_eq_getElem hlt
    have hp : us[0] = .pointer (some ⟨B, 0, none⟩) := rep_ref_box (hrr 0 _ _ rfl hu) h2
    rw [hp] at hu
    have h0 : w.cell? ⟨B, 0, none⟩ = some (.pointer (some ⟨B, 0, none⟩)) := by rw [cell_of_row w B 0 us 138 fz hB]; exact hu
    refine (Any.Builder_copyCheck_used Tryz.lays240 Tryz.Builder_X72_240 B w h0).mono ?_
    rintro e w' ⟨rfl, rfl⟩
    exact ⟨_, rfl, rfl, .tup rfl (by simp)⟩
end Go.Proofs
namespace Go.Proofs
open Go Go.Id
theorem lib_cut (s t : List UInt8) (hs : s.length < 4294967281) : CallP Pr 127 [.str s, .str t] (.tup [.str (Lib.cut s t).1, .str (Lib.cut s t).2.1, .bool (Lib.cut s t).2.2]) :=
 .str2 (bodied_of Tryz.func127 (by kernel_rfl) (by kernel_rfl)) fun M w b c hb hc hI hn hM => by
  obtain ⟨⟨m, hm⟩, _⟩ := hI
  refine (Tryz.strings_Cut b c m w (by rw [size_list, hb]; exact hs) hm).mono ?_
  rintro e w' ⟨rfl, n, rfl⟩
  refine ⟨_, rfl, below_drewN _ _, .tup rfl fun i d v h1 h2 => ?_⟩
  rw [hb, hc] at h2
  match i with
  | 0 => simp at h1 h2; subst h1; subst h2; exact rep_strOf _
  | 1 => simp at h1 h2; subst h1; subst h2; exact rep_strOf _
  | 2 => simp at h1 h2; subst h1; subst h2; exact .bool _
  | i + 3 => simp at h1
theorem lib_split (s t : List UInt8) (hs : s.length < 4294967281) (ht : t ≠ []) : CallP Pr 166 [.str s, .str t] (.slice 1 false ((splitL s t).map fun x => [.str x]) none) :=
 .str2 (bodied_of Tryz.func166 (by kernel_rfl) (by kernel_rfl)) fun M w b c hb hc hI hn hM => by
  obtain ⟨⟨m, hm⟩, _⟩ := hI
  obtain ⟨⟨l⟩⟩ := b
  obtain ⟨⟨k⟩⟩ := c
  simp only at hb hc
  subst hb
  subst hc
  have h1 : 1 ≤ (⟨⟨k⟩⟩ : ByteArray).size := List.length_pos_iff.2 ht
  refine (Tryz.strings_Split ⟨⟨l⟩⟩ ⟨⟨k⟩⟩ m w hs hm h1).mono ?_
  rintro e w' ⟨rfl, rfl⟩
  have hlen := Lib.splitB_all ⟨⟨k⟩⟩ h1 0 _ ⟨⟨l⟩⟩ rfl
  refine ⟨_, rfl, (RowKit.Below.refl _ w).alloc (Nat.le_refl _) _, ?_⟩
  refine rep_rows (heap_alloc_new w _) (fun off hm => by have := hM _ _ hm; omega) ?_ (by rw [splitL, List.length_map]; exact hlen.symm)
  rw [splitL, List.map_map]
  rfl
theorem lib_hasPrefix (s t : List UInt8) : CallP Pr 82 [.str s, .str t] (.bool (Lib.hasPrefix s t)) :=
 .str2 (bodied_of Tryz.func82 (by kernel_rfl) (by kernel_rfl)) fun M w b c hb hc hI hn hM => by
  refine (Tryz.strings_HasPrefix b c w).mono ?_
  rintro e w' ⟨rfl, rfl⟩
  exact ⟨_, rfl, .refl _ _, by rw [hb, hc]; exact .bool _⟩
theorem lib_cutPrefix (s t : List UInt8) : CallP Pr 128 [.str s, .str t] (.tup [.str (Lib.trimPrefix s t), .bool (Lib.hasPrefix s t)]) :=
 .str2 (bodied_of Tryz.func128 (by kernel_rfl) (by kernel_rfl)) fun M w b c hb hc hI hn hM => by
  refine (Tryz.strings_CutPrefix b c w).mono ?_
  rintro e w' ⟨rfl, rfl⟩
  refine ⟨_, rfl, .refl _ _, .tup rfl fun i d v h1 h2 => ?_⟩
  rw [hb, hc] at h2
  match i with
  | 0 => simp at h1 h2; subst h1; subst h2; exact rep_strOf _
  | 1 => simp at h1 h2; subst h1; subst h2; exact .bool _
  | i + 2 => simp at h1
theorem lib_lastIndexByte (s : List UInt8) (n : Int) (hs : s.length < 4611686018427387904) : CallP Pr 116 [.str s, .int .u8 n] (.int .i64 (Lib.lastIndexByte ⟨s.toArray⟩ n)) :=
 .strInt (bodied_of Tryz.func116 (by kernel_rfl) (by kernel_rfl)) fun M w b hb hI hn hM => by
  obtain ⟨⟨l⟩⟩ := b
  simp only at hb
  subst hb
  refine (Tryz.strings_LastIndexByte ⟨⟨l⟩⟩ n hs w).mono ?_
  rintro e w' ⟨rfl, rfl⟩
  exact ⟨_, rfl, .refl _ _, .int _ _⟩
theorem heap_freeze (w : World) {B n : Nat} {vs : Array Value} {e : TypeId} {fz : Nat × Nat} (hB : w.heap[B]? = some (.cells vs e fz)) : ∃ fz', (w.freeze ⟨B, 0, none⟩ n).heap[B]? = some (.cells vs e fz') := by
 unfold World.freeze
 split
 ·exact ⟨fz, hB⟩
 ·obtain ⟨lo, hi⟩ := fz
  exact ⟨_, by simp [Array.getElem?_modify, hB]; rfl⟩
theorem heap_freeze_other (w : World) {B k n : Nat} (h : k ≠ B) : (w.freeze ⟨B, 0, none⟩ n).heap[k]? = w.heap[k]? := by
 unfold World.freeze
 split
 ·rfl
 ·simp [Array.getElem?_modify, Ne.symm h]
theorem freeze_size (w : World) (B n : Nat) : (w.freeze ⟨B, 0, none⟩ n).heap.size = w.heap.size := by
 unfold World.freeze
 split <;> simp
theorem bld_string (b t : Nat) (hbt : b ≠ t) (p : D) (l : List UInt8) (h0 : l ≠ []) :
  CallE Pr 125 [.ref b 0] [(b, .box 138 [p, .slice 1 false (u8s l) (some t)]), (t, .tip 5 1 l.length)] (.str l) [(b, .box 138 [p, .slice 1 false (u8s l) (some t)]), (t, .dead)] := by
 refine ⟨bodied_of Tryz.func125 (by kernel_rfl) (by kernel_rfl), fun M γ w vs hst hl hr => ?_⟩
 match vs, hl with
 | [v], _ =>
  have hlb : lk [(b, Blk.box 138 [p, .slice 1 false (u8s l) (some t)]), (t, Blk.tip 5 1 l.length)] b = some (.box 138 [p, .slice 1 false (u8s l) (some t)]) := by simp [lk]
  have hlt : lk [(b, Blk.box 138 [p, .slice 1 false (u8s l) (some t)]), (t, Blk.tip 5 1 l.length)] t = some (.tip 5 1 l.length) := by simp [lk, Ne.symm hbt]
  obtain ⟨gb, g1, g2⟩ := hst.hit hlb
  obtain ⟨gt, g3, g4⟩ := hst.hit hlt
  cases g2 with
  | @box _ B us _ fz hB hlen h1 hrr =>
  cases g4 with
  | @tip _ _ _ tv xs ho =>
   obtain rfl := rep_ref_box (hr 0 _ _ rfl rfl) g1
   have hlt1 : 1 < us.size := by rw [hlen]; simp
   have hu : us[1]? = some us[1] := Array.getElem?_eq_getElem hlt1
   have hru := hrr 1 _ _ rfl hu
   have hu0 : (u8s l).length = l.length := by rw [u8s, List.length_map]
   rcases rep_slice_cells hru with ⟨_, hn, _⟩ | ⟨a, cap, cs, hua, _, hspot, hvs, hcap, hsz, hc, hcr, htip⟩
   ·exact absurd (by simpa [u8s] using hn) h0
   ·obtain ⟨_, _, v', n', q1, q2, q3⟩ := htip t rfl
    rw [g3] at q1
    simp only [Option.some.injEq, G.tip.injEq] at q1
    obtain ⟨_, _, rfl, rfl⟩ := q1
    have hv := q3 hu0
    have hlpos : 0 < l.length := List.length_pos_iff.2 h0
    rcases ho.2 with ⟨_, hz⟩ | ⟨g, cap', cur, htv, _, hg, hnc, hcm, hcs, htake⟩
    ·omega
    ·have hcell1 : w.cell? ⟨B, 1, none⟩ = some (.slice (some ⟨g, 0, none⟩) l.length cap') := by
      rw [cell_of_row w B 1 us 138 fz hB, hu, hua, hv, htv]
     have ha : a = ⟨g, 0, none⟩ := by
      have e1 := hv.trans htv
      simpa using (Value.slice.inj e1).1
     subst ha
     have hcur : cur.toList.take l.length = Lib.byteCells l := by
      apply List.ext_getElem?
      intro j
      rw [List.getElem?_take]
      simp only [Lib.byteCells, List.getElem?_map]
      by_cases hj : j < l.length
      ·rw [if_pos hj, List.getElem?_eq_getElem hj]
       have hjc : j < cs.length := by rw [hvs, hu0]; omega
       have h3 := hc j _ (List.getElem?_eq_getElem hjc)
       have h4 := hcr j 0 [.int .u8 l[j].toNat] (.int .u8 l[j].toNat) cs[j] (by simp [u8s, hj]) rfl (by simp [hjc])
       have h5 := inv_int h4
       have h6 := h3.1
       simp only [Nat.zero_add] at h6
       rw [cell_of_row w g j cur 5 _ hg, h5] at h6
       rw [Array.getElem?_toList, h6]; rfl
      ·rw [if_neg hj, List.getElem?_eq_none (by omega)]; rfl
     refine (bld_string_exact Tryz.lays169 Tryz.Builder_Extra_169 B g cap' l cur w hcell1 hg hnc hcm hcs hcur h0).mono ?_
     rintro e w' ⟨rfl, rfl⟩
     obtain ⟨fz', hg'⟩ := heap_freeze (n := l.length) w.drew (B := g) hg
     have hother : ∀ k, k ≠ g → (w.drew.freeze ⟨g, 0, none⟩ l.length).heap[k]? = w.heap[k]? := fun k hk => heap_freeze_other w.drew hk
     have hsize : (w.drew.freeze ⟨g, 0, none⟩ l.length).heap.size = w.heap.size := freeze_size w.drew g l.length
     have hparts : (w.drew.freeze ⟨g, 0, none⟩ l.length).os = w.os ∧ (w.drew.freeze ⟨g, 0, none⟩ l.length).tape = w.tape ∧ (w.drew.freeze ⟨g, 0, none⟩ l.length).output = w.output := by
      unfold World.freeze
      split <;> exact ⟨rfl, rfl, rfl⟩
     have hgb : (G.tip 1 5 tv l.length).block = some g := by rw [htv]; rfl
     have hev : Evolve (Mall (Pr.base M) γ) γ w (Mall (Pr.base M) γ) γ (w.drew.freeze ⟨g, 0, none⟩ l.length) := by
      refine ⟨hparts.1, hparts.2.1, hparts.2.2, by omega, fun B' o x hn hx => ?_, fun _ _ h _ => h, fun _ g h => ⟨g, h, G.le_refl g⟩, fun B' _ hn => hother B' (fun e => hn t _ g3 (by rw [e]; exact hgb)), fun i gi _ h h' _ => ⟨i, gi, h, h'⟩⟩
      by_cases hB' : B' = g
      ·subst hB'
       rw [cell_of_row _ B' o cur 5 _ hg'] ; rw [cell_of_row w B' o cur 5 _ hg] at hx; exact hx
      ·rw [World.cell?_of_block (w := w) (w' := w.drew.freeze ⟨g, 0, none⟩ l.length) (by simpa using hother B' hB')]; exact hx
     have hupd : upd γ t (some (.tip 1 5 tv l.length)) = γ := by funext i; by_cases hi : i = t <;> simp [upd, hi, g3]
     have hst' := hst.change t .dead (.tip 1 5 tv l.length) (w.drew.freeze ⟨g, 0, none⟩ l.length) (by rw [hupd]; exact hev) (fun i gi B2 hi hgi hgiB => hother B2 (fun e => hi (hst.dist i t gi _ B2 hgi g3 hgiB (by rw [e]; exact hgb)))) (fun B' hB' => .inr ⟨_, g3, hB'⟩) (.dead fun B' hB' => by rw [hsize]; exact (ho.lt B' hB').2)
     have hσ : upd (lk [(b, Blk.box 138 [p, .slice 1 false (u8s l) (some t)]), (t, Blk.tip 5 1 l.length)]) t (some .dead) = lk [(b, Blk.box 138 [p, .slice 1 false (u8s l) (some t)]), (t, .dead)] := by
      funext i
      by_cases hi : i = t
      ·subst hi; simp [upd, lk, Ne.symm hbt]
      ·simp [upd, lk, hi]
     rw [hupd, hσ] at hst'
     exact ⟨_, γ, rfl, hst', hev, rep_strOf l⟩
theorem bld_string_none (b : Nat) (p : D) (sz : Nat) (tip : Option Nat) (rest : List (Nat × Blk)) :
  CallE Pr 125 [.ref b 0] ((b, .box 138 [p, .slice sz true [] tip]) :: rest) (.str []) ((b, .box 138 [p, .slice sz true [] tip]) :: rest) :=
 CallE.drew (bodied_of Tryz.func125 (by kernel_rfl) (by kernel_rfl)) fun M γ w vs hst hl hr => by
  match vs, hl with
  | [v], _ =>
   have hlk : lk ((b, Blk.box 138 [p, .slice sz true [] tip]) :: rest) b = some (.box 138 [p, .slice sz true [] tip]) := by simp [lk]
   obtain ⟨g, h2, h3⟩ := hst.hit hlk
   cases h3 with
   | @box _ B us _ fz hB hlen h1 hrr =>
    obtain rfl := rep_ref_box (hr 0 _ _ rfl rfl) h2
    have hlt : 1 < us.size := by rw [hlen]; simp
    have hu : us[1]? = some us[1] := Array.getElem?_eq_getElem hlt
    have hp : us[1] = .slice none 0 0 := by
     have := hrr 1 _ _ rfl hu
     generalize us[1] = u0 at this
     cases this; rfl
    rw [hp] at hu
    have h0 : w.cell? ⟨B, 1, none⟩ = some (.slice none 0 0) := by rw [cell_of_row w B 1 us 138 fz hB]; exact hu
    refine (bld_string_nil Tryz.lays169 Tryz.Builder_Extra_169 B w h0).mono ?_
    rintro e w' ⟨rfl, rfl⟩
    exact ⟨_, rfl, rfl, rep_strOf []⟩
set_option maxRecDepth 10000
theorem c_upper (n : Int) : CallP Pr 119 [.int .u8 n] (.bool (upperB n)) := by
 refine CallP.W Tryz.func119 Tryz.ntmps119 ?_
 simp only [frameOf]
 refine WP.S [0, 2] fun _ z => ?_; simp +decide only [TF, ↓reduceIte]; apply z; clear z
 refine WP.S [0, 2] fun _ z => ?_
 refine runOps.take 3 fun J hJ => ?_
 simp +decide only [TF, ↓reduceIte]
 refine hJ _ _ ?_; clear hJ J
 refine runOps.part 5 rfl (fun q1 => ?_) (fun q1 => ?_)
 ·simp +decide only [TF, q1, ↓reduceIte]
  apply z; clear z
  apply WP.ret
  exact Ends.P rfl (Le.of_eq (by simp +decide only [St.get, W, upperB, q1, ↓reduceIte]))
 simp +decide only [TF, q1, ↓reduceIte]
 apply z; clear z
 apply WP.ret
 exact Ends.P rfl (Le.of_eq (by simp +decide only [St.get, W, upperB, q1, ↓reduceIte]))
theorem c_letter (n : Int) : CallP Pr 79 [.int .u8 n] (.bool (letterB n)) := by
 refine CallP.W Tryz.func79 Tryz.ntmps79 ?_
 simp only [frameOf]
 refine WP.S [0, 2] fun _ z => ?_; simp +decide only [TF, ↓reduceIte]; apply z; clear z
 refine WP.S [0, 2] fun _ z => ?_
 simp +decide only [TF, ↓reduceIte]
 refine CallK.P (c_upper _) rfl rfl ?_
 refine runOps.take 1 fun J hJ => ?_
 simp +decide only [TF, ↓reduceIte]
 refine hJ _ _ ?_; clear hJ J
 refine runOps.part 5 rfl (fun q1 => ?_) (fun q1 => ?_)
 ·simp +decide only [TF, q1, ↓reduceIte]
  apply z; clear z
  apply WP.ret
  exact Ends.P rfl (Le.of_eq (by simp +decide only [St.get, W, letterB, q1, ↓reduceIte]))
 refine runOps.take 3 fun J hJ => ?_
 simp +decide only [TF, q1, ↓reduceIte]
 refine hJ _ _ ?_; clear hJ J
 refine runOps.part 8 rfl (fun q2 => ?_) (fun q2 => ?_)
 ·simp +decide only [TF, q2, ↓reduceIte]
  apply z; clear z
  apply WP.ret
  exact Ends.P rfl (Le.of_eq (by simp +decide only [St.get, W, letterB, q1, q2, ↓reduceIte]))
 simp +decide only [TF, q2, ↓reduceIte]
 apply z; clear z
 apply WP.ret
 exact Ends.P rfl (Le.of_eq (by simp +decide only [St.get, W, letterB, q1, q2, ↓reduceIte]))
theorem c_digit (n : Int) : CallP Pr 80 [.int .u8 n] (.bool (digitB n)) := by
 refine CallP.W Tryz.func80 Tryz.ntmps80 ?_
 simp only [frameOf]
 refine WP.S [0, 2] fun _ z => ?_; simp +decide only [TF, ↓reduceIte]; apply z; clear z
 refine WP.S [0, 2] fun _ z => ?_
 refine runOps.take 3 fun J hJ => ?_
 simp +decide only [TF, ↓reduceIte]
 refine hJ _ _ ?_; clear hJ J
 refine runOps.part 5 rfl (fun q1 => ?_) (fun q1 => ?_)
 ·simp +decide only [TF, q1, ↓reduceIte]
  apply z; clear z
  apply WP.ret
  exact Ends.P rfl (Le.of_eq (by simp +decide only [St.get, W, digitB, q1, ↓reduceIte]))
 simp +decide only [TF, q1, ↓reduceIte]
 apply z; clear z
 apply WP.ret
 exact Ends.P rfl (Le.of_eq (by simp +decide only [St.get, W, digitB, q1, ↓reduceIte]))
theorem c_wordc (n : Int) : CallP Pr 78 [.int .u8 n] (.bool (wordcB n)) := by
 refine CallP.W Tryz.func78 Tryz.ntmps78 ?_
 simp only [frameOf]
 refine WP.S [0, 2] fun _ z => ?_; simp +decide only [TF, ↓reduceIte]; apply z; clear z
 refine WP.S [0, 2] fun _ z => ?_
 simp +decide only [TF, ↓reduceIte]
 refine CallK.P (c_letter _) rfl rfl ?_
 refine runOps.take 1 fun J hJ => ?_
 simp +decide only [TF, ↓reduceIte]
 refine hJ _ _ ?_; clear hJ J
 refine runOps.part 5 rfl (fun q1 => ?_) (fun q1 => ?_)
 ·simp +decide only [TF, q1, ↓reduceIte]
  apply z; clear z
  apply WP.ret
  exact Ends.P rfl (Le.of_eq (by simp +decide only [St.get, W, wordcB, q1, ↓reduceIte]))
 simp +decide only [TF, q1, ↓reduceIte]
 refine CallK.P (c_digit _) rfl rfl ?_
 refine runOps.take 2 fun J hJ => ?_
 simp +decide only [TF, ↓reduceIte]
 refine hJ _ _ ?_; clear hJ J
 refine runOps.part 9 rfl (fun q2 => ?_) (fun q2 => ?_)
 ·simp +decide only [TF, q2, ↓reduceIte]
  apply z; clear z
  apply WP.ret
  exact Ends.P rfl (Le.of_eq (by simp +decide only [St.get, W, wordcB, q1, q2, ↓reduceIte]))
 refine runOps.take 4 fun J hJ => ?_
 simp +decide only [TF, q2, ↓reduceIte]
 refine hJ _ _ ?_; clear hJ J
 refine runOps.part 13 rfl (fun q3 => ?_) (fun q3 => ?_)
 ·simp +decide only [TF, q3, ↓reduceIte]
  apply z; clear z
  apply WP.ret
  exact Ends.P rfl (Le.of_eq (by simp +decide only [St.get, W, wordcB, q1, q2, q3, ↓reduceIte]))
 refine runOps.take 4 fun J hJ => ?_
 simp +decide only [TF, q3, ↓reduceIte]
 refine hJ _ _ ?_; clear hJ J
 refine runOps.part 17 rfl (fun q4 => ?_) (fun q4 => ?_)
 ·simp +decide only [TF, q4, ↓reduceIte]
  apply z; clear z
  apply WP.ret
  exact Ends.P rfl (Le.of_eq (by simp +decide only [St.get, W, wordcB, q1, q2, q3, q4, ↓reduceIte]))
 refine runOps.take 4 fun J hJ => ?_
 simp +decide only [TF, q4, ↓reduceIte]
 refine hJ _ _ ?_; clear hJ J
 refine runOps.part 21 rfl (fun q5 => ?_) (fun q5 => ?_)
 ·simp +decide only [TF, q5, ↓reduceIte]
  apply z; clear z
  apply WP.ret
  exact Ends.P rfl (Le.of_eq (by simp +decide only [St.get, W, wordcB, q1, q2, q3, q4, q5, ↓reduceIte]))
 simp +decide only [TF, q5, ↓reduceIte]
 apply z; clear z
 apply WP.ret
 exact Ends.P rfl (Le.of_eq (by simp +decide only [St.get, W, wordcB, q1, q2, q3, q4, q5, ↓reduceIte]))
abbrev s_made_word : List Nat := [0, 1, 4, 5, 7, 8, 9, 16]
theorem c_made_word (s : List UInt8) (hs : s.length ≤ 140737488355328) : CallP Pr 77 [.str s, .fn (.func 78) [] []] (.bool (wordB s)) := by
 refine CallP.W Tryz.func77 Tryz.ntmps77 ?_
 simp only [frameOf, Nat.zero_add]
 iterate 2 first | (refine WP.S s_made_word fun _ z => ?_; simp +decide only [TF, ↓reduceIte]; apply z; clear z) | apply WP.seq
 refine WP.S [0, 1, 7, 8] fun _ z => ?_; simp +decide only [TF, ↓reduceIte]; apply z; clear z
 apply WP.block
 refine WP.lp [0, 1, 7] (X := {k : Nat // k ≤ s.length ∧ wordB s = ((s.drop k).all (fun c => wordcB c.toNat) && !(s == []) && decide ((s.length : Int) ≤ 64))}) (fun x => match x with | ⟨(k), _⟩ => [(8, .int .i64 k)]) (fun x => match x with | ⟨(k), _⟩ => []) (fun x => match x with | ⟨(k), _⟩ => s.length - k) (by simp +decide only [W, ↓reduceIte]; rfl) ?_ ⟨(0), ⟨Nat.zero_le _, by simp [wordB]⟩⟩ ?_
 rotate_left
 ·exact Weak.nil (by simp [St.get, lk, W, Le.refl, W]) (by simp [W])
 rintro ⟨k, hk, hI⟩
 dsimp only
 simp only [List.cons_append, List.nil_append]
 iterate 2 first | (refine WP.S s_made_word fun _ z => ?_; simp +decide only [TF, ↓reduceIte]; apply z; clear z) | apply WP.seq
 refine WP.cond rfl (fun q1 => ?_) (fun q1 => ?_)
 ·have hlt := lt_of_q q1
  have hg := getE hlt
  rw [dropE hlt] at hI
  simp only [List.all_cons] at hI
  iterate 4 first | (refine WP.S s_made_word fun _ z => ?_; simp +decide only [TF, q1, ↓reduceIte]; apply z; clear z) | (apply WP.skip; show WP ..) | apply WP.block | apply WP.seq
  refine WP.S s_made_word fun _ z => ?_
  simp +decide only [TF, hg, ↓reduceIte]
  refine CallK.P (c_wordc _) rfl rfl ?_
  simp +decide only [TF, ↓reduceIte]
  apply z; clear z
  refine WP.cond rfl (fun q2 => ?_) (fun q2 => ?_)
  ·simp only [Bool.not_eq_true'] at q2
   refine WP.S s_made_word fun _ z => ?_; simp +decide only [TF, q2, ↓reduceIte]; apply z; clear z
   apply WP.ret
   exact Ends.P rfl (Le.of_eq (by simp_all [St.get, W, wordB]))
  simp only [Bool.not_eq_false'] at q2
  iterate 2 first | (refine WP.R fun _ z => ?_; simp +decide only [TF, q2, ↓reduceIte]; apply z; clear z) | (apply WP.skip; show WP ..)
  show ∃ y, _ ∧ Weak _ _ _
  refine ⟨⟨k + 1, ?_⟩, ?_, Weak.nil ?_ ?_⟩
  ·exact ⟨by omega, by first | (simpa [q1, hg, q2] using hI) | (simp_all; done)⟩
  ·dsimp only; omega
  ·simp [St.get, lk, Le.refl, wrapS hlt hs]
  simp [W]
 have hge := ge_of_q q1
 rw [dropN hge] at hI
 simp only [List.all_nil, Bool.true_and] at hI
 apply WP.exit; show WP ..
 refine WP.S s_made_word fun _ z => ?_
 refine runOps.take 3 fun J hJ => ?_
 simp +decide only [TF, q1, ↓reduceIte]
 refine hJ _ _ ?_; clear hJ J
 refine runOps.part 20 rfl (fun q3 => ?_) (fun q3 => ?_)
 ·simp +decide only [TF, q3, ↓reduceIte]
  apply z; clear z
  apply WP.ret
  exact Ends.P rfl (Le.of_eq (by simp_all [St.get, W, wordB]))
 simp +decide only [TF, q3, ↓reduceIte]
 apply z; clear z
 apply WP.ret
 exact Ends.P rfl (Le.of_eq (by simp +decide only [St.get, W, wordB, q3, ↓reduceIte]))
theorem c_word (s : List UInt8) (hs : s.length ≤ 140737488355328) : CallP Pr 40 [.str s] (.bool (wordB s)) := by
 refine CallP.W Tryz.func40 Tryz.ntmps40 ?_
 simp only [frameOf]
 refine WP.S [0, 2] fun _ z => ?_; simp +decide only [TF, ↓reduceIte]; apply z; clear z
 refine WP.S [0, 2] fun _ z => ?_
 simp +decide only [TF, ↓reduceIte]
 refine CallK.P (c_made_word _ (by assumption)) rfl rfl ?_
 simp +decide only [TF, ↓reduceIte]
 apply z; clear z
 apply WP.ret
 exact Ends.P rfl (Le.of_eq (by simp +decide only [St.get, W, ↓reduceIte]))
theorem c_r_letter (n : Int) : CallP Pr 84 [.int .u8 n] (.bool (letterB n)) := by
 refine CallP.W Tryz.func84 Tryz.ntmps84 ?_
 simp only [frameOf]
 refine WP.S [0, 2] fun _ z => ?_; simp +decide only [TF, ↓reduceIte]; apply z; clear z
 refine WP.S [0, 2] fun _ z => ?_
 refine runOps.take 3 fun J hJ => ?_
 simp +decide only [TF, ↓reduceIte]
 refine hJ _ _ ?_; clear hJ J
 refine runOps.part 5 rfl (fun q1 => ?_) (fun q1 => ?_)
 ·refine runOps.take 4 fun J hJ => ?_
  simp +decide only [TF, q1, ↓reduceIte]
  refine hJ _ _ ?_; clear hJ J
  refine runOps.part 9 rfl (fun q2 => ?_) (fun q2 => ?_)
  ·simp +decide only [TF, q2, ↓reduceIte]
   apply z; clear z
   apply WP.ret
   exact Ends.P rfl (Le.of_eq (by simp +decide only [St.get, W, letterB, upperB, q1, q2, ↓reduceIte]))
  refine runOps.take 3 fun J hJ => ?_
  simp +decide only [TF, q2, ↓reduceIte]
  refine hJ _ _ ?_; clear hJ J
  refine runOps.part 12 rfl (fun q3 => ?_) (fun q3 => ?_)
  ·simp +decide only [TF, q3, ↓reduceIte]
   apply z; clear z
   apply WP.ret
   exact Ends.P rfl (Le.of_eq (by simp +decide only [St.get, W, letterB, upperB, q1, q2, q3, ↓reduceIte]))
  simp +decide only [TF, q3, ↓reduceIte]
  apply z; clear z
  apply WP.ret
  exact Ends.P rfl (Le.of_eq (by simp +decide only [St.get, W, letterB, upperB, q1, q2, q3, ↓reduceIte]))
 refine runOps.take 7 fun J hJ => ?_
 simp +decide only [TF, q1, ↓reduceIte]
 refine hJ _ _ ?_; clear hJ J
 refine runOps.part 12 rfl (fun q4 => ?_) (fun q4 => ?_)
 ·simp +decide only [TF, q4, ↓reduceIte]
  apply z; clear z
  apply WP.ret
  exact Ends.P rfl (Le.of_eq (by simp +decide only [St.get, W, letterB, upperB, q1, q4, ↓reduceIte]))
 simp +decide only [TF, q4, ↓reduceIte]
 apply z; clear z
 apply WP.ret
 exact Ends.P rfl (Le.of_eq (by simp +decide only [St.get, W, letterB, upperB, q1, q4, ↓reduceIte]))
theorem c_r_digit (n : Int) : CallP Pr 85 [.int .u8 n] (.bool (digitB n)) := by
 refine CallP.W Tryz.func85 Tryz.ntmps85 ?_
 simp only [frameOf]
 refine WP.S [0, 2] fun _ z => ?_; simp +decide only [TF, ↓reduceIte]; apply z; clear z
 refine WP.S [0, 2] fun _ z => ?_
 refine runOps.take 3 fun J hJ => ?_
 simp +decide only [TF, ↓reduceIte]
 refine hJ _ _ ?_; clear hJ J
 refine runOps.part 5 rfl (fun q1 => ?_) (fun q1 => ?_)
 ·simp +decide only [TF, q1, ↓reduceIte]
  apply z; clear z
  apply WP.ret
  exact Ends.P rfl (Le.of_eq (by simp +decide only [St.get, W, digitB, q1, ↓reduceIte]))
 simp +decide only [TF, q1, ↓reduceIte]
 apply z; clear z
 apply WP.ret
 exact Ends.P rfl (Le.of_eq (by simp +decide only [St.get, W, digitB, q1, ↓reduceIte]))
theorem c_r_word (s : List UInt8) (hs : s.length ≤ 140737488355328) : CallP Pr 44 [.str s] (.bool (wordB s)) := by
 refine CallP.W Tryz.func44 Tryz.ntmps44 ?_
 simp only [frameOf]
 iterate 2 first | (refine WP.S [0, 2, 3, 7] fun _ z => ?_; simp +decide only [TF, ↓reduceIte]; apply z; clear z) | apply WP.seq
 refine WP.S [0, 3] fun _ z => ?_; simp +decide only [TF, ↓reduceIte]; apply z; clear z
 apply WP.block
 refine WP.lp [0] (X := {k : Nat // k ≤ s.length ∧ wordB s = ((s.drop k).all (fun c => wordcB c.toNat) && !(s == []) && decide ((s.length : Int) ≤ 64))}) (fun x => match x with | ⟨(k), _⟩ => [(3, .int .i64 k)]) (fun x => match x with | ⟨(k), _⟩ => []) (fun x => match x with | ⟨(k), _⟩ => s.length - k) (by simp +decide only [W, ↓reduceIte]; rfl) ?_ ⟨(0), ⟨Nat.zero_le _, by simp [wordB]⟩⟩ ?_
 rotate_left
 ·exact Weak.nil (by simp [St.get, lk, W, Le.refl, W]) (by simp [W])
 rintro ⟨k, hk, hI⟩
 dsimp only
 simp only [List.cons_append, List.nil_append]
 iterate 2 first | (refine WP.S [0, 2, 3, 7] fun _ z => ?_; simp +decide only [TF, ↓reduceIte]; apply z; clear z) | apply WP.seq
 refine WP.cond rfl (fun q1 => ?_) (fun q1 => ?_)
 ·have hlt := lt_of_q q1
  have hg := getE hlt
  rw [dropE hlt] at hI
  simp only [List.all_cons] at hI
  iterate 3 first | (apply WP.skip; show WP ..) | apply WP.block | apply WP.seq
  refine WP.sm [0, 3] 45 (.bool (!(wordcB s[k].toNat))) (by kernel_rfl) (fun K hK => ?_) ?_
  ·simp +decide only [TF, q1, hg, ↓reduceIte]
   refine CallK.P (c_r_letter _) rfl rfl ?_
   refine runOps.take 2 fun J hJ => ?_
   simp +decide only [TF, ↓reduceIte]
   refine hJ _ _ ?_; clear hJ J
   refine runOps.part 15 rfl (fun q2 => ?_) (fun q2 => ?_)
   ·simp only [Bool.not_eq_true'] at q2
    simp +decide only [TF, hg, q2, ↓reduceIte]
    refine CallK.P (c_r_digit _) rfl rfl ?_
    refine runOps.take 3 fun J hJ => ?_
    simp +decide only [TF, ↓reduceIte]
    refine hJ _ _ ?_; clear hJ J
    refine runOps.part 22 rfl (fun q3 => ?_) (fun q3 => ?_)
    ·refine runOps.take 6 fun J hJ => ?_
     simp +decide only [TF, hg, q3, ↓reduceIte]
     refine hJ _ _ ?_; clear hJ J
     refine runOps.part 28 rfl (fun q4 => ?_) (fun q4 => ?_)
     ·refine runOps.take 6 fun J hJ => ?_
      simp +decide only [TF, hg, q4, ↓reduceIte]
      refine hJ _ _ ?_; clear hJ J
      refine runOps.part 34 rfl (fun q5 => ?_) (fun q5 => ?_)
      ·refine runOps.take 6 fun J hJ => ?_
       simp +decide only [TF, hg, q5, ↓reduceIte]
       refine hJ _ _ ?_; clear hJ J
       refine runOps.part 40 rfl (fun q6 => ?_) (fun q6 => ?_)
       ·simp +decide only [TF, hg, q6, ↓reduceIte]
        exact hK _ _ (by simp [St.get, lk, W]) rfl (Le.of_eq (by simp_all [St.get, lk, W, bne, wordcB]))
       simp +decide only [TF, q6, ↓reduceIte]
       exact hK _ _ (by simp [St.get, lk, W]) rfl (Le.of_eq (by simp_all [St.get, lk, W, bne, wordcB]))
      simp +decide only [TF, q5, ↓reduceIte]
      exact hK _ _ (by simp [St.get, lk, W]) rfl (Le.of_eq (by simp_all [St.get, lk, W, bne, wordcB]))
     simp +decide only [TF, q4, ↓reduceIte]
     exact hK _ _ (by simp [St.get, lk, W]) rfl (Le.of_eq (by simp_all [St.get, lk, W, bne, wordcB]))
    simp +decide only [TF, q3, ↓reduceIte]
    exact hK _ _ (by simp [St.get, lk, W]) rfl (Le.of_eq (by simp [St.get, lk, wordcB, q2, q3]))
   simp only [Bool.not_eq_false'] at q2
   simp +decide only [TF, q2, ↓reduceIte]
   exact hK _ _ (by simp [St.get, lk, W]) rfl (Le.of_eq (by simp [St.get, lk, wordcB, q2]))
  refine WP.cond rfl (fun q7 => ?_) (fun q7 => ?_)
  ·refine WP.S [0, 2, 3, 7] fun _ z => ?_; simp +decide only [TF, q1, q7, ↓reduceIte]; apply z; clear z
   apply WP.ret
   exact Ends.P rfl (Le.of_eq (by simp_all [St.get, W, wordB]))
  iterate 2 first | (refine WP.R fun _ z => ?_; simp +decide only [TF, q1, q7, ↓reduceIte]; apply z; clear z) | (apply WP.skip; show WP ..)
  show ∃ y, _ ∧ Weak _ _ _
  refine ⟨⟨k + 1, ?_⟩, ?_, Weak.nil ?_ ?_⟩
  ·exact ⟨by omega, by first | (simpa [q1, hg, q7] using hI) | (simp_all; done)⟩
  ·dsimp only; omega
  ·simp [St.get, lk, Le.refl, wrapS hlt hs]
  simp [W]
 have hge := ge_of_q q1
 rw [dropN hge] at hI
 simp only [List.all_nil, Bool.true_and] at hI
 apply WP.exit; show WP ..
 refine WP.S [0, 2, 3, 7] fun _ z => ?_
 refine runOps.take 4 fun J hJ => ?_
 simp +decide only [TF, q1, ↓reduceIte]
 refine hJ _ _ ?_; clear hJ J
 refine runOps.part 49 rfl (fun q8 => ?_) (fun q8 => ?_)
 ·simp +decide only [TF, q8, ↓reduceIte]
  apply z; clear z
  apply WP.ret
  exact Ends.P rfl (Le.of_eq (by simp_all [St.get, W, LN, wordB]))
 simp +decide only [TF, q8, ↓reduceIte]
 apply z; clear z
 apply WP.ret
 exact Ends.P rfl (Le.of_eq (by simp_all [St.get, W, LN, wordB]))
def limB (n : Int) : Int := if n < 0 then 0 else if 1099511627776 < n then 1099511627776 else n
theorem lim_lo (n : Int) : 0 ≤ limB n := by unfold limB; split <;> (try split) <;> omega
theorem lim_hi (n : Int) : limB n ≤ 1099511627776 := by unfold limB; split <;> (try split) <;> omega
theorem lim_lim (n : Int) : limB (limB n) = limB n := by
 have := lim_lo n; have := lim_hi n
 unfold limB at *; repeat' split <;> (try omega)
theorem c_trim (s : List UInt8) (hs : s.length ≤ 140737488355328) : CallP Pr 120 [.str s] (.str (Lib.trimB s 32)) := by
 refine CallP.W Tryz.func120 Tryz.ntmps120 ?_
 simp only [frameOf]
 refine WP.S [0, 2] fun _ z => ?_; simp +decide only [TF, ↓reduceIte]; apply z; clear z
 refine WP.S [0, 2] fun _ z => ?_
 simp +decide only [TF, ↓reduceIte]
 refine CallK.P (lib_trim _ 32 (by decide) (by omega)) rfl rfl ?_
 simp +decide only [TF, ↓reduceIte]
 apply z; clear z
 apply WP.ret
 exact Ends.P rfl (Le.of_eq (by simp +decide only [St.get, W, ↓reduceIte]))
abbrev s_clean : List Nat := [0, 2, 4, 6, 7, 8, 15]
theorem c_clean (s : List UInt8) (hs : s.length ≤ 140737488355328) : CallP Pr 81 [.str s] (.bool (cleanB s)) := by
 refine CallP.W Tryz.func81 Tryz.ntmps81 ?_
 simp only [frameOf]
 iterate 2 first | (refine WP.S s_clean fun _ z => ?_; simp +decide only [TF, ↓reduceIte]; apply z; clear z) | apply WP.seq
 refine WP.S [0, 6] fun _ z => ?_; simp +decide only [TF, ↓reduceIte]; apply z; clear z
 apply WP.block
 refine WP.lp [0, 6] (X := {k : Nat // k ≤ s.length ∧ cleanB s = ((s.drop k).all (fun c => clB c.toNat) && !(s == []) && decide ((s.length : Int) ≤ 256) && endsB s)}) (fun x => match x with | ⟨(k), _⟩ => []) (fun x => match x with | ⟨(k), _⟩ => [(0, .iter s k)]) (fun x => match x with | ⟨(k), _⟩ => s.length - k) (by simp +decide only [W, ↓reduceIte]; rfl) ?_ ⟨(0), ⟨Nat.zero_le _, by simp [cleanB]⟩⟩ ?_
 rotate_left
 ·exact Weak.frame (by simp [St.get, lk, W, Le.refl])
 rintro ⟨k, hk, hI⟩
 dsimp only
 simp only [List.nil_append]
 rcases dec_cases s k hk with hge | ⟨hlt, hb, hd⟩ | ⟨hlt, hd1, hd2, hd⟩
 ·have hnl : ¬ k < s.length := by omega
  rw [dropN hge] at hI
  simp only [List.all_nil, Bool.true_and] at hI
  iterate 4 first | (refine WP.S s_clean fun _ z => ?_; simp +decide only [TF, hnl, ↓reduceIte]; apply z; clear z) | (apply WP.exit; show WP ..) | refine WP.cF ?_ | apply WP.seq
  refine WP.S s_clean fun _ z => ?_
  refine runOps.take 3 fun J hJ => ?_
  simp +decide only [TF, ↓reduceIte]
  refine hJ _ _ ?_; clear hJ J
  refine runOps.part 18 rfl (fun q1 => ?_) (fun q1 => ?_)
  ·refine runOps.take 5 fun J hJ => ?_
   simp +decide only [TF, q1, ↓reduceIte]
   refine hJ _ _ ?_; clear hJ J
   refine runOps.part 23 rfl (fun q2 => ?_) (fun q2 => ?_)
   ·have hne : s ≠ [] := by intro e; subst e; simp_all
    have ht := trim_endsB s hne
    simp +decide only [TF, q2, ↓reduceIte]
    refine CallK.P (c_trim _ (by assumption)) rfl rfl ?_
    simp +decide only [TF, ht, ↓reduceIte]
    apply z; clear z
    apply WP.ret
    exact Ends.P rfl (Le.of_eq (by simp_all [St.get, W, cleanB, clB]))
   simp +decide only [TF, q2, ↓reduceIte]
   apply z; clear z
   apply WP.ret
   exact Ends.P rfl (Le.of_eq (by simp +decide only [St.get, W, cleanB, clB, q1, q2, ↓reduceIte]))
  simp +decide only [TF, q1, ↓reduceIte]
  apply z; clear z
  apply WP.ret
  exact Ends.P rfl (Le.of_eq (by simp +decide only [St.get, W, cleanB, clB, q1, ↓reduceIte]))
 ·rw [hd] at hI
  have hb1 : decide ((((decD s k).1 : Nat) : Int) < 32) = false := by simp; omega
  have hb2 : decide ((((decD s k).1 : Nat) : Int) > 126) = true := by simp; omega
  iterate 9 first | (refine WP.S s_clean fun _ z => ?_; simp +decide only [TF, hlt, hb1, hb2, ↓reduceIte]; apply z; clear z) | (apply WP.skip; show WP ..) | refine WP.cT ?_ | apply WP.block | apply WP.seq
  apply WP.ret
  exact Ends.P rfl (Le.of_eq (by simp_all [St.get, W, cleanB, clB]))
 rw [hd] at hI
 iterate 6 first | (refine WP.S s_clean fun _ z => ?_; simp +decide only [TF, hlt, hd1, hd2, ↓reduceIte]; apply z; clear z) | (apply WP.skip; show WP ..) | refine WP.cT ?_ | apply WP.block | apply WP.seq
 refine WP.S s_clean fun _ z => ?_
 refine runOps.take 3 fun J hJ => ?_
 simp +decide only [TF, ↓reduceIte]
 refine hJ _ _ ?_; clear hJ J
 refine runOps.part 12 rfl (fun q3 => ?_) (fun q3 => ?_)
 ·simp +decide only [TF, q3, ↓reduceIte]
  apply z; clear z
  iterate 2 first | (refine WP.S s_clean fun _ z => ?_; simp +decide only [TF, ↓reduceIte]; apply z; clear z) | refine WP.cT ?_
  apply WP.ret
  exact Ends.P rfl (Le.of_eq (by first | (simp +decide only [St.get, W, cleanB, clB, ↓reduceIte]; done) | (simp [St.get, W, cleanB, clB]; done) | (simp_all [St.get, W, cleanB, clB]; done) | (simp_all [St.get, W, cleanB, clB]; intros; first | omega | (rw [Bool.eq_iff_iff]; simp; try omega); done)))
 simp +decide only [TF, q3, ↓reduceIte]
 apply z; clear z
 refine WP.cond rfl (fun q4 => ?_) (fun q4 => ?_)
 ·refine WP.S s_clean fun _ z => ?_; simp +decide only [TF, q4, ↓reduceIte]; apply z; clear z
  apply WP.ret
  exact Ends.P rfl (Le.of_eq (by first | (simp +decide only [St.get, W, cleanB, clB, ↓reduceIte]; done) | (simp [St.get, W, cleanB, clB]; done) | (simp_all [St.get, W, cleanB, clB]; done) | (simp_all [St.get, W, cleanB, clB]; intros; first | omega | (rw [Bool.eq_iff_iff]; simp; try omega); done)))
 apply WP.skip
 show ∃ y, _ ∧ Weak _ _ _
 refine ⟨⟨k + 1, ?_⟩, ?_, ?_⟩
 ·exact ⟨by omega, by simp_all [clB]⟩
 ·dsimp only; omega
 exact Weak.store (by simp [St.get, lk, W, Le.refl]) (by simp [lk]) (by simp [lk]) (by simp [BClo]) (by simp)
abbrev s_r_clean : List Nat := [0, 2, 3, 24, 28]
theorem c_r_clean (s : List UInt8) (hs : s.length ≤ 140737488355328) : CallP Pr 86 [.str s] (.bool (cleanB s)) := by
 refine CallP.W Tryz.func86 Tryz.ntmps86 ?_
 simp only [frameOf]
 iterate 2 first | (refine WP.S s_r_clean fun _ z => ?_; simp +decide only [TF, ↓reduceIte]; apply z; clear z) | apply WP.seq
 refine WP.S s_r_clean fun _ z => ?_
 refine runOps.take 4 fun J hJ => ?_
 simp +decide only [TF, ↓reduceIte]
 refine hJ _ _ ?_; clear hJ J
 refine runOps.part 7 rfl (fun q1 => ?_) (fun q1 => ?_)
 ·have hz : s = [] := by cases s with | nil => rfl | cons => (simp at q1; try omega)
  simp +decide only [TF, q1, ↓reduceIte]
  apply z; clear z
  iterate 2 first | (refine WP.S s_r_clean fun _ z => ?_; simp +decide only [TF, ↓reduceIte]; apply z; clear z) | refine WP.cT ?_
  apply WP.ret
  exact Ends.P rfl (Le.of_eq (by simp_all [St.get, W, cleanB, endsB, clB]))
 have hne : 0 < s.length := by have := of_decide_eq_false q1; omega
 have h0 := getE hne
 have h0c := chAt_of hne
 have hnn : (s == []) = false := by cases s <;> simp at hne ⊢
 refine runOps.take 5 fun J hJ => ?_
 simp +decide only [TF, q1, ↓reduceIte]
 refine hJ _ _ ?_; clear hJ J
 refine runOps.part 12 rfl (fun q2 => ?_) (fun q2 => ?_)
 ·simp +decide only [TF, q2, ↓reduceIte]
  apply z; clear z
  iterate 2 first | (refine WP.S s_r_clean fun _ z => ?_; simp +decide only [TF, ↓reduceIte]; apply z; clear z) | refine WP.cT ?_
  apply WP.ret
  exact Ends.P rfl (Le.of_eq (by first | (simp +decide only [St.get, W, cleanB, endsB, clB, h0c, ↓reduceIte]; done) | (simp [St.get, W, cleanB, endsB, clB, h0c]; done) | (simp_all [St.get, W, LN, cleanB, endsB, clB]; done) | (simp_all [St.get, W, LN, cleanB, endsB, clB]; intros; first | omega | (rw [Bool.eq_iff_iff]; simp; try omega); done)))
 refine runOps.take 5 fun J hJ => ?_
 simp +decide only [TF, h0, q2, ↓reduceIte]
 refine hJ _ _ ?_; clear hJ J
 refine runOps.part 17 rfl (fun q3 => ?_) (fun q3 => ?_)
 ·simp +decide only [TF, q3, ↓reduceIte]
  apply z; clear z
  iterate 2 first | (refine WP.S s_r_clean fun _ z => ?_; simp +decide only [TF, ↓reduceIte]; apply z; clear z) | refine WP.cT ?_
  apply WP.ret
  exact Ends.P rfl (Le.of_eq (by simp +decide only [St.get, W, cleanB, endsB, clB, h0c, q3, ↓reduceIte]))
 have hw := wrapP hne hs
 have hl := getE (show s.length - 1 < s.length by omega)
 have hlc := chAt_of (show s.length - 1 < s.length by omega)
 simp +decide only [TF, q3, hw, hl, ↓reduceIte]
 apply z; clear z
 refine WP.cond rfl (fun q4 => ?_) (fun q4 => ?_)
 ·refine WP.S s_r_clean fun _ z => ?_; simp +decide only [TF, q4, ↓reduceIte]; apply z; clear z
  apply WP.ret
  exact Ends.P rfl (Le.of_eq (by simp +decide only [St.get, W, cleanB, endsB, clB, h0c, q3, hlc, q4, ↓reduceIte]))
 iterate 2 first | (apply WP.skip; show WP ..) | apply WP.seq
 refine WP.S [0, 3] fun _ z => ?_; simp +decide only [TF, q4, ↓reduceIte]; apply z; clear z
 apply WP.block
 refine WP.lp [0] (X := {k : Nat // k ≤ s.length ∧ cleanB s = (s.drop k).all (fun c => clB c.toNat)}) (fun x => match x with | ⟨(k), _⟩ => [(3, .int .i64 k)]) (fun x => match x with | ⟨(k), _⟩ => []) (fun x => match x with | ⟨(k), _⟩ => s.length - k) (by simp +decide only [W, ↓reduceIte]; rfl) ?_ ⟨(0), ⟨Nat.zero_le _, by have hle : decide ((s.length : Int) ≤ 256) = true := (by simp at q2 ⊢; omega); simp only [List.drop_zero, cleanB, endsB, h0c, hlc, hnn, q3, q4, hle, Bool.not_false, Bool.and_true]⟩⟩ ?_
 rotate_left
 ·exact Weak.nil (by simp [St.get, lk, W, Le.refl]) (by simp [W])
 rintro ⟨k, hk, hI⟩
 dsimp only
 simp only [List.cons_append, List.nil_append]
 iterate 2 first | (refine WP.S s_r_clean fun _ z => ?_; simp +decide only [TF, ↓reduceIte]; apply z; clear z) | apply WP.seq
 refine WP.cond rfl (fun q5 => ?_) (fun q5 => ?_)
 ·have hlt := lt_of_q q5
  have hg := getE hlt
  rw [dropE hlt] at hI
  simp only [List.all_cons] at hI
  iterate 3 first | (apply WP.skip; show WP ..) | apply WP.block | apply WP.seq
  refine WP.sm [0, 3] 40 (.bool (!(clB s[k].toNat))) (by kernel_rfl) (fun K hK => ?_) ?_
  ·refine runOps.take 5 fun J hJ => ?_
   simp +decide only [TF, q5, hg, ↓reduceIte]
   refine hJ _ _ ?_; clear hJ J
   refine runOps.part 35 rfl (fun q6 => ?_) (fun q6 => ?_)
   ·simp +decide only [TF, q6, ↓reduceIte]
    exact hK _ _ (by simp [St.get, lk, W]) rfl (Le.of_eq (by simp_all [St.get, lk, W, LN, clB]))
   simp +decide only [TF, hg, q6, ↓reduceIte]
   exact hK _ _ (by simp [St.get, lk, W]) rfl (Le.of_eq (by first | (simp [St.get, lk, clB]; done) | (simp_all [St.get, lk, W, LN, clB]; done) | (simp_all [St.get, lk, W, LN, clB]; rw [Bool.eq_iff_iff]; simp; try omega; done)))
  refine WP.cond rfl (fun q7 => ?_) (fun q7 => ?_)
  ·refine WP.S s_r_clean fun _ z => ?_; simp +decide only [TF, q5, q7, ↓reduceIte]; apply z; clear z
   apply WP.ret
   exact Ends.P rfl (Le.of_eq (by first | (simp +decide only [St.get, W, cleanB, endsB, clB, h0c, q3, hlc, q4, ↓reduceIte]; done) | (simp [St.get, W, cleanB, endsB, clB, h0c, q3, hlc, q4]; done) | (simp_all [St.get, W, LN, cleanB, endsB, clB]; done) | (simp_all [St.get, W, LN, cleanB, endsB, clB]; intros; first | omega | (rw [Bool.eq_iff_iff]; simp; try omega); done)))
  iterate 2 first | (refine WP.R fun _ z => ?_; simp +decide only [TF, q5, q7, ↓reduceIte]; apply z; clear z) | (apply WP.skip; show WP ..)
  show ∃ y, _ ∧ Weak _ _ _
  refine ⟨⟨k + 1, ?_⟩, ?_, Weak.nil ?_ ?_⟩
  ·exact ⟨by omega, by first | (simpa [q1, h0, h0c, q2, q3, hw, hl, hlc, q4, q5, hg, q7] using hI) | (simp_all; done)⟩
  ·dsimp only; omega
  ·simp [St.get, lk, Le.refl, wrapS hlt hs]
  simp [W]
 have hge := ge_of_q q5
 rw [dropN hge] at hI
 simp only [List.all_nil] at hI
 iterate 2 first | (refine WP.S s_r_clean fun _ z => ?_; simp +decide only [TF, q5, ↓reduceIte]; apply z; clear z) | (apply WP.exit; show WP ..)
 apply WP.ret
 exact Ends.P rfl (Le.of_eq (by simp_all [St.get, W, LN, cleanB, endsB, clB]))
theorem c_limited (n : Int) : CallP Pr 76 [.int .i64 n] (.int .i64 (limB n)) := by
 refine CallP.W Tryz.func76 Tryz.ntmps76 ?_
 simp only [frameOf]
 iterate 2 (refine WP.S [0, 2] fun _ z => ?_; simp +decide only [TF, ↓reduceIte]; apply z; clear z)
 apply WP.ret
 exact Ends.P rfl (Le.of_eq (by simp [St.get, W, limB]; repeat' split <;> (try omega)))
theorem c_r_limit (n : Int) : CallP Pr 137 [.int .i64 n] (.int .i64 (limB n)) := by
 refine CallP.W Tryz.func137 Tryz.ntmps137 ?_
 simp only [frameOf]
 iterate 2 (refine WP.S [0, 2] fun _ z => ?_; simp +decide only [TF, ↓reduceIte]; apply z; clear z)
 apply WP.ret
 exact Ends.P rfl (Le.of_eq (by simp [St.get, W, limB]; repeat' split <;> (try omega)))
theorem u8s_snoc (l : List UInt8) (c : UInt8) : u8s (l ++ [c]) = u8s l ++ [[.int .u8 c.toNat]] := by simp [u8s]
theorem u8s_snoc' (l : List UInt8) (c : UInt8) : u8s l ++ [[.int .u8 c.toNat]] = u8s (l ++ [c]) := (u8s_snoc l c).symm
theorem u8s_len (l : List UInt8) : (u8s l).length = l.length := by simp [u8s]
theorem u8s_emp (l : List UInt8) : (u8s l = []) = (l = []) := by cases l <;> simp [u8s]
theorem u8s_ren (f : Nat → Nat) (l : List UInt8) : renLL f (u8s l) = u8s l := by
 rw [renLL_map]
 simp [u8s, renD]
def adr (a : Bool) (b : Nat) : D := if a then .nilptr else .ref b 0
@[simp] theorem clo_adr {S : Nat → Prop} (a : Bool) (b : Nat) : Clo S (adr a b) ↔ (a = true ∨ S b) := by cases a <;> simp [adr]
theorem adr_ren (f : Nat → Nat) (a : Bool) (b : Nat) : renD f (adr a b) = adr a (f b) := by cases a <;> simp [adr, renD]
theorem adr_false (b : Nat) : adr false b = .ref b 0 := rfl
theorem adr_true (b : Nat) : adr true b = .nilptr := rfl
theorem bld_copy (b : Nat) (a : Bool) (x : D) (rest : List (Nat × Blk)) : CallE Pr 158 [.ref b 0] ((b, .box 138 [adr a b, x]) :: rest) (.tup []) ((b, .box 138 [.ref b 0, x]) :: rest) := by
 cases a
 ·exact bld_copy_used b x rest
 ·exact bld_copy_fresh b x rest
@[simp] theorem clo_u8s {S : Nat → Prop} (l : List UInt8) : (∀ e ∈ u8s l, ∀ d ∈ e, Clo S d) ↔ True := by
 simp only [iff_true]
 intro e he d hd
 simp only [u8s, List.mem_map] at he
 obtain ⟨c, _, rfl⟩ := he
 simp at hd; subst hd; simp
def strT (l : List UInt8) : Blk := if l = [] then .tip 5 1 0 else .dead
theorem bld_str (b t : Nat) (h : b ≠ t) (p : D) (l : List UInt8) : CallE Pr 125 [.ref b 0] [(b, .box 138 [p, .slice 1 l.isEmpty (u8s l) (some t)]), (t, .tip 5 1 l.length)] (.str l) [(b, .box 138 [p, .slice 1 l.isEmpty (u8s l) (some t)]), (t, strT l)] := by
 cases l with
 | nil => exact bld_string_none b p 1 (some t) [(t, .tip 5 1 0)]
 | cons c l => exact bld_string b t h p (c :: l) (by simp)
theorem c_wb0 (a nl : Bool) (l : List UInt8) (c : UInt8) (hl : l.length < 140737488355328) : CallE Pr 124 [.ref 0 0, .int .u8 c.toNat] [(0, .box 138 [adr a 0, .slice 1 nl (u8s l) (some 1)]), (1, .tip 5 1 l.length)] (.niliface) [(0, .box 138 [.ref 0 0, .slice 1 false (u8s (l ++ [c])) (some 1)]), (1, .tip 5 1 (l.length + 1))] := by
 refine CallE.of_wp Tryz.func124 rfl (by kernel_rfl) Tryz.ntmps124 (by simp) ?_
 simp only [frameOf, Nat.zero_add, List.map_cons, List.map_nil]
 refine WP.S [0, 1, 4] fun _ z => ?_; simp +decide only [TF, ↓reduceIte]; apply z; clear z
 refine WP.S [0, 1, 4] fun _ z => ?_
 simp +decide only [TF, ↓reduceIte]
 refine CallK.imp (bld_copy 0 a (.slice 1 nl (u8s l) (some 1)) [(1, .tip 5 1 l.length)]) rfl rfl (by simp [lk, BClo]) (by simp [lk]) (by simp [lk]) ?_
 simp +decide only [TF, ↓reduceIte]
 apply z; clear z
 refine WP.S [0, 1, 4] fun _ z => ?_
 simp +decide only [TF, u8s_len, u8s_emp, u8s_snoc', ↓reduceIte]
 refine ⟨⟨by simp [u8s_len]; omega, by simp [u8s_len]; omega⟩, ?_⟩
 apply z; clear z
 refine WP.S [0, 1, 4] fun _ z => ?_; simp +decide only [TF, ↓reduceIte]; apply z; clear z
 apply WP.ret
 refine Ends.imp (.inr rfl) rfl (Le.of_eq (by simp +decide only [St.get, W, ↓reduceIte])) ?_ ?_ ?_
 ·simp [lk]
 ·simp [lk, BClo]
 simp [lk]
theorem bld_wb (b t : Nat) (h : b ≠ t) (a nl : Bool) (l : List UInt8) (c : UInt8) (hl : l.length < 140737488355328) : CallE Pr 124 [.ref b 0, .int .u8 c.toNat] [(b, .box 138 [adr a b, .slice 1 nl (u8s l) (some t)]), (t, .tip 5 1 l.length)] .niliface
 [(b, .box 138 [.ref b 0, .slice 1 false (u8s (l ++ [c])) (some t)]), (t, .tip 5 1 (l.length + 1))] := by
 obtain ⟨f, g, h1, h2⟩ := ren_ex [b, t] (by simp [h])
 have := CallE.rename h1 (c_wb0 a nl l c hl)
 have f0 : f 0 = b := h2 0 b rfl
 have f1 : f 1 = t := h2 1 t rfl
 simpa [renS, renB, renD, renL, u8s_ren, f0, f1, adr_ren] using this
theorem all_u8 {p : UInt8 → Prop} (h : ∀ n, n < 256 → p (UInt8.ofNat n)) (c : UInt8) : p c := by
 have := h c.toNat c.toNat_lt
 rwa [UInt8.ofNat_toNat] at this
def hexL : List UInt8 := [48, 49, 50, 51, 52, 53, 54, 55, 56, 57, 65, 66, 67, 68, 69, 70]
def hexD (n : Nat) : UInt8 := hexL.getD n 0
theorem hex_at (n : Nat) (h : n < 16) : ([48, 49, 50, 51, 52, 53, 54, 55, 56, 57, 65, 66, 67, 68, 69, 70] : List UInt8)[n]? = some (hexD n) := by
 revert n; decide +kernel
theorem hex_q (c : UInt8) : ([48, 49, 50, 51, 52, 53, 54, 55, 56, 57, 65, 66, 67, 68, 69, 70] : List UInt8)[c.toNat / 16]? = some (hexD (c.toNat / 16)) := hex_at _ (by have := c.toNat_lt; omega)
theorem hex_r (c : UInt8) : ([48, 49, 50, 51, 52, 53, 54, 55, 56, 57, 65, 66, 67, 68, 69, 70] : List UInt8)[c.toNat % 16]? = some (hexD (c.toNat % 16)) := hex_at _ (by omega)
theorem shr4 (c : UInt8) : (c.toNat : Int).fdiv (2 ^ (min 4 (IntKind.bits .u8))) = ((c.toNat / 16 : Nat) : Int) := by
 show (c.toNat : Int).fdiv 16 = _
 rw [Int.fdiv_eq_ediv_of_nonneg _ (by omega)]; omega
theorem and15_n (n : Nat) (h : n < 256) : IntKind.wrap .u8 ((BitVec.ofInt (IntKind.bits .u8) (n : Int) &&& BitVec.ofInt (IntKind.bits .u8) 15).toNat : Int) = ((n % 16 : Nat) : Int) := by
 revert n; decide +kernel
theorem and15 (c : UInt8) : IntKind.wrap .u8 ((BitVec.ofInt (IntKind.bits .u8) (c.toNat : Int) &&& BitVec.ofInt (IntKind.bits .u8) 15).toNat : Int) = ((c.toNat % 16 : Nat) : Int) := and15_n _ c.toNat_lt
theorem quo16 (c : UInt8) : IntKind.wrap .u8 ((c.toNat : Int).tdiv 16) = ((c.toNat / 16 : Nat) : Int) := by
 have := c.toNat_lt
 have e : (c.toNat : Int).tdiv 16 = ((c.toNat / 16 : Nat) : Int) := by rw [Int.tdiv_eq_ediv_of_nonneg (by omega)]; omega
 rw [e, wrap_u8 (by omega) (by omega)]
theorem rem16 (c : UInt8) : (c.toNat : Int).tmod 16 = ((c.toNat % 16 : Nat) : Int) := by
 rw [Int.tmod_eq_emod_of_nonneg (by omega)]; omega
def escC (c : UInt8) : List UInt8 := if plainB c.toNat then [c] else [37, hexD (c.toNat / 16), hexD (c.toNat % 16)]
def escB (s : List UInt8) : List UInt8 := s.flatMap escC
theorem escC_len (c : UInt8) : (escC c).length ≤ 3 := by unfold escC; split <;> simp
theorem escB_len : ∀ s : List UInt8, (escB s).length ≤ 3 * s.length
 | [] => by simp [escB]
 | c :: s => by
  have h1 := escC_len c
  have h2 := escB_len s
  simp only [escB, List.flatMap_cons, List.length_append, List.length_cons] at h2 ⊢
  omega
theorem escB_take_len (s : List UInt8) (k : Nat) (h : k ≤ s.length) : (escB (s.take k)).length ≤ 3 * k := by
 have := escB_len (s.take k)
 rw [List.length_take] at this
 omega
theorem escB_next (s : List UInt8) (k : Nat) (h : k < s.length) : escB (s.take (k + 1)) = escB (s.take k) ++ escC s[k] := by
 rw [takeS h]; simp only [escB, List.flatMap_append, List.flatMap_cons, List.flatMap_nil, List.append_nil]
theorem escB_plain (s : List UInt8) (k : Nat) (h : k < s.length) (hp : plainB s[k].toNat = true) : escB (s.take (k + 1)) = escB (s.take k) ++ [s[k]] := by
 rw [escB_next s k h, escC, if_pos hp]
theorem escB_odd (s : List UInt8) (k : Nat) (h : k < s.length) (hp : plainB s[k].toNat = false) : escB (s.take (k + 1)) = escB (s.take k) ++ [37, hexD (s[k].toNat / 16), hexD (s[k].toNat % 16)] := by
 rw [escB_next s k h, escC, hp]; rfl
def hexv (c : UInt8) : Int := Lib.indexByte hexL c
theorem hexv_lt (c : UInt8) : -1 ≤ hexv c ∧ hexv c < 16 := by
 revert c; exact all_u8 (by decide +kernel)
def hexFrom (c : UInt8) : List UInt8 → Int → Int
 | [], _ => -1
 | x :: l, i => if ((x.toNat : Int) == (c.toNat : Int)) = true then i else hexFrom c l (i + 1)
theorem hexFrom_eq (c : UInt8) : hexFrom c hexL 0 = hexv c := by
 revert c; exact all_u8 (by decide +kernel)
theorem or4_n (a b : Nat) (ha : a < 16) (hb : b < 16) : IntKind.wrap .u8 (IntKind.wrap .i64 ((BitVec.ofInt (IntKind.bits .i64) (IntKind.wrap .i64 (((a : Nat) : Int) * 2 ^ (min 4 (IntKind.bits .i64)))) ||| BitVec.ofInt (IntKind.bits .i64) (b : Int)).toNat : Int)) = ((a * 16 + b : Nat) : Int) := by
 have : ∀ a : Nat, a < 16 → ∀ b : Nat, b < 16 → IntKind.wrap .u8 (IntKind.wrap .i64 ((BitVec.ofInt (IntKind.bits .i64) (IntKind.wrap .i64 (((a : Nat) : Int) * 2 ^ (min 4 (IntKind.bits .i64)))) ||| BitVec.ofInt (IntKind.bits .i64) (b : Int)).toNat : Int)) = ((a * 16 + b : Nat) : Int) := by decide +kernel
 exact this a ha b hb
def hexB (h l : UInt8) : UInt8 := UInt8.ofNat ((hexv h).toNat * 16 + (hexv l).toNat)
theorem hexB_nat (h l : UInt8) (h1 : 0 ≤ hexv h) (h2 : 0 ≤ hexv l) : ((hexB h l).toNat : Int) = hexv h * 16 + hexv l := by
 have := hexv_lt h; have := hexv_lt l
 unfold hexB
 rw [UInt8.toNat_ofNat_of_lt' (by show _ < 256; omega)]
 omega
theorem hexB_or (h l : UInt8) (h1 : 0 ≤ hexv h) (h2 : 0 ≤ hexv l) : IntKind.wrap .u8 (IntKind.wrap .i64 ((BitVec.ofInt (IntKind.bits .i64) (IntKind.wrap .i64 (hexv h * 2 ^ (min 4 (IntKind.bits .i64)))) ||| BitVec.ofInt (IntKind.bits .i64) (hexv l)).toNat : Int)) = ((hexB h l).toNat : Int) := by
 have a1 := hexv_lt h; have a2 := hexv_lt l
 rw [hexB_nat h l h1 h2]
 have := or4_n (hexv h).toNat (hexv l).toNat (by omega) (by omega)
 rw [Int.toNat_of_nonneg h1, Int.toNat_of_nonneg h2] at this
 rw [this]; omega
theorem hexB_add (h l : UInt8) (h1 : 0 ≤ hexv h) (h2 : 0 ≤ hexv l) : IntKind.wrap .u8 (IntKind.wrap .i64 (IntKind.wrap .i64 (16 * hexv h) + hexv l)) = ((hexB h l).toNat : Int) := by
 have a1 := hexv_lt h; have a2 := hexv_lt l
 rw [hexB_nat h l h1 h2, wrap_i64 (n := 16 * hexv h) (by omega) (by omega), wrap_i64 (by omega) (by omega), wrap_u8 (by omega) (by omega)]
 omega
def unB : List UInt8 → Option (List UInt8)
 | [] => some []
 | c :: t =>
  if plainB c.toNat then (unB t).map (c :: ·)
  else if c = 37 then
   match t with
   | h :: l :: r => if hexv h < 0 ∨ hexv l < 0 ∨ plainB (hexB h l).toNat = true then none else (unB r).map (hexB h l :: ·)
   | _ => none
  else none
def unR : List UInt8 → Option (List UInt8)
 | [] => some []
 | c :: t =>
  if c = 37 then
   match t with
   | h :: l :: r => if hexv h < 0 ∨ hexv l < 0 then none else (unR r).map (hexB h l :: ·)
   | _ => none
  else (unR t).map (c :: ·)
def unHex (t : List UInt8) : Option (List UInt8) :=
 match t with
 | h :: l :: r => if hexv h < 0 ∨ hexv l < 0 ∨ plainB (hexB h l).toNat = true then none else (unB r).map (hexB h l :: ·)
 | _ => none
def unHexR (t : List UInt8) : Option (List UInt8) :=
 match t with
 | h :: l :: r => if hexv h < 0 ∨ hexv l < 0 then none else (unR r).map (hexB h l :: ·)
 | _ => none
theorem unB_cons (c : UInt8) (t : List UInt8) : unB (c :: t) = if plainB c.toNat then (unB t).map (c :: ·) else if c = 37 then unHex t else none := by
 match t with
 | [] => rw [unB]; rfl
 | [h] => rw [unB]; rfl; simp
 | h :: l :: r => rw [unB]; rfl
theorem unR_cons (c : UInt8) (t : List UInt8) : unR (c :: t) = if c = 37 then unHexR t else (unR t).map (c :: ·) := by
 match t with
 | [] => rw [unR]; rfl
 | [h] => rw [unR]; rfl; simp
 | h :: l :: r => rw [unR]; rfl
def unD (o : Option (List UInt8)) : D :=
 match o with
 | some l => .tup [.str l, .int .i64 0]
 | none => .tup [.str [], .int .i64 4]
def unRD (s : List UInt8) : D :=
 match unR s with
 | some l => if escB l == s then .tup [.str l, .int .i64 0] else .tup [.str [], .int .i64 4]
 | none => .tup [.str [], .int .i64 4]
@[simp] theorem clo_unD {S : Nat → Prop} (o : Option (List UInt8)) : Clo S (unD o) := by cases o <;> simp [unD]
@[simp] theorem clo_unRD {S : Nat → Prop} (s : List UInt8) : Clo S (unRD s) := by unfold unRD; split <;> (try split) <;> simp
theorem not37 : plainB ((37 : UInt8).toNat : Int) = false := by decide
theorem hexv_hexD : ∀ n, n < 16 → hexv (hexD n) = n := by decide +kernel
theorem hexD_hexv (c : UInt8) : 0 ≤ hexv c → hexD (hexv c).toNat = c := by
 revert c; exact all_u8 (by decide +kernel)
theorem escC_hexB (h l : UInt8) (h1 : 0 ≤ hexv h) (h2 : 0 ≤ hexv l) (hp : plainB (hexB h l).toNat = false) : escC (hexB h l) = [37, h, l] := by
 have a1 := hexv_lt h; have a2 := hexv_lt l
 have e := hexB_nat h l h1 h2
 unfold escC
 rw [hp]
 have e1 : (hexB h l).toNat / 16 = (hexv h).toNat := by omega
 have e2 : (hexB h l).toNat % 16 = (hexv l).toNat := by omega
 rw [e1, e2, hexD_hexv h h1, hexD_hexv l h2]; rfl
theorem unB_unR : ∀ (n : Nat) (s : List UInt8), s.length ≤ n → ∀ l, unB s = some l ↔ (unR s = some l ∧ escB l = s)
 | n, [], _, l => by
  simp only [unB, unR, Option.some.injEq]
  constructor
  ·rintro rfl; exact ⟨rfl, rfl⟩
  ·exact fun h => h.1
 | 0, c :: t, h, l => by simp at h
 | n + 1, c :: t, hn, l => by
  simp only [List.length_cons] at hn
  by_cases hp : plainB c.toNat = true
  ·have hc : ¬ c = 37 := fun e => by subst e; rw [not37] at hp; cases hp
   simp only [unB_cons, unR_cons, hp, if_true, hc, if_false, Option.map_eq_some_iff]
   constructor
   ·rintro ⟨m, hm, rfl⟩
    obtain ⟨h1, h2⟩ := (unB_unR n t (by omega) m).1 hm
    exact ⟨⟨m, h1, rfl⟩, by simp only [escB, List.flatMap_cons, escC, hp, if_true] at h2 ⊢; rw [h2]; rfl⟩
   ·rintro ⟨⟨m, hm, rfl⟩, he⟩
    refine ⟨m, (unB_unR n t (by omega) m).2 ⟨hm, ?_⟩, rfl⟩
    simp only [escB, List.flatMap_cons, escC, hp, if_true, List.singleton_append, List.cons.injEq, true_and] at he
    exact he
  ·simp only [Bool.not_eq_true] at hp
   by_cases hc : c = 37
   ·subst hc
    simp only [unB_cons, unR_cons, not37, Bool.false_eq_true, if_false, if_true]
    match t, hn with
    | [], _ => simp [unHex, unHexR]
    | [h], _ => simp [unHex, unHexR]
    | h :: k :: r, hn =>
     simp only [List.length_cons] at hn
     by_cases hh : hexv h < 0 ∨ hexv k < 0
     ·have : hexv h < 0 ∨ hexv k < 0 ∨ plainB (hexB h k).toNat = true := hh.elim .inl (fun x => .inr (.inl x))
      simp [unHex, unHexR, hh, this]
     ·have h1 : 0 ≤ hexv h := by omega
      have h2 : 0 ≤ hexv k := by omega
      by_cases hb : plainB (hexB h k).toNat = true
      ·have : hexv h < 0 ∨ hexv k < 0 ∨ plainB (hexB h k).toNat = true := .inr (.inr hb)
       simp only [unHex, unHexR, this, if_true, hh, if_false, Option.map_eq_some_iff, reduceCtorEq, false_iff]
       rintro ⟨⟨m, hm, rfl⟩, he⟩
       simp only [escB, List.flatMap_cons, escC, hb, if_true, List.singleton_append, List.cons.injEq] at he
       rw [he.1, not37] at hb; cases hb
      ·have hn2 : ¬ (hexv h < 0 ∨ hexv k < 0 ∨ plainB (hexB h k).toNat = true) := by
        rintro (q | q | q)
        ·omega
        ·omega
        ·exact hb q
       simp only [Bool.not_eq_true] at hb
       simp only [unHex, unHexR, hn2, if_false, hh, Option.map_eq_some_iff]
       have hx := escC_hexB h k h1 h2 hb
       constructor
       ·rintro ⟨m, hm, rfl⟩
        obtain ⟨q1, q2⟩ := (unB_unR n r (by omega) m).1 hm
        exact ⟨⟨m, q1, rfl⟩, by simp only [escB, List.flatMap_cons, hx] at q2 ⊢; rw [q2]; rfl⟩
       ·rintro ⟨⟨m, hm, rfl⟩, he⟩
        refine ⟨m, (unB_unR n r (by omega) m).2 ⟨hm, ?_⟩, rfl⟩
        simp only [escB, List.flatMap_cons, hx, List.cons_append, List.nil_append, List.cons.injEq, true_and] at he
        exact he
   ·simp only [unB_cons, unR_cons, hp, Bool.false_eq_true, if_false, hc, Option.map_eq_some_iff, reduceCtorEq, false_iff]
    rintro ⟨⟨m, hm, rfl⟩, he⟩
    simp only [escB, List.flatMap_cons, escC, hp, Bool.false_eq_true, if_false, List.cons_append, List.cons.injEq] at he
    exact hc he.1.symm
theorem unRD_eq (s : List UInt8) : unRD s = unD (unB s) := by
 unfold unRD unD
 cases hr : unR s with
 | none =>
  cases hb : unB s with
  | none => rfl
  | some l => rw [((unB_unR _ s (Nat.le_refl _) l).1 hb).1] at hr; cases hr
 | some m =>
  simp only
  by_cases he : escB m = s
  ·rw [(unB_unR _ s (Nat.le_refl _) m).2 ⟨hr, he⟩, he]; simp
  ·cases hb : unB s with
   | none => simp [he]
   | some l =>
    obtain ⟨q1, q2⟩ := (unB_unR _ s (Nat.le_refl _) l).1 hb
    rw [hr] at q1; cases q1; exact absurd q2 he
theorem u8s_3 (l : List UInt8) (b c : UInt8) : u8s l ++ [[.int .u8 37], [.int .u8 b.toNat], [.int .u8 c.toNat]] = u8s (l ++ [37, b, c]) := by simp [u8s]
theorem hexv_ix (c : UInt8) : Lib.indexByte [48, 49, 50, 51, 52, 53, 54, 55, 56, 57, 65, 66, 67, 68, 69, 70] c = hexv c := rfl
theorem UpF.refl (t sz : Nat) : ∀ F : List (Nat × D), UpF t sz F F
 | [] => trivial
 | (k, d) :: F => ⟨rfl, .inl rfl, UpF.refl t sz F⟩
theorem lenEs (l : List UInt8) (c : UInt8) : (l ++ [c]).isEmpty = false := by cases l <;> rfl
theorem lenE2 (l m : List UInt8) (c : UInt8) : (l ++ c :: m).isEmpty = false := by cases l <;> rfl
theorem drop2 {α : Type} {l : List α} {k : Nat} (h : k + 2 < l.length) : l.drop (k + 1) = l[k + 1] :: l[k + 2] :: l.drop (k + 3) := by
 rw [List.drop_eq_getElem_cons (by omega), List.drop_eq_getElem_cons (by omega)]
theorem unHex_short (l : List UInt8) (k : Nat) (h : l.length ≤ k + 2) : unHex (l.drop (k + 1)) = none := by
 have : (l.drop (k + 1)).length ≤ 1 := by simp; omega
 match l.drop (k + 1), this with
 | [], _ => rfl
 | [_], _ => rfl
theorem unHexR_short (l : List UInt8) (k : Nat) (h : l.length ≤ k + 2) : unHexR (l.drop (k + 1)) = none := by
 have : (l.drop (k + 1)).length ≤ 1 := by simp; omega
 match l.drop (k + 1), this with
 | [], _ => rfl
 | [_], _ => rfl
theorem wrap2 {k n : Nat} (h : k < n) (hn : n ≤ 1099511627776) : IntKind.wrap .i64 ((k : Int) + 2) = ((k + 2 : Nat) : Int) := by
 rw [wrap_i64 (by omega) (by omega)]; rfl
theorem wrap1 {k n : Nat} (h : k < n) (hn : n ≤ 1099511627776) : IntKind.wrap .i64 ((k : Int) + 1) = ((k + 1 : Nat) : Int) := by
 rw [wrap_i64 (by omega) (by omega)]; rfl
theorem ofNatN (c : UInt8) : c.toNat.toUInt8 = c := by simp
theorem wrap3 {k n : Nat} (h : k < n) (hn : n ≤ 1099511627776) : IntKind.wrap .i64 ((k : Int) + 2 + 1) = (k : Int) + 3 := by
 rw [wrap_i64 (by omega) (by omega)]; omega
theorem hex_drop (k : Nat) (h : k < 16) : hexL.drop k = hexD k :: hexL.drop (k + 1) := by
 revert k; decide +kernel
theorem c_plain (n : Int) (h0 : 0 ≤ n) (h1 : n ≤ 255) : CallP Pr 123 [.int .u8 n] (.bool (plainB n)) := by
 refine CallP.W Tryz.func123 Tryz.ntmps123 ?_
 simp only [frameOf]
 refine WP.S [0, 2] fun _ z => ?_; simp +decide only [TF, ↓reduceIte]; apply z; clear z
 refine WP.S [0, 2] fun _ z => ?_
 refine runOps.take 3 fun J hJ => ?_
 simp +decide only [TF, ↓reduceIte]
 refine hJ _ _ ?_; clear hJ J
 refine runOps.part 5 rfl (fun q1 => ?_) (fun q1 => ?_)
 ·refine runOps.take 4 fun J hJ => ?_
  simp +decide only [TF, q1, ↓reduceIte]
  refine hJ _ _ ?_; clear hJ J
  refine runOps.part 9 rfl (fun q2 => ?_) (fun q2 => ?_)
  ·have hpx := plain_ix n (by simpa using q1) (by simpa using q2)
   simp +decide only [TF, q2, ↓reduceIte]
   refine CallK.P (lib_indexByte _ _) rfl rfl ?_
   simp +decide only [TF, hpx, ↓reduceIte]
   apply z; clear z
   apply WP.ret
   exact Ends.P rfl (Le.of_eq (by simp +decide only [St.get, W, plainB, q1, q2, ↓reduceIte]))
  simp +decide only [TF, q2, ↓reduceIte]
  apply z; clear z
  apply WP.ret
  exact Ends.P rfl (Le.of_eq (by simp +decide only [St.get, W, plainB, q1, q2, ↓reduceIte]))
 simp +decide only [TF, q1, ↓reduceIte]
 apply z; clear z
 apply WP.ret
 exact Ends.P rfl (Le.of_eq (by simp +decide only [St.get, W, plainB, q1, ↓reduceIte]))
theorem c_r_plain (n : Int) : CallP Pr 91 [.int .u8 n] (.bool (plainB n)) := by
 refine CallP.W Tryz.func91 Tryz.ntmps91 ?_
 simp only [frameOf]
 refine WP.S [0, 2] fun _ z => ?_; simp +decide only [TF, ↓reduceIte]; apply z; clear z
 refine WP.S [0, 2] fun _ z => ?_
 refine runOps.take 3 fun J hJ => ?_
 simp +decide only [TF, ↓reduceIte]
 refine hJ _ _ ?_; clear hJ J
 refine runOps.part 5 rfl (fun q1 => ?_) (fun q1 => ?_)
 ·refine runOps.take 4 fun J hJ => ?_
  simp +decide only [TF, q1, ↓reduceIte]
  refine hJ _ _ ?_; clear hJ J
  refine runOps.part 9 rfl (fun q2 => ?_) (fun q2 => ?_)
  ·refine runOps.take 4 fun J hJ => ?_
   simp +decide only [TF, q2, ↓reduceIte]
   refine hJ _ _ ?_; clear hJ J
   refine runOps.part 13 rfl (fun q3 => ?_) (fun q3 => ?_)
   ·refine runOps.take 4 fun J hJ => ?_
    simp +decide only [TF, q3, ↓reduceIte]
    refine hJ _ _ ?_; clear hJ J
    refine runOps.part 17 rfl (fun q4 => ?_) (fun q4 => ?_)
    ·refine runOps.take 4 fun J hJ => ?_
     simp +decide only [TF, q4, ↓reduceIte]
     refine hJ _ _ ?_; clear hJ J
     refine runOps.part 21 rfl (fun q5 => ?_) (fun q5 => ?_)
     ·refine runOps.take 4 fun J hJ => ?_
      simp +decide only [TF, q5, ↓reduceIte]
      refine hJ _ _ ?_; clear hJ J
      refine runOps.part 25 rfl (fun q6 => ?_) (fun q6 => ?_)
      ·refine runOps.take 4 fun J hJ => ?_
       simp +decide only [TF, q6, ↓reduceIte]
       refine hJ _ _ ?_; clear hJ J
       refine runOps.part 29 rfl (fun q7 => ?_) (fun q7 => ?_)
       ·simp +decide only [TF, q7, ↓reduceIte]
        apply z; clear z
        apply WP.ret
        exact Ends.P rfl (Le.of_eq (by simp_all [St.get, W, bne, plainB]))
       simp +decide only [TF, q7, ↓reduceIte]
       apply z; clear z
       apply WP.ret
       exact Ends.P rfl (Le.of_eq (by simp_all [St.get, W, bne, plainB]))
      simp +decide only [TF, q6, ↓reduceIte]
      apply z; clear z
      apply WP.ret
      exact Ends.P rfl (Le.of_eq (by simp_all [St.get, W, bne, plainB]))
     simp +decide only [TF, q5, ↓reduceIte]
     apply z; clear z
     apply WP.ret
     exact Ends.P rfl (Le.of_eq (by simp_all [St.get, W, bne, plainB]))
    simp +decide only [TF, q4, ↓reduceIte]
    apply z; clear z
    apply WP.ret
    exact Ends.P rfl (Le.of_eq (by simp_all [St.get, W, bne, plainB]))
   simp +decide only [TF, q3, ↓reduceIte]
   apply z; clear z
   apply WP.ret
   exact Ends.P rfl (Le.of_eq (by simp_all [St.get, W, bne, plainB]))
  simp +decide only [TF, q2, ↓reduceIte]
  apply z; clear z
  apply WP.ret
  exact Ends.P rfl (Le.of_eq (by simp +decide only [St.get, W, plainB, q1, q2, ↓reduceIte]))
 simp +decide only [TF, q1, ↓reduceIte]
 apply z; clear z
 apply WP.ret
 exact Ends.P rfl (Le.of_eq (by simp +decide only [St.get, W, plainB, q1, ↓reduceIte]))
theorem c_plainc (c : UInt8) : CallP Pr 123 [.int .u8 c.toNat] (.bool (plainB c.toNat)) := c_plain _ (by omega) (by have := c.toNat_lt; omega)
abbrev s_escape : List Nat := [0, 2, 3, 4, 5, 7, 8, 9, 15]
theorem c_escape (s : List UInt8) (hs : s.length ≤ 1099511627776) : CallP Pr 88 [.str s] (.str (escB s)) := by
 refine CallP.W Tryz.func88 Tryz.ntmps88 ?_
 simp only [frameOf]
 iterate 3 first | (refine WP.S s_escape fun _ z => ?_; simp +decide only [TF, ↓reduceIte]; apply z; clear z) | apply WP.seq
 refine WP.S [0, 3, 7, 8] fun _ z => ?_; simp +decide only [TF, ↓reduceIte]; apply z; clear z
 apply WP.block
 refine WP.lp [0, 3, 7] (X := {x : (Nat) × (Bool) // match x with | (k, a) => k ≤ s.length}) (fun x => match x with | ⟨(k, a), _⟩ => [(8, .int .i64 k)]) (fun x => match x with | ⟨(k, a), _⟩ => [(0, .box 138 [adr a 0, .slice 1 (escB (s.take k)).isEmpty (u8s (escB (s.take k))) (some 1)]), (1, .tip 5 1 (escB (s.take k)).length)]) (fun x => match x with | ⟨(k, a), _⟩ => s.length - k) (by simp +decide only [W, ↓reduceIte]; rfl) ?_ ⟨(0, true), Nat.zero_le _⟩ ?_
 rotate_left
 ·refine Weak.trans (Weak.ghost 1 5 1 (σ' := [(0, .box 138 [.nilptr, .slice 1 true [] (some 1)])]) (by simp [lk]) (UpF.refl _ _ _) (by simp [UpS, UpB, UpL, UpD])) ?_; exact Weak.store (by simp [St.get, lk, W, Le.refl, W]) (by simp [lk, adr_true, u8s, escB]) (by simp [lk]) (by simp [BClo, lk, u8s]) (by simp)
 rintro ⟨⟨k, a⟩, hk⟩
 dsimp only
 simp only [List.cons_append, List.nil_append]
 dsimp only at hk
 iterate 2 first | (refine WP.S s_escape fun _ z => ?_; simp +decide only [TF, ↓reduceIte]; apply z; clear z) | apply WP.seq
 refine WP.cond rfl (fun q1 => ?_) (fun q1 => ?_)
 ·have hlt := lt_of_q q1
  have hg := getE hlt
  have hEl := escB_take_len s k hk
  iterate 5 first | (refine WP.S s_escape fun _ z => ?_; simp +decide only [TF, q1, hg, ↓reduceIte]; apply z; clear z) | (apply WP.skip; show WP ..) | apply WP.block | apply WP.seq
  refine WP.S s_escape fun _ z => ?_
  simp +decide only [TF, ↓reduceIte]
  refine CallK.P (c_plainc _) rfl rfl ?_
  simp +decide only [TF, ↓reduceIte]
  apply z; clear z
  refine WP.cond rfl (fun q2 => ?_) (fun q2 => ?_)
  ·have hes := escB_plain s k hlt q2
   refine WP.R fun _ z => ?_
   simp +decide only [TF, q2, ↓reduceIte]
   refine CallK.imp (bld_wb 0 1 (by decide) a (escB (s.take k)).isEmpty (escB (s.take k)) s[k] (by omega)) rfl rfl (by simp [lk, BClo]) (by simp [lk]) (by simp [lk]) ?_
   simp +decide only [TF, ↓reduceIte]
   apply z; clear z
   show WP ..
   refine WP.R fun _ z => ?_; simp +decide only [TF, ↓reduceIte]; apply z; clear z
   show ∃ y, _ ∧ Weak _ _ _
   refine ⟨⟨(k + 1, false), ?_⟩, ?_, ?_⟩
   ·show k + 1 ≤ s.length; omega
   ·dsimp only; omega
   exact Weak.store (by simp [St.get, lk, Le.refl, wrap1 hlt hs]) (by simp [lk, adr_false, hes]) (by simp [lk]) (by simp [BClo, lk]) (by simp)
  have hes := escB_odd s k hlt q2
  have hx1 := hex_q s[k]
  have hx2 := hex_r s[k]
  refine WP.S s_escape fun _ z => ?_
  simp +decide only [TF, q2, ↓reduceIte]
  refine CallK.imp (bld_wb 0 1 (by decide) a (escB (s.take k)).isEmpty (escB (s.take k)) 37 (by omega)) rfl rfl (by simp [lk, BClo]) (by simp [lk]) (by simp [lk]) ?_
  simp +decide only [TF, ↓reduceIte]
  apply z; clear z
  refine WP.S s_escape fun _ z => ?_
  simp +decide only [TF, hx1, shr4, ↓reduceIte]
  refine CallK.imp (bld_wb 0 1 (by decide) false false (escB (s.take k) ++ [37]) (hexD (s[k].toNat / 16)) (by simp only [List.length_append, List.length_cons, List.length_nil]; omega)) rfl rfl (by simp [lk, BClo, adr_false]) (by simp [lk]) (by simp [lk]) ?_
  simp +decide only [TF, ↓reduceIte]
  apply z; clear z
  refine WP.R fun _ z => ?_
  simp +decide only [TF, hx2, and15, ↓reduceIte]
  refine CallK.imp (bld_wb 0 1 (by decide) false false (escB (s.take k) ++ [37] ++ [hexD (s[k].toNat / 16)]) (hexD (s[k].toNat % 16)) (by simp only [List.length_append, List.length_cons, List.length_nil]; omega)) rfl rfl (by simp [lk, BClo, adr_false]) (by simp [lk]) (by simp [lk]) ?_
  simp +decide only [TF, ↓reduceIte]
  apply z; clear z
  show WP ..
  refine WP.R fun _ z => ?_; simp +decide only [TF, ↓reduceIte]; apply z; clear z
  show ∃ y, _ ∧ Weak _ _ _
  refine ⟨⟨(k + 1, false), ?_⟩, ?_, ?_⟩
  ·show k + 1 ≤ s.length; omega
  ·dsimp only; omega
  exact Weak.store (by simp [St.get, lk, Le.refl, wrap1 hlt hs]) (by simp [lk, adr_false, hes]) (by simp [lk]) (by simp [BClo, lk]) (by simp)
 have hge := ge_of_q q1
 obtain rfl : k = s.length := by omega
 rw [List.take_length]
 apply WP.exit; show WP ..
 refine WP.S s_escape fun _ z => ?_
 simp +decide only [TF, q1, ↓reduceIte]
 refine CallK.imp (bld_str 0 1 (by decide) (adr a 0) (escB s)) rfl rfl (by simp [lk, BClo]) (by simp [lk]) (by simp [lk]) ?_
 simp +decide only [TF, ↓reduceIte]
 apply z; clear z
 apply WP.ret
 exact Ends.P rfl (Le.of_eq (by simp +decide only [St.get, W, ↓reduceIte]))
theorem c_r_escape (s : List UInt8) (hs : s.length ≤ 1099511627776) : CallP Pr 49 [.str s] (.str (escB s)) := by
 refine CallP.W Tryz.func49 Tryz.ntmps49 ?_
 simp only [frameOf]
 iterate 3 first | (refine WP.S [0, 2, 3, 4, 8, 14] fun _ z => ?_; simp +decide only [TF, ↓reduceIte]; apply z; clear z) | apply WP.seq
 refine WP.S [0, 3, 4] fun _ z => ?_; simp +decide only [TF, ↓reduceIte]; apply z; clear z
 apply WP.block
 refine WP.lp [0] (X := {k : Nat // k ≤ s.length}) (fun x => match x with | ⟨(k), _⟩ => [(3, .slice 1 (escB (s.take k)).isEmpty (u8s (escB (s.take k))) (some 0)), (4, .int .i64 k)]) (fun x => match x with | ⟨(k), _⟩ => [(0, .tip 5 1 (escB (s.take k)).length)]) (fun x => match x with | ⟨(k), _⟩ => s.length - k) (by simp +decide only [W, ↓reduceIte]; rfl) ?_ ⟨(0), Nat.zero_le _⟩ ?_
 rotate_left
 ·refine Weak.trans (Weak.ghost 0 5 1 (F' := [(4, .int .i64 0), (3, .slice 1 true [] (some 0)), (0, .str s)]) (σ' := []) (by simp [lk]) (by simp [keep, ins, UpF, UpD]) (by simp [UpS])) ?_; exact Weak.store (by simp [St.get, lk, Le.refl, escB, u8s]) (by simp [lk, escB]) (by simp [lk]) (by simp [BClo]) (by simp)
 rintro ⟨k, hk⟩
 dsimp only
 simp only [List.cons_append, List.nil_append]
 iterate 2 first | (refine WP.S [0, 2, 3, 4, 8, 14] fun _ z => ?_; simp +decide only [TF, ↓reduceIte]; apply z; clear z) | apply WP.seq
 refine WP.cond rfl (fun q1 => ?_) (fun q1 => ?_)
 ·have hlt := lt_of_q q1
  have hg := getE hlt
  have hEl := escB_take_len s k hk
  iterate 3 first | (apply WP.skip; show WP ..) | apply WP.block | apply WP.seq
  refine WP.S [0, 2, 3, 4, 8, 14] fun _ z => ?_
  simp +decide only [TF, q1, hg, ↓reduceIte]
  refine CallK.P (c_r_plain _) rfl rfl ?_
  simp +decide only [TF, ↓reduceIte]
  apply z; clear z
  refine WP.cond rfl (fun q2 => ?_) (fun q2 => ?_)
  ·have hes := escB_plain s k hlt q2
   refine WP.R fun _ z => ?_
   simp +decide only [TF, hg, q2, u8s_len, u8s_emp, u8s_snoc', ↓reduceIte]
   refine ⟨⟨by simp only [List.length_append, List.length_cons, List.length_nil]; omega, by simp only [List.length_append, List.length_cons, List.length_nil]; omega⟩, ?_⟩
   apply z; clear z
   show WP ..
   refine WP.R fun _ z => ?_; simp +decide only [TF, ↓reduceIte]; apply z; clear z
   show ∃ y, _ ∧ Weak _ _ _
   refine ⟨⟨k + 1, ?_⟩, ?_, ?_⟩
   ·show k + 1 ≤ s.length; omega
   ·dsimp only; omega
   exact Weak.store (by simp [St.get, lk, Le.refl, hes, wrap1 hlt hs, lenE2]) (by simp [lk, hes]) (by simp [lk]) (by simp [BClo, lk]) (by simp)
  have hes := escB_odd s k hlt q2
  have hx1 := hex_q s[k]
  have hx2 := hex_r s[k]
  refine WP.E fun _ z => ?_
  simp +decide only [TF, hg, q2, hx1, hx2, quo16, rem16, u8s_len, u8s_emp, u8s_3, ↓reduceIte]
  refine ⟨⟨by simp only [List.length_append, List.length_cons, List.length_nil]; omega, by simp only [List.length_append, List.length_cons, List.length_nil]; omega⟩, ?_⟩
  refine z _ _ (by kernel_rfl) ?_; clear z
  show WP ..
  refine WP.R fun _ z => ?_; simp +decide only [TF, ↓reduceIte]; apply z; clear z
  show ∃ y, _ ∧ Weak _ _ _
  refine ⟨⟨k + 1, ?_⟩, ?_, ?_⟩
  ·show k + 1 ≤ s.length; omega
  ·dsimp only; omega
  exact Weak.store (by simp [St.get, lk, Le.refl, hes, wrap1 hlt hs, lenE2]) (by simp [lk, hes]) (by simp [lk]) (by simp [BClo, lk]) (by simp)
 have hge := ge_of_q q1
 obtain rfl : k = s.length := by omega
 rw [List.take_length]
 iterate 2 first | (refine WP.S [0, 2, 3, 4, 8, 14] fun _ z => ?_; simp +decide only [TF, q1, ↓reduceIte]; apply z; clear z) | (apply WP.exit; show WP ..)
 apply WP.ret
 exact Ends.P rfl (Le.of_eq (by simp +decide only [St.get, W, ↓reduceIte]))
theorem c_r_hexdigit (c : UInt8) : CallP Pr 133 [.int .u8 c.toNat] (.int .i64 (hexv c)) := by
 refine CallP.W Tryz.func133 Tryz.ntmps133 ?_
 simp only [frameOf]
 iterate 2 first | (refine WP.S [0, 2, 3, 5, 11] fun _ z => ?_; simp +decide only [TF, ↓reduceIte]; apply z; clear z) | apply WP.seq
 refine WP.S [0, 3] fun _ z => ?_; simp +decide only [TF, ↓reduceIte]; apply z; clear z
 apply WP.block
 refine WP.lp [0] (X := {k : Nat // k ≤ 16 ∧ hexv c = hexFrom c (hexL.drop k) k}) (fun x => match x with | ⟨(k), _⟩ => [(3, .int .i64 k)]) (fun x => match x with | ⟨(k), _⟩ => []) (fun x => match x with | ⟨(k), _⟩ => 16 - k) (by simp +decide only [W, ↓reduceIte]; rfl) ?_ ⟨(0), ⟨by omega, (hexFrom_eq c).symm⟩⟩ ?_
 rotate_left
 ·exact Weak.nil (by simp [St.get, lk, W, Le.refl, W]) (by simp [W])
 rintro ⟨k, hk, hI⟩
 dsimp only
 simp only [List.cons_append, List.nil_append]
 rcases Nat.lt_or_ge k 16 with hlt | hge
 ·have hg := hex_at k hlt
  have hq : decide ((k : Int) < 16) = true := decide_eq_true (by omega)
  have hd : hexL.drop k = hexD k :: hexL.drop (k + 1) := hex_drop k hlt
  rw [hd, hexFrom] at hI
  iterate 7 first | (refine WP.S [0, 2, 3, 5, 11] fun _ z => ?_; simp +decide only [TF, hg, hq, ↓reduceIte]; apply z; clear z) | (apply WP.skip; show WP ..) | refine WP.cT ?_ | apply WP.block | apply WP.seq
  refine WP.cond rfl (fun q1 => ?_) (fun q1 => ?_)
  ·refine WP.S [0, 2, 3, 5, 11] fun _ z => ?_; simp +decide only [TF, q1, ↓reduceIte]; apply z; clear z
   apply WP.ret
   exact Ends.P rfl (Le.of_eq (by simp +decide only [St.get, W, q1, hI, ↓reduceIte]))
  iterate 2 first | (refine WP.R fun _ z => ?_; simp +decide only [TF, q1, ↓reduceIte]; apply z; clear z) | (apply WP.skip; show WP ..)
  show ∃ y, _ ∧ Weak _ _ _
  refine ⟨⟨k + 1, ?_⟩, ?_, Weak.nil ?_ ?_⟩
  ·exact ⟨by omega, by first | (simpa [hg, hq, q1] using hI) | (simp_all; done)⟩
  ·dsimp only; omega
  ·simp [St.get, lk, Le.refl, wrapS hlt (show 16 ≤ 140737488355328 by omega)]
  simp [W]
 obtain rfl : k = 16 := by omega
 rw [show hexL.drop 16 = [] from rfl, hexFrom] at hI
 have hq : decide (((16 : Nat) : Int) < 16) = false := by decide
 iterate 5 first | (refine WP.S [0, 2, 3, 5, 11] fun _ z => ?_; simp +decide only [TF, ↓reduceIte]; apply z; clear z) | (apply WP.exit; show WP ..) | refine WP.cF ?_ | apply WP.seq
 apply WP.ret
 exact Ends.P rfl (Le.of_eq (by simp +decide only [St.get, W, hI, ↓reduceIte]))
theorem map_snoc (o : Option (List UInt8)) (l : List UInt8) (c : UInt8) : (o.map (c :: ·)).map (l ++ ·) = o.map (l ++ [c] ++ ·) := by
 cases o <;> simp
theorem is37 {c : UInt8} (h : ((c.toNat : Int) != 37) = false) : c = 37 := by
 have e : (c.toNat : Int) = 37 := by simpa using h
 exact UInt8.toNat_inj.1 (by show c.toNat = 37; omega)
theorem isnt37 {c : UInt8} (h : ((c.toNat : Int) != 37) = true) : ¬ c = 37 := by
 intro e; rw [e] at h; exact absurd h (by decide)
theorem len37 {s : List UInt8} {k : Nat} (h : decide (((k + 2 : Nat) : Int) ≥ (s.length : Int)) = true) : s.length ≤ k + 2 := by simp at h; omega
theorem len37' {s : List UInt8} {k : Nat} (h : decide (((k + 2 : Nat) : Int) ≥ (s.length : Int)) = false) : k + 2 < s.length := by simp at h; omega
abbrev s_unescape : List Nat := [0, 2, 3, 4, 5, 6, 7, 11, 17, 32, 56]
theorem c_unescape (s : List UInt8) (hs : s.length ≤ 1099511627776) : CallP Pr 96 [.str s] (unD (unB s)) := by
 refine CallP.W Tryz.func96 Tryz.ntmps96 ?_
 simp only [frameOf]
 iterate 3 first | (refine WP.S s_unescape fun _ z => ?_; simp +decide only [TF, ↓reduceIte]; apply z; clear z) | apply WP.seq
 refine WP.S [0, 4, 5] fun _ z => ?_; simp +decide only [TF, ↓reduceIte]; apply z; clear z
 apply WP.block
 refine WP.lp [0, 4] (X := {x : (Nat) × (List UInt8) × (Bool) // match x with | (k, l, a) => k ≤ s.length ∧ l.length ≤ k ∧ unB s = (unB (s.drop k)).map (l ++ ·)}) (fun x => match x with | ⟨(k, l, a), _⟩ => [(5, .int .i64 k)]) (fun x => match x with | ⟨(k, l, a), _⟩ => [(0, .box 138 [adr a 0, .slice 1 (l).isEmpty (u8s (l)) (some 1)]), (1, .tip 5 1 (l).length)]) (fun x => match x with | ⟨(k, l, a), _⟩ => s.length - k) (by simp +decide only [W, ↓reduceIte]; rfl) ?_ ⟨(0, [], true), ⟨Nat.zero_le _, Nat.le_refl _, by simp⟩⟩ ?_
 rotate_left
 ·refine Weak.trans (Weak.ghost 1 5 1 (σ' := [(0, .box 138 [.nilptr, .slice 1 true [] (some 1)])]) (by simp [lk]) (UpF.refl _ _ _) (by simp [UpS, UpB, UpL, UpD])) ?_; exact Weak.store (by simp [St.get, lk, W, Le.refl, W]) (by simp [lk, adr_true, u8s]) (by simp [lk]) (by simp [BClo, lk, u8s]) (by simp)
 rintro ⟨⟨k, l, a⟩, hk, hl, hI⟩
 dsimp only
 simp only [List.cons_append, List.nil_append]
 iterate 2 first | (refine WP.S s_unescape fun _ z => ?_; simp +decide only [TF, ↓reduceIte]; apply z; clear z) | apply WP.seq
 refine WP.cond rfl (fun q1 => ?_) (fun q1 => ?_)
 ·have hlt := lt_of_q q1
  have hg := getE hlt
  have hw2 := wrap2 hlt hs
  have hw1 := wrap1 hlt hs
  rw [dropE hlt, unB_cons] at hI
  iterate 4 first | (apply WP.skip; show WP ..) | apply WP.block | apply WP.seq
  refine WP.S s_unescape fun _ z => ?_
  simp +decide only [TF, q1, hg, ↓reduceIte]
  refine CallK.P (c_plainc _) rfl rfl ?_
  simp +decide only [TF, ↓reduceIte]
  apply z; clear z
  refine WP.cond rfl (fun q2 => ?_) (fun q2 => ?_)
  ·rw [if_pos q2] at hI
   refine WP.S s_unescape fun _ z => ?_
   simp +decide only [TF, hg, q2, ↓reduceIte]
   refine CallK.imp (bld_wb 0 1 (by decide) a l.isEmpty l s[k] (by omega)) rfl rfl (by simp [lk, BClo]) (by simp [lk]) (by simp [lk]) ?_
   simp +decide only [TF, ↓reduceIte]
   apply z; clear z
   iterate 2 first | (refine WP.R fun _ z => ?_; simp +decide only [TF, hw1, ↓reduceIte]; apply z; clear z) | (apply WP.exit; show WP ..)
   show ∃ y, _ ∧ Weak _ _ _
   refine ⟨⟨(k + 1, l ++ [s[k]], false), ?_⟩, ?_, ?_⟩
   ·exact ⟨by omega, by simp; omega, by rw [← map_snoc]; exact hI⟩
   ·dsimp only; omega
   exact Weak.store (by simp [St.get, lk, Le.refl]) (by simp [lk, adr_false, lenEs]) (by simp [lk]) (by simp [BClo, lk]) (by simp)
  rw [if_neg (by simp [q2])] at hI
  iterate 2 first | (apply WP.skip; show WP ..) | apply WP.seq
  refine WP.S s_unescape fun _ z => ?_
  refine runOps.take 5 fun J hJ => ?_
  simp +decide only [TF, hg, q2, ↓reduceIte]
  refine hJ _ _ ?_; clear hJ J
  refine runOps.part 26 rfl (fun q3 => ?_) (fun q3 => ?_)
  ·have hc : ¬ s[k] = 37 := isnt37 q3
   rw [if_neg hc] at hI
   simp only [Option.map_none] at hI
   simp +decide only [TF, q3, ↓reduceIte]
   apply z; clear z
   iterate 2 first | (refine WP.S s_unescape fun _ z => ?_; simp +decide only [TF, ↓reduceIte]; apply z; clear z) | refine WP.cT ?_
   apply WP.ret
   exact Ends.P (d := .tup [_, _]) rfl (Le.of_eq (by simp +decide only [St.get, lk, W, unD, hI, ↓reduceIte]))
  have hc : s[k] = 37 := is37 q3
  rw [if_pos hc] at hI
  simp +decide only [TF, hw2, q3, ↓reduceIte]
  apply z; clear z
  refine WP.cond rfl (fun q4 => ?_) (fun q4 => ?_)
  ·rw [unHex_short s k (len37 q4)] at hI
   simp only [Option.map_none] at hI
   refine WP.S s_unescape fun _ z => ?_; simp +decide only [TF, q4, ↓reduceIte]; apply z; clear z
   apply WP.ret
   exact Ends.P (d := .tup [_, _]) rfl (Le.of_eq (by simp +decide only [St.get, lk, W, unD, hI, ↓reduceIte]))
  have h2 := len37' q4
  have hg1 := getE (show k + 1 < s.length by omega)
  have hg2 := getE h2
  rw [drop2 h2, unHex] at hI
  apply WP.skip; show WP ..
  refine WP.D s_unescape fun _ z => ?_
  simp +decide only [TF, hw1, q4, hg1, ↓reduceIte]
  refine CallK.P (lib_indexByte _ _) rfl rfl ?_
  simp +decide only [TF, hw2, hg2, ofNatN, hexv_ix, ↓reduceIte]
  refine CallK.P (lib_indexByte _ _) rfl rfl ?_
  simp +decide only [TF, ofNatN, hexv_ix, ↓reduceIte]
  refine z _ _ (by kernel_rfl) ?_; clear z
  apply WP.seq
  refine WP.S s_unescape fun _ z => ?_
  refine runOps.take 3 fun J hJ => ?_
  simp +decide only [TF, ↓reduceIte]
  refine hJ _ _ ?_; clear hJ J
  refine runOps.part 45 rfl (fun q5 => ?_) (fun q5 => ?_)
  ·rw [if_pos (Or.inl (by simpa using q5))] at hI
   simp only [Option.map_none] at hI
   simp +decide only [TF, q5, ↓reduceIte]
   apply z; clear z
   iterate 2 first | (refine WP.S s_unescape fun _ z => ?_; simp +decide only [TF, ↓reduceIte]; apply z; clear z) | refine WP.cT ?_
   apply WP.ret
   exact Ends.P (d := .tup [_, _]) rfl (Le.of_eq (by simp +decide only [St.get, lk, W, unD, hI, ↓reduceIte]))
  have hh1 : 0 ≤ hexv s[k + 1] := by simpa using q5
  refine runOps.take 4 fun J hJ => ?_
  simp +decide only [TF, q5, ↓reduceIte]
  refine hJ _ _ ?_; clear hJ J
  refine runOps.part 49 rfl (fun q6 => ?_) (fun q6 => ?_)
  ·rw [if_pos (Or.inr (Or.inl (by simpa using q6)))] at hI
   simp only [Option.map_none] at hI
   simp +decide only [TF, q6, ↓reduceIte]
   apply z; clear z
   iterate 2 first | (refine WP.S s_unescape fun _ z => ?_; simp +decide only [TF, ↓reduceIte]; apply z; clear z) | refine WP.cT ?_
   apply WP.ret
   exact Ends.P (d := .tup [_, _]) rfl (Le.of_eq (by simp +decide only [St.get, lk, W, unD, hI, ↓reduceIte]))
  have hh2 : 0 ≤ hexv s[k + 2] := by simpa using q6
  have hob := hexB_or s[k + 1] s[k + 2] hh1 hh2
  simp +decide only [TF, q6, hob, ↓reduceIte]
  refine CallK.P (c_plainc (hexB s[k + 1] s[k + 2])) rfl rfl ?_
  simp +decide only [TF, ↓reduceIte]
  apply z; clear z
  refine WP.cond rfl (fun q7 => ?_) (fun q7 => ?_)
  ·rw [if_pos (Or.inr (Or.inr q7))] at hI
   simp only [Option.map_none] at hI
   refine WP.S s_unescape fun _ z => ?_; simp +decide only [TF, q7, ↓reduceIte]; apply z; clear z
   apply WP.ret
   exact Ends.P (d := .tup [_, _]) rfl (Le.of_eq (by simp +decide only [St.get, lk, W, unD, hI, ↓reduceIte]))
  rw [if_neg (by rintro (e | e | e) <;> simp_all; done)] at hI
  apply WP.skip; show WP ..
  refine WP.S s_unescape fun _ z => ?_
  simp +decide only [TF, hob, q7, ↓reduceIte]
  refine CallK.imp (bld_wb 0 1 (by decide) a l.isEmpty l (hexB s[k + 1] s[k + 2]) (by omega)) rfl rfl (by simp [lk, BClo]) (by simp [lk]) (by simp [lk]) ?_
  simp +decide only [TF, ↓reduceIte]
  apply z; clear z
  iterate 2 first | (refine WP.R fun _ z => ?_; simp +decide only [TF, hw2, ↓reduceIte]; apply z; clear z; show WP ..) | (refine WP.R fun _ z => ?_; simp +decide only [TF, ↓reduceIte]; apply z; clear z)
  show ∃ y, _ ∧ Weak _ _ _
  refine ⟨⟨(k + 3, l ++ [hexB s[k + 1] s[k + 2]], false), ?_⟩, ?_, ?_⟩
  ·exact ⟨by omega, by simp; omega, by rw [← map_snoc]; exact hI⟩
  ·dsimp only; omega
  exact Weak.store (by simp [St.get, lk, Le.refl, wrap3 hlt hs]) (by simp [lk, adr_false, lenEs]) (by simp [lk]) (by simp [BClo, lk]) (by simp)
 have hge := ge_of_q q1
 rw [dropN hge, unB] at hI
 simp only [Option.map_some, List.append_nil] at hI
 apply WP.exit; show WP ..
 refine WP.S s_unescape fun _ z => ?_
 simp +decide only [TF, q1, ↓reduceIte]
 refine CallK.imp (bld_str 0 1 (by decide) (adr a 0) l) rfl rfl (by simp [lk, BClo]) (by simp [lk]) (by simp [lk]) ?_
 simp +decide only [TF, ↓reduceIte]
 apply z; clear z
 apply WP.ret
 exact Ends.P (d := .tup [_, _]) rfl (Le.of_eq (by simp +decide only [St.get, lk, W, unD, hI, ↓reduceIte]))
abbrev s_r_unescape0 : List Nat := [0, 2, 3, 4, 5, 9, 15, 42, 65]
theorem c_r_unescape0 (s : List UInt8) (hs : s.length ≤ 1099511627776) : CallP Pr 100 [.str s] (unRD s) := by
 refine CallP.W Tryz.func100 Tryz.ntmps100 ?_
 simp only [frameOf]
 iterate 3 first | (refine WP.S s_r_unescape0 fun _ z => ?_; simp +decide only [TF, ↓reduceIte]; apply z; clear z) | apply WP.seq
 refine WP.S [0, 4, 5] fun _ z => ?_; simp +decide only [TF, ↓reduceIte]; apply z; clear z
 apply WP.block
 refine WP.lp [0] (X := {x : (Nat) × (List UInt8) // match x with | (k, l) => k ≤ s.length ∧ l.length ≤ k ∧ unR s = (unR (s.drop k)).map (l ++ ·)}) (fun x => match x with | ⟨(k, l), _⟩ => [(4, .slice 1 l.isEmpty (u8s l) (some 0)), (5, .int .i64 k)]) (fun x => match x with | ⟨(k, l), _⟩ => [(0, .tip 5 1 l.length)]) (fun x => match x with | ⟨(k, l), _⟩ => s.length - k) (by simp +decide only [W, ↓reduceIte]; rfl) ?_ ⟨(0, []), ⟨Nat.zero_le _, Nat.le_refl _, by simp⟩⟩ ?_
 rotate_left
 ·refine Weak.trans (Weak.ghost 0 5 1 (F' := [(5, .int .i64 0), (4, .slice 1 true [] (some 0)), (0, .str s)]) (σ' := []) (by simp [lk]) (by simp [keep, ins, UpF, UpD]) (by simp [UpS])) ?_; exact Weak.store (by simp [St.get, lk, Le.refl, u8s]) (by simp [lk]) (by simp [lk]) (by simp [BClo]) (by simp)
 rintro ⟨⟨k, l⟩, hk, hl, hI⟩
 dsimp only
 simp only [List.cons_append, List.nil_append]
 iterate 2 first | (refine WP.S s_r_unescape0 fun _ z => ?_; simp +decide only [TF, ↓reduceIte]; apply z; clear z) | apply WP.seq
 refine WP.cond rfl (fun q1 => ?_) (fun q1 => ?_)
 ·have hlt := lt_of_q q1
  have hg := getE hlt
  have hw2 := wrap2 hlt hs
  have hw1 := wrap1 hlt hs
  rw [dropE hlt, unR_cons] at hI
  iterate 5 first | (refine WP.S s_r_unescape0 fun _ z => ?_; simp +decide only [TF, q1, hg, ↓reduceIte]; apply z; clear z) | (apply WP.skip; show WP ..) | apply WP.block | apply WP.seq
  refine WP.cond rfl (fun q2 => ?_) (fun q2 => ?_)
  ·have hc : ¬ s[k] = 37 := isnt37 q2
   rw [if_neg hc] at hI
   refine WP.S s_r_unescape0 fun _ z => ?_
   simp +decide only [TF, hg, q2, u8s_len, u8s_emp, u8s_snoc', ↓reduceIte]
   refine ⟨⟨by simp only [List.length_append, List.length_cons, List.length_nil]; omega, by simp only [List.length_append, List.length_cons, List.length_nil]; omega⟩, ?_⟩
   apply z; clear z
   iterate 2 first | (refine WP.R fun _ z => ?_; simp +decide only [TF, hw1, ↓reduceIte]; apply z; clear z) | (apply WP.exit; show WP ..)
   show ∃ y, _ ∧ Weak _ _ _
   refine ⟨⟨(k + 1, l ++ [s[k]]), ?_⟩, ?_, ?_⟩
   ·exact ⟨by omega, by simp; omega, by rw [← map_snoc]; exact hI⟩
   ·dsimp only; omega
   exact Weak.store (by simp [St.get, lk, Le.refl, lenEs]) (by simp [lk]) (by simp [lk]) (by simp [BClo, lk]) (by simp)
  have hc : s[k] = 37 := is37 q2
  rw [if_pos hc] at hI
  iterate 2 first | (apply WP.skip; show WP ..) | apply WP.seq
  refine WP.S s_r_unescape0 fun _ z => ?_
  refine runOps.take 6 fun J hJ => ?_
  simp +decide only [TF, hw2, q2, ↓reduceIte]
  refine hJ _ _ ?_; clear hJ J
  refine runOps.part 27 rfl (fun q3 => ?_) (fun q3 => ?_)
  ·rw [unHexR_short s k (len37 q3)] at hI
   simp only [Option.map_none] at hI
   simp +decide only [TF, q3, ↓reduceIte]
   apply z; clear z
   iterate 2 first | (refine WP.S s_r_unescape0 fun _ z => ?_; simp +decide only [TF, ↓reduceIte]; apply z; clear z) | refine WP.cT ?_
   apply WP.ret
   exact Ends.P (d := .tup [_, _]) rfl (Le.of_eq (by simp +decide only [St.get, lk, W, unRD, hI, ↓reduceIte]))
  have h2 := len37' q3
  have hg1 := getE (show k + 1 < s.length by omega)
  have hg2 := getE h2
  rw [drop2 h2, unHexR] at hI
  simp +decide only [TF, hw1, q3, hg1, ↓reduceIte]
  refine CallK.P (c_r_hexdigit _) rfl rfl ?_
  refine runOps.take 3 fun J hJ => ?_
  simp +decide only [TF, ↓reduceIte]
  refine hJ _ _ ?_; clear hJ J
  refine runOps.part 35 rfl (fun q4 => ?_) (fun q4 => ?_)
  ·rw [if_pos (Or.inl (by simpa using q4))] at hI
   simp only [Option.map_none] at hI
   simp +decide only [TF, q4, ↓reduceIte]
   apply z; clear z
   iterate 2 first | (refine WP.S s_r_unescape0 fun _ z => ?_; simp +decide only [TF, ↓reduceIte]; apply z; clear z) | refine WP.cT ?_
   apply WP.ret
   exact Ends.P (d := .tup [_, _]) rfl (Le.of_eq (by simp +decide only [St.get, lk, W, unRD, hI, ↓reduceIte]))
  have hh1 : 0 ≤ hexv s[k + 1] := by simpa using q4
  simp +decide only [TF, hw2, hg2, q4, ↓reduceIte]
  refine CallK.P (c_r_hexdigit _) rfl rfl ?_
  simp +decide only [TF, ↓reduceIte]
  apply z; clear z
  refine WP.cond rfl (fun q5 => ?_) (fun q5 => ?_)
  ·rw [if_pos (Or.inr (by simpa using q5))] at hI
   simp only [Option.map_none] at hI
   refine WP.S s_r_unescape0 fun _ z => ?_; simp +decide only [TF, q5, ↓reduceIte]; apply z; clear z
   apply WP.ret
   exact Ends.P (d := .tup [_, _]) rfl (Le.of_eq (by simp +decide only [St.get, lk, W, unRD, hI, ↓reduceIte]))
  have hh2 : 0 ≤ hexv s[k + 2] := by simpa using q5
  have hob := hexB_add s[k + 1] s[k + 2] hh1 hh2
  rw [if_neg (by omega)] at hI
  apply WP.skip; show WP ..
  refine WP.D s_r_unescape0 fun _ z => ?_
  simp +decide only [TF, hw1, hg1, q5, ↓reduceIte]
  refine CallK.P (c_r_hexdigit _) rfl rfl ?_
  simp +decide only [TF, hw2, hg2, ↓reduceIte]
  refine CallK.P (c_r_hexdigit _) rfl rfl ?_
  simp +decide only [TF, hob, u8s_len, u8s_emp, u8s_snoc', ↓reduceIte]
  refine ⟨⟨by simp only [List.length_append, List.length_cons, List.length_nil]; omega, by simp only [List.length_append, List.length_cons, List.length_nil]; omega⟩, ?_⟩
  refine z _ _ (by kernel_rfl) ?_; clear z
  iterate 2 first | (refine WP.R fun _ z => ?_; simp +decide only [TF, hw2, ↓reduceIte]; apply z; clear z; show WP ..) | (refine WP.R fun _ z => ?_; simp +decide only [TF, ↓reduceIte]; apply z; clear z)
  show ∃ y, _ ∧ Weak _ _ _
  refine ⟨⟨(k + 3, l ++ [hexB s[k + 1] s[k + 2]]), ?_⟩, ?_, ?_⟩
  ·exact ⟨by omega, by simp; omega, by rw [← map_snoc]; exact hI⟩
  ·dsimp only; omega
  exact Weak.store (by simp [St.get, lk, Le.refl, lenEs, wrap3 hlt hs]) (by simp [lk]) (by simp [lk]) (by simp [BClo, lk]) (by simp)
 have hge := ge_of_q q1
 rw [dropN hge, unR] at hI
 simp only [Option.map_some, List.append_nil] at hI
 iterate 2 first | (apply WP.exit; show WP ..) | apply WP.seq
 refine WP.S s_r_unescape0 fun _ z => ?_
 simp +decide only [TF, q1, ↓reduceIte]
 refine CallK.P (c_r_escape _ (by omega)) rfl rfl ?_
 simp +decide only [TF, ↓reduceIte]
 apply z; clear z
 refine WP.cond rfl (fun q6 => ?_) (fun q6 => ?_)
 ·refine WP.S s_r_unescape0 fun _ z => ?_; simp +decide only [TF, q6, ↓reduceIte]; apply z; clear z
  apply WP.ret
  exact Ends.P (d := .tup [_, _]) rfl (Le.of_eq (by simp_all [St.get, lk, W, unRD]))
 iterate 2 first | (refine WP.S s_r_unescape0 fun _ z => ?_; simp +decide only [TF, q6, ↓reduceIte]; apply z; clear z) | (apply WP.skip; show WP ..)
 apply WP.ret
 exact Ends.P (d := .tup [_, _]) rfl (Le.of_eq (by simp_all [St.get, lk, W, unRD]))
theorem c_r_unescape (s : List UInt8) (hs : s.length ≤ 1099511627776) : CallP Pr 100 [.str s] (unD (unB s)) := unRD_eq s ▸ c_r_unescape0 s hs
theorem decp_cases (p : Int → Bool) (hp : ∀ n, 127 < n → p n = false) (s : List UInt8) (k : Nat) (hk : k ≤ s.length) : s.length ≤ k ∨ (k < s.length ∧ 127 < (decD s k).1 ∧ (s.drop k).all (fun c => p c.toNat) = false) ∨
  (∃ h : k < s.length, (decD s k).1 = s[k].toNat ∧ (decD s k).2 = 1 ∧ (s.drop k).all (fun c => p c.toNat) = (p s[k].toNat && (s.drop (k + 1)).all (fun c => p c.toNat))) := by
 by_cases h : k < s.length
 ·right
  have e : decD s k = Lib.decodeN ((⟨s.toArray⟩ : ByteArray).size - k) ((⟨s.toArray⟩ : ByteArray).get! k).toNat ((⟨s.toArray⟩ : ByteArray).get! (k + 1)).toNat ((⟨s.toArray⟩ : ByteArray).get! (k + 2)).toNat ((⟨s.toArray⟩ : ByteArray).get! (k + 3)).toNat := Lib.decode_at _ _
  have hb : (⟨s.toArray⟩ : ByteArray).get! k = s[k] := getB ⟨s.toArray⟩ h
  rw [hb] at e
  have hd : (s.drop k).all (fun c => p c.toNat) = (p s[k].toNat && (s.drop (k + 1)).all (fun c => p c.toNat)) := by rw [dropE h, List.all_cons]
  by_cases h8 : s[k].toNat < 128
  ·right
   refine ⟨h, ?_, ?_, hd⟩ <;> (rw [e]; unfold Lib.decodeN; rw [if_pos h8])
  ·left
   refine ⟨h, ?_, ?_⟩
   ·rw [e]; unfold Lib.decodeN; rw [if_neg h8]
    repeat' split
    all_goals (first | omega | (simp only []; omega))
   ·rw [hd, hp _ (by omega)]; rfl
 ·left; omega
def decV (l : List UInt8) : Nat := l.foldl (fun a c => a * 10 + (c.toNat - 48)) 0
theorem decV_snoc (l : List UInt8) (c : UInt8) : decV (l ++ [c]) = decV l * 10 + (c.toNat - 48) := by simp [decV]
theorem foldl_dec (l : List UInt8) : ∀ a, l.foldl (fun a c => a * 10 + (c.toNat - 48)) a = a * 10 ^ l.length + decV l := by
 induction l with
 | nil => intro a; simp [decV]
 | cons c l ih =>
  intro a
  have e : decV (c :: l) = (c.toNat - 48) * 10 ^ l.length + decV l := by
   rw [decV, List.foldl_cons, ih]; simp
  rw [List.foldl_cons, ih, e, List.length_cons, Nat.pow_succ, Nat.add_mul, Nat.mul_assoc, Nat.mul_comm 10, Nat.add_assoc]
theorem decV_cons (c : UInt8) (l : List UInt8) : decV (c :: l) = (c.toNat - 48) * 10 ^ l.length + decV l := by
 rw [decV, List.foldl_cons, foldl_dec]; simp
theorem decV_app (l m : List UInt8) : decV (l ++ m) = decV l * 10 ^ m.length + decV m := by
 have := foldl_dec m (decV l)
 rw [← this]; simp [decV]
theorem decV_take (l : List UInt8) (k : Nat) (h : k < l.length) : decV (l.take (k + 1)) = decV (l.take k) * 10 + (l[k].toNat - 48) := by
 rw [takeS h, decV_snoc]
theorem decV_le (l : List UInt8) (k : Nat) : decV (l.take k) ≤ decV l := by
 have := decV_app (l.take k) (l.drop k)
 rw [List.take_append_drop] at this
 rw [this]
 have h1 : 1 ≤ 10 ^ (l.drop k).length := Nat.one_le_pow _ _ (by decide)
 have := Nat.le_mul_of_pos_right (decV (l.take k)) h1
 omega
def dgB (n : Int) : Bool := decide (48 ≤ n) && decide (n ≤ 57)
def decOk (t : List UInt8) (z : Bool) : Bool := !(t == []) && !(chAt t 0 == 48 && (decide ((t.length : Int) > 1) || !z)) && t.all (fun c => dgB c.toNat)
def rdN (s : List UInt8) : Int × Int :=
 match s with
 | [] => (0, 4)
 | c :: t =>
  if c = 45 then (if decOk t false then (if decV t ≤ 9223372036854775808 then (-(decV t : Int), 0) else (0, 27)) else (0, 4))
  else if decOk (c :: t) true then (if decV (c :: t) < 9223372036854775808 then ((decV (c :: t) : Int), 0) else (0, 27)) else (0, 4)
def rdD (s : List UInt8) : D := .tup [.int .i64 (rdN s).1, .int .i64 (rdN s).2]
@[simp] theorem clo_rdD {S : Nat → Prop} (s : List UInt8) : Clo S (rdD s) := by simp [rdD]
theorem parseU (l : List UInt8) : ∀ acc : Nat, acc < 18446744073709551616 → l.all (fun c => dgB c.toNat) = true →
  Lib.parseUint10 acc l = if acc * 10 ^ l.length + decV l < 18446744073709551616 then .ok (acc * 10 ^ l.length + decV l) else .range := by
 induction l with
 | nil => intro acc h _; simp [Lib.parseUint10, decV, h]
 | cons c l ih =>
  intro acc h hd
  simp only [List.all_cons, Bool.and_eq_true, dgB, decide_eq_true_eq] at hd
  obtain ⟨hc, hl⟩ := hd
  have hcd : 48 ≤ c.toNat ∧ c.toNat ≤ 57 := by omega
  have e : acc * 10 ^ (c :: l).length + decV (c :: l) = (acc * 10 + (c.toNat - 48)) * 10 ^ l.length + decV l := by
   rw [decV_cons, List.length_cons, Nat.pow_succ, Nat.add_mul, Nat.mul_assoc, Nat.mul_comm 10, Nat.add_assoc]
  have h1 : 1 ≤ 10 ^ l.length := Nat.one_le_pow _ _ (by decide)
  have hm := Nat.le_mul_of_pos_right (acc * 10 + (c.toNat - 48)) h1
  rw [Lib.parseUint10, if_pos hcd, e]
  by_cases ho : 18446744073709551616 ≤ acc * 10 + (c.toNat - 48)
  ·rw [if_neg (by omega : ¬ (acc * 10 + (c.toNat - 48)) * 10 ^ l.length + decV l < 18446744073709551616)]
   by_cases h2 : 1844674407370955162 ≤ acc
   ·rw [if_pos h2]
   ·rw [if_neg h2, if_pos ho]
  ·rw [if_neg (by omega), if_neg ho]
   exact ih _ (by omega) (by simpa [dgB] using hl)
theorem atoi_neg (t : List UInt8) (h : t ≠ []) (hd : t.all (fun c => dgB c.toNat) = true) : Lib.atoiAll (45 :: t) = if decV t ≤ 9223372036854775808 then .ok (-(decV t : Int)) else .range := by
 have h45 : (45 : UInt8).toNat = 45 := rfl
 simp only [Lib.atoiAll, h45, or_true, if_true, Lib.parseMag, if_neg h, parseU t 0 (by omega) hd, Nat.zero_mul, Nat.zero_add]
 by_cases h1 : decV t < 18446744073709551616
 ·rw [if_pos h1]
  by_cases h2 : decV t ≤ 9223372036854775808
  ·simp [h2]; try omega
  ·simp [h2]; try omega
 ·rw [if_neg h1, if_neg (by omega)]
theorem atoi_pos (c : UInt8) (t : List UInt8) (hd : (c :: t).all (fun c => dgB c.toNat) = true) : Lib.atoiAll (c :: t) = if decV (c :: t) < 9223372036854775808 then .ok (decV (c :: t) : Int) else .range := by
 have hc : 48 ≤ c.toNat ∧ c.toNat ≤ 57 := by
  simp only [List.all_cons, Bool.and_eq_true, dgB, decide_eq_true_eq] at hd; omega
 have h1 : ¬ (c.toNat = 43 ∨ c.toNat = 45) := by omega
 have h2 : ¬ c.toNat = 45 := by omega
 simp only [Lib.atoiAll, if_neg h1, Lib.parseMag, if_neg (List.cons_ne_nil c t), parseU (c :: t) 0 (by omega) hd, Nat.zero_mul, Nat.zero_add]
 by_cases h3 : decV (c :: t) < 18446744073709551616
 ·rw [if_pos h3]
  by_cases h4 : decV (c :: t) < 9223372036854775808
  ·simp [h4, h2]; try omega
  ·simp [h4, h2]; try omega
 ·rw [if_neg h3, if_neg (by omega)]
theorem trimP_neg (t : List UInt8) : Lib.trimPrefix (45 :: t) [45] = t := by simp [Lib.trimPrefix, Lib.hasPrefix, List.isPrefixOf]
theorem trimP_pos (c : UInt8) (t : List UInt8) (h : ¬ c = 45) : Lib.trimPrefix (c :: t) [45] = c :: t := by
 have : Lib.hasPrefix (c :: t) [45] = false := by
  simp [Lib.hasPrefix, List.isPrefixOf]; exact fun e => h e.symm
 simp [Lib.trimPrefix, this]
theorem decDigits_step (u : Nat) (h : 10 ≤ u) : Lib.decDigits u = Lib.decDigits (u / 10) ++ [UInt8.ofNat (48 + u % 10)] := by
 conv => lhs; rw [Lib.decDigits]
 rw [dif_neg (by omega)]
theorem decDigits_small (u : Nat) (h : u < 10) : Lib.decDigits u = [UInt8.ofNat (48 + u)] := by
 rw [Lib.decDigits, dif_pos h]
def digs (s : List UInt8) : List UInt8 := Lib.trimPrefix s [45]
def formOk (s : List UInt8) : Bool := ((s == [48]) || (!(digs s == []) && !(chAt (digs s) 0 == 48))) && (digs s).all (fun c => dgB c.toNat)
def rdV (s : List UInt8) : Int × Int :=
 match Lib.atoiAll s with
 | .ok v => (v, 0)
 | _ => (0, 27)
def rdP (s : List UInt8) : Int × Int := if formOk s then rdV s else (0, 4)
theorem atoi_end (s : List UInt8) : (∃ v, Lib.atoiAll s = .ok v) ∨ Lib.atoiAll s = Lib.atoiAll [] ∨ Lib.atoiAll s = .range := by
 cases Lib.atoiAll s with
 | ok v => exact .inl ⟨v, rfl⟩
 | range => exact .inr (.inr rfl)
 | _ => exact .inr (.inl rfl)
theorem rdP_eq (s : List UInt8) : rdP s = rdN s := by
 unfold rdP formOk
 match s with
 | [] => decide
 | c :: t =>
  simp only [rdN]
  by_cases hc : c = 45
  ·subst hc
   have hd : digs (45 :: t) = t := trimP_neg t
   have h48 : ((45 :: t : List UInt8) == [48]) = false := by simp
   rw [hd, h48, if_pos rfl]
   have hf : decOk t false = ((false || (!(t == []) && !(chAt t 0 == 48))) && t.all (fun c => dgB c.toNat)) := by simp [decOk]
   rw [← hf]
   by_cases ho : decOk t false = true
   ·rw [if_pos ho, if_pos ho]
    have h1 : t ≠ [] := by intro e; subst e; simp [decOk] at ho
    have h2 : t.all (fun c => dgB c.toNat) = true := by
     rw [decOk, Bool.and_eq_true] at ho; exact ho.2
    unfold rdV
    rw [atoi_neg t h1 h2]
    split <;> rename_i h
    ·split at h
     ·cases h; rename_i q; rw [if_pos q]
     ·cases h
    ·split at h
     ·exact absurd rfl (h _)
     ·rename_i q; rw [if_neg q]
   ·rw [if_neg ho, if_neg ho]
  ·have hd : digs (c :: t) = c :: t := trimP_pos c t hc
   rw [hd, if_neg hc]
   have hch : chAt (c :: t) 0 = c.toNat := by simp [chAt]
   have hf : decOk (c :: t) true = ((((c :: t) == [48]) || (!((c :: t) == []) && !(chAt (c :: t) 0 == 48))) && (c :: t).all (fun c => dgB c.toNat)) := by
    unfold decOk
    congr 1
    rw [hch]
    by_cases h4 : c = 48
    ·subst h4
     cases t with
     | nil => decide
     | cons a u => simp; omega
    ·have h5 : ((c.toNat : Int) == 48) = false := by
      rw [beq_eq_false_iff_ne]
      intro e
      exact h4 (UInt8.toNat_inj.1 (by show c.toNat = 48; omega))
     rw [h5]
     have h6 : ((c :: t) == [48]) = false := by
      rw [beq_eq_false_iff_ne]; intro e; exact h4 (by simpa using (List.cons.inj e).1)
     rw [h6]; simp
   rw [← hf]
   by_cases ho : decOk (c :: t) true = true
   ·rw [if_pos ho, if_pos ho]
    have h2 : (c :: t).all (fun c => dgB c.toNat) = true := by
     rw [decOk, Bool.and_eq_true] at ho; exact ho.2
    unfold rdV
    rw [atoi_pos c t h2]
    split <;> rename_i h
    ·split at h
     ·cases h; rename_i q; rw [if_pos q]
     ·cases h
    ·split at h
     ·exact absurd rfl (h _)
     ·rename_i q; rw [if_neg q]
   ·rw [if_neg ho, if_neg ho]
theorem digs_len (s : List UInt8) : (digs s).length ≤ s.length := by
 unfold digs Lib.trimPrefix; split <;> simp
theorem digs_fold (s : List UInt8) : Lib.trimPrefix s [45] = digs s := rfl
theorem dg_hi (n : Int) (h : 127 < n) : dgB n = false := by simp [dgB]; omega
theorem ne45 {c : UInt8} (h : ¬ c = 45) : ((c.toNat : Int) == 45) = false := by
 rw [beq_eq_false_iff_ne]; intro e; exact h (UInt8.toNat_inj.1 (by show c.toNat = 45; omega))
theorem dig_conv (c : UInt8) (h : dgB c.toNat = true) : IntKind.wrap .i64 (IntKind.wrap .u8 ((c.toNat : Int) - 48)) = ((c.toNat - 48 : Nat) : Int) := by
 simp only [dgB, Bool.and_eq_true, decide_eq_true_eq] at h
 rw [wrap_u8 (by omega) (by omega), wrap_i64 (by omega) (by omega)]; omega
theorem rd_cmp (n d : Nat) (hn : n ≤ 9223372036854775808) (hd : d ≤ 9) : decide (-(n : Int) < IntKind.wrap .i64 ((IntKind.wrap .i64 (-9223372036854775808 + (d : Int))).tdiv 10)) = decide (9223372036854775808 < n * 10 + d) := by
 rw [wrap_i64 (n := -9223372036854775808 + (d : Int)) (by omega) (by omega)]
 have e : (-9223372036854775808 + (d : Int)).tdiv 10 = -((9223372036854775808 - (d : Int)) / 10) := by
  have : (-9223372036854775808 + (d : Int)) = -(9223372036854775808 - (d : Int)) := by omega
  rw [this, Int.neg_tdiv, Int.tdiv_eq_ediv_of_nonneg (by omega)]
 rw [e, wrap_i64 (by omega) (by omega)]
 rw [Bool.eq_iff_iff]
 simp only [decide_eq_true_eq]
 omega
theorem rd_step (n d : Nat) (hd : d ≤ 9) (h : n * 10 + d ≤ 9223372036854775808) : IntKind.wrap .i64 (IntKind.wrap .i64 (10 * -(n : Int)) - (d : Int)) = -((n * 10 + d : Nat) : Int) := by
 rw [wrap_i64 (n := 10 * -(n : Int)) (by omega) (by omega), wrap_i64 (by omega) (by omega)]; omega
theorem rd_neg (n : Nat) (h : n < 9223372036854775808) : IntKind.wrap .i64 (0 - -(n : Int)) = (n : Int) := by
 rw [wrap_i64 (by omega) (by omega)]; omega
theorem dig_le (c : UInt8) (h : dgB c.toNat = true) : c.toNat - 48 ≤ 9 := by
 simp only [dgB, Bool.and_eq_true, decide_eq_true_eq] at h; omega
theorem all_at {t : List UInt8} {p : UInt8 → Bool} (h : t.all p = true) {k : Nat} (hk : k < t.length) : p t[k] = true := List.all_eq_true.1 h _ (List.getElem_mem hk)
theorem decOk_all {t : List UInt8} {z : Bool} (h : decOk t z = true) : t.all (fun c => dgB c.toNat) = true := by
 rw [decOk, Bool.and_eq_true] at h; exact h.2
theorem tmod_neg (m : Int) (h : m.tmod 10 < 0) : IntKind.wrap .i64 (0 - m.tmod 10) = ((m.natAbs % 10 : Nat) : Int) := by
 have : m.tmod 10 = -((m.natAbs % 10 : Nat) : Int) := by
  rcases Int.natAbs_eq m with e | e
  ·rw [e, Int.tmod_eq_emod_of_nonneg (by omega)] at h; omega
  ·rw [e, Int.neg_tmod, Int.tmod_eq_emod_of_nonneg (by omega)]; omega
 rw [this, wrap_i64 (by omega) (by omega)]; omega
theorem tmod_pos (m : Int) (h : ¬ m.tmod 10 < 0) : m.tmod 10 = ((m.natAbs % 10 : Nat) : Int) := by
 rcases Int.natAbs_eq m with e | e
 ·rw [e, Int.tmod_eq_emod_of_nonneg (by omega)]; omega
 ·rw [e, Int.neg_tmod, Int.tmod_eq_emod_of_nonneg (by omega)] at h ⊢; omega
theorem tdiv_abs (m : Int) : (m.tdiv 10).natAbs = m.natAbs / 10 := by
 rw [Int.natAbs_tdiv]; rfl
theorem wrap_tdiv (m : Int) (h0 : -9223372036854775808 ≤ m) (h1 : m ≤ 9223372036854775807) : IntKind.wrap .i64 (m.tdiv 10) = m.tdiv 10 := by
 have := tdiv_abs m
 exact wrap_i64 (by omega) (by omega)
theorem dig_byte (d : Nat) (h : d < 10) : IntKind.wrap .u8 (IntKind.wrap .i64 (48 + (d : Int))) = ((48 + d : Nat) : Int) := by
 rw [wrap_i64 (by omega) (by omega), wrap_u8 (by omega) (by omega)]; rfl
def intInv (n m : Int) (out : List UInt8) : Prop :=
 -9223372036854775808 ≤ m ∧ m ≤ 9223372036854775807 ∧ out.length ≤ 64 ∧ m.natAbs * 2 ^ out.length ≤ 9223372036854775808 ∧
  Lib.decDigits n.natAbs = (if m = 0 then out else Lib.decDigits m.natAbs ++ out)
theorem intInv_start (n : Int) (h0 : -9223372036854775808 ≤ n) (h1 : n ≤ 9223372036854775807) (hn : n ≠ 0) : intInv n n [] := by
 refine ⟨h0, h1, by simp, by simp; omega, by rw [if_neg hn]; simp⟩
theorem intInv_step {n m : Int} {out : List UInt8} (h : intInv n m out) (hm : m ≠ 0) : out.length ≤ 63 ∧ intInv n (m.tdiv 10) (UInt8.ofNat (48 + m.natAbs % 10) :: out) := by
 obtain ⟨h0, h1, h2, h3, h4⟩ := h
 have ha : 1 ≤ m.natAbs := by omega
 have hl : out.length ≤ 63 := by
  have : 2 ^ out.length ≤ 2 ^ 63 := Nat.le_trans (Nat.le_mul_of_pos_left _ ha) h3
  exact (Nat.pow_le_pow_iff_right (by decide)).1 this
 have hd := tdiv_abs m
 refine ⟨hl, by omega, by omega, by simp; omega, ?_, ?_⟩
 ·rw [hd, List.length_cons, Nat.pow_succ]
  have : m.natAbs / 10 * 2 ≤ m.natAbs := by omega
  calc m.natAbs / 10 * (2 ^ out.length * 2) = (m.natAbs / 10 * 2) * 2 ^ out.length := by rw [Nat.mul_comm (2 ^ out.length) 2, Nat.mul_assoc]
   _ ≤ m.natAbs * 2 ^ out.length := Nat.mul_le_mul_right _ this
   _ ≤ _ := h3
 ·rw [h4, if_neg hm]
  by_cases hs : m.natAbs < 10
  ·have : m.tdiv 10 = 0 := by omega
   rw [if_pos this, decDigits_small _ hs]
   have : m.natAbs % 10 = m.natAbs := by omega
   rw [this]; rfl
  ·have : m.tdiv 10 ≠ 0 := by omega
   rw [if_neg this, hd, decDigits_step _ (by omega)]
   simp
theorem intInv_end {n : Int} {out : List UInt8} (h : intInv n 0 out) : Lib.decDigits n.natAbs = out := by
 have := h.2.2.2.2
 rwa [if_pos rfl] at this
theorem itoa_neg (n : Int) (h : n < 0) : Lib.itoa n = 45 :: Lib.decDigits n.natAbs := by rw [Lib.itoa, if_pos h]
theorem itoa_pos (n : Int) (h : ¬ n < 0) : Lib.itoa n = Lib.decDigits n.natAbs := by
 rw [Lib.itoa, if_neg h]
 have : n.toNat = n.natAbs := by omega
 rw [this]
theorem itoa_0 : Lib.itoa 0 = [48] := by
 rw [itoa_pos 0 (by omega)]; exact decDigits_small 0 (by omega)
theorem atoiD_ok {s : List UInt8} {v : Int} (h : Lib.atoiAll s = .ok v) : atoiD s = .tup [.int .i64 v, .niliface] := by unfold atoiD; rw [h]
theorem atoiD_syn {s : List UInt8} (h : Lib.atoiAll s = Lib.atoiAll []) : atoiD s = .tup [.int .i64 0, .iface 208 .junk] := by unfold atoiD; rw [h]; rfl
theorem rdV_syn {s : List UInt8} (h : Lib.atoiAll s = Lib.atoiAll []) : rdV s = (0, 27) := by unfold rdV; rw [h]; rfl
theorem atoiD_rng {s : List UInt8} (h : Lib.atoiAll s = .range) : atoiD s = .tup [.int .i64 (Lib.atoiSat s), .iface 208 .junk] := by unfold atoiD; rw [h]
abbrev s_readint0 : List Nat := [0, 2, 3, 4, 6, 7, 8, 21, 23, 24, 25, 32, 39]
theorem c_readint0 (s : List UInt8) (hs : s.length ≤ 1099511627776) : CallP Pr 131 [.str s] (.tup [.int .i64 (rdP s).1, .int .i64 (rdP s).2]) := by
 have hdl := digs_len s
 refine CallP.W Tryz.func131 Tryz.ntmps131 ?_
 simp only [frameOf]
 refine WP.S s_readint0 fun _ z => ?_; simp +decide only [TF, ↓reduceIte]; apply z; clear z
 refine WP.S s_readint0 fun _ z => ?_
 simp +decide only [TF, ↓reduceIte]
 refine CallK.P (lib_trimPrefix _ _) rfl rfl ?_
 simp +decide only [TF, digs_fold, ↓reduceIte]
 apply z; clear z
 apply WP.seq
 refine WP.S s_readint0 fun _ z => ?_
 refine runOps.take 3 fun J hJ => ?_
 simp +decide only [TF, ↓reduceIte]
 refine hJ _ _ ?_; clear hJ J
 refine runOps.part 13 rfl (fun q1 => ?_) (fun q1 => ?_)
 ·refine runOps.take 3 fun J hJ => ?_
  simp +decide only [TF, q1, ↓reduceIte]
  refine hJ _ _ ?_; clear hJ J
  refine runOps.part 16 rfl (fun q2 => ?_) (fun q2 => ?_)
  ·simp +decide only [TF, q2, ↓reduceIte]
   apply z; clear z
   iterate 2 first | (refine WP.S s_readint0 fun _ z => ?_; simp +decide only [TF, ↓reduceIte]; apply z; clear z) | refine WP.cT ?_
   apply WP.ret
   exact Ends.P (d := .tup [_, _]) rfl (Le.of_eq (by simp_all [St.get, lk, W, rdP, formOk]))
  have hne : 0 < (digs s).length := by cases hd0 : digs s with | nil => simp [hd0] at q2 | cons => simp
  have e0 := getE hne
  have e0c := chAt_of hne
  simp +decide only [TF, q2, e0, ↓reduceIte]
  apply z; clear z
  refine WP.cond rfl (fun q3 => ?_) (fun q3 => ?_)
  ·refine WP.S s_readint0 fun _ z => ?_; simp +decide only [TF, q3, ↓reduceIte]; apply z; clear z
   apply WP.ret
   exact Ends.P (d := .tup [_, _]) rfl (Le.of_eq (by simp_all [St.get, lk, W, rdP, formOk]))
  iterate 2 first | (apply WP.skip; show WP ..) | apply WP.seq
  refine WP.S [0, 23] fun _ z => ?_; simp +decide only [TF, q3, ↓reduceIte]; apply z; clear z
  apply WP.block
  refine WP.lp [0, 23] (X := {k : Nat // k ≤ (digs s).length ∧ formOk s = ((digs s).drop k).all (fun c => dgB c.toNat)}) (fun x => match x with | ⟨(k), _⟩ => []) (fun x => match x with | ⟨(k), _⟩ => [(0, .iter (digs s) k)]) (fun x => match x with | ⟨(k), _⟩ => (digs s).length - k) (by simp +decide only [W, ↓reduceIte]; rfl) ?_ ⟨(0), ⟨Nat.zero_le _, by simp_all [formOk]⟩⟩ ?_
  rotate_left
  ·exact Weak.frame (by simp [St.get, lk, W, Le.refl])
  rintro ⟨k, hk, hI⟩
  dsimp only
  simp only [List.nil_append]
  rcases decp_cases dgB dg_hi (digs s) k hk with hge | ⟨hlt, hb, hd⟩ | ⟨hlt, hd1, hd2, hd⟩
  ·have hnl : ¬ k < (digs s).length := by omega
   rw [dropN hge] at hI
   simp only [List.all_nil] at hI
   iterate 4 first | (refine WP.S s_readint0 fun _ z => ?_; simp +decide only [TF, hnl, ↓reduceIte]; apply z; clear z) | (apply WP.exit; show WP ..) | refine WP.cF ?_ | apply WP.seq
   rcases atoi_end s with ⟨v, hv⟩ | hv | hv
   ·have hA := atoiD_ok hv
    refine WP.S s_readint0 fun _ z => ?_
    simp +decide only [TF, ↓reduceIte]
    refine CallK.P (lib_atoi _ (by omega)) rfl rfl ?_
    simp +decide only [TF, hA, ↓reduceIte]
    apply z; clear z
    iterate 5 first | (refine WP.S s_readint0 fun _ z => ?_; simp +decide only [TF, ↓reduceIte]; apply z; clear z) | (apply WP.skip; show WP ..) | refine WP.cF ?_ | apply WP.seq
    apply WP.ret
    exact Ends.P (d := .tup [_, _]) rfl (Le.of_eq (by simp [St.get, lk, W, rdP, rdV, hI, hv]))
   ·have hA := atoiD_syn hv
    have hV := rdV_syn hv
    refine WP.S s_readint0 fun _ z => ?_
    simp +decide only [TF, ↓reduceIte]
    refine CallK.P (lib_atoi _ (by omega)) rfl rfl ?_
    simp +decide only [TF, hA, ↓reduceIte]
    apply z; clear z
    iterate 4 first | (refine WP.S s_readint0 fun _ z => ?_; simp +decide only [TF, ↓reduceIte]; apply z; clear z) | refine WP.cT ?_ | apply WP.seq
    apply WP.ret
    exact Ends.P (d := .tup [_, _]) rfl (Le.of_eq (by simp_all [St.get, lk, W, rdP, rdV, formOk]))
   have hA := atoiD_rng hv
   refine WP.S s_readint0 fun _ z => ?_
   simp +decide only [TF, ↓reduceIte]
   refine CallK.P (lib_atoi _ (by omega)) rfl rfl ?_
   simp +decide only [TF, hA, ↓reduceIte]
   apply z; clear z
   iterate 4 first | (refine WP.S s_readint0 fun _ z => ?_; simp +decide only [TF, ↓reduceIte]; apply z; clear z) | refine WP.cT ?_ | apply WP.seq
   apply WP.ret
   exact Ends.P (d := .tup [_, _]) rfl (Le.of_eq (by simp [St.get, lk, W, rdP, rdV, hI, hv]))
  ·rw [hd] at hI
   have hb1 : decide ((((decD (digs s) k).1 : Nat) : Int) < 48) = false := decide_eq_false (by omega)
   have hb2 : decide ((((decD (digs s) k).1 : Nat) : Int) > 57) = true := decide_eq_true (by omega)
   iterate 9 first | (refine WP.S s_readint0 fun _ z => ?_; simp +decide only [TF, hlt, hb1, hb2, ↓reduceIte]; apply z; clear z) | (apply WP.skip; show WP ..) | refine WP.cT ?_ | apply WP.block | apply WP.seq
   apply WP.ret
   exact Ends.P (d := .tup [_, _]) rfl (Le.of_eq (by simp [St.get, lk, W, rdP, hI]))
  rw [hd] at hI
  iterate 6 first | (refine WP.S s_readint0 fun _ z => ?_; simp +decide only [TF, hlt, hd1, hd2, ↓reduceIte]; apply z; clear z) | (apply WP.skip; show WP ..) | refine WP.cT ?_ | apply WP.block | apply WP.seq
  refine WP.S s_readint0 fun _ z => ?_
  refine runOps.take 3 fun J hJ => ?_
  simp +decide only [TF, ↓reduceIte]
  refine hJ _ _ ?_; clear hJ J
  refine runOps.part 29 rfl (fun q4 => ?_) (fun q4 => ?_)
  ·have hz : dgB ((digs s)[k].toNat : Int) = false := by have := of_decide_eq_true q4; simp [dgB]; omega
   simp +decide only [TF, q4, ↓reduceIte]
   apply z; clear z
   iterate 2 first | (refine WP.S s_readint0 fun _ z => ?_; simp +decide only [TF, ↓reduceIte]; apply z; clear z) | refine WP.cT ?_
   apply WP.ret
   exact Ends.P (d := .tup [_, _]) rfl (Le.of_eq (by simp [St.get, lk, W, rdP, hz, hI]))
  simp +decide only [TF, q4, ↓reduceIte]
  apply z; clear z
  refine WP.cond rfl (fun q5 => ?_) (fun q5 => ?_)
  ·have hz : dgB ((digs s)[k].toNat : Int) = false := by have := of_decide_eq_true q5; simp [dgB]; omega
   refine WP.S s_readint0 fun _ z => ?_; simp +decide only [TF, q5, ↓reduceIte]; apply z; clear z
   apply WP.ret
   exact Ends.P (d := .tup [_, _]) rfl (Le.of_eq (by simp [St.get, lk, W, rdP, hz, hI]))
  apply WP.skip
  show ∃ y, _ ∧ Weak _ _ _
  refine ⟨⟨k + 1, ?_⟩, ?_, ?_⟩
  ·exact ⟨by omega, by simp_all [dgB]⟩
  ·dsimp only; omega
  exact Weak.store (by simp [St.get, lk, W, Le.refl]) (by simp [lk]) (by simp [lk]) (by simp [BClo]) (by simp)
 simp +decide only [TF, q1, ↓reduceIte]
 apply z; clear z
 iterate 3 first | (apply WP.skip; show WP ..) | refine WP.cF ?_ | apply WP.seq
 refine WP.S [0, 23] fun _ z => ?_; simp +decide only [TF, ↓reduceIte]; apply z; clear z
 apply WP.block
 refine WP.lp [0, 23] (X := {k : Nat // k ≤ (digs s).length ∧ formOk s = ((digs s).drop k).all (fun c => dgB c.toNat)}) (fun x => match x with | ⟨(k), _⟩ => []) (fun x => match x with | ⟨(k), _⟩ => [(0, .iter (digs s) k)]) (fun x => match x with | ⟨(k), _⟩ => (digs s).length - k) (by simp +decide only [W, ↓reduceIte]; rfl) ?_ ⟨(0), ⟨Nat.zero_le _, by simp_all [formOk]⟩⟩ ?_
 rotate_left
 ·exact Weak.frame (by simp [St.get, lk, W, Le.refl])
 rintro ⟨k, hk, hI⟩
 dsimp only
 simp only [List.nil_append]
 rcases decp_cases dgB dg_hi (digs s) k hk with hge | ⟨hlt, hb, hd⟩ | ⟨hlt, hd1, hd2, hd⟩
 ·have hnl : ¬ k < (digs s).length := by omega
  rw [dropN hge] at hI
  simp only [List.all_nil] at hI
  iterate 4 first | (refine WP.S s_readint0 fun _ z => ?_; simp +decide only [TF, hnl, ↓reduceIte]; apply z; clear z) | (apply WP.exit; show WP ..) | refine WP.cF ?_ | apply WP.seq
  rcases atoi_end s with ⟨v, hv⟩ | hv | hv
  ·have hA := atoiD_ok hv
   refine WP.S s_readint0 fun _ z => ?_
   simp +decide only [TF, ↓reduceIte]
   refine CallK.P (lib_atoi _ (by omega)) rfl rfl ?_
   simp +decide only [TF, hA, ↓reduceIte]
   apply z; clear z
   iterate 5 first | (refine WP.S s_readint0 fun _ z => ?_; simp +decide only [TF, ↓reduceIte]; apply z; clear z) | (apply WP.skip; show WP ..) | refine WP.cF ?_ | apply WP.seq
   apply WP.ret
   exact Ends.P (d := .tup [_, _]) rfl (Le.of_eq (by simp [St.get, lk, W, rdP, rdV, hI, hv]))
  ·have hA := atoiD_syn hv
   have hV := rdV_syn hv
   refine WP.S s_readint0 fun _ z => ?_
   simp +decide only [TF, ↓reduceIte]
   refine CallK.P (lib_atoi _ (by omega)) rfl rfl ?_
   simp +decide only [TF, hA, ↓reduceIte]
   apply z; clear z
   iterate 4 first | (refine WP.S s_readint0 fun _ z => ?_; simp +decide only [TF, ↓reduceIte]; apply z; clear z) | refine WP.cT ?_ | apply WP.seq
   apply WP.ret
   exact Ends.P (d := .tup [_, _]) rfl (Le.of_eq (by simp_all [St.get, lk, W, rdP, rdV, formOk]))
  have hA := atoiD_rng hv
  refine WP.S s_readint0 fun _ z => ?_
  simp +decide only [TF, ↓reduceIte]
  refine CallK.P (lib_atoi _ (by omega)) rfl rfl ?_
  simp +decide only [TF, hA, ↓reduceIte]
  apply z; clear z
  iterate 4 first | (refine WP.S s_readint0 fun _ z => ?_; simp +decide only [TF, ↓reduceIte]; apply z; clear z) | refine WP.cT ?_ | apply WP.seq
  apply WP.ret
  exact Ends.P (d := .tup [_, _]) rfl (Le.of_eq (by simp [St.get, lk, W, rdP, rdV, hI, hv]))
 ·rw [hd] at hI
  have hb1 : decide ((((decD (digs s) k).1 : Nat) : Int) < 48) = false := decide_eq_false (by omega)
  have hb2 : decide ((((decD (digs s) k).1 : Nat) : Int) > 57) = true := decide_eq_true (by omega)
  iterate 9 first | (refine WP.S s_readint0 fun _ z => ?_; simp +decide only [TF, hlt, hb1, hb2, ↓reduceIte]; apply z; clear z) | (apply WP.skip; show WP ..) | refine WP.cT ?_ | apply WP.block | apply WP.seq
  apply WP.ret
  exact Ends.P (d := .tup [_, _]) rfl (Le.of_eq (by simp [St.get, lk, W, rdP, hI]))
 rw [hd] at hI
 iterate 6 first | (refine WP.S s_readint0 fun _ z => ?_; simp +decide only [TF, hlt, hd1, hd2, ↓reduceIte]; apply z; clear z) | (apply WP.skip; show WP ..) | refine WP.cT ?_ | apply WP.block | apply WP.seq
 refine WP.S s_readint0 fun _ z => ?_
 refine runOps.take 3 fun J hJ => ?_
 simp +decide only [TF, ↓reduceIte]
 refine hJ _ _ ?_; clear hJ J
 refine runOps.part 29 rfl (fun q6 => ?_) (fun q6 => ?_)
 ·have hz : dgB ((digs s)[k].toNat : Int) = false := by have := of_decide_eq_true q6; simp [dgB]; omega
  simp +decide only [TF, q6, ↓reduceIte]
  apply z; clear z
  iterate 2 first | (refine WP.S s_readint0 fun _ z => ?_; simp +decide only [TF, ↓reduceIte]; apply z; clear z) | refine WP.cT ?_
  apply WP.ret
  exact Ends.P (d := .tup [_, _]) rfl (Le.of_eq (by simp [St.get, lk, W, rdP, hz, hI]))
 simp +decide only [TF, q6, ↓reduceIte]
 apply z; clear z
 refine WP.cond rfl (fun q7 => ?_) (fun q7 => ?_)
 ·have hz : dgB ((digs s)[k].toNat : Int) = false := by have := of_decide_eq_true q7; simp [dgB]; omega
  refine WP.S s_readint0 fun _ z => ?_; simp +decide only [TF, q7, ↓reduceIte]; apply z; clear z
  apply WP.ret
  exact Ends.P (d := .tup [_, _]) rfl (Le.of_eq (by simp [St.get, lk, W, rdP, hz, hI]))
 apply WP.skip
 show ∃ y, _ ∧ Weak _ _ _
 refine ⟨⟨k + 1, ?_⟩, ?_, ?_⟩
 ·exact ⟨by omega, by simp_all [dgB]⟩
 ·dsimp only; omega
 exact Weak.store (by simp [St.get, lk, W, Le.refl]) (by simp [lk]) (by simp [lk]) (by simp [BClo]) (by simp)
theorem c_readint (s : List UInt8) (hs : s.length ≤ 1099511627776) : CallP Pr 131 [.str s] (rdD s) := by
 have := c_readint0 s hs
 rw [rdP_eq] at this
 exact this
theorem c_r_decimal (t : List UInt8) (z : Bool) (hs : t.length ≤ 140737488355328) : CallP Pr 167 [.str t, .bool z] (.bool (decOk t z)) := by
 refine CallP.of_wp Tryz.func167 rfl (by kernel_rfl) Tryz.ntmps167 (by simp) ?_
 simp only [frameOf, Nat.zero_add]
 refine WP.sr [0, 1] (by kernel_rfl) fun K hK => ?_
 simp (decide := true) only [TF, ↓reduceIte]
 refine hK _ _ ?_; clear hK K
 refine WP.seq ?_
 refine WP.sr [0, 22] (by kernel_rfl) fun K hK => ?_
 refine runOps.take 4 fun J hJ => ?_
 simp (decide := true) only [TF, ↓reduceIte]
 refine hJ _ _ ?_; clear hJ J
 refine runOps.part 9 rfl (fun q1 => ?_) (fun q1 => ?_)
 ·
  simp (decide := true) only [TF, q1, ↓reduceIte]
  refine hK _ _ ?_; clear hK K
  refine WP.cond (b := true) (by rfl) (fun _ => ?_) nofun
  refine WP.sr [4] (by kernel_rfl) fun K hK => ?_
  simp (decide := true) only [TF, ↓reduceIte]
  refine hK _ _ ?_; clear hK K
  refine WP.ret ?_
  exact Ends.pure (.inr rfl) rfl (Le.of_eq (by simp_all [St.get, W, decOk])) (by simp)
 ·
  have hne : 0 < t.length := by cases t with | nil => simp at q1 | cons => simp
  have e0 := getE hne
  have e0c := chAt_of hne
  have hnn : (t == []) = false := by cases t <;> simp at hne ⊢
  refine runOps.take 4 fun J hJ => ?_
  simp (decide := true) only [TF, q1, e0, ↓reduceIte]
  refine hJ _ _ ?_; clear hJ J
  refine runOps.part 13 rfl (fun q2 => ?_) (fun q2 => ?_)
  ·
   refine runOps.take 4 fun J hJ => ?_
   simp (decide := true) only [TF, q2, ↓reduceIte]
   refine hJ _ _ ?_; clear hJ J
   refine runOps.part 17 rfl (fun q3 => ?_) (fun q3 => ?_)
   ·
    simp (decide := true) only [TF, q3, ↓reduceIte]
    refine hK _ _ ?_; clear hK K
    refine WP.cond (b := true) (by rfl) (fun _ => ?_) nofun
    refine WP.sr [4] (by kernel_rfl) fun K hK => ?_
    simp (decide := true) only [TF, ↓reduceIte]
    refine hK _ _ ?_; clear hK K
    refine WP.ret ?_
    exact Ends.pure (.inr rfl) rfl (Le.of_eq (by simp (decide := true) only [St.get, W, decOk, e0c, hnn, q2, q3, ↓reduceIte])) (by simp)
   ·
    simp (decide := true) only [TF, q3, ↓reduceIte]
    refine hK _ _ ?_; clear hK K
    refine WP.cond (b := _) rfl (fun q4 => ?_) (fun q4 => ?_)
    ·
     refine WP.sr [4] (by kernel_rfl) fun K hK => ?_
     simp (decide := true) only [TF, q4, ↓reduceIte]
     refine hK _ _ ?_; clear hK K
     refine WP.ret ?_
     exact Ends.pure (.inr rfl) rfl (Le.of_eq (by simp (decide := true) only [St.get, W, decOk, e0c, hnn, q2, q3, q4, ↓reduceIte])) (by simp)
    ·
     refine WP.skip ?_
     show WP _ _ _ _ _ _
     refine WP.seq ?_
     refine WP.sr [0, 5] (by kernel_rfl) fun K hK => ?_
     simp (decide := true) only [TF, q4, ↓reduceIte]
     refine hK _ _ ?_; clear hK K
     refine WP.block ?_
     refine WP.lp [0] (X := {k : Nat // k ≤ t.length ∧ decOk t z = (t.drop k).all (fun c => dgB c.toNat)}) (fun x => match x with | ⟨(k), _⟩ => [(5, .int .i64 k)]) (fun x => match x with | ⟨(k), _⟩ => []) (fun x => match x with | ⟨(k), _⟩ => t.length - k) (by simp (decide := true) only [W, ↓reduceIte]; rfl) ?_ ⟨(0), ⟨Nat.zero_le _, by first | (simp [decOk, e0c, hnn, q2, q3, q4]; done) | (simp_all [decOk]; done)⟩⟩ ?_
     rotate_left
     ·exact Weak.nil (by simp [St.get, lk, W, Le.refl]) (by simp [W])
     rintro ⟨k, hk, hI⟩
     dsimp only
     simp only [List.cons_append, List.nil_append]
     refine WP.seq ?_
     refine WP.sr [0, 5, 26] (by kernel_rfl) fun K hK => ?_
     simp (decide := true) only [TF, ↓reduceIte]
     refine hK _ _ ?_; clear hK K
     refine WP.cond (b := _) rfl (fun q5 => ?_) (fun q5 => ?_)
     ·
      have hlt := lt_of_q q5
      have hg := getE hlt
      rw [dropE hlt] at hI
      simp only [List.all_cons] at hI
      refine WP.skip ?_
      show WP _ _ _ _ _ _
      refine WP.seq ?_
      refine WP.block ?_
      refine WP.sm [0, 5] 38 (.bool (!(dgB t[k].toNat))) (by kernel_rfl) (fun K hK => ?_) ?_
      ·
       refine runOps.take 5 fun J hJ => ?_
       simp (decide := true) only [TF, q5, hg, ↓reduceIte]
       refine hJ _ _ ?_; clear hJ J
       refine runOps.part 33 rfl (fun q6 => ?_) (fun q6 => ?_)
       ·
        simp (decide := true) only [TF, q6, ↓reduceIte]
        exact hK _ _ (by simp [St.get, lk, W]) rfl (Le.of_eq (by simp_all [St.get, lk, W, dgB]))
       ·
        simp (decide := true) only [TF, hg, q6, ↓reduceIte]
        exact hK _ _ (by simp [St.get, lk, W]) rfl (Le.of_eq (by first | (simp [St.get, lk, dgB]; done) | (simp_all [St.get, lk, W, dgB]; done) | (simp_all [St.get, lk, W, dgB]; rw [Bool.eq_iff_iff]; simp; try omega; done)))
      ·
       refine WP.cond (b := _) rfl (fun q7 => ?_) (fun q7 => ?_)
       ·
        refine WP.sr [4] (by kernel_rfl) fun K hK => ?_
        simp (decide := true) only [TF, q5, q7, ↓reduceIte]
        refine hK _ _ ?_; clear hK K
        refine WP.ret ?_
        exact Ends.pure (.inr rfl) rfl (Le.of_eq (by simp_all [St.get, W, decOk])) (by simp)
       ·
        refine WP.skip ?_
        show WP _ _ _ _ _ _
        refine WP.region (by kernel_rfl) fun K hK => ?_
        simp (decide := true) only [TF, q5, q7, ↓reduceIte]
        refine hK _ _ ?_; clear hK K
        show ∃ y, _ ∧ Weak _ _ _
        refine ⟨⟨k + 1, ?_⟩, ?_, Weak.nil ?_ ?_⟩
        ·exact ⟨by omega, by first | (simpa [q1, e0, e0c, hnn, q2, q3, q4, q5, hg, q7] using hI) | (simp_all; done)⟩
        ·dsimp only; omega
        ·simp [St.get, lk, Le.refl, wrapS hlt hs]
        ·simp [W]
     ·
      have hge := ge_of_q q5
      rw [dropN hge] at hI
      simp only [List.all_nil] at hI
      refine WP.exit ?_
      show WP _ _ _ _ _ _
      refine WP.sr [4] (by kernel_rfl) fun K hK => ?_
      simp (decide := true) only [TF, q5, ↓reduceIte]
      refine hK _ _ ?_; clear hK K
      refine WP.ret ?_
      exact Ends.pure (.inr rfl) rfl (Le.of_eq (by simp_all [St.get, W, decOk])) (by simp)
  ·
   simp (decide := true) only [TF, q2, ↓reduceIte]
   refine hK _ _ ?_; clear hK K
   refine WP.cond (b := false) (by rfl) nofun (fun _ => ?_)
   refine WP.skip ?_
   show WP _ _ _ _ _ _
   refine WP.seq ?_
   refine WP.sr [0, 5] (by kernel_rfl) fun K hK => ?_
   simp (decide := true) only [TF, ↓reduceIte]
   refine hK _ _ ?_; clear hK K
   refine WP.block ?_
   refine WP.lp [0] (X := {k : Nat // k ≤ t.length ∧ decOk t z = (t.drop k).all (fun c => dgB c.toNat)}) (fun x => match x with | ⟨(k), _⟩ => [(5, .int .i64 k)]) (fun x => match x with | ⟨(k), _⟩ => []) (fun x => match x with | ⟨(k), _⟩ => t.length - k) (by simp (decide := true) only [W, ↓reduceIte]; rfl) ?_ ⟨(0), ⟨Nat.zero_le _, by first | (simp [decOk, e0c, hnn, q2]; done) | (simp_all [decOk]; done)⟩⟩ ?_
   rotate_left
   ·exact Weak.nil (by simp [St.get, lk, W, Le.refl]) (by simp [W])
   rintro ⟨k, hk, hI⟩
   dsimp only
   simp only [List.cons_append, List.nil_append]
   refine WP.seq ?_
   refine WP.sr [0, 5, 26] (by kernel_rfl) fun K hK => ?_
   simp (decide := true) only [TF, ↓reduceIte]
   refine hK _ _ ?_; clear hK K
   refine WP.cond (b := _) rfl (fun q8 => ?_) (fun q8 => ?_)
   ·
    have hlt := lt_of_q q8
    have hg := getE hlt
    rw [dropE hlt] at hI
    simp only [List.all_cons] at hI
    refine WP.skip ?_
    show WP _ _ _ _ _ _
    refine WP.seq ?_
    refine WP.block ?_
    refine WP.sm [0, 5] 38 (.bool (!(dgB t[k].toNat))) (by kernel_rfl) (fun K hK => ?_) ?_
    ·
     refine runOps.take 5 fun J hJ => ?_
     simp (decide := true) only [TF, q8, hg, ↓reduceIte]
     refine hJ _ _ ?_; clear hJ J
     refine runOps.part 33 rfl (fun q9 => ?_) (fun q9 => ?_)
     ·
      simp (decide := true) only [TF, q9, ↓reduceIte]
      exact hK _ _ (by simp [St.get, lk, W]) rfl (Le.of_eq (by simp_all [St.get, lk, W, dgB]))
     ·
      simp (decide := true) only [TF, hg, q9, ↓reduceIte]
      exact hK _ _ (by simp [St.get, lk, W]) rfl (Le.of_eq (by first | (simp [St.get, lk, dgB]; done) | (simp_all [St.get, lk, W, dgB]; done) | (simp_all [St.get, lk, W, dgB]; rw [Bool.eq_iff_iff]; simp; try omega; done)))
    ·
     refine WP.cond (b := _) rfl (fun q10 => ?_) (fun q10 => ?_)
     ·
      refine WP.sr [4] (by kernel_rfl) fun K hK => ?_
      simp (decide := true) only [TF, q8, q10, ↓reduceIte]
      refine hK _ _ ?_; clear hK K
      refine WP.ret ?_
      exact Ends.pure (.inr rfl) rfl (Le.of_eq (by simp_all [St.get, W, decOk])) (by simp)
     ·
      refine WP.skip ?_
      show WP _ _ _ _ _ _
      refine WP.region (by kernel_rfl) fun K hK => ?_
      simp (decide := true) only [TF, q8, q10, ↓reduceIte]
      refine hK _ _ ?_; clear hK K
      show ∃ y, _ ∧ Weak _ _ _
      refine ⟨⟨k + 1, ?_⟩, ?_, Weak.nil ?_ ?_⟩
      ·exact ⟨by omega, by first | (simpa [q1, e0, e0c, hnn, q2, q8, hg, q10] using hI) | (simp_all; done)⟩
      ·dsimp only; omega
      ·simp [St.get, lk, Le.refl, wrapS hlt hs]
      ·simp [W]
   ·
    have hge := ge_of_q q8
    rw [dropN hge] at hI
    simp only [List.all_nil] at hI
    refine WP.exit ?_
    show WP _ _ _ _ _ _
    refine WP.sr [4] (by kernel_rfl) fun K hK => ?_
    simp (decide := true) only [TF, q8, ↓reduceIte]
    refine hK _ _ ?_; clear hK K
    refine WP.ret ?_
    exact Ends.pure (.inr rfl) rfl (Le.of_eq (by simp_all [St.get, W, decOk])) (by simp)
theorem c_int (n : Int) (h0 : -9223372036854775808 ≤ n) (h1 : n ≤ 9223372036854775807) : CallP Pr 89 [.int .i64 n] (.str (Lib.itoa n)) := by
 refine CallP.W Tryz.func89 Tryz.ntmps89 ?_
 simp only [frameOf]
 refine WP.S [0, 2] fun _ z => ?_; simp +decide only [TF, ↓reduceIte]; apply z; clear z
 refine WP.S [0, 2] fun _ z => ?_
 simp +decide only [TF, ↓reduceIte]
 refine CallK.P (lib_itoa _ (by assumption) (by assumption)) rfl rfl ?_
 simp +decide only [TF, ↓reduceIte]
 apply z; clear z
 apply WP.ret
 exact Ends.P rfl (Le.of_eq (by simp +decide only [St.get, W, ↓reduceIte]))
abbrev s_r_int : List Nat := [0, 2, 3, 4, 5, 7, 10, 16, 27]
theorem c_r_int (n : Int) (h0 : -9223372036854775808 ≤ n) (h1 : n ≤ 9223372036854775807) : CallP Pr 50 [.int .i64 n] (.str (Lib.itoa n)) := by
 refine CallP.W Tryz.func50 Tryz.ntmps50 ?_
 simp only [frameOf]
 iterate 3 first | (refine WP.S s_r_int fun _ z => ?_; simp +decide only [TF, ↓reduceIte]; apply z; clear z) | apply WP.seq
 refine WP.cond rfl (fun q1 => ?_) (fun q1 => ?_)
 ·obtain rfl : n = 0 := by simpa using q1
  refine WP.S s_r_int fun _ z => ?_; simp +decide only [TF, ↓reduceIte]; apply z; clear z
  apply WP.ret
  exact Ends.P rfl (Le.of_eq (by simp [St.get, W, itoa_0]))
 have hn : n ≠ 0 := by simpa using q1
 iterate 3 first | (refine WP.S s_r_int fun _ z => ?_; simp +decide only [TF, q1, ↓reduceIte]; apply z; clear z) | (apply WP.skip; show WP ..) | apply WP.seq
 refine WP.S [0, 3, 4] fun _ z => ?_; simp +decide only [TF, ↓reduceIte]; apply z; clear z
 apply WP.block
 refine WP.lp [0] (X := {x : (Int) × (List UInt8) // match x with | (m, out) => intInv n m out}) (fun x => match x with | ⟨(m, out), _⟩ => [(3, .str out), (4, .int .i64 m)]) (fun x => match x with | ⟨(m, out), _⟩ => []) (fun x => match x with | ⟨(m, out), _⟩ => m.natAbs) (by simp +decide only [W, ↓reduceIte]; rfl) ?_ ⟨(n, []), intInv_start n h0 h1 hn⟩ ?_
 rotate_left
 ·exact Weak.nil (by simp [St.get, lk, W, Le.refl]) (by simp [W])
 rintro ⟨⟨m, out⟩, hI⟩
 dsimp only
 simp only [List.cons_append, List.nil_append]
 dsimp only at hI
 iterate 2 first | (refine WP.S s_r_int fun _ z => ?_; simp +decide only [TF, ↓reduceIte]; apply z; clear z) | apply WP.seq
 refine WP.cond rfl (fun q2 => ?_) (fun q2 => ?_)
 ·have hm : m ≠ 0 := by simpa using q2
  obtain ⟨hl, hJ⟩ := intInv_step hI hm
  have hdb := dig_byte (m.natAbs % 10) (by omega)
  iterate 6 first | (refine WP.S s_r_int fun _ z => ?_; simp +decide only [TF, q2, ↓reduceIte]; apply z; clear z) | (apply WP.skip; show WP ..) | apply WP.block | apply WP.seq
  refine WP.cond rfl (fun q3 => ?_) (fun q3 => ?_)
  ·have htm := tmod_neg m (of_decide_eq_true q3)
   refine WP.R fun _ z => ?_; simp +decide only [TF, q3, htm, ↓reduceIte]; apply z; clear z; show WP ..
   refine WP.R fun _ z => ?_
   simp +decide only [TF, hdb, bytesOf?, byteOf?, ↓reduceIte]
   refine ⟨by first | omega | (simp; omega), ?_⟩
   apply z; clear z
   show WP ..
   refine WP.R fun _ z => ?_; simp +decide only [TF, ↓reduceIte]; apply z; clear z
   show ∃ y, _ ∧ Weak _ _ _
   refine ⟨⟨(m.tdiv 10, UInt8.ofNat (48 + m.natAbs % 10) :: out), hJ⟩, ?_, Weak.nil ?_ ?_⟩
   ·have := tdiv_abs m; dsimp only; omega
   ·simp [St.get, lk, Le.refl, wrap_tdiv m hI.1 hI.2.1]
   simp [W]
  have htm := tmod_pos m (of_decide_eq_false q3)
  apply WP.skip; show WP ..
  refine WP.R fun _ z => ?_
  simp +decide only [TF, hdb, htm, bytesOf?, byteOf?, ↓reduceIte]
  refine ⟨by first | omega | (simp; omega), ?_⟩
  apply z; clear z
  show WP ..
  refine WP.R fun _ z => ?_; simp +decide only [TF, ↓reduceIte]; apply z; clear z
  show ∃ y, _ ∧ Weak _ _ _
  refine ⟨⟨(m.tdiv 10, UInt8.ofNat (48 + m.natAbs % 10) :: out), hJ⟩, ?_, Weak.nil ?_ ?_⟩
  ·have := tdiv_abs m; dsimp only; omega
  ·simp [St.get, lk, Le.refl, wrap_tdiv m hI.1 hI.2.1]
  simp [W]
 obtain rfl : m = 0 := by simpa using q2
 have hE := intInv_end hI
 iterate 3 first | (refine WP.S s_r_int fun _ z => ?_; simp +decide only [TF, ↓reduceIte]; apply z; clear z) | (apply WP.exit; show WP ..) | apply WP.seq
 refine WP.cond rfl (fun q4 => ?_) (fun q4 => ?_)
 ·have hit := itoa_neg n (of_decide_eq_true q4)
  refine WP.S s_r_int fun _ z => ?_
  simp +decide only [TF, q4, ↓reduceIte]
  refine ⟨by have := hI.2.2.1; first | omega | (simp; omega), ?_⟩
  apply z; clear z
  apply WP.ret
  exact Ends.P rfl (Le.of_eq (by rw [hit, hE]; simp [St.get, W]))
 have hit := itoa_pos n (of_decide_eq_false q4)
 iterate 2 first | (refine WP.S s_r_int fun _ z => ?_; simp +decide only [TF, q4, ↓reduceIte]; apply z; clear z) | (apply WP.skip; show WP ..)
 apply WP.ret
 exact Ends.P rfl (Le.of_eq (by rw [hit, hE]; simp [St.get, W]))
theorem h45t : (((45 : UInt8).toNat : Int) == 45) = true := by decide
theorem gt0 (n : Nat) : decide (((n + 1 : Nat) : Int) > 0) = true := decide_eq_true (by omega)
theorem le1 (n : Nat) : (1 ≤ n + 1) = True := eq_true (by omega)
theorem gt0s {s : List UInt8} (h : 0 < s.length) : decide ((s.length : Int) > 0) = true := decide_eq_true (by omega)
theorem rdN_pos (s : List UInt8) (h : 0 < s.length) (hc : ¬ s[0] = 45) : rdN s = if decOk s true then (if decV s < 9223372036854775808 then ((decV s : Int), 0) else (0, 27)) else (0, 4) := by
 match s, h, hc with
 | c :: t, _, hc => simp only [rdN]; rw [if_neg (by simpa using hc)]
theorem c_r_readint_nil : CallP Pr 135 [.str []] (rdD []) := by
 have h00 : decide (((0 : Nat) : Int) > 0) = false := by decide
 refine CallP.W Tryz.func135 Tryz.ntmps135 ?_
 simp only [frameOf]
 iterate 9 first | (refine WP.S [0, 2, 3, 4, 5, 6, 19, 26] fun _ z => ?_; simp +decide only [TF, ↓reduceIte]; apply z; clear z) | (apply WP.skip; show WP ..) | refine WP.cF ?_ | apply WP.seq
 refine WP.S [0, 2, 3, 4, 5, 6, 19, 26] fun _ z => ?_
 simp +decide only [TF, ↓reduceIte]
 refine CallK.P (c_r_decimal [] true (by simp)) rfl rfl ?_
 simp +decide only [TF, ↓reduceIte]
 apply z; clear z
 refine WP.cond rfl (fun q1 => ?_) (fun q1 => ?_)
 ·simp only [Bool.not_eq_true'] at q1
  refine WP.S [0, 2, 3, 4, 5, 6, 19, 26] fun _ z => ?_; simp +decide only [TF, q1, ↓reduceIte]; apply z; clear z
  apply WP.ret
  exact Ends.P (d := .tup [_, _]) rfl (Le.of_eq (by simp +decide only [St.get, lk, W, rdD, rdN, ↓reduceIte]))
 simp only [Bool.not_eq_false'] at q1
 exact absurd q1 (by decide)
abbrev s_r_readint_neg : List Nat := [0, 2, 3, 4, 5, 6, 7, 8, 9, 19, 26, 30, 43, 48]
theorem c_r_readint_neg (t : List UInt8) (hs : t.length < 1099511627776) : CallP Pr 135 [.str (45 :: t)] (rdD (45 :: t)) := by
 have hL : t.length ≤ 140737488355328 := by omega
 refine CallP.W Tryz.func135 Tryz.ntmps135 ?_
 simp only [frameOf]
 iterate 9 first | (refine WP.S s_r_readint_neg fun _ z => ?_; simp +decide only [TF, h45t, gt0, ↓reduceIte]; apply z; clear z) | (refine WP.R fun _ z => ?_; simp +decide only [TF, List.take_length, le1, ↓reduceIte]; apply z; clear z; show WP ..) | refine WP.cT ?_ | apply WP.seq
 refine WP.S s_r_readint_neg fun _ z => ?_
 simp +decide only [TF, ↓reduceIte]
 refine CallK.P (c_r_decimal (t) false (by omega)) rfl rfl ?_
 simp +decide only [TF, ↓reduceIte]
 apply z; clear z
 refine WP.cond rfl (fun q1 => ?_) (fun q1 => ?_)
 ·simp only [Bool.not_eq_true'] at q1
  have hok : decOk t false = false := by simpa using q1
  refine WP.S s_r_readint_neg fun _ z => ?_; simp +decide only [TF, q1, ↓reduceIte]; apply z; clear z
  apply WP.ret
  exact Ends.P (d := .tup [_, _]) rfl (Le.of_eq (by simp [St.get, lk, W, rdD, rdN, hok]))
 simp only [Bool.not_eq_false'] at q1
 have hok : decOk t false = true := by simpa using q1
 have hall := decOk_all hok
 iterate 3 first | (refine WP.S s_r_readint_neg fun _ z => ?_; simp +decide only [TF, q1, ↓reduceIte]; apply z; clear z) | (apply WP.skip; show WP ..) | apply WP.seq
 refine WP.S [4, 5, 6, 7, 8] fun _ z => ?_; simp +decide only [TF, ↓reduceIte]; apply z; clear z
 apply WP.block
 refine WP.lp [4, 5, 6] (X := {k : Nat // k ≤ t.length ∧ decV (t.take k) ≤ 9223372036854775808}) (fun x => match x with | ⟨(k), _⟩ => [(7, .int .i64 (-(decV (t.take k) : Int))), (8, .int .i64 k)]) (fun x => match x with | ⟨(k), _⟩ => []) (fun x => match x with | ⟨(k), _⟩ => t.length - k) (by simp +decide only [W, ↓reduceIte]; rfl) ?_ ⟨(0), ⟨Nat.zero_le _, by simp [decV]⟩⟩ ?_
 rotate_left
 ·exact Weak.nil (by simp [St.get, lk, W, Le.refl, decV]) (by simp)
 rintro ⟨k, hk, hI⟩
 dsimp only
 simp only [List.cons_append, List.nil_append]
 iterate 2 first | (refine WP.S s_r_readint_neg fun _ z => ?_; simp +decide only [TF, ↓reduceIte]; apply z; clear z) | apply WP.seq
 refine WP.cond rfl (fun q2 => ?_) (fun q2 => ?_)
 ·have hlt := lt_of_q q2
  have hg := getE hlt
  have hdg := all_at hall hlt
  have hdc := dig_conv _ hdg
  have hd9 := dig_le _ hdg
  have hcm := rd_cmp (decV (t.take k)) _ hI hd9
  have htk := decV_take t k hlt
  have hle := decV_le t (k + 1)
  iterate 6 first | (refine WP.S s_r_readint_neg fun _ z => ?_; simp +decide only [TF, q2, hg, hdc, hcm, ↓reduceIte]; apply z; clear z) | (apply WP.skip; show WP ..) | apply WP.block | apply WP.seq
  refine WP.cond rfl (fun q3 => ?_) (fun q3 => ?_)
  ·have hov : 9223372036854775808 < decV (t.take k) * 10 + (t[k].toNat - 48) := of_decide_eq_true q3
   have hbig : ¬ decV (t) ≤ 9223372036854775808 := by omega
   refine WP.S s_r_readint_neg fun _ z => ?_; simp +decide only [TF, q3, ↓reduceIte]; apply z; clear z
   apply WP.ret
   exact Ends.P (d := .tup [_, _]) rfl (Le.of_eq (by simp [St.get, lk, W, rdD, rdN, hok, hbig]))
  have hov := of_decide_eq_false q3
  have hst := rd_step (decV (t.take k)) _ hd9 (by omega)
  iterate 3 first | (refine WP.R fun _ z => ?_; simp +decide only [TF, q3, hst, ↓reduceIte]; apply z; clear z; show WP ..) | (refine WP.R fun _ z => ?_; simp +decide only [TF, ↓reduceIte]; apply z; clear z) | (apply WP.skip; show WP ..)
  show ∃ y, _ ∧ Weak _ _ _
  refine ⟨⟨k + 1, ?_⟩, ?_, Weak.nil ?_ ?_⟩
  ·exact ⟨by omega, by omega⟩
  ·dsimp only; omega
  ·simp [St.get, lk, Le.refl, htk, wrapS hlt hL]
  simp [W]
 have hge := ge_of_q q2
 obtain rfl : k = t.length := by omega
 rw [List.take_length] at hI
 iterate 5 first | (refine WP.S s_r_readint_neg fun _ z => ?_; simp +decide only [TF, q2, List.take_length, ↓reduceIte]; apply z; clear z) | (apply WP.exit; show WP ..) | refine WP.cT ?_ | apply WP.seq
 apply WP.ret
 exact Ends.P (d := .tup [_, _]) rfl (Le.of_eq (by simp [St.get, lk, W, rdD, rdN, hok, hI]))
abbrev s_r_readint_pos : List Nat := [0, 2, 3, 4, 5, 6, 7, 8, 9, 19, 26, 30, 43, 48, 52]
theorem c_r_readint_pos (s : List UInt8) (hs : s.length ≤ 1099511627776) (hne : 0 < s.length) (hc : ¬ s[0] = 45) : CallP Pr 135 [.str (s)] (rdD (s)) := by
 have hL : s.length ≤ 140737488355328 := by omega
 have hn45 := ne45 hc
 have e0 := getE hne
 have gt0 := gt0s hne
 have hrn := rdN_pos s hne hc
 refine CallP.W Tryz.func135 Tryz.ntmps135 ?_
 simp only [frameOf]
 iterate 9 first | (refine WP.S s_r_readint_pos fun _ z => ?_; simp +decide only [TF, hn45, e0, gt0, ↓reduceIte]; apply z; clear z) | (apply WP.skip; show WP ..) | refine WP.cF ?_ | apply WP.seq
 refine WP.S s_r_readint_pos fun _ z => ?_
 simp +decide only [TF, ↓reduceIte]
 refine CallK.P (c_r_decimal (s) true (by omega)) rfl rfl ?_
 simp +decide only [TF, ↓reduceIte]
 apply z; clear z
 refine WP.cond rfl (fun q1 => ?_) (fun q1 => ?_)
 ·simp only [Bool.not_eq_true'] at q1
  have hok : decOk s true = false := by simpa using q1
  refine WP.S s_r_readint_pos fun _ z => ?_; simp +decide only [TF, q1, ↓reduceIte]; apply z; clear z
  apply WP.ret
  exact Ends.P (d := .tup [_, _]) rfl (Le.of_eq (by simp [St.get, lk, W, rdD, hrn, hok]))
 simp only [Bool.not_eq_false'] at q1
 have hok : decOk s true = true := by simpa using q1
 have hall := decOk_all hok
 iterate 3 first | (refine WP.S s_r_readint_pos fun _ z => ?_; simp +decide only [TF, q1, ↓reduceIte]; apply z; clear z) | (apply WP.skip; show WP ..) | apply WP.seq
 refine WP.S [4, 5, 6, 7, 8] fun _ z => ?_; simp +decide only [TF, ↓reduceIte]; apply z; clear z
 apply WP.block
 refine WP.lp [4, 5, 6] (X := {k : Nat // k ≤ s.length ∧ decV (s.take k) ≤ 9223372036854775808}) (fun x => match x with | ⟨(k), _⟩ => [(7, .int .i64 (-(decV (s.take k) : Int))), (8, .int .i64 k)]) (fun x => match x with | ⟨(k), _⟩ => []) (fun x => match x with | ⟨(k), _⟩ => s.length - k) (by simp +decide only [W, ↓reduceIte]; rfl) ?_ ⟨(0), ⟨Nat.zero_le _, by simp [decV]⟩⟩ ?_
 rotate_left
 ·exact Weak.nil (by simp [St.get, lk, W, Le.refl, decV]) (by simp)
 rintro ⟨k, hk, hI⟩
 dsimp only
 simp only [List.cons_append, List.nil_append]
 iterate 2 first | (refine WP.S s_r_readint_pos fun _ z => ?_; simp +decide only [TF, ↓reduceIte]; apply z; clear z) | apply WP.seq
 refine WP.cond rfl (fun q2 => ?_) (fun q2 => ?_)
 ·have hlt := lt_of_q q2
  have hg := getE hlt
  have hdg := all_at hall hlt
  have hdc := dig_conv _ hdg
  have hd9 := dig_le _ hdg
  have hcm := rd_cmp (decV (s.take k)) _ hI hd9
  have htk := decV_take s k hlt
  have hle := decV_le s (k + 1)
  iterate 6 first | (refine WP.S s_r_readint_pos fun _ z => ?_; simp +decide only [TF, q2, hg, hdc, hcm, ↓reduceIte]; apply z; clear z) | (apply WP.skip; show WP ..) | apply WP.block | apply WP.seq
  refine WP.cond rfl (fun q3 => ?_) (fun q3 => ?_)
  ·have hov : 9223372036854775808 < decV (s.take k) * 10 + (s[k].toNat - 48) := of_decide_eq_true q3
   have hbig : ¬ decV (s) < 9223372036854775808 := by omega
   refine WP.S s_r_readint_pos fun _ z => ?_; simp +decide only [TF, q3, ↓reduceIte]; apply z; clear z
   apply WP.ret
   exact Ends.P (d := .tup [_, _]) rfl (Le.of_eq (by simp [St.get, lk, W, rdD, hrn, hok, hbig]))
  have hov := of_decide_eq_false q3
  have hst := rd_step (decV (s.take k)) _ hd9 (by omega)
  iterate 3 first | (refine WP.R fun _ z => ?_; simp +decide only [TF, q3, hst, ↓reduceIte]; apply z; clear z; show WP ..) | (refine WP.R fun _ z => ?_; simp +decide only [TF, ↓reduceIte]; apply z; clear z) | (apply WP.skip; show WP ..)
  show ∃ y, _ ∧ Weak _ _ _
  refine ⟨⟨k + 1, ?_⟩, ?_, Weak.nil ?_ ?_⟩
  ·exact ⟨by omega, by omega⟩
  ·dsimp only; omega
  ·simp [St.get, lk, Le.refl, htk, wrapS hlt hL]
  simp [W]
 have hge := ge_of_q q2
 obtain rfl : k = s.length := by omega
 rw [List.take_length] at hI
 iterate 7 first | (refine WP.S s_r_readint_pos fun _ z => ?_; simp +decide only [TF, q2, List.take_length, ↓reduceIte]; apply z; clear z) | (apply WP.exit; show WP ..) | (apply WP.skip; show WP ..) | refine WP.cF ?_ | apply WP.seq
 refine WP.cond rfl (fun q4 => ?_) (fun q4 => ?_)
 ·have he : ¬ decV (s) < 9223372036854775808 := by simp at q4; omega
  refine WP.S s_r_readint_pos fun _ z => ?_; simp +decide only [TF, q4, ↓reduceIte]; apply z; clear z
  apply WP.ret
  exact Ends.P (d := .tup [_, _]) rfl (Le.of_eq (by first | (simp [St.get, lk, W, bne, rdD, hrn, hok, hbig, hn45, e0, gt0, q1, q2, q4]; done) | (simp [St.get, lk, W, rdD, hrn, hok]; done) | (simp [St.get, lk, W, bne, rdD, hrn, hok, he, hng]; done) | (simp [St.get, lk, W, rdD, hrn, hok]; done) | (simp_all [rdD, rdN, St.get, lk, W]; try omega; done)))
 have he : decV (s) < 9223372036854775808 := by simp at q4; omega
 have hng := rd_neg _ he
 iterate 2 first | (refine WP.S s_r_readint_pos fun _ z => ?_; simp +decide only [TF, q4, hng, ↓reduceIte]; apply z; clear z) | (apply WP.skip; show WP ..)
 apply WP.ret
 exact Ends.P (d := .tup [_, _]) rfl (Le.of_eq (by simp [St.get, lk, W, rdD, hrn, hok, he]))
theorem c_r_readint (s : List UInt8) (hs : s.length ≤ 1099511627776) : CallP Pr 135 [.str s] (rdD s) := by
 match s, hs with
 | [], _ => exact c_r_readint_nil
 | c :: t, hs =>
  by_cases h : c = 45
  ·subst h; exact c_r_readint_neg t (by simp at hs; omega)
  ·exact c_r_readint_pos (c :: t) hs (by simp) (by simpa using h)
end Go.Proofs
