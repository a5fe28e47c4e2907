import Derived.Test.YthepmnlpfhmddaaGreatDoorG02
import Derived.Lib.LaidTab
import Derived.Lib.ItoaNum
import Derived.Test.YthepmnlpfhmddaaGreatDoorProg
import Derived.Lib.TrimByte
import Derived.Lib.IndexMore
import Derived.Lib.Bytealg
import Derived.Lib.DecodeN
set_option linter.unusedVariables false
set_option linter.unusedSimpArgs false
set_option linter.unnecessarySimpa false
namespace Go.Proofs
open Go Go.Id
def digL : List Int := [48, 49, 50, 51, 52, 53, 54, 55, 56, 57, 97, 98, 99, 100, 101, 102]
def PolI (w : World) : Prop :=
 (∃ m, w.cell? ⟨1, 0, none⟩ = some (.int .i64 m)) ∧ Lib.TabIs Tryz.prog w "internal/strconv.uint64pow10" .u64 Lib.pow10Tab ∧ (∃ tp p, w.cell? ⟨3, 0, none⟩ = some (.iface tp p)) ∧ (∃ tp p, w.cell? ⟨4, 0, none⟩ = some (.iface tp p)) ∧ Lib.TabIs Tryz.prog w "identity/digest.digits" .u8 digL
theorem glob_pow10 : Tryz.prog.globalNamed "internal/strconv.uint64pow10" = some 2 := by kernel_rfl
theorem glob_digits : Tryz.prog.globalNamed "identity/digest.digits" = some 0 := by kernel_rfl
theorem polI_stable (w w' : World) (h : PolI w) (hk : ∀ k, k < 8 → w'.heap[k]? = w.heap[k]?) : PolI w' := by
 have hc : ∀ k, k < 8 → w'.cell? ⟨k, 0, none⟩ = w.cell? ⟨k, 0, none⟩ := fun k h => World.cell?_of_block (w := w) (w' := w') (by simpa using hk k h)
 obtain ⟨h1, h2, h3, h4, h5⟩ := h
 refine ⟨by rw [hc 1 (by omega)]; exact h1, ?_, by rw [hc 3 (by omega)]; exact h3, by rw [hc 4 (by omega)]; exact h4, ?_⟩
 ·unfold Lib.TabIs World.var? at h2 ⊢
  rw [glob_pow10] at h2 ⊢
  simp only [Option.bind_some] at h2 ⊢
  rw [hk 2 (by omega)]; exact h2
 ·unfold Lib.TabIs World.var? at h5 ⊢
  rw [glob_digits] at h5 ⊢
  simp only [Option.bind_some] at h5 ⊢
  rw [hk 0 (by omega)]; exact h5
def digC : List D := digL.map (.int .u8)
def globP (g : Nat) : Option (List D) := if g = 0 then some digC else none
theorem globP_ok (w : World) (h : PolI w) (g : Nat) (cs : List D) (hg : globP g = some cs) : g < 8 ∧ ∃ vs : List Value, vs.length = cs.length ∧ (∀ (j : Nat) (v : Value), vs[j]? = some v → w.cell? ⟨g, j, none⟩ = some v ∧ v.oneCell' = true) ∧ ∀ (j : Nat) (d : D) (v : Value), cs[j]? = some d → vs[j]? = some v → ∀ (M : Nat → Nat → Prop) (γ : Nat → Option G), Rep M γ w d v := by
 unfold globP at hg
 split at hg
 rotate_left
 ·cases hg
 rename_i e
 subst e
 cases hg
 refine ⟨by omega, digL.map (.int .u8), by simp [digC], fun j v hv => ⟨?_, ?_⟩, fun j d v hd hv M γ => ?_⟩
 ·have h5 := h.2.2.2.2
  unfold Lib.TabIs at h5
  have hj : ((digL.map fun z => Value.int .u8 z).toArray)[j]? = some v := by simpa using hv
  have := World.var?_cell glob_digits h5 j
  rw [this]; exact hj
 ·rw [List.getElem?_map] at hv
  obtain ⟨z, _, rfl⟩ := Option.map_eq_some_iff.1 hv
  rfl
 ·rw [digC, List.getElem?_map] at hd
  rw [List.getElem?_map] at hv
  obtain ⟨z, hz, rfl⟩ := Option.map_eq_some_iff.1 hv
  rw [hz] at hd
  cases hd
  exact .int _ _
noncomputable def Pr : Prg := ⟨Tryz.prog, 8, PolI, polI_stable, fun _ n _ => n == 0, globP, globP_ok⟩
theorem Pr_prog : Pr.prog = Tryz.prog ∧ (∀ t ps, Pr.lit t 0 ps = true) ∧ (∀ t ps, Pr.lit t 1 ps = false) ∧ (∀ t ps, Pr.lit t 2 ps = false) ∧ (∀ t ps, Pr.lit t 3 ps = false) ∧ (∀ t ps, Pr.lit t 4 ps = false) ∧ (∀ t ps, Pr.lit t 5 ps = false) ∧ (∀ t ps, Pr.lit t 6 ps = false) ∧ Pr.glob 0 = some digC :=
 ⟨rfl, fun _ _ => rfl, fun _ _ => rfl, fun _ _ => rfl, fun _ _ => rfl, fun _ _ => rfl, fun _ _ => rfl, fun _ _ => rfl, rfl⟩
theorem bodied_of {k : FuncId} {fn : Func} (h : Tryz.prog.funcs[k]? = some fn) (hn : (fn.name == "runtime.NumGoroutine") = false) (hb : fn.body.isNone = false) : Bodied Pr.prog k := ⟨fn, h, hn, hb⟩
set_option maxRecDepth 10000
theorem t_szD_26 : szD Tryz.prog 26 = some 5 := by kernel_rfl
theorem t_aggD_26 : aggD Tryz.prog 26 = some true := by kernel_rfl
theorem t_zeroD_26 : zeroD Tryz.prog 26 = some [.str [], .str [], .slice 0 true [] none, .int .i64 0, .int .i64 0] := by kernel_rfl
theorem t_isStr_9 : isStr Tryz.prog 9 = true := by kernel_rfl
theorem t_isSliceT_9 : isSliceT Tryz.prog 9 = false := by kernel_rfl
theorem t_fldD_26_2 : fldD Tryz.prog 26 2 = some (2, 1) := by kernel_rfl
theorem t_szD_22 : szD Tryz.prog 22 = some 1 := by kernel_rfl
theorem t_aggD_22 : aggD Tryz.prog 22 = some false := by kernel_rfl
theorem t_zeroD_39 : zeroD Tryz.prog 39 = some [.str [], .str [], .int .i64 0, .int .i64 0, .int .i64 0, .int .i64 0] := by kernel_rfl
theorem t_szD_39 : szD Tryz.prog 39 = some 6 := by kernel_rfl
theorem t_fldD_39_0 : fldD Tryz.prog 39 0 = some (0, 1) := by kernel_rfl
theorem t_szD_9 : szD Tryz.prog 9 = some 1 := by kernel_rfl
theorem t_aggD_9 : aggD Tryz.prog 9 = some false := by kernel_rfl
theorem t_fldD_39_1 : fldD Tryz.prog 39 1 = some (1, 1) := by kernel_rfl
theorem t_tkD_45 : tkD Tryz.prog 45 = 2 := by kernel_rfl
theorem t_isStr_44 : isStr Tryz.prog 44 = false := by kernel_rfl
theorem t_isSliceT_44 : isSliceT Tryz.prog 44 = true := by kernel_rfl
theorem t_elemD_44 : elemD Tryz.prog 44 = some (55, 12, 168) := by kernel_rfl
theorem t_szD_55 : szD Tryz.prog 55 = some 12 := by kernel_rfl
theorem t_aggD_55 : aggD Tryz.prog 55 = some true := by kernel_rfl
theorem t_zeroD_52 : zeroD Tryz.prog 52 = some [.str [], .str [], .slice 0 true [] none, .int .i64 0, .int .i64 0, .slice 0 true [] none, .bool false, .int .i64 0] := by kernel_rfl
theorem t_szD_52 : szD Tryz.prog 52 = some 8 := by kernel_rfl
theorem t_fldD_52_0 : fldD Tryz.prog 52 0 = some (0, 5) := by kernel_rfl
theorem t_fldD_52_1 : fldD Tryz.prog 52 1 = some (5, 1) := by kernel_rfl
theorem t_szD_50 : szD Tryz.prog 50 = some 1 := by kernel_rfl
theorem t_aggD_50 : aggD Tryz.prog 50 = some false := by kernel_rfl
theorem t_fldD_52_2 : fldD Tryz.prog 52 2 = some (6, 1) := by kernel_rfl
theorem t_szD_4 : szD Tryz.prog 4 = some 1 := by kernel_rfl
theorem t_aggD_4 : aggD Tryz.prog 4 = some false := by kernel_rfl
theorem t_tkD_4 : tkD Tryz.prog 4 = 5 := by kernel_rfl
theorem t_fldD_52_3 : fldD Tryz.prog 52 3 = some (7, 1) := by kernel_rfl
theorem t_szD_29 : szD Tryz.prog 29 = some 1 := by kernel_rfl
theorem t_aggD_29 : aggD Tryz.prog 29 = some false := by kernel_rfl
theorem t_fldD_26_0 : fldD Tryz.prog 26 0 = some (0, 1) := by kernel_rfl
theorem t_fldD_26_3 : fldD Tryz.prog 26 3 = some (3, 2) := by kernel_rfl
theorem t_fldD_24_0 : fldD Tryz.prog 24 0 = some (0, 1) := by kernel_rfl
theorem t_szD_3 : szD Tryz.prog 3 = some 1 := by kernel_rfl
theorem t_aggD_3 : aggD Tryz.prog 3 = some false := by kernel_rfl
theorem t_isStr_22 : isStr Tryz.prog 22 = false := by kernel_rfl
theorem t_isSliceT_22 : isSliceT Tryz.prog 22 = true := by kernel_rfl
theorem t_elemD_22 : elemD Tryz.prog 22 = some (39, 6, 64) := by kernel_rfl
theorem t_fldD_55_0 : fldD Tryz.prog 55 0 = some (0, 1) := by kernel_rfl
theorem t_fldD_55_5 : fldD Tryz.prog 55 5 = some (9, 1) := by kernel_rfl
theorem t_fldD_55_1 : fldD Tryz.prog 55 1 = some (1, 5) := by kernel_rfl
theorem t_aggD_39 : aggD Tryz.prog 39 = some true := by kernel_rfl
theorem t_fldD_39_3 : fldD Tryz.prog 39 3 = some (4, 2) := by kernel_rfl
theorem t_szD_24 : szD Tryz.prog 24 = some 2 := by kernel_rfl
theorem t_aggD_24 : aggD Tryz.prog 24 = some true := by kernel_rfl
theorem t_fldD_26_1 : fldD Tryz.prog 26 1 = some (1, 1) := by kernel_rfl
theorem t_elemD_50 : elemD Tryz.prog 50 = some (9, 1, 16) := by kernel_rfl
theorem t_okElem_9 : okElem Tryz.prog 9 = true := by kernel_rfl
theorem t_fldD_24_1 : fldD Tryz.prog 24 1 = some (1, 1) := by kernel_rfl
theorem t_zeroD_3 : zeroD Tryz.prog 3 = some [.int .i64 0] := by kernel_rfl
theorem t_zeroD_29 : zeroD Tryz.prog 29 = some [.int .i64 0] := by kernel_rfl
theorem t_structOk_26 : structOk Tryz.prog 26 = true := by kernel_rfl
theorem t_zeroD_82 : zeroD Tryz.prog 82 = some [.str [], .int .i64 0] := by kernel_rfl
theorem t_structOk_82 : structOk Tryz.prog 82 = true := by kernel_rfl
theorem t_fldD_82_0 : fldD Tryz.prog 82 0 = some (0, 1) := by kernel_rfl
theorem t_kindsD_24 : kindsD Tryz.prog 24 = some [.i, .i] := by kernel_rfl
theorem t_structOk_39 : structOk Tryz.prog 39 = true := by kernel_rfl
theorem t_fldD_39_2 : fldD Tryz.prog 39 2 = some (2, 2) := by kernel_rfl
theorem t_kindsD_39 : kindsD Tryz.prog 39 = some [.s, .s, .i, .i, .i, .i] := by kernel_rfl
theorem t_mapD_89 : mapD Tryz.prog 89 = some 26 := by kernel_rfl
theorem t_zeroD_91 : zeroD Tryz.prog 91 = some [.nilmap] := by kernel_rfl
theorem t_structOk_91 : structOk Tryz.prog 91 = true := by kernel_rfl
theorem t_fldD_91_0 : fldD Tryz.prog 91 0 = some (0, 1) := by kernel_rfl
theorem t_fldD_55_2 : fldD Tryz.prog 55 2 = some (6, 1) := by kernel_rfl
theorem t_fldD_55_3 : fldD Tryz.prog 55 3 = some (7, 1) := by kernel_rfl
theorem t_fldD_55_4 : fldD Tryz.prog 55 4 = some (8, 1) := by kernel_rfl
theorem t_zeroD_95 : zeroD Tryz.prog 95 = some [.slice 0 true [] none] := by kernel_rfl
theorem t_structOk_95 : structOk Tryz.prog 95 = true := by kernel_rfl
theorem t_fldD_55_7 : fldD Tryz.prog 55 7 = some (11, 1) := by kernel_rfl
theorem t_fldD_55_6 : fldD Tryz.prog 55 6 = some (10, 1) := by kernel_rfl
theorem t_aggD_52 : aggD Tryz.prog 52 = some true := by kernel_rfl
theorem t_isStr_50 : isStr Tryz.prog 50 = false := by kernel_rfl
theorem t_isSliceT_50 : isSliceT Tryz.prog 50 = true := by kernel_rfl
theorem t_szD_89 : szD Tryz.prog 89 = some 1 := by kernel_rfl
theorem t_aggD_89 : aggD Tryz.prog 89 = some false := by kernel_rfl
theorem t_isStr_89 : isStr Tryz.prog 89 = false := by kernel_rfl
theorem t_fldD_95_0 : fldD Tryz.prog 95 0 = some (0, 1) := by kernel_rfl
theorem t_szD_93 : szD Tryz.prog 93 = some 1 := by kernel_rfl
theorem t_aggD_93 : aggD Tryz.prog 93 = some false := by kernel_rfl
theorem t_isStr_93 : isStr Tryz.prog 93 = false := by kernel_rfl
theorem t_isSliceT_93 : isSliceT Tryz.prog 93 = true := by kernel_rfl
theorem t_elemD_93 : elemD Tryz.prog 93 = some (26, 5, 72) := by kernel_rfl
theorem t_zeroV_26 : zeroV Tryz.prog 26 = some (.agg [.str [], .str [], .slice 0 true [] none, .int .i64 0, .int .i64 0]) := by kernel_rfl
theorem t_isSliceT_89 : isSliceT Tryz.prog 89 = false := by kernel_rfl
theorem t_zeroD_24 : zeroD Tryz.prog 24 = some [.int .i64 0, .int .i64 0] := by kernel_rfl
theorem t_structOk_24 : structOk Tryz.prog 24 = true := by kernel_rfl
theorem t_okElem_39 : okElem Tryz.prog 39 = true := by kernel_rfl
theorem t_elemD_111 : elemD Tryz.prog 111 = some (5, 1, 1) := by kernel_rfl
theorem t_okElem_5 : okElem Tryz.prog 5 = true := by kernel_rfl
theorem t_kindD_111 : kindD Tryz.prog 111 = none := by kernel_rfl
theorem t_kindD_9 : kindD Tryz.prog 9 = none := by kernel_rfl
theorem t_isStr_111 : isStr Tryz.prog 111 = false := by kernel_rfl
theorem t_kindD_5 : kindD Tryz.prog 5 = some .u8 := by kernel_rfl
theorem t_kindD_3 : kindD Tryz.prog 3 = some .i64 := by kernel_rfl
theorem t_isStr_3 : isStr Tryz.prog 3 = false := by kernel_rfl
theorem t_isStr_5 : isStr Tryz.prog 5 = false := by kernel_rfl
theorem t_tkD_20 : tkD Tryz.prog 20 = 4 := by kernel_rfl
theorem t_concT_78 : concT Tryz.prog 78 = true := by kernel_rfl
theorem t_zeroD_78 : zeroD Tryz.prog 78 = some [.int .i64 0, .int .i64 0] := by kernel_rfl
theorem t_szD_78 : szD Tryz.prog 78 = some 2 := by kernel_rfl
theorem t_fldD_78_0 : fldD Tryz.prog 78 0 = some (0, 1) := by kernel_rfl
theorem t_fldD_78_1 : fldD Tryz.prog 78 1 = some (1, 1) := by kernel_rfl
theorem t_fldD_82_1 : fldD Tryz.prog 82 1 = some (1, 1) := by kernel_rfl
theorem t_okElem_26 : okElem Tryz.prog 26 = true := by kernel_rfl
theorem t_tkD_89 : tkD Tryz.prog 89 = 6 := by kernel_rfl
theorem t_kindD_129 : kindD Tryz.prog 129 = some .u64 := by kernel_rfl
theorem t_isStr_129 : isStr Tryz.prog 129 = false := by kernel_rfl
theorem t_elemD_135 : elemD Tryz.prog 135 = some (3, 1, 8) := by kernel_rfl
theorem t_okElem_3 : okElem Tryz.prog 3 = true := by kernel_rfl
theorem t_zeroD_138 : zeroD Tryz.prog 138 = some [.nilptr, .slice 0 true [] none] := by kernel_rfl
theorem t_structOk_78 : structOk Tryz.prog 78 = true := by kernel_rfl
theorem t_zeroD_152 : zeroD Tryz.prog 152 = some [.int .u8 0, .int .u8 0, .int .u8 0, .int .u8 0, .int .u8 0, .int .u8 0, .int .u8 0, .int .u8 0, .int .u8 0, .int .u8 0, .int .u8 0, .int .u8 0, .int .u8 0, .int .u8 0, .int .u8 0, .int .u8 0] := by kernel_rfl
theorem t_arrD_152 : arrD Tryz.prog 152 = some (16, 1) := by kernel_rfl
theorem t_szD_5 : szD Tryz.prog 5 = some 1 := by kernel_rfl
theorem t_aggD_5 : aggD Tryz.prog 5 = some false := by kernel_rfl
theorem t_isStr_152 : isStr Tryz.prog 152 = false := by kernel_rfl
theorem t_kindD_124 : kindD Tryz.prog 124 = some .u64 := by kernel_rfl
theorem t_isStr_124 : isStr Tryz.prog 124 = false := by kernel_rfl
theorem t_kindD_161 : kindD Tryz.prog 161 = some .u32 := by kernel_rfl
theorem t_isStr_161 : isStr Tryz.prog 161 = false := by kernel_rfl
theorem t_tkD_22 : tkD Tryz.prog 22 = 1 := by kernel_rfl
theorem t_szD_152 : szD Tryz.prog 152 = some 16 := by kernel_rfl
theorem t_aggD_152 : aggD Tryz.prog 152 = some true := by kernel_rfl
theorem t_arrE_152 : arrE Tryz.prog 152 = some 16 := by kernel_rfl
theorem t_isStr_135 : isStr Tryz.prog 135 = false := by kernel_rfl
theorem t_isSliceT_135 : isSliceT Tryz.prog 135 = true := by kernel_rfl
theorem t_fldD_138_1 : fldD Tryz.prog 138 1 = some (1, 1) := by kernel_rfl
theorem t_szD_111 : szD Tryz.prog 111 = some 1 := by kernel_rfl
theorem t_aggD_111 : aggD Tryz.prog 111 = some false := by kernel_rfl
theorem t_isSliceT_111 : isSliceT Tryz.prog 111 = true := by kernel_rfl
theorem t_tkD_140 : tkD Tryz.prog 140 = 4 := by kernel_rfl
theorem t_zeroD_169 : zeroD Tryz.prog 169 = some [.int .i64 0, .int .i64 0, .int .i64 0, .int .i64 0] := by kernel_rfl
theorem t_arrD_169 : arrD Tryz.prog 169 = some (4, 1) := by kernel_rfl
theorem t_kindD_175 : kindD Tryz.prog 175 = some .u64 := by kernel_rfl
theorem t_isStr_175 : isStr Tryz.prog 175 = false := by kernel_rfl
theorem t_zeroD_175 : zeroD Tryz.prog 175 = some [.int .u64 0] := by kernel_rfl
theorem t_szD_175 : szD Tryz.prog 175 = some 1 := by kernel_rfl
theorem t_fldD_138_0 : fldD Tryz.prog 138 0 = some (0, 1) := by kernel_rfl
theorem t_szD_136 : szD Tryz.prog 136 = some 1 := by kernel_rfl
theorem t_aggD_136 : aggD Tryz.prog 136 = some false := by kernel_rfl
theorem t_tkD_136 : tkD Tryz.prog 136 = 2 := by kernel_rfl
theorem t_kindD_136 : kindD Tryz.prog 136 = none := by kernel_rfl
theorem t_kindD_189 : kindD Tryz.prog 189 = none := by kernel_rfl
theorem t_isStr_136 : isStr Tryz.prog 136 = false := by kernel_rfl
theorem t_isStr_189 : isStr Tryz.prog 189 = false := by kernel_rfl
theorem t_aggD_175 : aggD Tryz.prog 175 = some false := by kernel_rfl
theorem t_concT_9 : concT Tryz.prog 9 = true := by kernel_rfl
theorem t_byteElem_5 : byteElem Tryz.prog 5 = true := by kernel_rfl
theorem t_arrD_219 : arrD Tryz.prog 219 = some (32, 1) := by kernel_rfl
theorem t_arrD_220 : arrD Tryz.prog 220 = some (64, 1) := by kernel_rfl
set_option maxRecDepth 20000
theorem EV : (∀ (α : Type) (a b : List α), List.append a b = a ++ b) ∧ (∀ (α : Type) (x : α) (a b : List α), (x :: a) ++ b = x :: (a ++ b)) ∧ (∀ (α : Type) (a : List α), [] ++ a = a) ∧ (∀ (α : Type) [BEq α] [LawfulBEq α] (a : α), (a != a) = false) ∧ (∀ (α : Type) [BEq α] [ReflBEq α] (a : α), (a == a) = true) ∧ ((!true) = false) ∧ ((!false) = true) :=
 ⟨fun _ _ _ => rfl, fun _ _ _ _ => rfl, fun _ _ => rfl, fun _ _ _ a => bne_self_eq_false a, fun _ _ _ a => beq_self_eq_true a, rfl, rfl⟩
theorem FV : type_of% (@List.append_eq.{0}) ∧ type_of% (@List.cons_append.{0}) ∧ type_of% (@List.nil_append.{0}) ∧ type_of% (@Bool.not_true) ∧ type_of% (@Bool.not_false) ∧ type_of% (@Option.isSome_none.{0}) ∧ type_of% (@Option.isSome_some.{0}) ∧ type_of% (@Option.getD_none.{0}) ∧ type_of% (@Option.getD_some.{0}) ∧ type_of% (@Option.map_none.{0,0}) ∧ type_of% (@Option.map_some.{0,0}) ∧ type_of% (@List.take_succ_cons.{0}) ∧ type_of% (@List.take_zero.{0}) ∧ type_of% (@List.drop_succ_cons.{0}) ∧ type_of% (@List.drop_zero.{0}) ∧ type_of% (@List.isEmpty_cons.{0}) ∧ type_of% (@Bool.and_false) ∧ type_of% (@Bool.false_and) ∧ type_of% (@List.getElem?_cons_zero.{0}) ∧ type_of% (@List.getElem?_cons_succ.{0}) ∧ type_of% (@Int.natCast_nonneg) ∧ type_of% (@Int.toNat_natCast) ∧ type_of% (@Nat.add_zero) ∧ type_of% (@toNat_lit) := ⟨@List.append_eq.{0}, @List.cons_append.{0}, @List.nil_append.{0}, @Bool.not_true, @Bool.not_false, @Option.isSome_none.{0}, @Option.isSome_some.{0}, @Option.getD_none.{0}, @Option.getD_some.{0}, @Option.map_none.{0,0}, @Option.map_some.{0,0}, @List.take_succ_cons.{0}, @List.take_zero.{0}, @List.drop_succ_cons.{0}, @List.drop_zero.{0}, @List.isEmpty_cons.{0}, @Bool.and_false, @Bool.false_and, @List.getElem?_cons_zero.{0}, @List.getElem?_cons_succ.{0}, @Int.natCast_nonneg, @Int.toNat_natCast, @Nat.add_zero, @toNat_lit⟩
theorem TF : type_of% EV ∧ type_of% FV ∧ type_of% W ∧ type_of% Pr_prog ∧ type_of% t_szD_26 ∧ type_of% t_aggD_26 ∧ type_of% t_zeroD_26 ∧ type_of% t_isStr_9 ∧ type_of% t_isSliceT_9 ∧ type_of% t_fldD_26_2 ∧ type_of% t_szD_22 ∧ type_of% t_aggD_22 ∧ type_of% t_zeroD_39 ∧ type_of% t_szD_39 ∧ type_of% t_fldD_39_0 ∧ type_of% t_szD_9 ∧ type_of% t_aggD_9 ∧ type_of% t_fldD_39_1 ∧ type_of% t_tkD_45 ∧ type_of% t_isStr_44 ∧ type_of% t_isSliceT_44 ∧ type_of% t_elemD_44 ∧ type_of% t_szD_55 ∧ type_of% t_aggD_55 ∧ type_of% t_zeroD_52 ∧ type_of% t_szD_52 ∧ type_of% t_fldD_52_0 ∧ type_of% t_fldD_52_1 ∧ type_of% t_szD_50 ∧ type_of% t_aggD_50 ∧ type_of% t_fldD_52_2 ∧ type_of% t_szD_4 ∧ type_of% t_aggD_4 ∧ type_of% t_tkD_4 ∧ type_of% t_fldD_52_3 ∧ type_of% t_szD_29 ∧ type_of% t_aggD_29 ∧ type_of% t_fldD_26_0 ∧ type_of% t_fldD_26_3 ∧ type_of% t_fldD_24_0 ∧ type_of% t_szD_3 ∧ type_of% t_aggD_3 ∧ type_of% t_isStr_22 ∧ type_of% t_isSliceT_22 ∧ type_of% t_elemD_22 ∧ type_of% t_fldD_55_0 ∧ type_of% t_fldD_55_5 ∧ type_of% t_fldD_55_1 ∧ type_of% t_aggD_39 ∧ type_of% t_fldD_39_3 ∧ type_of% t_szD_24 ∧ type_of% t_aggD_24 ∧ type_of% t_fldD_26_1 ∧ type_of% t_elemD_50 ∧ type_of% t_okElem_9 ∧ type_of% t_fldD_24_1 ∧ type_of% t_zeroD_3 ∧ type_of% t_zeroD_29 ∧ type_of% t_structOk_26 ∧ type_of% t_zeroD_82 ∧ type_of% t_structOk_82 ∧ type_of% t_fldD_82_0 ∧ type_of% t_kindsD_24 ∧ type_of% t_structOk_39 ∧ type_of% t_fldD_39_2 ∧ type_of% t_kindsD_39 ∧ type_of% t_mapD_89 ∧ type_of% t_zeroD_91 ∧ type_of% t_structOk_91 ∧ type_of% t_fldD_91_0 ∧ type_of% t_fldD_55_2 ∧ type_of% t_fldD_55_3 ∧ type_of% t_fldD_55_4 ∧ type_of% t_zeroD_95 ∧ type_of% t_structOk_95 ∧ type_of% t_fldD_55_7 ∧ type_of% t_fldD_55_6 ∧ type_of% t_aggD_52 ∧ type_of% t_isStr_50 ∧ type_of% t_isSliceT_50 ∧ type_of% t_szD_89 ∧ type_of% t_aggD_89 ∧ type_of% t_isStr_89 ∧ type_of% t_fldD_95_0 ∧ type_of% t_szD_93 ∧ type_of% t_aggD_93 ∧ type_of% t_isStr_93 ∧ type_of% t_isSliceT_93 ∧ type_of% t_elemD_93 ∧ type_of% t_zeroV_26 ∧ type_of% t_isSliceT_89 ∧ type_of% t_zeroD_24 ∧ type_of% t_structOk_24 ∧ type_of% t_okElem_39 ∧ type_of% t_elemD_111 ∧ type_of% t_okElem_5 ∧ type_of% t_kindD_111 ∧ type_of% t_kindD_9 ∧ type_of% t_isStr_111 ∧ type_of% t_kindD_5 ∧ type_of% t_kindD_3 ∧ type_of% t_isStr_3 ∧ type_of% t_isStr_5 ∧ type_of% t_tkD_20 ∧ type_of% t_concT_78 ∧ type_of% t_zeroD_78 ∧ type_of% t_szD_78 ∧ type_of% t_fldD_78_0 ∧ type_of% t_fldD_78_1 ∧ type_of% t_fldD_82_1 ∧ type_of% t_okElem_26 ∧ type_of% t_tkD_89 ∧ type_of% t_kindD_129 ∧ type_of% t_isStr_129 ∧ type_of% t_elemD_135 ∧ type_of% t_okElem_3 ∧ type_of% t_zeroD_138 ∧ type_of% t_structOk_78 ∧ type_of% t_zeroD_152 ∧ type_of% t_arrD_152 ∧ type_of% t_szD_5 ∧ type_of% t_aggD_5 ∧ type_of% t_isStr_152 ∧ type_of% t_kindD_124 ∧ type_of% t_isStr_124 ∧ type_of% t_kindD_161 ∧ type_of% t_isStr_161 ∧ type_of% t_tkD_22 ∧ type_of% t_szD_152 ∧ type_of% t_aggD_152 ∧ type_of% t_arrE_152 ∧ type_of% t_isStr_135 ∧ type_of% t_isSliceT_135 ∧ type_of% t_fldD_138_1 ∧ type_of% t_szD_111 ∧ type_of% t_aggD_111 ∧ type_of% t_isSliceT_111 ∧ type_of% t_tkD_140 ∧ type_of% t_zeroD_169 ∧ type_of% t_arrD_169 ∧ type_of% t_kindD_175 ∧ type_of% t_isStr_175 ∧ type_of% t_zeroD_175 ∧ type_of% t_szD_175 ∧ type_of% t_fldD_138_0 ∧ type_of% t_szD_136 ∧ type_of% t_aggD_136 ∧ type_of% t_tkD_136 ∧ type_of% t_kindD_136 ∧ type_of% t_kindD_189 ∧ type_of% t_isStr_136 ∧ type_of% t_isStr_189 ∧ type_of% t_aggD_175 ∧ type_of% t_concT_9 ∧ type_of% t_byteElem_5 ∧ type_of% t_arrD_219 ∧ type_of% t_arrD_220 := ⟨EV, FV, W, Pr_prog, t_szD_26, t_aggD_26, t_zeroD_26, t_isStr_9, t_isSliceT_9, t_fldD_26_2, t_szD_22, t_aggD_22, t_zeroD_39, t_szD_39, t_fldD_39_0, t_szD_9, t_aggD_9, t_fldD_39_1, t_tkD_45, t_isStr_44, t_isSliceT_44, t_elemD_44, t_szD_55, t_aggD_55, t_zeroD_52, t_szD_52, t_fldD_52_0, t_fldD_52_1, t_szD_50, t_aggD_50, t_fldD_52_2, t_szD_4, t_aggD_4, t_tkD_4, t_fldD_52_3, t_szD_29, t_aggD_29, t_fldD_26_0, t_fldD_26_3, t_fldD_24_0, t_szD_3, t_aggD_3, t_isStr_22, t_isSliceT_22, t_elemD_22, t_fldD_55_0, t_fldD_55_5, t_fldD_55_1, t_aggD_39, t_fldD_39_3, t_szD_24, t_aggD_24, t_fldD_26_1, t_elemD_50, t_okElem_9, t_fldD_24_1, t_zeroD_3, t_zeroD_29, t_structOk_26, t_zeroD_82, t_structOk_82, t_fldD_82_0, t_kindsD_24, t_structOk_39, t_fldD_39_2, t_kindsD_39, t_mapD_89, t_zeroD_91, t_structOk_91, t_fldD_91_0, t_fldD_55_2, t_fldD_55_3, t_fldD_55_4, t_zeroD_95, t_structOk_95, t_fldD_55_7, t_fldD_55_6, t_aggD_52, t_isStr_50, t_isSliceT_50, t_szD_89, t_aggD_89, t_isStr_89, t_fldD_95_0, t_szD_93, t_aggD_93, t_isStr_93, t_isSliceT_93, t_elemD_93, t_zeroV_26, t_isSliceT_89, t_zeroD_24, t_structOk_24, t_okElem_39, t_elemD_111, t_okElem_5, t_kindD_111, t_kindD_9, t_isStr_111, t_kindD_5, t_kindD_3, t_isStr_3, t_isStr_5, t_tkD_20, t_concT_78, t_zeroD_78, t_szD_78, t_fldD_78_0, t_fldD_78_1, t_fldD_82_1, t_okElem_26, t_tkD_89, t_kindD_129, t_isStr_129, t_elemD_135, t_okElem_3, t_zeroD_138, t_structOk_78, t_zeroD_152, t_arrD_152, t_szD_5, t_aggD_5, t_isStr_152, t_kindD_124, t_isStr_124, t_kindD_161, t_isStr_161, t_tkD_22, t_szD_152, t_aggD_152, t_arrE_152, t_isStr_135, t_isSliceT_135, t_fldD_138_1, t_szD_111, t_aggD_111, t_isSliceT_111, t_tkD_140, t_zeroD_169, t_arrD_169, t_kindD_175, t_isStr_175, t_zeroD_175, t_szD_175, t_fldD_138_0, t_szD_136, t_aggD_136, t_tkD_136, t_kindD_136, t_kindD_189, t_isStr_136, t_isStr_189, t_aggD_175, t_concT_9, t_byteElem_5, t_arrD_219, t_arrD_220⟩
theorem wrapP {n : Nat} (h : 0 < n) (hn : n ≤ 140737488355328) : IntKind.wrap .i64 ((n : Int) - 1) = ((n - 1 : Nat) : Int) := by
 rw [wrap_i64 (by omega) (by omega)]; omega
def upperB (n : Int) : Bool := decide (n ≥ 65) && decide (n ≤ 90)
def letterB (n : Int) : Bool := upperB n || (decide (n ≥ 97) && decide (n ≤ 122))
def digitB (n : Int) : Bool := decide (n ≥ 48) && decide (n ≤ 57)
def wordcB (n : Int) : Bool := letterB n || digitB n || n == 45 || n == 95 || n == 46 || n == 58
def wordB (s : List UInt8) : Bool := s.all (fun c => wordcB c.toNat) && !(s == []) && decide ((s.length : Int) ≤ 64)
def clB (n : Int) : Bool := decide (32 ≤ n) && decide (n ≤ 126)
def chAt (s : List UInt8) (i : Nat) : Int :=
 match s[i]? with
 | some c => c.toNat
 | none => -1
theorem chAt_of {s : List UInt8} {i : Nat} (h : i < s.length) : chAt s i = s[i].toNat := by simp [chAt, h]
theorem chAt_eq (s : List UInt8) (i : Nat) (c : UInt8) : (chAt s i == (c.toNat : Int)) = (s[i]? == some c) := by
 unfold chAt
 cases h : s[i]? with
 | none => rw [Bool.eq_iff_iff]; simp
 | some d =>
  rw [Bool.eq_iff_iff]
  simp only [beq_iff_eq, Option.some.injEq]
  exact ⟨fun e => UInt8.toNat_inj.1 (by omega), fun e => by rw [e]⟩
def endsB (s : List UInt8) : Bool := !(chAt s 0 == 32) && !(chAt s (s.length - 1) == 32)
theorem endsB_eq (s : List UInt8) : endsB s = (!(s[0]? == some 32) && !(s[s.length - 1]? == some 32)) := by
 unfold endsB
 have h1 := chAt_eq s 0 32
 have h2 := chAt_eq s (s.length - 1) 32
 simp only [show ((32 : UInt8).toNat : Int) = 32 from rfl] at h1 h2
 rw [h1, h2]
def cleanB (s : List UInt8) : Bool := s.all (fun c => clB c.toNat) && !(s == []) && decide ((s.length : Int) ≤ 256) && endsB s
theorem trim_endsB (s : List UInt8) (h : s ≠ []) : (Lib.trimB s 32 == s) = endsB s := by
 have hp : 0 < s.length := List.length_pos_iff.2 h
 rw [Bool.eq_iff_iff]
 simp only [beq_iff_eq, endsB_eq, Bool.and_eq_true, Bool.not_eq_true', beq_eq_false_iff_ne]
 constructor
 ·intro e
  have hl1 : (Lib.trimRightB s 32).length ≤ s.length := by
   unfold Lib.trimRightB
   simpa using (List.dropWhile_sublist (· == (32 : UInt8)) (l := s.reverse)).length_le
  have hl2 : (Lib.trimB s 32).length ≤ (Lib.trimRightB s 32).length := (List.dropWhile_sublist _).length_le
  rw [e] at hl2
  have hr : s.reverse.dropWhile (· == 32) = s.reverse := (List.dropWhile_sublist _).eq_of_length (by
   have : (Lib.trimRightB s 32).length = (s.reverse.dropWhile (· == 32)).length := by simp [Lib.trimRightB]
   simp only [List.length_reverse]; omega)
  have hr' : Lib.trimRightB s 32 = s := by rw [Lib.trimRightB, hr, List.reverse_reverse]
  have hd : s.dropWhile (· == 32) = s := by have := e; rw [Lib.trimB, hr', Lib.trimLeftB] at this; exact this
  constructor
  ·intro h0
   cases s with
   | nil => cases h0
   | cons a t =>
    simp only [List.getElem?_cons_zero, Option.some.injEq] at h0
    subst h0
    simp only [List.dropWhile_cons, beq_self_eq_true, if_true] at hd
    have := (List.dropWhile_sublist (· == (32 : UInt8)) (l := t)).length_le
    rw [hd] at this
    simp at this
    omega
  ·intro h0
   have h1 : s.reverse[0]? = some 32 := by rw [List.getElem?_reverse hp]; simpa using h0
   generalize s.reverse = r at *
   cases r with
   | nil => cases h1
   | cons a t =>
    simp only [List.getElem?_cons_zero, Option.some.injEq] at h1
    subst h1
    simp only [List.dropWhile_cons, beq_self_eq_true, if_true] at hr
    have := (List.dropWhile_sublist (· == (32 : UInt8)) (l := t)).length_le
    rw [hr] at this
    simp at this
    omega
 ·rintro ⟨h0, h1⟩
  have hr : Lib.trimRightB s 32 = s.take s.length := Lib.trimRightB_take s 32 s.length (Nat.le_refl _) (fun j b hj hb => by
   have := (List.getElem?_eq_some_iff.1 hb).1; omega) (fun b _ hb e => h1 (by rw [hb, e]))
  rw [List.take_length] at hr
  rw [Lib.trimB, hr, Lib.trimLeftB_drop s 32 0 (Nat.zero_le _) (fun j b hj => by omega) (fun b hb e => h0 (by rw [hb, e]))]
  rfl
theorem getB (s : ByteArray) {k : Nat} (h : k < s.size) : s.get! k = s.data.toList[k]'h := by
 show s.data[k]! = _
 rw [getElem!_pos s.data k h]
 rfl
theorem dec_cases (s : List UInt8) (k : Nat) (hk : k ≤ s.length) : s.length ≤ k ∨ (k < s.length ∧ 126 < (decD s k).1 ∧ (s.drop k).all (fun c => clB c.toNat) = false) ∨
  (∃ h : k < s.length, (decD s k).1 = s[k].toNat ∧ (decD s k).2 = 1 ∧ (s.drop k).all (fun c => clB c.toNat) = (clB s[k].toNat && (s.drop (k + 1)).all (fun c => clB c.toNat))) := by
 by_cases h : k < s.length
 ·right
  have e : decD s k = Lib.decodeN ((⟨s.toArray⟩ : ByteArray).size - k) ((⟨s.toArray⟩ : ByteArray).get! k).toNat ((⟨s.toArray⟩ : ByteArray).get! (k + 1)).toNat ((⟨s.toArray⟩ : ByteArray).get! (k + 2)).toNat ((⟨s.toArray⟩ : ByteArray).get! (k + 3)).toNat := Lib.decode_at _ _
  have hb : (⟨s.toArray⟩ : ByteArray).get! k = s[k] := getB ⟨s.toArray⟩ h
  rw [hb] at e
  have hd : (s.drop k).all (fun c => clB c.toNat) = (clB s[k].toNat && (s.drop (k + 1)).all (fun c => clB c.toNat)) := by rw [dropE h, List.all_cons]
  by_cases h8 : s[k].toNat < 128
  ·right
   refine ⟨h, ?_, ?_, hd⟩ <;> (rw [e]; unfold Lib.decodeN; rw [if_pos h8])
  ·left
   refine ⟨h, ?_, ?_⟩
   ·rw [e]; unfold Lib.decodeN; rw [if_neg h8]
    repeat' split
    all_goals (first | omega | (simp only []; omega))
   ·rw [hd]
    have : clB s[k].toNat = false := by simp [clB]; omega
    rw [this]; rfl
 ·left; omega
def plainB (n : Int) : Bool := decide (n ≥ 33) && decide (n ≤ 126) && !(n == 37) && !(n == 124) && !(n == 44) && !(n == 61) && !(n == 59) && !(n == 34)
theorem plain_ix (n : Int) (h0 : 33 ≤ n) (h1 : n ≤ 126) : decide (Lib.indexByte [37, 124, 44, 61, 59, 34] n.toNat.toUInt8 < 0) = (!(n == 37) && !(n == 124) && !(n == 44) && !(n == 61) && !(n == 59) && !(n == 34)) := by
 obtain ⟨m, rfl⟩ : ∃ m : Nat, n = m := ⟨n.toNat, by omega⟩
 have hm : m < 127 := by omega
 clear h0 h1
 revert m
 decide +kernel
end Go.Proofs
