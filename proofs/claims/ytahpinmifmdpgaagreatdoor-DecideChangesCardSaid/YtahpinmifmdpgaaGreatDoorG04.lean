import Derived.Test.YtahpinmifmdpgaaGreatDoorG02
import Derived.Lib.LaidTab
import Derived.Lib.ItoaNum
import Derived.Test.YtahpinmifmdpgaaGreatDoorProg
import Derived.Lib.TrimByte
import Derived.Lib.IndexMore
import Derived.Lib.Bytealg
import Derived.Lib.DecodeN
set_option linter.unusedVariables false
set_option linter.unusedSimpArgs false
set_option linter.unnecessarySimpa false
namespace Go.Proofs
open Go Go.Id
set_option linter.unusedVariables false

/-- What the library's variables hold. -/
def PolI (w : World) : Prop :=
  (∃ m, w.cell? ⟨0, 0, none⟩ = some (.int .i64 m)) ∧ Lib.TabIs Tryz.prog w "internal/strconv.uint64pow10" .u64 Lib.pow10Tab ∧ (∃ tp p, w.cell? ⟨2, 0, none⟩ = some (.iface tp p)) ∧ (∃ tp p, w.cell? ⟨3, 0, none⟩ = some (.iface tp p))

theorem glob_pow10 : Tryz.prog.globalNamed "internal/strconv.uint64pow10" = some 1 := by kernel_rfl

theorem polI_stable (w w' : World) (h : PolI w) (hk : ∀ k, k < 8 → w'.heap[k]? = w.heap[k]?) : PolI w' := by
  have hc : ∀ k, k < 8 → w'.cell? ⟨k, 0, none⟩ = w.cell? ⟨k, 0, none⟩ := fun k h => World.cell?_of_block (w := w) (w' := w') (by simpa using hk k h)
  obtain ⟨h1, h2, h3, h4⟩ := h
  refine ⟨by rw [hc 0 (by omega)]; exact h1, ?_, by rw [hc 2 (by omega)]; exact h3, by rw [hc 3 (by omega)]; exact h4⟩
  unfold Lib.TabIs World.var? at h2 ⊢
  rw [glob_pow10] at h2 ⊢
  simp only [Option.bind_some] at h2 ⊢
  rw [hk 1 (by omega)]; exact h2

/-- The literals that are written to: empty ones, the policy of the examples, a rule before others, and the first word of a line. -/
def litP (n : Nat) (ps : List (Nat × Operand)) : Bool :=
  match n, ps with
  | 0, _ => true
  | 1, [(0, .tmp t)] => t == 2 || t == 31
  | 1, [(0, .const (.string s))] => s.size == 6
  | _, _ => false
noncomputable def Pr : Prg := ⟨Tryz.prog, 8, PolI, polI_stable, fun _ n ps => litP n ps.toList⟩
theorem Pr_prog : Pr.prog = Tryz.prog ∧ (∀ t ps, Pr.lit t 0 ps = true) ∧ (∀ t i, i ≠ 2 → i ≠ 31 → Pr.lit t 1 #[(0, .tmp i)] = false) ∧ (∀ t s, Pr.lit t 1 #[(0, .const (.string s))] = (s.size == 6)) ∧ (∀ t, Pr.lit t 1 #[(0, .tmp 2)] = true) ∧ (∀ t, Pr.lit t 1 #[(0, .tmp 31)] = true) ∧ (∀ t ps, Pr.lit t 2 ps = false) ∧ (∀ t ps, Pr.lit t 3 ps = false) ∧ (∀ t ps, Pr.lit t 4 ps = false) ∧ (∀ t ps, Pr.lit t 10 ps = false) := by
  refine ⟨rfl, ?_, ?_, ?_, ?_, ?_, ?_, ?_, ?_, ?_⟩ <;> intros <;> first | rfl | (show (_ == 2 || _ == 31) = false; simp [*]) | (unfold Pr litP; simp)

theorem bodied_of {k : FuncId} {fn : Func} (h : Tryz.prog.funcs[k]? = some fn) (hn : (fn.name == "runtime.NumGoroutine") = false) (hb : fn.body.isNone = false) : Bodied Pr.prog k := ⟨fn, h, hn, hb⟩


end Go.Proofs

namespace Go.Proofs
open Go Go.Id
set_option maxRecDepth 10000
theorem t_szD_25 : szD Tryz.prog 25 = some 10 := by kernel_rfl
theorem t_aggD_25 : aggD Tryz.prog 25 = some true := by kernel_rfl
theorem t_fldD_32_4 : fldD Tryz.prog 32 4 = some (4, 1) := by kernel_rfl
theorem t_szD_30 : szD Tryz.prog 30 = some 1 := by kernel_rfl
theorem t_aggD_30 : aggD Tryz.prog 30 = some false := by kernel_rfl
theorem t_isStr_30 : isStr Tryz.prog 30 = false := by kernel_rfl
theorem t_isSliceT_30 : isSliceT Tryz.prog 30 = true := by kernel_rfl
theorem t_fldD_32_1 : fldD Tryz.prog 32 1 = some (1, 1) := by kernel_rfl
theorem t_szD_23 : szD Tryz.prog 23 = some 1 := by kernel_rfl
theorem t_aggD_23 : aggD Tryz.prog 23 = some false := by kernel_rfl
theorem t_elemD_30 : elemD Tryz.prog 30 = some (36, 3, 40) := by kernel_rfl
theorem t_fldD_36_2 : fldD Tryz.prog 36 2 = some (2, 1) := by kernel_rfl
theorem t_zeroD_32 : zeroD Tryz.prog 32 = some [.int .i64 0, .slice 0 true [] none, .int .i64 0, .int .i64 0, .slice 0 true [] none] := by kernel_rfl
theorem t_szD_32 : szD Tryz.prog 32 = some 5 := by kernel_rfl
theorem t_aggD_32 : aggD Tryz.prog 32 = some true := by kernel_rfl
theorem t_isStr_23 : isStr Tryz.prog 23 = false := by kernel_rfl
theorem t_isSliceT_23 : isSliceT Tryz.prog 23 = true := by kernel_rfl
theorem t_elemD_23 : elemD Tryz.prog 23 = some (9, 1, 16) := by kernel_rfl
theorem t_szD_9 : szD Tryz.prog 9 = some 1 := by kernel_rfl
theorem t_aggD_9 : aggD Tryz.prog 9 = some false := by kernel_rfl
theorem t_fldD_32_0 : fldD Tryz.prog 32 0 = some (0, 1) := by kernel_rfl
theorem t_szD_29 : szD Tryz.prog 29 = some 1 := by kernel_rfl
theorem t_aggD_29 : aggD Tryz.prog 29 = some false := by kernel_rfl
theorem t_isStr_22 : isStr Tryz.prog 22 = false := by kernel_rfl
theorem t_isSliceT_22 : isSliceT Tryz.prog 22 = true := by kernel_rfl
theorem t_elemD_22 : elemD Tryz.prog 22 = some (44, 6, 88) := by kernel_rfl
theorem t_fldD_44_2 : fldD Tryz.prog 44 2 = some (2, 1) := by kernel_rfl
theorem t_szD_42 : szD Tryz.prog 42 = some 1 := by kernel_rfl
theorem t_aggD_42 : aggD Tryz.prog 42 = some false := by kernel_rfl
theorem t_isStr_42 : isStr Tryz.prog 42 = false := by kernel_rfl
theorem t_isSliceT_42 : isSliceT Tryz.prog 42 = true := by kernel_rfl
theorem t_elemD_42 : elemD Tryz.prog 42 = some (46, 3, 48) := by kernel_rfl
theorem t_fldD_46_0 : fldD Tryz.prog 46 0 = some (0, 1) := by kernel_rfl
theorem t_fldD_32_2 : fldD Tryz.prog 32 2 = some (2, 1) := by kernel_rfl
theorem t_szD_3 : szD Tryz.prog 3 = some 1 := by kernel_rfl
theorem t_aggD_3 : aggD Tryz.prog 3 = some false := by kernel_rfl
theorem t_zeroD_25 : zeroD Tryz.prog 25 = some [.str [], .str [], .str [], .slice 0 true [] none, .slice 0 true [] none, .int .i64 0, .bool false, .int .i64 0, .int .i64 0, .int .i64 0] := by kernel_rfl
theorem t_fldD_25_0 : fldD Tryz.prog 25 0 = some (0, 1) := by kernel_rfl
theorem t_fldD_25_1 : fldD Tryz.prog 25 1 = some (1, 1) := by kernel_rfl
theorem t_fldD_25_2 : fldD Tryz.prog 25 2 = some (2, 1) := by kernel_rfl
theorem t_fldD_25_3 : fldD Tryz.prog 25 3 = some (3, 1) := by kernel_rfl
theorem t_fldD_25_5 : fldD Tryz.prog 25 5 = some (5, 1) := by kernel_rfl
theorem t_fldD_25_6 : fldD Tryz.prog 25 6 = some (6, 1) := by kernel_rfl
theorem t_szD_4 : szD Tryz.prog 4 = some 1 := by kernel_rfl
theorem t_aggD_4 : aggD Tryz.prog 4 = some false := by kernel_rfl
theorem t_fldD_44_1 : fldD Tryz.prog 44 1 = some (1, 1) := by kernel_rfl
theorem t_szD_44 : szD Tryz.prog 44 = some 6 := by kernel_rfl
theorem t_aggD_44 : aggD Tryz.prog 44 = some true := by kernel_rfl
theorem t_okElem_44 : okElem Tryz.prog 44 = true := by kernel_rfl
theorem t_fldD_32_3 : fldD Tryz.prog 32 3 = some (3, 1) := by kernel_rfl
theorem t_fldD_25_7 : fldD Tryz.prog 25 7 = some (7, 1) := by kernel_rfl
theorem t_fldD_25_4 : fldD Tryz.prog 25 4 = some (4, 1) := by kernel_rfl
theorem t_isStr_9 : isStr Tryz.prog 9 = true := by kernel_rfl
theorem t_isSliceT_9 : isSliceT Tryz.prog 9 = false := by kernel_rfl
theorem t_fldD_44_0 : fldD Tryz.prog 44 0 = some (0, 1) := by kernel_rfl
theorem t_fldD_44_3 : fldD Tryz.prog 44 3 = some (3, 1) := by kernel_rfl
theorem t_szD_46 : szD Tryz.prog 46 = some 3 := by kernel_rfl
theorem t_aggD_46 : aggD Tryz.prog 46 = some true := by kernel_rfl
theorem t_zeroD_46 : zeroD Tryz.prog 46 = some [.str [], .str [], .str []] := by kernel_rfl
theorem t_fldD_46_1 : fldD Tryz.prog 46 1 = some (1, 1) := by kernel_rfl
theorem t_fldD_46_2 : fldD Tryz.prog 46 2 = some (2, 1) := by kernel_rfl
theorem t_okElem_9 : okElem Tryz.prog 9 = true := by kernel_rfl
theorem t_structOk_25 : structOk Tryz.prog 25 = true := by kernel_rfl
theorem t_fldD_25_9 : fldD Tryz.prog 25 9 = some (9, 1) := by kernel_rfl
theorem t_structOk_46 : structOk Tryz.prog 46 = true := by kernel_rfl
theorem t_okElem_46 : okElem Tryz.prog 46 = true := by kernel_rfl
theorem t_zeroD_44 : zeroD Tryz.prog 44 = some [.str [], .bool false, .slice 0 true [] none, .slice 0 true [] none, .int .i64 0, .int .i64 0] := by kernel_rfl
theorem t_structOk_44 : structOk Tryz.prog 44 = true := by kernel_rfl
theorem t_fldD_36_1 : fldD Tryz.prog 36 1 = some (1, 1) := by kernel_rfl
theorem t_szD_36 : szD Tryz.prog 36 = some 3 := by kernel_rfl
theorem t_aggD_36 : aggD Tryz.prog 36 = some true := by kernel_rfl
theorem t_zeroD_36 : zeroD Tryz.prog 36 = some [.int .i64 0, .int .i64 0, .slice 0 true [] none] := by kernel_rfl
theorem t_fldD_36_0 : fldD Tryz.prog 36 0 = some (0, 1) := by kernel_rfl
theorem t_szD_22 : szD Tryz.prog 22 = some 1 := by kernel_rfl
theorem t_aggD_22 : aggD Tryz.prog 22 = some false := by kernel_rfl
theorem t_structOk_32 : structOk Tryz.prog 32 = true := by kernel_rfl
theorem t_zeroD_4 : zeroD Tryz.prog 4 = some [.bool false] := by kernel_rfl
theorem t_structOk_36 : structOk Tryz.prog 36 = true := by kernel_rfl
theorem t_okElem_36 : okElem Tryz.prog 36 = true := by kernel_rfl
theorem t_zeroD_3 : zeroD Tryz.prog 3 = some [.int .i64 0] := by kernel_rfl
theorem t_fldD_44_4 : fldD Tryz.prog 44 4 = some (4, 1) := by kernel_rfl
theorem t_fldD_44_5 : fldD Tryz.prog 44 5 = some (5, 1) := by kernel_rfl
theorem t_fldD_25_8 : fldD Tryz.prog 25 8 = some (8, 1) := by kernel_rfl
theorem t_mapD_71 : mapD Tryz.prog 71 = some 4 := by kernel_rfl
theorem t_zeroD_71 : zeroD Tryz.prog 71 = some [.nilmap] := by kernel_rfl
theorem t_szD_71 : szD Tryz.prog 71 = some 1 := by kernel_rfl
theorem t_aggD_71 : aggD Tryz.prog 71 = some false := by kernel_rfl
theorem t_isStr_71 : isStr Tryz.prog 71 = false := by kernel_rfl
theorem t_kindD_3 : kindD Tryz.prog 3 = some .i64 := by kernel_rfl
theorem t_kindD_93 : kindD Tryz.prog 93 = some .u64 := by kernel_rfl
theorem t_isStr_3 : isStr Tryz.prog 3 = false := by kernel_rfl
theorem t_isStr_93 : isStr Tryz.prog 93 = false := by kernel_rfl
theorem t_tkD_4 : tkD Tryz.prog 4 = 5 := by kernel_rfl
theorem t_zeroD_110 : zeroD Tryz.prog 110 = some [.nilptr, .slice 0 true [] none] := by kernel_rfl
theorem t_elemD_108 : elemD Tryz.prog 108 = some (5, 1, 1) := by kernel_rfl
theorem t_okElem_5 : okElem Tryz.prog 5 = true := by kernel_rfl
theorem t_kindD_108 : kindD Tryz.prog 108 = none := by kernel_rfl
theorem t_kindD_9 : kindD Tryz.prog 9 = none := by kernel_rfl
theorem t_isStr_108 : isStr Tryz.prog 108 = false := by kernel_rfl
theorem t_kindD_5 : kindD Tryz.prog 5 = some .u8 := by kernel_rfl
theorem t_isStr_5 : isStr Tryz.prog 5 = false := by kernel_rfl
theorem t_kindD_125 : kindD Tryz.prog 125 = some .u32 := by kernel_rfl
theorem t_isStr_125 : isStr Tryz.prog 125 = false := by kernel_rfl
theorem t_kindD_127 : kindD Tryz.prog 127 = some .u64 := by kernel_rfl
theorem t_isStr_127 : isStr Tryz.prog 127 = false := by kernel_rfl
theorem t_concT_9 : concT Tryz.prog 9 = true := by kernel_rfl
theorem t_fldD_110_1 : fldD Tryz.prog 110 1 = some (1, 1) := by kernel_rfl
theorem t_szD_108 : szD Tryz.prog 108 = some 1 := by kernel_rfl
theorem t_aggD_108 : aggD Tryz.prog 108 = some false := by kernel_rfl
theorem t_isSliceT_108 : isSliceT Tryz.prog 108 = true := by kernel_rfl
theorem t_byteElem_5 : byteElem Tryz.prog 5 = true := by kernel_rfl
theorem t_kindD_133 : kindD Tryz.prog 133 = some .u64 := by kernel_rfl
theorem t_isStr_133 : isStr Tryz.prog 133 = false := by kernel_rfl
theorem t_zeroD_133 : zeroD Tryz.prog 133 = some [.int .u64 0] := by kernel_rfl
theorem t_szD_133 : szD Tryz.prog 133 = some 1 := by kernel_rfl
theorem t_tkD_113 : tkD Tryz.prog 113 = 4 := by kernel_rfl
theorem t_fldD_110_0 : fldD Tryz.prog 110 0 = some (0, 1) := by kernel_rfl
theorem t_szD_107 : szD Tryz.prog 107 = some 1 := by kernel_rfl
theorem t_aggD_107 : aggD Tryz.prog 107 = some false := by kernel_rfl
theorem t_tkD_107 : tkD Tryz.prog 107 = 2 := by kernel_rfl
theorem t_kindD_107 : kindD Tryz.prog 107 = none := by kernel_rfl
theorem t_kindD_141 : kindD Tryz.prog 141 = none := by kernel_rfl
theorem t_isStr_107 : isStr Tryz.prog 107 = false := by kernel_rfl
theorem t_isStr_141 : isStr Tryz.prog 141 = false := by kernel_rfl
theorem t_aggD_133 : aggD Tryz.prog 133 = some false := by kernel_rfl
theorem t_arrD_185 : arrD Tryz.prog 185 = some (32, 1) := by kernel_rfl
theorem t_szD_5 : szD Tryz.prog 5 = some 1 := by kernel_rfl
theorem t_aggD_5 : aggD Tryz.prog 5 = some false := by kernel_rfl
theorem t_arrD_186 : arrD Tryz.prog 186 = some (64, 1) := by kernel_rfl
end Go.Proofs

set_option linter.unusedSimpArgs false
set_option linter.unusedVariables false
namespace Go.Proofs
open Go Go.Id

theorem wrapP {n : Nat} (h : 0 < n) (hn : n ≤ 140737488355328) : IntKind.wrap .i64 ((n : Int) - 1) = ((n - 1 : Nat) : Int) := by
  rw [wrap_i64 (by omega) (by omega)]; omega

def upperB (n : Int) : Bool := decide (n ≥ 65) && decide (n ≤ 90)
def letterB (n : Int) : Bool := upperB n || (decide (n ≥ 97) && decide (n ≤ 122))
def digitB (n : Int) : Bool := decide (n ≥ 48) && decide (n ≤ 57)
def wordcB (n : Int) : Bool := letterB n || digitB n || n == 45 || n == 95 || n == 46 || n == 58
def wordB (s : List UInt8) : Bool := s.all (fun c => wordcB c.toNat) && !(s == []) && decide ((s.length : Int) ≤ 64)
theorem word_pos {s : List UInt8} (h : wordB s = true) : 0 < s.length := by
  cases s with
  | nil => simp [wordB] at h
  | cons => simp

theorem word_le {s : List UInt8} (h : wordB s = true) : s.length ≤ 64 := by simp [wordB] at h; omega

def clB (n : Int) : Bool := decide (32 ≤ n) && decide (n ≤ 126)
/-- Neither end is a space. -/
def chAt (s : List UInt8) (i : Nat) : Int :=
  match s[i]? with
  | some c => c.toNat
  | none => -1
theorem chAt_of {s : List UInt8} {i : Nat} (h : i < s.length) : chAt s i = s[i].toNat := by simp [chAt, h]
theorem chAt_eq (s : List UInt8) (i : Nat) (c : UInt8) : (chAt s i == (c.toNat : Int)) = (s[i]? == some c) := by
  unfold chAt
  cases h : s[i]? with
  | none => rw [Bool.eq_iff_iff]; simp
  | some d =>
    rw [Bool.eq_iff_iff]
    simp only [beq_iff_eq, Option.some.injEq]
    exact ⟨fun e => UInt8.toNat_inj.1 (by omega), fun e => by rw [e]⟩
def endsB (s : List UInt8) : Bool := !(chAt s 0 == 32) && !(chAt s (s.length - 1) == 32)
theorem endsB_eq (s : List UInt8) : endsB s = (!(s[0]? == some 32) && !(s[s.length - 1]? == some 32)) := by
  unfold endsB
  have h1 := chAt_eq s 0 32
  have h2 := chAt_eq s (s.length - 1) 32
  simp only [show ((32 : UInt8).toNat : Int) = 32 from rfl] at h1 h2
  rw [h1, h2]
def cleanB (s : List UInt8) : Bool := s.all (fun c => clB c.toNat) && !(s == []) && decide ((s.length : Int) ≤ 256) && endsB s

theorem trim_endsB (s : List UInt8) (h : s ≠ []) : (Lib.trimB s 32 == s) = endsB s := by
  have hp : 0 < s.length := List.length_pos_iff.2 h
  rw [Bool.eq_iff_iff]
  simp only [beq_iff_eq, endsB_eq, Bool.and_eq_true, Bool.not_eq_true', beq_eq_false_iff_ne]
  constructor
  · intro e
    have hl1 : (Lib.trimRightB s 32).length ≤ s.length := by
      unfold Lib.trimRightB
      simpa using (List.dropWhile_sublist (· == (32 : UInt8)) (l := s.reverse)).length_le
    have hl2 : (Lib.trimB s 32).length ≤ (Lib.trimRightB s 32).length := (List.dropWhile_sublist _).length_le
    rw [e] at hl2
    have hr : s.reverse.dropWhile (· == 32) = s.reverse := (List.dropWhile_sublist _).eq_of_length (by
      have : (Lib.trimRightB s 32).length = (s.reverse.dropWhile (· == 32)).length := by simp [Lib.trimRightB]
      simp only [List.length_reverse]; omega)
    have hr' : Lib.trimRightB s 32 = s := by rw [Lib.trimRightB, hr, List.reverse_reverse]
    have hd : s.dropWhile (· == 32) = s := by have := e; rw [Lib.trimB, hr', Lib.trimLeftB] at this; exact this
    constructor
    · intro h0
      cases s with
      | nil => cases h0
      | cons a t =>
        simp only [List.getElem?_cons_zero, Option.some.injEq] at h0
        subst h0
        simp only [List.dropWhile_cons, beq_self_eq_true, if_true] at hd
        have := (List.dropWhile_sublist (· == (32 : UInt8)) (l := t)).length_le
        rw [hd] at this
        simp at this
        omega
    · intro h0
      have h1 : s.reverse[0]? = some 32 := by rw [List.getElem?_reverse hp]; simpa using h0
      generalize s.reverse = r at *
      cases r with
      | nil => cases h1
      | cons a t =>
        simp only [List.getElem?_cons_zero, Option.some.injEq] at h1
        subst h1
        simp only [List.dropWhile_cons, beq_self_eq_true, if_true] at hr
        have := (List.dropWhile_sublist (· == (32 : UInt8)) (l := t)).length_le
        rw [hr] at this
        simp at this
        omega
  · rintro ⟨h0, h1⟩
    have hr : Lib.trimRightB s 32 = s.take s.length := Lib.trimRightB_take s 32 s.length (Nat.le_refl _) (fun j b hj hb => by
      have := (List.getElem?_eq_some_iff.1 hb).1; omega) (fun b _ hb e => h1 (by rw [hb, e]))
    rw [List.take_length] at hr
    rw [Lib.trimB, hr, Lib.trimLeftB_drop s 32 0 (Nat.zero_le _) (fun j b hj => by omega) (fun b hb e => h0 (by rw [hb, e]))]
    rfl

theorem getB (s : ByteArray) {k : Nat} (h : k < s.size) : s.get! k = s.data.toList[k]'h := by
  show s.data[k]! = _
  rw [getElem!_pos s.data k h]
  rfl

theorem dec_cases (s : List UInt8) (k : Nat) (hk : k ≤ s.length) : s.length ≤ k ∨ (k < s.length ∧ 126 < (decD s k).1 ∧ (s.drop k).all (fun c => clB c.toNat) = false) ∨
    (∃ h : k < s.length, (decD s k).1 = s[k].toNat ∧ (decD s k).2 = 1 ∧ (s.drop k).all (fun c => clB c.toNat) = (clB s[k].toNat && (s.drop (k + 1)).all (fun c => clB c.toNat))) := by
  by_cases h : k < s.length
  · right
    have e : decD s k = Lib.decodeN ((⟨s.toArray⟩ : ByteArray).size - k) ((⟨s.toArray⟩ : ByteArray).get! k).toNat ((⟨s.toArray⟩ : ByteArray).get! (k + 1)).toNat ((⟨s.toArray⟩ : ByteArray).get! (k + 2)).toNat ((⟨s.toArray⟩ : ByteArray).get! (k + 3)).toNat := Lib.decode_at _ _
    have hb : (⟨s.toArray⟩ : ByteArray).get! k = s[k] := getB ⟨s.toArray⟩ h
    rw [hb] at e
    have hd : (s.drop k).all (fun c => clB c.toNat) = (clB s[k].toNat && (s.drop (k + 1)).all (fun c => clB c.toNat)) := by rw [dropE h, List.all_cons]
    by_cases h8 : s[k].toNat < 128
    · right
      refine ⟨h, ?_, ?_, hd⟩ <;> (rw [e]; unfold Lib.decodeN; rw [if_pos h8])
    · left
      refine ⟨h, ?_, ?_⟩
      · rw [e]; unfold Lib.decodeN; rw [if_neg h8]
        repeat' split
        all_goals (first | omega | (simp only []; omega))
      · rw [hd]
        have : clB s[k].toNat = false := by simp [clB]; omega
        rw [this]; rfl
  · left; omega

/-- Two dots in a row. -/
def ddB : List UInt8 → Bool
  | [] => false
  | a :: t => (a == 46 && t.head? == some 46) || ddB t
theorem index_nonneg (s sub : List UInt8) : -1 ≤ Lib.index s sub := by
  rcases Lib.index_spec s sub with ⟨h, _⟩ | ⟨i, h, _⟩ <;> omega
theorem contains_dd : ∀ s : List UInt8, Lib.contains s [46, 46] = ddB s
  | [] => by decide
  | a :: t => by
    have ih := contains_dd t
    unfold Lib.contains at ih ⊢
    have e : Lib.index (a :: t) [46, 46] = if List.isPrefixOf [46, 46] (a :: t) = true then 0 else if Lib.index t [46, 46] == -1 then -1 else Lib.index t [46, 46] + 1 := by
      rw [Lib.index]
    rw [e, ddB, ← ih]
    have hp : List.isPrefixOf [46, 46] (a :: t) = (a == 46 && t.head? == some 46) := by
      cases t with
      | nil => simp [List.isPrefixOf]
      | cons b u =>
        simp only [List.isPrefixOf, List.head?_cons, Bool.and_true]
        rw [Bool.eq_iff_iff]
        simp only [Bool.and_eq_true, beq_iff_eq, Option.some.injEq]
        exact ⟨fun ⟨h, k⟩ => ⟨h.symm, k.symm⟩, fun ⟨h, k⟩ => ⟨h.symm, k.symm⟩⟩
    rw [hp]
    by_cases h : (a == 46 && t.head? == some 46) = true
    · rw [h]; simp
    · simp only [Bool.not_eq_true] at h
      rw [h]
      simp only [Bool.false_eq_true, if_false, Bool.false_or]
      have hn := index_nonneg t [46, 46]
      by_cases h1 : Lib.index t [46, 46] = -1
      · simp [h1]
      · simp only [beq_iff_eq, h1, if_false]
        rw [Bool.eq_iff_iff]
        simp only [decide_eq_true_eq]
        constructor <;> intro _ <;> omega

def validB (s : List UInt8) : Bool := wordB s && !(chAt s 0 == 46) && !(chAt s (s.length - 1) == 46) && !(ddB s)

def plainB (n : Int) : Bool := decide (n ≥ 33) && decide (n ≤ 126) && !(n == 37) && !(n == 124) && !(n == 44) && !(n == 61) && !(n == 59) && !(n == 34)
theorem plain_ix (n : Int) (h0 : 33 ≤ n) (h1 : n ≤ 126) : decide (Lib.indexByte [37, 124, 44, 61, 59, 34] n.toNat.toUInt8 < 0) = (!(n == 37) && !(n == 124) && !(n == 44) && !(n == 61) && !(n == 59) && !(n == 34)) := by
  obtain ⟨m, rfl⟩ : ∃ m : Nat, n = m := ⟨n.toNat, by omega⟩
  have hm : m < 127 := by omega
  clear h0 h1
  revert m
  decide +kernel

end Go.Proofs
