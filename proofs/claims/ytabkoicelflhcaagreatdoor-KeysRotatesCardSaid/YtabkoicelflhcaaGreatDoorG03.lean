import Derived.Test.YtabkoicelflhcaaGreatDoorG02
import Derived.Lib.LaidTab
import Derived.Lib.ItoaNum
import Derived.Test.YtabkoicelflhcaaGreatDoorProg
import Derived.Lib.TrimByte
import Derived.Lib.IndexMore
import Derived.Lib.Bytealg
import Derived.Lib.DecodeN
set_option linter.unusedVariables false
set_option linter.unusedSimpArgs false
namespace Go.Proofs
open Go Go.Id
set_option linter.unusedVariables false

/-- What the library's variables hold. -/
def PolI (w : World) : Prop :=
  (∃ m, w.cell? ⟨0, 0, none⟩ = some (.int .i64 m)) ∧ Lib.TabIs Tryz.prog w "internal/strconv.uint64pow10" .u64 Lib.pow10Tab ∧ (∃ tp p, w.cell? ⟨1, 0, none⟩ = some (.iface tp p)) ∧ (∃ tp p, w.cell? ⟨2, 0, none⟩ = some (.iface tp p))

theorem glob_pow10 : Tryz.prog.globalNamed "internal/strconv.uint64pow10" = some 5 := by kernel_rfl

theorem polI_stable (w w' : World) (h : PolI w) (hk : ∀ k, k < 8 → w'.heap[k]? = w.heap[k]?) : PolI w' := by
  have hc : ∀ k, k < 8 → w'.cell? ⟨k, 0, none⟩ = w.cell? ⟨k, 0, none⟩ := fun k h => World.cell?_of_block (w := w) (w' := w') (by simpa using hk k h)
  obtain ⟨h1, h2, h3, h4⟩ := h
  refine ⟨by rw [hc 0 (by omega)]; exact h1, ?_, by rw [hc 1 (by omega)]; exact h3, by rw [hc 2 (by omega)]; exact h4⟩
  unfold Lib.TabIs World.var? at h2 ⊢
  rw [glob_pow10] at h2 ⊢
  simp only [Option.bind_some] at h2 ⊢
  rw [hk 5 (by omega)]; exact h2

/-- The literals that are written to: empty ones, and the ring of the examples. -/
def litP (n : Nat) (ps : List (Nat × Operand)) : Bool :=
  match n, ps with
  | 0, _ => true
  | 1, [(0, .tmp t)] => t == 3
  | _, _ => false
noncomputable def Pr : Prg := ⟨Tryz.prog, 8, PolI, polI_stable, fun _ n ps => litP n ps.toList⟩
theorem Pr_prog : Pr.prog = Tryz.prog ∧ (∀ t ps, Pr.lit t 0 ps = true) ∧ (∀ t i, i ≠ 3 → Pr.lit t 1 #[(0, .tmp i)] = false) ∧ (∀ t v, Pr.lit t 1 #[(0, .const v)] = false) ∧ (∀ t, Pr.lit t 1 #[(0, .tmp 3)] = true) ∧ (∀ t ps, Pr.lit t 2 ps = false) ∧ (∀ t ps, Pr.lit t 3 ps = false) ∧ (∀ t ps, Pr.lit t 4 ps = false) ∧ (∀ t ps, Pr.lit t 5 ps = false) ∧ (∀ t ps, Pr.lit t 6 ps = false) := by
  refine ⟨rfl, ?_, ?_, ?_, ?_, ?_, ?_, ?_, ?_, ?_⟩ <;> intros <;> first | rfl | (show (_ == 3) = false; exact beq_false_of_ne ‹_›) | (unfold Pr litP; simp) | (show (_ == 3) = false; exact beq_false_of_ne ‹_›)

theorem bodied_of {k : FuncId} {fn : Func} (h : Tryz.prog.funcs[k]? = some fn) (hn : (fn.name == "runtime.NumGoroutine") = false) (hb : fn.body.isNone = false) : Bodied Pr.prog k := ⟨fn, h, hn, hb⟩


end Go.Proofs

namespace Go.Proofs
open Go Go.Id
set_option maxRecDepth 10000
theorem t_isStr_9 : isStr Tryz.prog 9 = true := by kernel_rfl
theorem t_isSliceT_9 : isSliceT Tryz.prog 9 = false := by kernel_rfl
theorem t_zeroD_31 : zeroD Tryz.prog 31 = some [.str [], .str [], .int .i64 0, .int .i64 0, .int .i64 0, .int .i64 0] := by kernel_rfl
theorem t_szD_31 : szD Tryz.prog 31 = some 6 := by kernel_rfl
theorem t_aggD_31 : aggD Tryz.prog 31 = some true := by kernel_rfl
theorem t_kindsD_31 : kindsD Tryz.prog 31 = some [.s, .s, .i, .i, .i, .i] := by kernel_rfl
theorem t_tkD_4 : tkD Tryz.prog 4 = 5 := by kernel_rfl
theorem t_structOk_31 : structOk Tryz.prog 31 = true := by kernel_rfl
theorem t_fldD_31_0 : fldD Tryz.prog 31 0 = some (0, 1) := by kernel_rfl
theorem t_szD_9 : szD Tryz.prog 9 = some 1 := by kernel_rfl
theorem t_aggD_9 : aggD Tryz.prog 9 = some false := by kernel_rfl
theorem t_fldD_31_2 : fldD Tryz.prog 31 2 = some (2, 2) := by kernel_rfl
theorem t_szD_29 : szD Tryz.prog 29 = some 2 := by kernel_rfl
theorem t_aggD_29 : aggD Tryz.prog 29 = some true := by kernel_rfl
theorem t_isStr_22 : isStr Tryz.prog 22 = false := by kernel_rfl
theorem t_isSliceT_22 : isSliceT Tryz.prog 22 = true := by kernel_rfl
theorem t_fldD_31_1 : fldD Tryz.prog 31 1 = some (1, 1) := by kernel_rfl
theorem t_elemD_22 : elemD Tryz.prog 22 = some (31, 6, 64) := by kernel_rfl
theorem t_fldD_31_3 : fldD Tryz.prog 31 3 = some (4, 2) := by kernel_rfl
theorem t_kindsD_29 : kindsD Tryz.prog 29 = some [.i, .i] := by kernel_rfl
theorem t_isStr_52 : isStr Tryz.prog 52 = false := by kernel_rfl
theorem t_isSliceT_52 : isSliceT Tryz.prog 52 = true := by kernel_rfl
theorem t_elemD_52 : elemD Tryz.prog 52 = some (29, 2, 16) := by kernel_rfl
theorem t_fldD_29_0 : fldD Tryz.prog 29 0 = some (0, 1) := by kernel_rfl
theorem t_szD_3 : szD Tryz.prog 3 = some 1 := by kernel_rfl
theorem t_aggD_3 : aggD Tryz.prog 3 = some false := by kernel_rfl
theorem t_fldD_29_1 : fldD Tryz.prog 29 1 = some (1, 1) := by kernel_rfl
theorem t_zeroD_29 : zeroD Tryz.prog 29 = some [.int .i64 0, .int .i64 0] := by kernel_rfl
theorem t_structOk_29 : structOk Tryz.prog 29 = true := by kernel_rfl
theorem t_okElem_31 : okElem Tryz.prog 31 = true := by kernel_rfl
theorem t_okElem_29 : okElem Tryz.prog 29 = true := by kernel_rfl
theorem t_elemD_71 : elemD Tryz.prog 71 = some (3, 1, 8) := by kernel_rfl
theorem t_okElem_3 : okElem Tryz.prog 3 = true := by kernel_rfl
theorem t_tkD_22 : tkD Tryz.prog 22 = 1 := by kernel_rfl
theorem t_elemD_78 : elemD Tryz.prog 78 = some (9, 1, 16) := by kernel_rfl
theorem t_okElem_9 : okElem Tryz.prog 9 = true := by kernel_rfl
theorem t_isStr_78 : isStr Tryz.prog 78 = false := by kernel_rfl
theorem t_isSliceT_78 : isSliceT Tryz.prog 78 = true := by kernel_rfl
theorem t_zeroD_81 : zeroD Tryz.prog 81 = some [.int .i64 0, .int .i64 0, .int .i64 0, .int .i64 0] := by kernel_rfl
theorem t_arrD_81 : arrD Tryz.prog 81 = some (4, 1) := by kernel_rfl
theorem t_isStr_71 : isStr Tryz.prog 71 = false := by kernel_rfl
theorem t_isSliceT_71 : isSliceT Tryz.prog 71 = true := by kernel_rfl
theorem t_zeroD_94 : zeroD Tryz.prog 94 = some [.nilptr, .slice 0 true [] none] := by kernel_rfl
theorem t_elemD_92 : elemD Tryz.prog 92 = some (5, 1, 1) := by kernel_rfl
theorem t_okElem_5 : okElem Tryz.prog 5 = true := by kernel_rfl
theorem t_kindD_92 : kindD Tryz.prog 92 = none := by kernel_rfl
theorem t_kindD_9 : kindD Tryz.prog 9 = none := by kernel_rfl
theorem t_isStr_92 : isStr Tryz.prog 92 = false := by kernel_rfl
theorem t_kindD_5 : kindD Tryz.prog 5 = some .u8 := by kernel_rfl
theorem t_kindD_3 : kindD Tryz.prog 3 = some .i64 := by kernel_rfl
theorem t_isStr_3 : isStr Tryz.prog 3 = false := by kernel_rfl
theorem t_isStr_5 : isStr Tryz.prog 5 = false := by kernel_rfl
theorem t_tkD_97 : tkD Tryz.prog 97 = 4 := by kernel_rfl
theorem t_tkD_52 : tkD Tryz.prog 52 = 1 := by kernel_rfl
theorem t_kindD_102 : kindD Tryz.prog 102 = some .u64 := by kernel_rfl
theorem t_isStr_102 : isStr Tryz.prog 102 = false := by kernel_rfl
theorem t_concT_9 : concT Tryz.prog 9 = true := by kernel_rfl
theorem t_fldD_94_1 : fldD Tryz.prog 94 1 = some (1, 1) := by kernel_rfl
theorem t_szD_92 : szD Tryz.prog 92 = some 1 := by kernel_rfl
theorem t_aggD_92 : aggD Tryz.prog 92 = some false := by kernel_rfl
theorem t_isSliceT_92 : isSliceT Tryz.prog 92 = true := by kernel_rfl
theorem t_byteElem_5 : byteElem Tryz.prog 5 = true := by kernel_rfl
theorem t_kindD_130 : kindD Tryz.prog 130 = some .u32 := by kernel_rfl
theorem t_isStr_130 : isStr Tryz.prog 130 = false := by kernel_rfl
theorem t_fldD_94_0 : fldD Tryz.prog 94 0 = some (0, 1) := by kernel_rfl
theorem t_szD_91 : szD Tryz.prog 91 = some 1 := by kernel_rfl
theorem t_aggD_91 : aggD Tryz.prog 91 = some false := by kernel_rfl
theorem t_tkD_91 : tkD Tryz.prog 91 = 2 := by kernel_rfl
theorem t_kindD_91 : kindD Tryz.prog 91 = none := by kernel_rfl
theorem t_kindD_136 : kindD Tryz.prog 136 = none := by kernel_rfl
theorem t_isStr_91 : isStr Tryz.prog 91 = false := by kernel_rfl
theorem t_isStr_136 : isStr Tryz.prog 136 = false := by kernel_rfl
theorem t_kindD_150 : kindD Tryz.prog 150 = some .u64 := by kernel_rfl
theorem t_isStr_150 : isStr Tryz.prog 150 = false := by kernel_rfl
theorem t_zeroD_150 : zeroD Tryz.prog 150 = some [.int .u64 0] := by kernel_rfl
theorem t_szD_150 : szD Tryz.prog 150 = some 1 := by kernel_rfl
theorem t_zeroD_3 : zeroD Tryz.prog 3 = some [.int .i64 0] := by kernel_rfl
theorem t_kindD_132 : kindD Tryz.prog 132 = some .u64 := by kernel_rfl
theorem t_isStr_132 : isStr Tryz.prog 132 = false := by kernel_rfl
theorem t_aggD_150 : aggD Tryz.prog 150 = some false := by kernel_rfl
theorem t_arrD_181 : arrD Tryz.prog 181 = some (32, 1) := by kernel_rfl
theorem t_szD_5 : szD Tryz.prog 5 = some 1 := by kernel_rfl
theorem t_aggD_5 : aggD Tryz.prog 5 = some false := by kernel_rfl
theorem t_arrD_182 : arrD Tryz.prog 182 = some (64, 1) := by kernel_rfl
end Go.Proofs

set_option linter.unusedVariables false
set_option maxRecDepth 20000
namespace Go.Proofs
open Go Go.Id
theorem TF : type_of% W ∧ type_of% Pr_prog ∧ type_of% t_isStr_9 ∧ type_of% t_isSliceT_9 ∧ type_of% t_zeroD_31 ∧ type_of% t_szD_31 ∧ type_of% t_aggD_31 ∧ type_of% t_kindsD_31 ∧ type_of% t_tkD_4 ∧ type_of% t_structOk_31 ∧ type_of% t_fldD_31_0 ∧ type_of% t_szD_9 ∧ type_of% t_aggD_9 ∧ type_of% t_fldD_31_2 ∧ type_of% t_szD_29 ∧ type_of% t_aggD_29 ∧ type_of% t_isStr_22 ∧ type_of% t_isSliceT_22 ∧ type_of% t_fldD_31_1 ∧ type_of% t_elemD_22 ∧ type_of% t_fldD_31_3 ∧ type_of% t_kindsD_29 ∧ type_of% t_isStr_52 ∧ type_of% t_isSliceT_52 ∧ type_of% t_elemD_52 ∧ type_of% t_fldD_29_0 ∧ type_of% t_szD_3 ∧ type_of% t_aggD_3 ∧ type_of% t_fldD_29_1 ∧ type_of% t_zeroD_29 ∧ type_of% t_structOk_29 ∧ type_of% t_okElem_31 ∧ type_of% t_okElem_29 ∧ type_of% t_elemD_71 ∧ type_of% t_okElem_3 ∧ type_of% t_tkD_22 ∧ type_of% t_elemD_78 ∧ type_of% t_okElem_9 ∧ type_of% t_isStr_78 ∧ type_of% t_isSliceT_78 ∧ type_of% t_zeroD_81 ∧ type_of% t_arrD_81 ∧ type_of% t_isStr_71 ∧ type_of% t_isSliceT_71 ∧ type_of% t_zeroD_94 ∧ type_of% t_elemD_92 ∧ type_of% t_okElem_5 ∧ type_of% t_kindD_92 ∧ type_of% t_kindD_9 ∧ type_of% t_isStr_92 ∧ type_of% t_kindD_5 ∧ type_of% t_kindD_3 ∧ type_of% t_isStr_3 ∧ type_of% t_isStr_5 ∧ type_of% t_tkD_97 ∧ type_of% t_tkD_52 ∧ type_of% t_kindD_102 ∧ type_of% t_isStr_102 ∧ type_of% t_concT_9 ∧ type_of% t_fldD_94_1 ∧ type_of% t_szD_92 ∧ type_of% t_aggD_92 ∧ type_of% t_isSliceT_92 ∧ type_of% t_byteElem_5 ∧ type_of% t_kindD_130 ∧ type_of% t_isStr_130 ∧ type_of% t_fldD_94_0 ∧ type_of% t_szD_91 ∧ type_of% t_aggD_91 ∧ type_of% t_tkD_91 ∧ type_of% t_kindD_91 ∧ type_of% t_kindD_136 ∧ type_of% t_isStr_91 ∧ type_of% t_isStr_136 ∧ type_of% t_kindD_150 ∧ type_of% t_isStr_150 ∧ type_of% t_zeroD_150 ∧ type_of% t_szD_150 ∧ type_of% t_zeroD_3 ∧ type_of% t_kindD_132 ∧ type_of% t_isStr_132 ∧ type_of% t_aggD_150 ∧ type_of% t_arrD_181 ∧ type_of% t_szD_5 ∧ type_of% t_aggD_5 ∧ type_of% t_arrD_182 := ⟨W, Pr_prog, t_isStr_9, t_isSliceT_9, t_zeroD_31, t_szD_31, t_aggD_31, t_kindsD_31, t_tkD_4, t_structOk_31, t_fldD_31_0, t_szD_9, t_aggD_9, t_fldD_31_2, t_szD_29, t_aggD_29, t_isStr_22, t_isSliceT_22, t_fldD_31_1, t_elemD_22, t_fldD_31_3, t_kindsD_29, t_isStr_52, t_isSliceT_52, t_elemD_52, t_fldD_29_0, t_szD_3, t_aggD_3, t_fldD_29_1, t_zeroD_29, t_structOk_29, t_okElem_31, t_okElem_29, t_elemD_71, t_okElem_3, t_tkD_22, t_elemD_78, t_okElem_9, t_isStr_78, t_isSliceT_78, t_zeroD_81, t_arrD_81, t_isStr_71, t_isSliceT_71, t_zeroD_94, t_elemD_92, t_okElem_5, t_kindD_92, t_kindD_9, t_isStr_92, t_kindD_5, t_kindD_3, t_isStr_3, t_isStr_5, t_tkD_97, t_tkD_52, t_kindD_102, t_isStr_102, t_concT_9, t_fldD_94_1, t_szD_92, t_aggD_92, t_isSliceT_92, t_byteElem_5, t_kindD_130, t_isStr_130, t_fldD_94_0, t_szD_91, t_aggD_91, t_tkD_91, t_kindD_91, t_kindD_136, t_isStr_91, t_isStr_136, t_kindD_150, t_isStr_150, t_zeroD_150, t_szD_150, t_zeroD_3, t_kindD_132, t_isStr_132, t_aggD_150, t_arrD_181, t_szD_5, t_aggD_5, t_arrD_182⟩
theorem EV : (∀ (α : Type) (a b : List α), List.append a b = a ++ b) ∧ (∀ (α : Type) (x : α) (a b : List α), (x :: a) ++ b = x :: (a ++ b)) ∧ (∀ (α : Type) (a : List α), [] ++ a = a) ∧ (∀ (α : Type) [BEq α] [LawfulBEq α] (a : α), (a != a) = false) ∧ (∀ (α : Type) [BEq α] [ReflBEq α] (a : α), (a == a) = true) ∧ ((!true) = false) ∧ ((!false) = true) :=
  ⟨fun _ _ _ => rfl, fun _ _ _ _ => rfl, fun _ _ => rfl, fun _ _ _ a => bne_self_eq_false a, fun _ _ _ a => beq_self_eq_true a, rfl, rfl⟩
end Go.Proofs

set_option linter.unusedSimpArgs false
set_option linter.unusedVariables false
namespace Go.Proofs
open Go Go.Id

theorem wrapP {n : Nat} (h : 0 < n) (hn : n ≤ 140737488355328) : IntKind.wrap .i64 ((n : Int) - 1) = ((n - 1 : Nat) : Int) := by
  rw [wrap_i64 (by omega) (by omega)]; omega

def upperB (n : Int) : Bool := decide (n ≥ 65) && decide (n ≤ 90)
def letterB (n : Int) : Bool := upperB n || (decide (n ≥ 97) && decide (n ≤ 122))
def digitB (n : Int) : Bool := decide (n ≥ 48) && decide (n ≤ 57)
def wordcB (n : Int) : Bool := letterB n || digitB n || n == 45 || n == 95 || n == 46 || n == 58
def wordB (s : List UInt8) : Bool := s.all (fun c => wordcB c.toNat) && !(s == []) && decide ((s.length : Int) ≤ 64)
theorem word_pos {s : List UInt8} (h : wordB s = true) : 0 < s.length := by
  cases s with
  | nil => simp [wordB] at h
  | cons => simp

theorem word_le {s : List UInt8} (h : wordB s = true) : s.length ≤ 64 := by simp [wordB] at h; omega

def clB (n : Int) : Bool := decide (32 ≤ n) && decide (n ≤ 126)
/-- Neither end is a space. -/
def chAt (s : List UInt8) (i : Nat) : Int :=
  match s[i]? with
  | some c => c.toNat
  | none => -1
theorem chAt_of {s : List UInt8} {i : Nat} (h : i < s.length) : chAt s i = s[i].toNat := by simp [chAt, h]
theorem chAt_eq (s : List UInt8) (i : Nat) (c : UInt8) : (chAt s i == (c.toNat : Int)) = (s[i]? == some c) := by
  unfold chAt
  cases h : s[i]? with
  | none => rw [Bool.eq_iff_iff]; simp
  | some d =>
    rw [Bool.eq_iff_iff]
    simp only [beq_iff_eq, Option.some.injEq]
    exact ⟨fun e => UInt8.toNat_inj.1 (by omega), fun e => by rw [e]⟩
def endsB (s : List UInt8) : Bool := !(chAt s 0 == 32) && !(chAt s (s.length - 1) == 32)
theorem endsB_eq (s : List UInt8) : endsB s = (!(s[0]? == some 32) && !(s[s.length - 1]? == some 32)) := by
  unfold endsB
  have h1 := chAt_eq s 0 32
  have h2 := chAt_eq s (s.length - 1) 32
  simp only [show ((32 : UInt8).toNat : Int) = 32 from rfl] at h1 h2
  rw [h1, h2]
def cleanB (s : List UInt8) : Bool := s.all (fun c => clB c.toNat) && !(s == []) && decide ((s.length : Int) ≤ 256) && endsB s

theorem trim_endsB (s : List UInt8) (h : s ≠ []) : (Lib.trimB s 32 == s) = endsB s := by
  have hp : 0 < s.length := List.length_pos_iff.2 h
  rw [Bool.eq_iff_iff]
  simp only [beq_iff_eq, endsB_eq, Bool.and_eq_true, Bool.not_eq_true', beq_eq_false_iff_ne]
  constructor
  · intro e
    have hl1 : (Lib.trimRightB s 32).length ≤ s.length := by
      unfold Lib.trimRightB
      simpa using (List.dropWhile_sublist (· == (32 : UInt8)) (l := s.reverse)).length_le
    have hl2 : (Lib.trimB s 32).length ≤ (Lib.trimRightB s 32).length := (List.dropWhile_sublist _).length_le
    rw [e] at hl2
    have hr : s.reverse.dropWhile (· == 32) = s.reverse := (List.dropWhile_sublist _).eq_of_length (by
      have : (Lib.trimRightB s 32).length = (s.reverse.dropWhile (· == 32)).length := by simp [Lib.trimRightB]
      simp only [List.length_reverse]; omega)
    have hr' : Lib.trimRightB s 32 = s := by rw [Lib.trimRightB, hr, List.reverse_reverse]
    have hd : s.dropWhile (· == 32) = s := by have := e; rw [Lib.trimB, hr', Lib.trimLeftB] at this; exact this
    constructor
    · intro h0
      cases s with
      | nil => cases h0
      | cons a t =>
        simp only [List.getElem?_cons_zero, Option.some.injEq] at h0
        subst h0
        simp only [List.dropWhile_cons, beq_self_eq_true, if_true] at hd
        have := (List.dropWhile_sublist (· == (32 : UInt8)) (l := t)).length_le
        rw [hd] at this
        simp at this
        omega
    · intro h0
      have h1 : s.reverse[0]? = some 32 := by rw [List.getElem?_reverse hp]; simpa using h0
      generalize s.reverse = r at *
      cases r with
      | nil => cases h1
      | cons a t =>
        simp only [List.getElem?_cons_zero, Option.some.injEq] at h1
        subst h1
        simp only [List.dropWhile_cons, beq_self_eq_true, if_true] at hr
        have := (List.dropWhile_sublist (· == (32 : UInt8)) (l := t)).length_le
        rw [hr] at this
        simp at this
        omega
  · rintro ⟨h0, h1⟩
    have hr : Lib.trimRightB s 32 = s.take s.length := Lib.trimRightB_take s 32 s.length (Nat.le_refl _) (fun j b hj hb => by
      have := (List.getElem?_eq_some_iff.1 hb).1; omega) (fun b _ hb e => h1 (by rw [hb, e]))
    rw [List.take_length] at hr
    rw [Lib.trimB, hr, Lib.trimLeftB_drop s 32 0 (Nat.zero_le _) (fun j b hj => by omega) (fun b hb e => h0 (by rw [hb, e]))]
    rfl

theorem getB (s : ByteArray) {k : Nat} (h : k < s.size) : s.get! k = s.data.toList[k]'h := by
  show s.data[k]! = _
  rw [getElem!_pos s.data k h]
  rfl

theorem dec_cases (s : List UInt8) (k : Nat) (hk : k ≤ s.length) : s.length ≤ k ∨ (k < s.length ∧ 126 < (decD s k).1 ∧ (s.drop k).all (fun c => clB c.toNat) = false) ∨
    (∃ h : k < s.length, (decD s k).1 = s[k].toNat ∧ (decD s k).2 = 1 ∧ (s.drop k).all (fun c => clB c.toNat) = (clB s[k].toNat && (s.drop (k + 1)).all (fun c => clB c.toNat))) := by
  by_cases h : k < s.length
  · right
    have e : decD s k = Lib.decodeN ((⟨s.toArray⟩ : ByteArray).size - k) ((⟨s.toArray⟩ : ByteArray).get! k).toNat ((⟨s.toArray⟩ : ByteArray).get! (k + 1)).toNat ((⟨s.toArray⟩ : ByteArray).get! (k + 2)).toNat ((⟨s.toArray⟩ : ByteArray).get! (k + 3)).toNat := Lib.decode_at _ _
    have hb : (⟨s.toArray⟩ : ByteArray).get! k = s[k] := getB ⟨s.toArray⟩ h
    rw [hb] at e
    have hd : (s.drop k).all (fun c => clB c.toNat) = (clB s[k].toNat && (s.drop (k + 1)).all (fun c => clB c.toNat)) := by rw [dropE h, List.all_cons]
    by_cases h8 : s[k].toNat < 128
    · right
      refine ⟨h, ?_, ?_, hd⟩ <;> (rw [e]; unfold Lib.decodeN; rw [if_pos h8])
    · left
      refine ⟨h, ?_, ?_⟩
      · rw [e]; unfold Lib.decodeN; rw [if_neg h8]
        repeat' split
        all_goals (first | omega | (simp only []; omega))
      · rw [hd]
        have : clB s[k].toNat = false := by simp [clB]; omega
        rw [this]; rfl
  · left; omega

/-- Two dots in a row. -/
def ddB : List UInt8 → Bool
  | [] => false
  | a :: t => (a == 46 && t.head? == some 46) || ddB t
theorem index_nonneg (s sub : List UInt8) : -1 ≤ Lib.index s sub := by
  rcases Lib.index_spec s sub with ⟨h, _⟩ | ⟨i, h, _⟩ <;> omega
theorem contains_dd : ∀ s : List UInt8, Lib.contains s [46, 46] = ddB s
  | [] => by decide
  | a :: t => by
    have ih := contains_dd t
    unfold Lib.contains at ih ⊢
    have e : Lib.index (a :: t) [46, 46] = if List.isPrefixOf [46, 46] (a :: t) = true then 0 else if Lib.index t [46, 46] == -1 then -1 else Lib.index t [46, 46] + 1 := by
      rw [Lib.index]
    rw [e, ddB, ← ih]
    have hp : List.isPrefixOf [46, 46] (a :: t) = (a == 46 && t.head? == some 46) := by
      cases t with
      | nil => simp [List.isPrefixOf]
      | cons b u =>
        simp only [List.isPrefixOf, List.head?_cons, Bool.and_true]
        rw [Bool.eq_iff_iff]
        simp only [Bool.and_eq_true, beq_iff_eq, Option.some.injEq]
        exact ⟨fun ⟨h, k⟩ => ⟨h.symm, k.symm⟩, fun ⟨h, k⟩ => ⟨h.symm, k.symm⟩⟩
    rw [hp]
    by_cases h : (a == 46 && t.head? == some 46) = true
    · rw [h]; simp
    · simp only [Bool.not_eq_true] at h
      rw [h]
      simp only [Bool.false_eq_true, if_false, Bool.false_or]
      have hn := index_nonneg t [46, 46]
      by_cases h1 : Lib.index t [46, 46] = -1
      · simp [h1]
      · simp only [beq_iff_eq, h1, if_false]
        rw [Bool.eq_iff_iff]
        simp only [decide_eq_true_eq]
        constructor <;> intro _ <;> omega

def validB (s : List UInt8) : Bool := wordB s && !(chAt s 0 == 46) && !(chAt s (s.length - 1) == 46) && !(ddB s)

def plainB (n : Int) : Bool := decide (n ≥ 33) && decide (n ≤ 126) && !(n == 37) && !(n == 124) && !(n == 44) && !(n == 61) && !(n == 59) && !(n == 34)
theorem plain_ix (n : Int) (h0 : 33 ≤ n) (h1 : n ≤ 126) : decide (Lib.indexByte [37, 124, 44, 61, 59, 34] n.toNat.toUInt8 < 0) = (!(n == 37) && !(n == 124) && !(n == 44) && !(n == 61) && !(n == 59) && !(n == 34)) := by
  obtain ⟨m, rfl⟩ : ∃ m : Nat, n = m := ⟨n.toNat, by omega⟩
  have hm : m < 127 := by omega
  clear h0 h1
  revert m
  decide +kernel

end Go.Proofs
