import Derived.Test.YtnmalfongaognaaGreatDoorG02
import Derived.Test.YtnmalfongaognaaGreatDoorG05
import Derived.Lib.Join
import Derived.Lib.ItoaLen
import Derived.Lib.SplitLaws
set_option linter.unusedSimpArgs false
set_option linter.unusedVariables false
set_option maxRecDepth 10000
namespace Go.Proofs
open Go Go.Id

theorem c_eq_str (a : List (List UInt8)) (na : Bool) (b : List (List UInt8)) (nb : Bool) (ha : a.length ≤ 1099511627776) (hna : na = true → a = []) (hb : b.length ≤ 1099511627776) (hnb : nb = true → b = []) : CallP Pr 97 [.slice 1 na (a.map fun x => [D.str x]) none, .slice 1 nb (b.map fun x => [D.str x]) none] (.bool (all2 eqStr a b)) := by
 refine CallP.of_wp Tryz.func97 rfl (by kernel_rfl) Tryz.ntmps97 (by simp) ?_
 simp only [frameOf, Nat.reduceAdd, Nat.zero_add]
 refine WP.sr [0, 1] (by kernel_rfl) fun K hK => ?_
 simp (decide := true) only [TF, ↓reduceIte, Int.reduceToNat]
 refine hK _ _ ?_; clear hK K
 refine WP.seq ?_
 refine WP.sr [0, 1, 10] (by kernel_rfl) fun K hK => ?_
 simp (decide := true) only [TF, ↓reduceIte, Int.reduceToNat]
 refine hK _ _ ?_; clear hK K
 refine WP.cond (b := _) rfl (fun q1 => ?_) (fun q1 => ?_)
 ·
  have hne : a.length ≠ b.length := by simp at q1; omega
  have hz := all2_len eqStr a b hne
  refine WP.sr [4] (by kernel_rfl) fun K hK => ?_
  simp (decide := true) only [TF, q1, hz, ↓reduceIte, Int.reduceToNat]
  refine hK _ _ ?_; clear hK K
  refine WP.ret ?_
  exact Ends.pure (.inr rfl) rfl (Le.of_eq (by simp (decide := true) only [St.get, lk, W, eqStr, q1, hz, ↓reduceIte])) (by simp)
 ·
  have hlen : a.length = b.length := by simp at q1; omega
  refine WP.skip ?_
  show WP _ _ _ _ _ _
  refine WP.seq ?_
  refine WP.sr [0, 1, 12, 13] (by kernel_rfl) fun K hK => ?_
  simp (decide := true) only [TF, q1, ↓reduceIte, Int.reduceToNat]
  refine hK _ _ ?_; clear hK K
  refine WP.block ?_
  refine WP.lp [0, 1, 12] (X := {k : Nat // k ≤ a.length ∧ all2 eqStr a b = all2 eqStr (a.drop k) (b.drop k)}) (fun x => match x with | ⟨(k), _⟩ => [(13, .int .i64 k)]) (fun x => match x with | ⟨(k), _⟩ => []) (fun x => match x with | ⟨(k), _⟩ => a.length - k) (by simp (decide := true) only [W, ↓reduceIte, Int.reduceToNat]; rfl) ?_ ⟨(0), ⟨Nat.zero_le _, by simp⟩⟩ ?_
  rotate_left
  · exact Weak.store (by simp [St.get, lk, W, Le.refl, q1]) (by simp [lk, W, q1]) (by simp [lk, W]) (by simp [BClo, lk]) (by simp [lk])
  rintro ⟨k, hk, hI⟩
  dsimp only
  simp only [List.cons_append, List.nil_append]
  refine WP.sr [0, 1, 12, 13, 14] (by kernel_rfl) fun K hK => ?_
  simp (decide := true) only [TF, q1, ↓reduceIte, Int.reduceToNat]
  refine hK _ _ ?_; clear hK K
  refine WP.seq ?_
  refine WP.cond (b := _) rfl (fun q2 => ?_) (fun q2 => ?_)
  ·
   have hlt := lt_of_q q2
   have hlt2 : k < b.length := by omega
   have hg : (a.map fun x => [D.str x])[k]? = some [.str a[k]] := getM hlt
   have hg2 : (b.map fun x => [D.str x])[k]? = some [.str b[k]] := getM hlt2
   have hnf := nl_false hna hlt
   have hnf2 := nl_false hnb hlt2
   rw [dropE hlt, dropE hlt2, all2_cons] at hI
   refine WP.skip ?_
   show WP _ _ _ _ _ _
   refine WP.seq ?_
   refine WP.block ?_
   refine WP.sr [0, 1, 5, 12, 13] (by kernel_rfl) fun K hK => ?_
   simp (decide := true) only [TF, q1, q2, hg, hg2, hnf, hnf2, ↓reduceIte, Int.reduceToNat]
   refine hK _ _ ?_; clear hK K
   refine WP.sd [0, 1, 12, 13, 24] (by kernel_rfl) (by kernel_rfl) fun K hK => ?_
   simp (decide := true) only [TF, q1, q2, hg, hg2, hnf, hnf2, ↓reduceIte, Int.reduceToNat]
   refine hK _ _ (by kernel_rfl) ?_
   clear hK K
   refine WP.cond (b := _) rfl (fun q3 => ?_) (fun q3 => ?_)
   ·
    refine WP.sr [4] (by kernel_rfl) fun K hK => ?_
    simp (decide := true) only [TF, q1, q2, hg, hg2, hnf, hnf2, q3, ↓reduceIte, Int.reduceToNat]
    refine hK _ _ ?_; clear hK K
    refine WP.ret ?_
    exact Ends.pure (.inr rfl) rfl (Le.of_eq (by simp_all [St.get, lk, W, LN, bne, eqStr])) (by simp)
   ·
    refine WP.skip ?_
    show WP _ _ _ _ _ _
    refine WP.region (by kernel_rfl) fun K hK => ?_
    simp (decide := true) only [TF, q1, q2, hg, hg2, hnf, hnf2, q3, ↓reduceIte, Int.reduceToNat]
    refine hK _ _ ?_; clear hK K
    show ∃ y, _ ∧ Weak _ _ _
    refine ⟨⟨k + 1, ?_⟩, ?_, ?_⟩
    · exact ⟨by omega, by first | (simpa [q1, q2, hg, hg2, hnf, hnf2, q3] using hI) | (simp_all [eqStr, eqC]; done)⟩
    · dsimp only; omega
    · exact Weak.store (by simp [St.get, lk, W, Le.refl, q1, q2, hg, hg2, hnf, hnf2, q3, wrapS hlt (show a.length ≤ 140737488355328 by omega)]) (by simp [lk, W, q1, q2, hg, hg2, hnf, hnf2, q3, wrapS hlt (show a.length ≤ 140737488355328 by omega)]) (by simp [lk, W]) (by simp [BClo, lk]) (by simp [lk])
  ·
   have hge := ge_of_q q2
   rw [dropN hge, dropN (show b.length ≤ k by omega), all2_nil] at hI
   refine WP.exit ?_
   show WP _ _ _ _ _ _
   refine WP.sr [4] (by kernel_rfl) fun K hK => ?_
   simp (decide := true) only [TF, q1, q2, ↓reduceIte, Int.reduceToNat]
   refine hK _ _ ?_; clear hK K
   refine WP.ret ?_
   exact Ends.pure (.inr rfl) rfl (Le.of_eq (by simp (decide := true) only [St.get, lk, W, eqStr, q1, q2, hI, ↓reduceIte])) (by simp)
theorem c_r_lists (a : List (List UInt8)) (na : Bool) (b : List (List UInt8)) (nb : Bool) (ha : a.length ≤ 1099511627776) (hna : na = true → a = []) (hb : b.length ≤ 1099511627776) (hnb : nb = true → b = []) : CallP Pr 26 [.slice 1 na (a.map fun x => [D.str x]) none, .slice 1 nb (b.map fun x => [D.str x]) none] (.bool (all2 eqStr a b)) := by
 refine CallP.of_wp Tryz.func26 rfl (by kernel_rfl) Tryz.ntmps26 (by simp) ?_
 simp only [frameOf, Nat.reduceAdd, Nat.zero_add]
 refine WP.sr [0, 1] (by kernel_rfl) fun K hK => ?_
 simp (decide := true) only [TF, ↓reduceIte, Int.reduceToNat]
 refine hK _ _ ?_; clear hK K
 refine WP.seq ?_
 refine WP.sr [0, 1, 10] (by kernel_rfl) fun K hK => ?_
 simp (decide := true) only [TF, ↓reduceIte, Int.reduceToNat]
 refine hK _ _ ?_; clear hK K
 refine WP.cond (b := _) rfl (fun q1 => ?_) (fun q1 => ?_)
 ·
  have hne : a.length ≠ b.length := by simp at q1; omega
  have hz := all2_len eqStr a b hne
  refine WP.sr [4] (by kernel_rfl) fun K hK => ?_
  simp (decide := true) only [TF, q1, hz, ↓reduceIte, Int.reduceToNat]
  refine hK _ _ ?_; clear hK K
  refine WP.ret ?_
  exact Ends.pure (.inr rfl) rfl (Le.of_eq (by simp (decide := true) only [St.get, lk, W, eqStr, q1, hz, ↓reduceIte])) (by simp)
 ·
  have hlen : a.length = b.length := by simp at q1; omega
  refine WP.skip ?_
  show WP _ _ _ _ _ _
  refine WP.seq ?_
  refine WP.sr [0, 1, 5] (by kernel_rfl) fun K hK => ?_
  simp (decide := true) only [TF, q1, ↓reduceIte, Int.reduceToNat]
  refine hK _ _ ?_; clear hK K
  refine WP.block ?_
  refine WP.lp [0, 1] (X := {k : Nat // k ≤ a.length ∧ all2 eqStr a b = all2 eqStr (a.drop k) (b.drop k)}) (fun x => match x with | ⟨(k), _⟩ => [(5, .int .i64 k)]) (fun x => match x with | ⟨(k), _⟩ => []) (fun x => match x with | ⟨(k), _⟩ => a.length - k) (by simp (decide := true) only [W, ↓reduceIte, Int.reduceToNat]; rfl) ?_ ⟨(0), ⟨Nat.zero_le _, by simp⟩⟩ ?_
  rotate_left
  · exact Weak.store (by simp [St.get, lk, W, Le.refl, q1]) (by simp [lk, W, q1]) (by simp [lk, W]) (by simp [BClo, lk]) (by simp [lk])
  rintro ⟨k, hk, hI⟩
  dsimp only
  simp only [List.cons_append, List.nil_append]
  refine WP.seq ?_
  refine WP.sr [0, 1, 5, 14] (by kernel_rfl) fun K hK => ?_
  simp (decide := true) only [TF, q1, ↓reduceIte, Int.reduceToNat]
  refine hK _ _ ?_; clear hK K
  refine WP.cond (b := _) rfl (fun q2 => ?_) (fun q2 => ?_)
  ·
   have hlt := lt_of_q q2
   have hlt2 : k < b.length := by omega
   have hg : (a.map fun x => [D.str x])[k]? = some [.str a[k]] := getM hlt
   have hg2 : (b.map fun x => [D.str x])[k]? = some [.str b[k]] := getM hlt2
   have hnf := nl_false hna hlt
   have hnf2 := nl_false hnb hlt2
   rw [dropE hlt, dropE hlt2, all2_cons] at hI
   refine WP.skip ?_
   show WP _ _ _ _ _ _
   refine WP.seq ?_
   refine WP.block ?_
   refine WP.sd [0, 1, 5, 25] (by kernel_rfl) (by kernel_rfl) fun K hK => ?_
   simp (decide := true) only [TF, q1, q2, hg, hg2, hnf, hnf2, ↓reduceIte, Int.reduceToNat]
   refine hK _ _ (by kernel_rfl) ?_
   clear hK K
   refine WP.cond (b := _) rfl (fun q3 => ?_) (fun q3 => ?_)
   ·
    refine WP.sr [4] (by kernel_rfl) fun K hK => ?_
    simp (decide := true) only [TF, q1, q2, hg, hg2, hnf, hnf2, q3, ↓reduceIte, Int.reduceToNat]
    refine hK _ _ ?_; clear hK K
    refine WP.ret ?_
    exact Ends.pure (.inr rfl) rfl (Le.of_eq (by simp_all [St.get, lk, W, LN, bne, eqStr])) (by simp)
   ·
    refine WP.skip ?_
    show WP _ _ _ _ _ _
    refine WP.region (by kernel_rfl) fun K hK => ?_
    simp (decide := true) only [TF, q1, q2, hg, hg2, hnf, hnf2, q3, ↓reduceIte, Int.reduceToNat]
    refine hK _ _ ?_; clear hK K
    show ∃ y, _ ∧ Weak _ _ _
    refine ⟨⟨k + 1, ?_⟩, ?_, ?_⟩
    · exact ⟨by omega, by first | (simpa [q1, q2, hg, hg2, hnf, hnf2, q3] using hI) | (simp_all [eqStr, eqC]; done)⟩
    · dsimp only; omega
    · exact Weak.store (by simp [St.get, lk, W, Le.refl, q1, q2, hg, hg2, hnf, hnf2, q3, wrapS hlt (show a.length ≤ 140737488355328 by omega)]) (by simp [lk, W, q1, q2, hg, hg2, hnf, hnf2, q3, wrapS hlt (show a.length ≤ 140737488355328 by omega)]) (by simp [lk, W]) (by simp [BClo, lk]) (by simp [lk])
  ·
   have hge := ge_of_q q2
   rw [dropN hge, dropN (show b.length ≤ k by omega), all2_nil] at hI
   refine WP.exit ?_
   show WP _ _ _ _ _ _
   refine WP.sr [4] (by kernel_rfl) fun K hK => ?_
   simp (decide := true) only [TF, q1, q2, ↓reduceIte, Int.reduceToNat]
   refine hK _ _ ?_; clear hK K
   refine WP.ret ?_
   exact Ends.pure (.inr rfl) rfl (Le.of_eq (by simp (decide := true) only [St.get, lk, W, eqStr, q1, q2, hI, ↓reduceIte])) (by simp)
theorem c_eq_cond (a : List Cond) (na : Bool) (b : List Cond) (nb : Bool) (ha : a.length ≤ 1099511627776) (hna : na = true → a = []) (hb : b.length ≤ 1099511627776) (hnb : nb = true → b = []) : CallP Pr 96 [.slice 3 na (a.map Cond.cs) none, .slice 3 nb (b.map Cond.cs) none] (.bool (all2 eqC a b)) := by
 refine CallP.of_wp Tryz.func96 rfl (by kernel_rfl) Tryz.ntmps96 (by simp) ?_
 simp only [frameOf, Nat.reduceAdd, Nat.zero_add]
 refine WP.sr [0, 1] (by kernel_rfl) fun K hK => ?_
 simp (decide := true) only [TF, ↓reduceIte, Int.reduceToNat]
 refine hK _ _ ?_; clear hK K
 refine WP.seq ?_
 refine WP.sr [0, 1, 10] (by kernel_rfl) fun K hK => ?_
 simp (decide := true) only [TF, ↓reduceIte, Int.reduceToNat]
 refine hK _ _ ?_; clear hK K
 refine WP.cond (b := _) rfl (fun q1 => ?_) (fun q1 => ?_)
 ·
  have hne : a.length ≠ b.length := by simp at q1; omega
  have hz := all2_len eqC a b hne
  refine WP.sr [4] (by kernel_rfl) fun K hK => ?_
  simp (decide := true) only [TF, q1, hz, ↓reduceIte, Int.reduceToNat]
  refine hK _ _ ?_; clear hK K
  refine WP.ret ?_
  exact Ends.pure (.inr rfl) rfl (Le.of_eq (by simp (decide := true) only [St.get, lk, W, q1, hz, ↓reduceIte])) (by simp)
 ·
  have hlen : a.length = b.length := by simp at q1; omega
  refine WP.skip ?_
  show WP _ _ _ _ _ _
  refine WP.seq ?_
  refine WP.sr [0, 1, 12, 13] (by kernel_rfl) fun K hK => ?_
  simp (decide := true) only [TF, q1, ↓reduceIte, Int.reduceToNat]
  refine hK _ _ ?_; clear hK K
  refine WP.block ?_
  refine WP.lp [0, 1, 12] (X := {k : Nat // k ≤ a.length ∧ all2 eqC a b = all2 eqC (a.drop k) (b.drop k)}) (fun x => match x with | ⟨(k), _⟩ => [(13, .int .i64 k)]) (fun x => match x with | ⟨(k), _⟩ => []) (fun x => match x with | ⟨(k), _⟩ => a.length - k) (by simp (decide := true) only [W, ↓reduceIte, Int.reduceToNat]; rfl) ?_ ⟨(0), ⟨Nat.zero_le _, by simp⟩⟩ ?_
  rotate_left
  · exact Weak.store (by simp [St.get, lk, W, Le.refl, q1]) (by simp [lk, W, q1]) (by simp [lk, W]) (by simp [BClo, lk]) (by simp [lk])
  rintro ⟨k, hk, hI⟩
  dsimp only
  simp only [List.cons_append, List.nil_append]
  refine WP.sr [0, 1, 12, 13, 14] (by kernel_rfl) fun K hK => ?_
  simp (decide := true) only [TF, q1, ↓reduceIte, Int.reduceToNat]
  refine hK _ _ ?_; clear hK K
  refine WP.seq ?_
  refine WP.cond (b := _) rfl (fun q2 => ?_) (fun q2 => ?_)
  ·
   have hlt := lt_of_q q2
   have hlt2 : k < b.length := by omega
   have hg : (a.map Cond.cs)[k]? = some [.str a[k].f, .str a[k].op, .str a[k].v] := getM hlt
   have hg2 : (b.map Cond.cs)[k]? = some [.str b[k].f, .str b[k].op, .str b[k].v] := getM hlt2
   have hnf := nl_false hna hlt
   have hnf2 := nl_false hnb hlt2
   rw [dropE hlt, dropE hlt2, all2_cons] at hI
   refine WP.skip ?_
   show WP _ _ _ _ _ _
   refine WP.seq ?_
   refine WP.block ?_
   refine WP.sr [0, 1, 5, 12, 13] (by kernel_rfl) fun K hK => ?_
   simp (decide := true) only [TF, q1, q2, hg, hg2, hnf, hnf2, ↓reduceIte, Int.reduceToNat]
   refine hK _ _ ?_; clear hK K
   refine WP.sd [0, 1, 12, 13, 24] (by kernel_rfl) (by kernel_rfl) fun K hK => ?_
   simp (decide := true) only [TF, q1, q2, hg, hg2, hnf, hnf2, ↓reduceIte, Int.reduceToNat]
   refine hK _ _ (by kernel_rfl) ?_
   clear hK K
   refine WP.cond (b := _) rfl (fun q3 => ?_) (fun q3 => ?_)
   ·
    have hz2 : eqC a[k] b[k] = false := by simpa only [eqC, Bool.not_eq_true'] using q3
    refine WP.sr [4] (by kernel_rfl) fun K hK => ?_
    simp (decide := true) only [TF, q1, q2, hg, hg2, hnf, hnf2, q3, hz2, ↓reduceIte, Int.reduceToNat]
    refine hK _ _ ?_; clear hK K
    refine WP.ret ?_
    exact Ends.pure (.inr rfl) rfl (Le.of_eq (by simp (decide := true) only [St.get, lk, W, q1, q2, hg, hg2, hnf, hnf2, q3, hz2, hI, ↓reduceIte])) (by simp)
   ·
    have hz2 : eqC a[k] b[k] = true := by simpa only [eqC, Bool.not_eq_false'] using q3
    refine WP.skip ?_
    show WP _ _ _ _ _ _
    refine WP.region (by kernel_rfl) fun K hK => ?_
    simp (decide := true) only [TF, q1, q2, hg, hg2, hnf, hnf2, q3, hz2, ↓reduceIte, Int.reduceToNat]
    refine hK _ _ ?_; clear hK K
    show ∃ y, _ ∧ Weak _ _ _
    refine ⟨⟨k + 1, ?_⟩, ?_, ?_⟩
    · exact ⟨by omega, by first | (simpa [q1, q2, hg, hg2, hnf, hnf2, q3, hz2] using hI) | (simp_all [eqStr, eqC]; done)⟩
    · dsimp only; omega
    · exact Weak.store (by simp [St.get, lk, W, Le.refl, q1, q2, hg, hg2, hnf, hnf2, q3, hz2, wrapS hlt (show a.length ≤ 140737488355328 by omega)]) (by simp [lk, W, q1, q2, hg, hg2, hnf, hnf2, q3, hz2, wrapS hlt (show a.length ≤ 140737488355328 by omega)]) (by simp [lk, W]) (by simp [BClo, lk]) (by simp [lk])
  ·
   have hge := ge_of_q q2
   rw [dropN hge, dropN (show b.length ≤ k by omega), all2_nil] at hI
   refine WP.exit ?_
   show WP _ _ _ _ _ _
   refine WP.sr [4] (by kernel_rfl) fun K hK => ?_
   simp (decide := true) only [TF, q1, q2, ↓reduceIte, Int.reduceToNat]
   refine hK _ _ ?_; clear hK K
   refine WP.ret ?_
   exact Ends.pure (.inr rfl) rfl (Le.of_eq (by simp (decide := true) only [St.get, lk, W, q1, q2, hI, ↓reduceIte])) (by simp)
theorem c_same (a b : Rule) (ha : a.ok0) (hb : b.ok0) : CallP Pr 61 [.agg [.str a.name, .bool a.deny, .slice 3 a.nc (a.conds.map Cond.cs) none, .slice 1 a.ns (a.scopes.map fun x => [.str x]) none, .int .i64 a.lvl, .int .i64 a.age], .agg [.str b.name, .bool b.deny, .slice 3 b.nc (b.conds.map Cond.cs) none, .slice 1 b.ns (b.scopes.map fun x => [.str x]) none, .int .i64 b.lvl, .int .i64 b.age]] (.bool (sameR a b)) := by
 refine CallP.of_wp Tryz.func61 rfl (by kernel_rfl) Tryz.ntmps61 (by simp) ?_
 simp only [frameOf, Nat.reduceAdd, Nat.zero_add]
 refine WP.sr [2, 3] (by kernel_rfl) fun K hK => ?_
 simp (decide := true) only [TF, ↓reduceIte, Int.reduceToNat]
 refine hK _ _ ?_; clear hK K
 refine WP.sm [2, 3] 5 (.bool (a.name == b.name && a.deny == b.deny && a.lvl == b.lvl && a.age == b.age)) (by kernel_rfl) (fun K hK => ?_) ?_
 ·
  refine runOps.take 6 fun J hJ => ?_
  simp (decide := true) only [TF, ↓reduceIte, Int.reduceToNat]
  refine hJ _ _ ?_; clear hJ J
  refine runOps.part 11 rfl (fun q1 => ?_) (fun q1 => ?_)
  ·
   refine runOps.take 7 fun J hJ => ?_
   simp (decide := true) only [TF, q1, ↓reduceIte, Int.reduceToNat]
   refine hJ _ _ ?_; clear hJ J
   refine runOps.part 18 rfl (fun q2 => ?_) (fun q2 => ?_)
   ·
    refine runOps.take 7 fun J hJ => ?_
    simp (decide := true) only [TF, q1, q2, ↓reduceIte, Int.reduceToNat]
    refine hJ _ _ ?_; clear hJ J
    refine runOps.part 25 rfl (fun q3 => ?_) (fun q3 => ?_)
    ·
     simp (decide := true) only [TF, q1, q2, q3, ↓reduceIte, Int.reduceToNat]
     exact hK _ _ (by simp [St.get, lk, W]) rfl (Le.of_eq (by simp [St.get, lk, W, bne, q1, q2, q3]))
    ·
     simp (decide := true) only [TF, q1, q2, q3, ↓reduceIte, Int.reduceToNat]
     exact hK _ _ (by simp [St.get, lk, W]) rfl (Le.of_eq (by simp [St.get, lk, W, bne, q1, q2, q3]))
   ·
    simp (decide := true) only [TF, q1, q2, ↓reduceIte, Int.reduceToNat]
    exact hK _ _ (by simp [St.get, lk, W]) rfl (Le.of_eq (by simp [St.get, lk, W, bne, q1, q2]))
  ·
   simp (decide := true) only [TF, q1, ↓reduceIte, Int.reduceToNat]
   exact hK _ _ (by simp [St.get, lk, W]) rfl (Le.of_eq (by simp [St.get, lk, W, bne, q1]))
 ·
  refine WP.sr [4] (by kernel_rfl) fun K hK => ?_
  refine runOps.take 2 fun J hJ => ?_
  simp (decide := true) only [TF, ↓reduceIte, Int.reduceToNat]
  refine hJ _ _ ?_; clear hJ J
  refine runOps.part 33 rfl (fun q4 => ?_) (fun q4 => ?_)
  ·
   simp (decide := true) only [TF, q4, ↓reduceIte, Int.reduceToNat]
   refine CallK.pure (c_eq_cond a.conds a.nc b.conds b.nc ha.1 ha.2.1 hb.1 hb.2.1) rfl rfl (by simp [-List.map_take]) ?_
   refine runOps.take 2 fun J hJ => ?_
   simp (decide := true) only [TF, q4, ↓reduceIte, Int.reduceToNat]
   refine hJ _ _ ?_; clear hJ J
   refine runOps.part 40 rfl (fun q5 => ?_) (fun q5 => ?_)
   ·
    simp (decide := true) only [TF, q4, q5, ↓reduceIte, Int.reduceToNat]
    refine CallK.pure (c_eq_str a.scopes a.ns b.scopes b.ns ha.2.2.1 ha.2.2.2 hb.2.2.1 hb.2.2.2) rfl rfl (by simp [-List.map_take]) ?_
    simp (decide := true) only [TF, q4, q5, ↓reduceIte, Int.reduceToNat]
    refine hK _ _ ?_; clear hK K
    refine WP.ret ?_
    exact Ends.pure (.inr rfl) rfl (Le.of_eq (by simp (decide := true) only [St.get, lk, W, sameR, q4, q5, ↓reduceIte])) (by simp)
   ·
    simp (decide := true) only [TF, q4, q5, ↓reduceIte, Int.reduceToNat]
    refine hK _ _ ?_; clear hK K
    refine WP.ret ?_
    exact Ends.pure (.inr rfl) rfl (Le.of_eq (by simp (decide := true) only [St.get, lk, W, sameR, q4, q5, ↓reduceIte])) (by simp)
  ·
   simp (decide := true) only [TF, q4, ↓reduceIte, Int.reduceToNat]
   refine hK _ _ ?_; clear hK K
   refine WP.ret ?_
   exact Ends.pure (.inr rfl) rfl (Le.of_eq (by simp (decide := true) only [St.get, lk, W, sameR, q4, ↓reduceIte])) (by simp)
theorem c_eqfunc (a : List Rule) (na : Bool) (b : List Rule) (nb : Bool) (ha : a.length ≤ 1099511627776) (hna : na = true → a = []) (hb : b.length ≤ 1099511627776) (hnb : nb = true → b = []) (hoa : ∀ p ∈ a, p.ok0) (hob : ∀ p ∈ b, p.ok0) : CallP Pr 60 [.slice 6 na (a.map Rule.cs) none, .slice 6 nb (b.map Rule.cs) none, .fn (.func 61) [] []] (.bool (equalR a b)) := by
 refine CallP.of_wp Tryz.func60 rfl (by kernel_rfl) Tryz.ntmps60 (by simp) ?_
 simp only [frameOf, Nat.reduceAdd, Nat.zero_add]
 refine WP.sr [0, 1, 2] (by kernel_rfl) fun K hK => ?_
 simp (decide := true) only [TF, ↓reduceIte, Int.reduceToNat]
 refine hK _ _ ?_; clear hK K
 refine WP.seq ?_
 refine WP.sr [0, 1, 2, 14] (by kernel_rfl) fun K hK => ?_
 simp (decide := true) only [TF, ↓reduceIte, Int.reduceToNat]
 refine hK _ _ ?_; clear hK K
 refine WP.cond (b := _) rfl (fun q1 => ?_) (fun q1 => ?_)
 ·
  have hne : a.length ≠ b.length := by simp at q1; omega
  have hz := all2_len sameR a b hne
  refine WP.sr [6] (by kernel_rfl) fun K hK => ?_
  simp (decide := true) only [TF, q1, hz, ↓reduceIte, Int.reduceToNat]
  refine hK _ _ ?_; clear hK K
  refine WP.ret ?_
  exact Ends.pure (.inr rfl) rfl (Le.of_eq (by simp (decide := true) only [St.get, lk, W, equalR, q1, hz, ↓reduceIte])) (by simp)
 ·
  have hlen : a.length = b.length := by simp at q1; omega
  refine WP.skip ?_
  show WP _ _ _ _ _ _
  refine WP.seq ?_
  refine WP.sr [1, 2, 15, 16, 17] (by kernel_rfl) fun K hK => ?_
  simp (decide := true) only [TF, q1, ↓reduceIte, Int.reduceToNat]
  refine hK _ _ ?_; clear hK K
  refine WP.block ?_
  refine WP.lp [1, 2, 15, 16] (X := {k : Nat // k ≤ a.length ∧ equalR a b = all2 sameR (a.drop k) (b.drop k)}) (fun x => match x with | ⟨(k), _⟩ => [(17, .int .i64 k)]) (fun x => match x with | ⟨(k), _⟩ => []) (fun x => match x with | ⟨(k), _⟩ => a.length - k) (by simp (decide := true) only [W, ↓reduceIte, Int.reduceToNat]; rfl) ?_ ⟨(0), ⟨Nat.zero_le _, by simp [equalR]⟩⟩ ?_
  rotate_left
  · exact Weak.store (by simp [St.get, lk, W, Le.refl, q1]) (by simp [lk, W, q1]) (by simp [lk, W]) (by simp [BClo, lk]) (by simp [lk])
  rintro ⟨k, hk, hI⟩
  dsimp only
  simp only [List.cons_append, List.nil_append]
  refine WP.sr [1, 2, 15, 16, 17, 18] (by kernel_rfl) fun K hK => ?_
  simp (decide := true) only [TF, q1, ↓reduceIte, Int.reduceToNat]
  refine hK _ _ ?_; clear hK K
  refine WP.seq ?_
  refine WP.cond (b := _) rfl (fun q2 => ?_) (fun q2 => ?_)
  ·
   have hlt := lt_of_q q2
   have hlt2 : k < b.length := by omega
   have hg : (a.map Rule.cs)[k]? = some [.str a[k].name, .bool a[k].deny, .slice 3 a[k].nc (a[k].conds.map Cond.cs) none, .slice 1 a[k].ns (a[k].scopes.map fun x => [.str x]) none, .int .i64 a[k].lvl, .int .i64 a[k].age] := getM hlt
   have hg2 : (b.map Rule.cs)[k]? = some [.str b[k].name, .bool b[k].deny, .slice 3 b[k].nc (b[k].conds.map Cond.cs) none, .slice 1 b[k].ns (b[k].scopes.map fun x => [.str x]) none, .int .i64 b[k].lvl, .int .i64 b[k].age] := getM hlt2
   have hnf := nl_false hna hlt
   have hnf2 := nl_false hnb hlt2
   rw [dropE hlt, dropE hlt2, all2_cons] at hI
   refine WP.skip ?_
   show WP _ _ _ _ _ _
   refine WP.seq ?_
   refine WP.block ?_
   refine WP.sr [1, 2, 7, 8, 15, 16, 17] (by kernel_rfl) fun K hK => ?_
   simp (decide := true) only [TF, q1, q2, hg, hg2, hnf, hnf2, ↓reduceIte, Int.reduceToNat]
   refine hK _ _ ?_; clear hK K
   refine WP.sr [1, 2, 8, 9, 15, 16, 17] (by kernel_rfl) fun K hK => ?_
   simp (decide := true) only [TF, q1, q2, hg, hg2, hnf, hnf2, ↓reduceIte, Int.reduceToNat]
   refine hK _ _ ?_; clear hK K
   refine WP.sr [1, 2, 15, 16, 17, 30] (by kernel_rfl) fun K hK => ?_
   simp (decide := true) only [TF, q1, q2, hg, hg2, hnf, hnf2, ↓reduceIte, Int.reduceToNat]
   refine CallK.pure (c_same a[k] b[k] (hoa _ (List.getElem_mem hlt)) (hob _ (List.getElem_mem hlt2))) rfl rfl (by simp [-List.map_take]) ?_
   simp (decide := true) only [TF, q1, q2, hg, hg2, hnf, hnf2, ↓reduceIte, Int.reduceToNat]
   refine hK _ _ ?_; clear hK K
   refine WP.cond (b := _) rfl (fun q3 => ?_) (fun q3 => ?_)
   ·
    simp only [Bool.not_eq_true', Bool.not_eq_false'] at q3
    refine WP.sr [6] (by kernel_rfl) fun K hK => ?_
    simp (decide := true) only [TF, q1, q2, hg, hg2, hnf, hnf2, q3, ↓reduceIte, Int.reduceToNat]
    refine hK _ _ ?_; clear hK K
    refine WP.ret ?_
    exact Ends.pure (.inr rfl) rfl (Le.of_eq (by simp_all [St.get, lk, W, LN, bne, equalR])) (by simp)
   ·
    simp only [Bool.not_eq_true', Bool.not_eq_false'] at q3
    refine WP.skip ?_
    show WP _ _ _ _ _ _
    refine WP.region (by kernel_rfl) fun K hK => ?_
    simp (decide := true) only [TF, q1, q2, hg, hg2, hnf, hnf2, q3, ↓reduceIte, Int.reduceToNat]
    refine hK _ _ ?_; clear hK K
    show ∃ y, _ ∧ Weak _ _ _
    refine ⟨⟨k + 1, ?_⟩, ?_, ?_⟩
    · exact ⟨by omega, by first | (simpa [q1, q2, hg, hg2, hnf, hnf2, q3] using hI) | (simp_all [eqStr, eqC]; done)⟩
    · dsimp only; omega
    · exact Weak.store (by simp [St.get, lk, W, Le.refl, q1, q2, hg, hg2, hnf, hnf2, q3, wrapS hlt (show a.length ≤ 140737488355328 by omega)]) (by simp [lk, W, q1, q2, hg, hg2, hnf, hnf2, q3, wrapS hlt (show a.length ≤ 140737488355328 by omega)]) (by simp [lk, W]) (by simp [BClo, lk]) (by simp [lk])
  ·
   have hge := ge_of_q q2
   rw [dropN hge, dropN (show b.length ≤ k by omega), all2_nil] at hI
   refine WP.exit ?_
   show WP _ _ _ _ _ _
   refine WP.sr [6] (by kernel_rfl) fun K hK => ?_
   simp (decide := true) only [TF, q1, q2, ↓reduceIte, Int.reduceToNat]
   refine hK _ _ ?_; clear hK K
   refine WP.ret ?_
   exact Ends.pure (.inr rfl) rfl (Le.of_eq (by simp_all [St.get, lk, W, LN, bne, equalR])) (by simp)
theorem c_equal (a : List Rule) (na : Bool) (b : List Rule) (nb : Bool) (ha : a.length ≤ 1099511627776) (hna : na = true → a = []) (hb : b.length ≤ 1099511627776) (hnb : nb = true → b = []) (hoa : ∀ p ∈ a, p.ok0) (hob : ∀ p ∈ b, p.ok0) : CallP Pr 29 [.slice 6 na (a.map Rule.cs) none, .slice 6 nb (b.map Rule.cs) none] (.bool (equalR a b)) := by
 refine CallP.of_wp Tryz.func29 rfl (by kernel_rfl) Tryz.ntmps29 (by simp) ?_
 simp only [frameOf, Nat.reduceAdd, Nat.zero_add]
 refine WP.sr [0, 1] (by kernel_rfl) fun K hK => ?_
 simp (decide := true) only [TF, ↓reduceIte, Int.reduceToNat]
 refine hK _ _ ?_; clear hK K
 refine WP.sr [4] (by kernel_rfl) fun K hK => ?_
 simp (decide := true) only [TF, ↓reduceIte, Int.reduceToNat]
 refine CallK.pure (c_eqfunc a na b nb ha hna hb hnb hoa hob) rfl rfl (by simp [-List.map_take]) ?_
 simp (decide := true) only [TF, ↓reduceIte, Int.reduceToNat]
 refine hK _ _ ?_; clear hK K
 refine WP.ret ?_
 exact Ends.pure (.inr rfl) rfl (Le.of_eq (by simp (decide := true) only [St.get, lk, W, ↓reduceIte])) (by simp)
theorem c_odd (c : Cond) (hc : c.ok) : CallP Pr 80 [.agg [.str c.f, .str c.op, .str c.v]] (.bool (!(possB c))) := by
 refine CallP.of_wp Tryz.func80 rfl (by kernel_rfl) Tryz.ntmps80 (by simp) ?_
 simp only [frameOf, Nat.reduceAdd, Nat.zero_add]
 refine WP.sr [1] (by kernel_rfl) fun K hK => ?_
 simp (decide := true) only [TF, ↓reduceIte, Int.reduceToNat]
 refine hK _ _ ?_; clear hK K
 refine WP.sr [2] (by kernel_rfl) fun K hK => ?_
 simp (decide := true) only [TF, ↓reduceIte, Int.reduceToNat]
 refine CallK.pure (c_possible c hc) rfl rfl (by simp [-List.map_take]) ?_
 simp (decide := true) only [TF, ↓reduceIte, Int.reduceToNat]
 refine hK _ _ ?_; clear hK K
 refine WP.ret ?_
 exact Ends.pure (.inr rfl) rfl (Le.of_eq (by simp (decide := true) only [St.get, lk, W, ↓reduceIte])) (by simp)
theorem c_indexfunc_odd (l : List Cond) (nl : Bool) (hn : l.length ≤ 1099511627776) (hnl : nl = true → l = []) (hl : ∀ c ∈ l, c.ok) : CallP Pr 58 [.slice 3 nl (l.map Cond.cs) none, .fn (.func 80) [] []] (.int .i64 (ixP (fun c => !(possB c)) l 0)) := by
 refine CallP.of_wp Tryz.func58 rfl (by kernel_rfl) Tryz.ntmps58 (by simp) ?_
 simp only [frameOf, Nat.reduceAdd, Nat.zero_add]
 refine WP.sr [0, 1] (by kernel_rfl) fun K hK => ?_
 simp (decide := true) only [TF, ↓reduceIte, Int.reduceToNat]
 refine hK _ _ ?_; clear hK K
 refine WP.seq ?_
 refine WP.sr [0, 1, 7, 8] (by kernel_rfl) fun K hK => ?_
 simp (decide := true) only [TF, ↓reduceIte, Int.reduceToNat]
 refine hK _ _ ?_; clear hK K
 refine WP.block ?_
 refine WP.lp [0, 1, 7] (X := {k : Nat // k ≤ l.length ∧ ixP (fun c => !(possB c)) l 0 = ixP (fun c => !(possB c)) (l.drop k) k}) (fun x => match x with | ⟨(k), _⟩ => [(8, .int .i64 k)]) (fun x => match x with | ⟨(k), _⟩ => []) (fun x => match x with | ⟨(k), _⟩ => l.length - k) (by simp (decide := true) only [W, ↓reduceIte, Int.reduceToNat]; rfl) ?_ ⟨(0), ⟨Nat.zero_le _, by simp⟩⟩ ?_
 rotate_left
 · exact Weak.store (by simp [St.get, lk, W, Le.refl, W]) (by simp [lk, W, W]) (by simp [lk, W]) (by simp [BClo, lk]) (by simp [lk])
 rintro ⟨k, hk, hI⟩
 dsimp only
 simp only [List.cons_append, List.nil_append]
 refine WP.sr [0, 1, 7, 8, 9] (by kernel_rfl) fun K hK => ?_
 simp (decide := true) only [TF, hk, ↓reduceIte, Int.reduceToNat]
 refine hK _ _ ?_; clear hK K
 refine WP.seq ?_
 refine WP.cond (b := _) rfl (fun q1 => ?_) (fun q1 => ?_)
 ·
  have hlt := lt_of_q q1
  have hg : (l.map Cond.cs)[k]? = some [.str l[k].f, .str l[k].op, .str l[k].v] := getM hlt
  have hnf := nl_false hnl hlt
  rw [dropE hlt] at hI
  simp only [ixP] at hI
  refine WP.skip ?_
  show WP _ _ _ _ _ _
  refine WP.seq ?_
  refine WP.block ?_
  refine WP.sr [0, 1, 5, 7, 8] (by kernel_rfl) fun K hK => ?_
  simp (decide := true) only [TF, hk, q1, hg, hnf, ↓reduceIte, Int.reduceToNat]
  refine hK _ _ ?_; clear hK K
  refine WP.sr [0, 1, 5, 7, 8, 16] (by kernel_rfl) fun K hK => ?_
  simp (decide := true) only [TF, hk, q1, hg, hnf, ↓reduceIte, Int.reduceToNat]
  refine CallK.pure (c_odd l[k] (hl _ (List.getElem_mem hlt))) rfl rfl (by simp [-List.map_take]) ?_
  simp (decide := true) only [TF, hk, q1, hg, hnf, ↓reduceIte, Int.reduceToNat]
  refine hK _ _ ?_; clear hK K
  refine WP.cond (b := _) rfl (fun q2 => ?_) (fun q2 => ?_)
  ·
   refine WP.sr [4] (by kernel_rfl) fun K hK => ?_
   simp (decide := true) only [TF, hk, q1, hg, hnf, q2, ↓reduceIte, Int.reduceToNat]
   refine hK _ _ ?_; clear hK K
   refine WP.ret ?_
   exact Ends.pure (.inr rfl) rfl (Le.of_eq (by simp (decide := true) only [St.get, lk, W, hk, q1, hg, hnf, q2, hI, ↓reduceIte])) (by simp)
  ·
   refine WP.skip ?_
   show WP _ _ _ _ _ _
   refine WP.region (by kernel_rfl) fun K hK => ?_
   simp (decide := true) only [TF, hk, q1, hg, hnf, q2, ↓reduceIte, Int.reduceToNat]
   refine hK _ _ ?_; clear hK K
   show ∃ y, _ ∧ Weak _ _ _
   refine ⟨⟨k + 1, ?_⟩, ?_, ?_⟩
   · exact ⟨by omega, by first | (simpa [hk, q1, hg, hnf, q2] using hI) | (simp_all; done)⟩
   · dsimp only; omega
   · exact Weak.store (by simp [St.get, lk, W, Le.refl, hk, q1, hg, hnf, q2, wrapS hlt (show l.length ≤ 140737488355328 by omega)]) (by simp [lk, W, hk, q1, hg, hnf, q2, wrapS hlt (show l.length ≤ 140737488355328 by omega)]) (by simp [lk, W]) (by simp [BClo, lk]) (by simp [lk])
 ·
  have hge := ge_of_q q1
  rw [dropN hge] at hI
  simp only [ixP] at hI
  refine WP.exit ?_
  show WP _ _ _ _ _ _
  refine WP.sr [4] (by kernel_rfl) fun K hK => ?_
  simp (decide := true) only [TF, hk, q1, ↓reduceIte, Int.reduceToNat]
  refine hK _ _ ?_; clear hK K
  refine WP.ret ?_
  exact Ends.pure (.inr rfl) rfl (Le.of_eq (by simp (decide := true) only [St.get, lk, W, hk, q1, hI, ↓reduceIte])) (by simp)
theorem c_contfunc_odd (l : List Cond) (nl : Bool) (hn : l.length ≤ 1099511627776) (hnl : nl = true → l = []) (hl : ∀ c ∈ l, c.ok) : CallP Pr 81 [.slice 3 nl (l.map Cond.cs) none, .fn (.func 80) [] []] (.bool (l.any fun c => !(possB c))) := by
 refine CallP.of_wp Tryz.func81 rfl (by kernel_rfl) Tryz.ntmps81 (by simp) ?_
 simp only [frameOf, Nat.reduceAdd, Nat.zero_add]
 refine WP.sr [0, 1] (by kernel_rfl) fun K hK => ?_
 simp (decide := true) only [TF, ↓reduceIte, Int.reduceToNat]
 refine hK _ _ ?_; clear hK K
 refine WP.sr [4] (by kernel_rfl) fun K hK => ?_
 simp (decide := true) only [TF, ↓reduceIte, Int.reduceToNat]
 refine CallK.pure (c_indexfunc_odd l nl hn hnl hl) rfl rfl (by simp [-List.map_take]) ?_
 simp (decide := true) only [TF, ↓reduceIte, Int.reduceToNat]
 refine hK _ _ ?_; clear hK K
 refine WP.ret ?_
 exact Ends.pure (.inr rfl) rfl (Le.of_eq (by simp (decide := true) only [St.get, lk, W, ixP_any0, ↓reduceIte])) (by simp)
theorem c_ruleerr (p : Rule) (hp : p.ok) : CallP Pr 42 [.agg [.str p.name, .bool p.deny, .slice 3 p.nc (p.conds.map Cond.cs) none, .slice 1 p.ns (p.scopes.map fun x => [.str x]) none, .int .i64 p.lvl, .int .i64 p.age]] (.int .i64 (ruleErrB p)) := by
 refine CallP.of_wp Tryz.func42 rfl (by kernel_rfl) Tryz.ntmps42 (by simp) ?_
 simp only [frameOf, Nat.reduceAdd, Nat.zero_add]
 refine WP.sr [1] (by kernel_rfl) fun K hK => ?_
 simp (decide := true) only [TF, ↓reduceIte, Int.reduceToNat]
 refine hK _ _ ?_; clear hK K
 refine WP.sr [1, 3] (by kernel_rfl) fun K hK => ?_
 simp (decide := true) only [TF, ↓reduceIte, Int.reduceToNat]
 refine hK _ _ ?_; clear hK K
 refine WP.seq ?_
 refine WP.block ?_
 refine WP.sr [1, 3, 4] (by kernel_rfl) fun K hK => ?_
 simp (decide := true) only [TF, ↓reduceIte, Int.reduceToNat]
 refine hK _ _ ?_; clear hK K
 refine WP.cond (b := _) rfl (fun q1 => ?_) (fun q1 => ?_)
 ·
  refine WP.sr [2] (by kernel_rfl) fun K hK => ?_
  simp (decide := true) only [TF, q1, ↓reduceIte, Int.reduceToNat]
  refine hK _ _ ?_; clear hK K
  refine WP.ret ?_
  exact Ends.pure (.inr rfl) rfl (Le.of_eq (by simp (decide := true) only [St.get, lk, W, ruleErrB, badSc, q1, ↓reduceIte])) (by simp)
 ·
  refine WP.sr [1, 9] (by kernel_rfl) fun K hK => ?_
  simp (decide := true) only [TF, q1, ↓reduceIte, Int.reduceToNat]
  refine CallK.pure (c_contfunc_odd p.conds p.nc hp.1.1 hp.1.2.1 hp.2.2.1) rfl rfl (by simp [-List.map_take]) ?_
  simp (decide := true) only [TF, q1, ↓reduceIte, Int.reduceToNat]
  refine hK _ _ ?_; clear hK K
  refine WP.cond (b := _) rfl (fun q2 => ?_) (fun q2 => ?_)
  ·
   refine WP.sr [2] (by kernel_rfl) fun K hK => ?_
   simp (decide := true) only [TF, q1, q2, ↓reduceIte, Int.reduceToNat]
   refine hK _ _ ?_; clear hK K
   refine WP.ret ?_
   exact Ends.pure (.inr rfl) rfl (Le.of_eq (by simp (decide := true) only [St.get, lk, W, ruleErrB, badSc, q1, q2, ↓reduceIte])) (by simp)
  ·
   refine WP.sr [1, 14] (by kernel_rfl) fun K hK => ?_
   refine runOps.take 3 fun J hJ => ?_
   simp (decide := true) only [TF, q1, q2, ↓reduceIte, Int.reduceToNat]
   refine hJ _ _ ?_; clear hJ J
   refine runOps.part 17 rfl (fun q3 => ?_) (fun q3 => ?_)
   ·
    refine runOps.take 5 fun J hJ => ?_
    simp (decide := true) only [TF, q1, q2, q3, ↓reduceIte, Int.reduceToNat]
    refine hJ _ _ ?_; clear hJ J
    refine runOps.part 22 rfl (fun q4 => ?_) (fun q4 => ?_)
    ·
     simp (decide := true) only [TF, q1, q2, q3, q4, ↓reduceIte, Int.reduceToNat]
     refine hK _ _ ?_; clear hK K
     refine WP.cond (b := true) (by rfl) (fun _ => ?_) nofun
     refine WP.sr [2] (by kernel_rfl) fun K hK => ?_
     simp (decide := true) only [TF, q1, q2, q3, q4, ↓reduceIte, Int.reduceToNat]
     refine hK _ _ ?_; clear hK K
     refine WP.ret ?_
     exact Ends.pure (.inr rfl) rfl (Le.of_eq (by simp (decide := true) only [St.get, lk, W, ruleErrB, badSc, q1, q2, q3, q4, ↓reduceIte])) (by simp)
    ·
     refine runOps.take 5 fun J hJ => ?_
     simp (decide := true) only [TF, q1, q2, q3, q4, ↓reduceIte, Int.reduceToNat]
     refine hJ _ _ ?_; clear hJ J
     refine runOps.part 27 rfl (fun q5 => ?_) (fun q5 => ?_)
     ·
      simp (decide := true) only [TF, q1, q2, q3, q4, q5, ↓reduceIte, Int.reduceToNat]
      refine hK _ _ ?_; clear hK K
      refine WP.cond (b := true) (by rfl) (fun _ => ?_) nofun
      refine WP.sr [2] (by kernel_rfl) fun K hK => ?_
      simp (decide := true) only [TF, q1, q2, q3, q4, q5, ↓reduceIte, Int.reduceToNat]
      refine hK _ _ ?_; clear hK K
      refine WP.ret ?_
      exact Ends.pure (.inr rfl) rfl (Le.of_eq (by simp (decide := true) only [St.get, lk, W, ruleErrB, badSc, q1, q2, q3, q4, q5, ↓reduceIte])) (by simp)
     ·
      simp (decide := true) only [TF, q1, q2, q3, q4, q5, ↓reduceIte, Int.reduceToNat]
      refine hK _ _ ?_; clear hK K
      refine WP.cond (b := _) rfl (fun q6 => ?_) (fun q6 => ?_)
      ·
       refine WP.sr [2] (by kernel_rfl) fun K hK => ?_
       simp (decide := true) only [TF, q1, q2, q3, q4, q5, q6, ↓reduceIte, Int.reduceToNat]
       refine hK _ _ ?_; clear hK K
       refine WP.ret ?_
       exact Ends.pure (.inr rfl) rfl (Le.of_eq (by simp (decide := true) only [St.get, lk, W, ruleErrB, badSc, q1, q2, q3, q4, q5, q6, ↓reduceIte])) (by simp)
      ·
       refine WP.sr [1, 33] (by kernel_rfl) fun K hK => ?_
       simp (decide := true) only [TF, q1, q2, q3, q4, q5, q6, ↓reduceIte, Int.reduceToNat]
       refine hK _ _ ?_; clear hK K
       refine WP.cond (b := true) (by rfl) (fun _ => ?_) nofun
       refine WP.sr [2] (by kernel_rfl) fun K hK => ?_
       simp (decide := true) only [TF, q1, q2, q3, q4, q5, q6, ↓reduceIte, Int.reduceToNat]
       refine hK _ _ ?_; clear hK K
       refine WP.ret ?_
       exact Ends.pure (.inr rfl) rfl (Le.of_eq (by simp (decide := true) only [St.get, lk, W, ruleErrB, badSc, q1, q2, q3, q4, q5, q6, ↓reduceIte])) (by simp)
   ·
    simp (decide := true) only [TF, q1, q2, q3, ↓reduceIte, Int.reduceToNat]
    refine hK _ _ ?_; clear hK K
    refine WP.cond (b := false) (by rfl) nofun (fun _ => ?_)
    refine WP.sr [1, 33] (by kernel_rfl) fun K hK => ?_
    simp (decide := true) only [TF, q1, q2, q3, ↓reduceIte, Int.reduceToNat]
    refine hK _ _ ?_; clear hK K
    refine WP.cond (b := false) (by rfl) nofun (fun _ => ?_)
    refine WP.sr [1, 36] (by kernel_rfl) fun K hK => ?_
    simp (decide := true) only [TF, q1, q2, q3, ↓reduceIte, Int.reduceToNat]
    refine hK _ _ ?_; clear hK K
    refine WP.cond (b := _) rfl (fun q7 => ?_) (fun q7 => ?_)
    ·
     refine WP.sr [2] (by kernel_rfl) fun K hK => ?_
     simp (decide := true) only [TF, q1, q2, q3, q7, ↓reduceIte, Int.reduceToNat]
     refine hK _ _ ?_; clear hK K
     refine WP.ret ?_
     exact Ends.pure (.inr rfl) rfl (Le.of_eq (by simp (decide := true) only [St.get, lk, W, ruleErrB, badSc, q1, q2, q3, q7, ↓reduceIte])) (by simp)
    ·
     refine WP.sr [1, 41] (by kernel_rfl) fun K hK => ?_
     simp (decide := true) only [TF, q1, q2, q3, q7, ↓reduceIte, Int.reduceToNat]
     refine CallK.pure (c_sc_check p.scopes p.ns (by have := hp.1.2.2.1; omega) hp.1.2.2.2 (fun x hx => by have := hp.2.2.2 x hx; omega)) rfl rfl (by simp [-List.map_take]) ?_
     refine runOps.take 2 fun J hJ => ?_
     simp (decide := true) only [TF, q1, q2, q3, q7, ↓reduceIte, Int.reduceToNat]
     refine hJ _ _ ?_; clear hJ J
     refine runOps.part 46 rfl (fun q8 => ?_) (fun q8 => ?_)
     ·
      simp (decide := true) only [TF, q1, q2, q3, q7, q8, ↓reduceIte, Int.reduceToNat]
      refine hK _ _ ?_; clear hK K
      refine WP.cond (b := true) (by rfl) (fun _ => ?_) nofun
      refine WP.sr [2] (by kernel_rfl) fun K hK => ?_
      simp (decide := true) only [TF, q1, q2, q3, q7, q8, ↓reduceIte, Int.reduceToNat]
      refine hK _ _ ?_; clear hK K
      refine WP.ret ?_
      exact Ends.pure (.inr rfl) rfl (Le.of_eq (by simp (decide := true) only [St.get, lk, W, ruleErrB, badSc, q1, q2, q3, q7, q8, ↓reduceIte])) (by simp)
     ·
      simp (decide := true) only [TF, q1, q2, q3, q7, q8, ↓reduceIte, Int.reduceToNat]
      refine CallK.pure (c_contains p.scopes p.ns _ (by have := hp.1.2.2.1; omega) hp.1.2.2.2) rfl rfl (by simp [-List.map_take]) ?_
      refine runOps.take 2 fun J hJ => ?_
      simp (decide := true) only [TF, q1, q2, q3, q7, q8, ↓reduceIte, Int.reduceToNat]
      refine hJ _ _ ?_; clear hJ J
      refine runOps.part 51 rfl (fun q9 => ?_) (fun q9 => ?_)
      ·
       simp (decide := true) only [TF, q1, q2, q3, q7, q8, q9, ↓reduceIte, Int.reduceToNat]
       refine hK _ _ ?_; clear hK K
       refine WP.cond (b := true) (by rfl) (fun _ => ?_) nofun
       refine WP.sr [2] (by kernel_rfl) fun K hK => ?_
       simp (decide := true) only [TF, q1, q2, q3, q7, q8, q9, ↓reduceIte, Int.reduceToNat]
       refine hK _ _ ?_; clear hK K
       refine WP.ret ?_
       exact Ends.pure (.inr rfl) rfl (Le.of_eq (by simp (decide := true) only [St.get, lk, W, ruleErrB, badSc, q1, q2, q3, q7, q8, q9, ↓reduceIte])) (by simp)
      ·
       simp (decide := true) only [TF, q1, q2, q3, q7, q8, q9, ↓reduceIte, Int.reduceToNat]
       refine CallK.pure (c_contains p.scopes p.ns _ (by have := hp.1.2.2.1; omega) hp.1.2.2.2) rfl rfl (by simp [-List.map_take]) ?_
       simp (decide := true) only [TF, q1, q2, q3, q7, q8, q9, ↓reduceIte, Int.reduceToNat]
       refine hK _ _ ?_; clear hK K
       refine WP.cond (b := _) rfl (fun q10 => ?_) (fun q10 => ?_)
       ·
        refine WP.sr [2] (by kernel_rfl) fun K hK => ?_
        simp (decide := true) only [TF, q1, q2, q3, q7, q8, q9, q10, ↓reduceIte, Int.reduceToNat]
        refine hK _ _ ?_; clear hK K
        refine WP.ret ?_
        exact Ends.pure (.inr rfl) rfl (Le.of_eq (by simp (decide := true) only [St.get, lk, W, ruleErrB, badSc, q1, q2, q3, q7, q8, q9, q10, ↓reduceIte])) (by simp)
       ·
        refine WP.sr [56] (by kernel_rfl) fun K hK => ?_
        refine runOps.take 4 fun J hJ => ?_
        simp (decide := true) only [TF, q1, q2, q3, q7, q8, q9, q10, ↓reduceIte, Int.reduceToNat]
        refine hJ _ _ ?_; clear hJ J
        refine runOps.part 60 rfl (fun q11 => ?_) (fun q11 => ?_)
        ·
         simp (decide := true) only [TF, q1, q2, q3, q7, q8, q9, q10, q11, ↓reduceIte, Int.reduceToNat]
         refine hK _ _ ?_; clear hK K
         refine WP.cond (b := true) (by rfl) (fun _ => ?_) nofun
         refine WP.sr [2] (by kernel_rfl) fun K hK => ?_
         simp (decide := true) only [TF, q1, q2, q3, q7, q8, q9, q10, q11, ↓reduceIte, Int.reduceToNat]
         refine hK _ _ ?_; clear hK K
         refine WP.ret ?_
         exact Ends.pure (.inr rfl) rfl (Le.of_eq (by simp (decide := true) only [St.get, lk, W, ruleErrB, badSc, q1, q2, q3, q7, q8, q9, q10, q11, ↓reduceIte])) (by simp)
        ·
         refine runOps.take 5 fun J hJ => ?_
         simp (decide := true) only [TF, q1, q2, q3, q7, q8, q9, q10, q11, ↓reduceIte, Int.reduceToNat]
         refine hJ _ _ ?_; clear hJ J
         refine runOps.part 65 rfl (fun q12 => ?_) (fun q12 => ?_)
         ·
          simp (decide := true) only [TF, q1, q2, q3, q7, q8, q9, q10, q11, q12, ↓reduceIte, Int.reduceToNat]
          refine hK _ _ ?_; clear hK K
          refine WP.cond (b := true) (by rfl) (fun _ => ?_) nofun
          refine WP.sr [2] (by kernel_rfl) fun K hK => ?_
          simp (decide := true) only [TF, q1, q2, q3, q7, q8, q9, q10, q11, q12, ↓reduceIte, Int.reduceToNat]
          refine hK _ _ ?_; clear hK K
          refine WP.ret ?_
          exact Ends.pure (.inr rfl) rfl (Le.of_eq (by simp (decide := true) only [St.get, lk, W, ruleErrB, badSc, q1, q2, q3, q7, q8, q9, q10, q11, q12, ↓reduceIte])) (by simp)
         ·
          simp (decide := true) only [TF, q1, q2, q3, q7, q8, q9, q10, q11, q12, ↓reduceIte, Int.reduceToNat]
          refine hK _ _ ?_; clear hK K
          refine WP.cond (b := _) rfl (fun q13 => ?_) (fun q13 => ?_)
          ·
           refine WP.sr [2] (by kernel_rfl) fun K hK => ?_
           simp (decide := true) only [TF, q1, q2, q3, q7, q8, q9, q10, q11, q12, q13, ↓reduceIte, Int.reduceToNat]
           refine hK _ _ ?_; clear hK K
           refine WP.ret ?_
           exact Ends.pure (.inr rfl) rfl (Le.of_eq (by simp (decide := true) only [St.get, lk, W, ruleErrB, badSc, q1, q2, q3, q7, q8, q9, q10, q11, q12, q13, ↓reduceIte])) (by simp)
          ·
           refine WP.skip ?_
           show WP _ _ _ _ _ _
           refine WP.sr [2] (by kernel_rfl) fun K hK => ?_
           simp (decide := true) only [TF, q1, q2, q3, q7, q8, q9, q10, q11, q12, q13, ↓reduceIte, Int.reduceToNat]
           refine hK _ _ ?_; clear hK K
           refine WP.ret ?_
           exact Ends.pure (.inr rfl) rfl (Le.of_eq (by simp (decide := true) only [St.get, lk, W, ruleErrB, badSc, q1, q2, q3, q7, q8, q9, q10, q11, q12, q13, ↓reduceIte])) (by simp)
theorem c_named (q p : Rule) : CallE Pr 39 [.agg [.str q.name, .bool q.deny, .slice 3 q.nc (q.conds.map Cond.cs) none, .slice 1 q.ns (q.scopes.map fun x => [.str x]) none, .int .i64 q.lvl, .int .i64 q.age], .ref 0 0] [(0, .box 36 [.str p.name, .bool p.deny, .slice 3 p.nc (p.conds.map Cond.cs) none, .slice 1 p.ns (p.scopes.map fun x => [.str x]) none, .int .i64 p.lvl, .int .i64 p.age])] (.bool (q.name == p.name)) [(0, .box 36 [.str p.name, .bool p.deny, .slice 3 p.nc (p.conds.map Cond.cs) none, .slice 1 p.ns (p.scopes.map fun x => [.str x]) none, .int .i64 p.lvl, .int .i64 p.age])] := by
 refine CallE.of_wp Tryz.func39 rfl (by kernel_rfl) Tryz.ntmps39 (by simp) ?_
 simp only [frameOf, Nat.reduceAdd, Nat.zero_add, List.map_cons, List.map_nil]
 refine WP.sr [1, 2] (by kernel_rfl) fun K hK => ?_
 simp (decide := true) only [TF, ↓reduceIte, Int.reduceToNat]
 refine hK _ _ ?_; clear hK K
 refine WP.sr [3] (by kernel_rfl) fun K hK => ?_
 simp (decide := true) only [TF, ↓reduceIte, Int.reduceToNat]
 refine hK _ _ ?_; clear hK K
 refine WP.ret ?_
 refine Ends.imp (.inr rfl) rfl (Le.of_eq (by simp (decide := true) only [St.get, lk, W, ↓reduceIte])) ?_ ?_ ?_
 · simp
 · simp [St.get, lk, W, BClo, W]
 · simp [lk]
theorem c_indexfunc_named (l : List Rule) (nl : Bool) (p : Rule) (hn : l.length ≤ 1099511627776) (hnl : nl = true → l = []) : CallE Pr 79 [.slice 6 nl (l.map Rule.cs) none, .fn (.func 39) [] [.ref 0 0]] [(0, .box 36 [.str p.name, .bool p.deny, .slice 3 p.nc (p.conds.map Cond.cs) none, .slice 1 p.ns (p.scopes.map fun x => [.str x]) none, .int .i64 p.lvl, .int .i64 p.age])] (.int .i64 (ixP (fun q => q.name == p.name) l 0)) [(0, .box 36 [.str p.name, .bool p.deny, .slice 3 p.nc (p.conds.map Cond.cs) none, .slice 1 p.ns (p.scopes.map fun x => [.str x]) none, .int .i64 p.lvl, .int .i64 p.age])] := by
 refine CallE.of_wp Tryz.func79 rfl (by kernel_rfl) Tryz.ntmps79 (by simp) ?_
 simp only [frameOf, Nat.reduceAdd, Nat.zero_add, List.map_cons, List.map_nil]
 refine WP.sr [0, 1] (by kernel_rfl) fun K hK => ?_
 simp (decide := true) only [TF, ↓reduceIte, Int.reduceToNat]
 refine hK _ _ ?_; clear hK K
 refine WP.seq ?_
 refine WP.sr [0, 1, 7, 8] (by kernel_rfl) fun K hK => ?_
 simp (decide := true) only [TF, ↓reduceIte, Int.reduceToNat]
 refine hK _ _ ?_; clear hK K
 refine WP.block ?_
 refine WP.lp [0, 1, 7] (X := {k : Nat // k ≤ l.length ∧ ixP (fun q => q.name == p.name) l 0 = ixP (fun q => q.name == p.name) (l.drop k) k}) (fun x => match x with | ⟨(k), _⟩ => [(8, .int .i64 k)]) (fun x => match x with | ⟨(k), _⟩ => [(0, .box 36 [.str p.name, .bool p.deny, .slice 3 p.nc (p.conds.map Cond.cs) none, .slice 1 p.ns (p.scopes.map fun x => [.str x]) none, .int .i64 p.lvl, .int .i64 p.age])]) (fun x => match x with | ⟨(k), _⟩ => l.length - k) (by simp (decide := true) only [W, ↓reduceIte, Int.reduceToNat]; rfl) ?_ ⟨(0), ⟨Nat.zero_le _, by simp⟩⟩ ?_
 rotate_left
 · exact Weak.store (by simp [St.get, lk, W, Le.refl, W]) (by simp [lk, W, W]) (by simp [lk, W]) (by simp [BClo, lk]) (by simp [lk])
 rintro ⟨k, hk, hI⟩
 dsimp only
 simp only [List.cons_append, List.nil_append]
 refine WP.sr [0, 1, 7, 8, 9] (by kernel_rfl) fun K hK => ?_
 simp (decide := true) only [TF, hk, ↓reduceIte, Int.reduceToNat]
 refine hK _ _ ?_; clear hK K
 refine WP.seq ?_
 refine WP.cond (b := _) rfl (fun q1 => ?_) (fun q1 => ?_)
 ·
  have hlt := lt_of_q q1
  have hg : (l.map Rule.cs)[k]? = some [.str l[k].name, .bool l[k].deny, .slice 3 l[k].nc (l[k].conds.map Cond.cs) none, .slice 1 l[k].ns (l[k].scopes.map fun x => [.str x]) none, .int .i64 l[k].lvl, .int .i64 l[k].age] := getM hlt
  have hnf := nl_false hnl hlt
  rw [dropE hlt] at hI
  simp only [ixP] at hI
  refine WP.skip ?_
  show WP _ _ _ _ _ _
  refine WP.seq ?_
  refine WP.block ?_
  refine WP.sr [0, 1, 5, 7, 8] (by kernel_rfl) fun K hK => ?_
  simp (decide := true) only [TF, hk, q1, hg, hnf, ↓reduceIte, Int.reduceToNat]
  refine hK _ _ ?_; clear hK K
  refine WP.sr [0, 1, 5, 7, 8, 16] (by kernel_rfl) fun K hK => ?_
  simp (decide := true) only [TF, hk, q1, hg, hnf, ↓reduceIte, Int.reduceToNat]
  refine CallK.imp (c_named l[k] p) rfl rfl (by simp [lk, BClo]) (by simp [lk]) (by simp [lk]) ?_
  simp (decide := true) only [TF, hk, q1, hg, hnf, ↓reduceIte, Int.reduceToNat]
  refine hK _ _ ?_; clear hK K
  refine WP.cond (b := _) rfl (fun q2 => ?_) (fun q2 => ?_)
  ·
   refine WP.sr [4] (by kernel_rfl) fun K hK => ?_
   simp (decide := true) only [TF, hk, q1, hg, hnf, q2, ↓reduceIte, Int.reduceToNat]
   refine hK _ _ ?_; clear hK K
   refine WP.ret ?_
   refine Ends.imp (.inr rfl) rfl (Le.of_eq (by simp (decide := true) only [St.get, lk, W, hk, q1, hg, hnf, q2, hI, ↓reduceIte])) ?_ ?_ ?_
   · simp
   · simp [St.get, lk, W, BClo, hk, q1, hg, hnf, q2]
   · simp [lk]
  ·
   refine WP.skip ?_
   show WP _ _ _ _ _ _
   refine WP.region (by kernel_rfl) fun K hK => ?_
   simp (decide := true) only [TF, hk, q1, hg, hnf, q2, ↓reduceIte, Int.reduceToNat]
   refine hK _ _ ?_; clear hK K
   show ∃ y, _ ∧ Weak _ _ _
   refine ⟨⟨k + 1, ?_⟩, ?_, ?_⟩
   · exact ⟨by omega, by first | (simpa [hk, q1, hg, hnf, q2] using hI) | (simp_all; done)⟩
   · dsimp only; omega
   · exact Weak.store (by simp [St.get, lk, W, Le.refl, hk, q1, hg, hnf, q2, wrapS hlt (show l.length ≤ 140737488355328 by omega)]) (by simp [lk, W, hk, q1, hg, hnf, q2, wrapS hlt (show l.length ≤ 140737488355328 by omega)]) (by simp [lk, W]) (by simp [BClo, lk]) (by simp [lk])
 ·
  have hge := ge_of_q q1
  rw [dropN hge] at hI
  simp only [ixP] at hI
  refine WP.exit ?_
  show WP _ _ _ _ _ _
  refine WP.sr [4] (by kernel_rfl) fun K hK => ?_
  simp (decide := true) only [TF, hk, q1, ↓reduceIte, Int.reduceToNat]
  refine hK _ _ ?_; clear hK K
  refine WP.ret ?_
  refine Ends.imp (.inr rfl) rfl (Le.of_eq (by simp (decide := true) only [St.get, lk, W, hk, q1, hI, ↓reduceIte])) ?_ ?_ ?_
  · simp
  · simp [St.get, lk, W, BClo, hk, q1]
  · simp [lk]
theorem c_contfunc_named (l : List Rule) (nl : Bool) (p : Rule) (hn : l.length ≤ 1099511627776) (hnl : nl = true → l = []) : CallE Pr 41 [.slice 6 nl (l.map Rule.cs) none, .fn (.func 39) [] [.ref 0 0]] [(0, .box 36 [.str p.name, .bool p.deny, .slice 3 p.nc (p.conds.map Cond.cs) none, .slice 1 p.ns (p.scopes.map fun x => [.str x]) none, .int .i64 p.lvl, .int .i64 p.age])] (.bool (l.any fun q => q.name == p.name)) [(0, .box 36 [.str p.name, .bool p.deny, .slice 3 p.nc (p.conds.map Cond.cs) none, .slice 1 p.ns (p.scopes.map fun x => [.str x]) none, .int .i64 p.lvl, .int .i64 p.age])] := by
 refine CallE.of_wp Tryz.func41 rfl (by kernel_rfl) Tryz.ntmps41 (by simp) ?_
 simp only [frameOf, Nat.reduceAdd, Nat.zero_add, List.map_cons, List.map_nil]
 refine WP.sr [0, 1] (by kernel_rfl) fun K hK => ?_
 simp (decide := true) only [TF, ↓reduceIte, Int.reduceToNat]
 refine hK _ _ ?_; clear hK K
 refine WP.sr [4] (by kernel_rfl) fun K hK => ?_
 simp (decide := true) only [TF, ↓reduceIte, Int.reduceToNat]
 refine CallK.imp (c_indexfunc_named l nl p hn hnl) rfl rfl (by simp [lk, BClo]) (by simp [lk]) (by simp [lk]) ?_
 simp (decide := true) only [TF, ↓reduceIte, Int.reduceToNat]
 refine hK _ _ ?_; clear hK K
 refine WP.ret ?_
 refine Ends.imp (.inr rfl) rfl (Le.of_eq (by simp (decide := true) only [St.get, lk, W, ixP_any0, ↓reduceIte])) ?_ ?_ ?_
 · simp
 · simp [St.get, lk, W, BClo, W]
 · simp [lk]
theorem c_check (l : List Rule) (nl : Bool) (hn : l.length ≤ 1099511627776) (hnl : nl = true → l = []) (hl : ∀ p ∈ l, p.ok) : CallP Pr 15 [.slice 6 nl (l.map Rule.cs) none] (.int .i64 (checkE l)) := by
 refine CallP.of_wp Tryz.func15 rfl (by kernel_rfl) Tryz.ntmps15 (by simp) ?_
 simp only [frameOf, Nat.reduceAdd, Nat.zero_add]
 refine WP.sr [0] (by kernel_rfl) fun K hK => ?_
 simp (decide := true) only [TF, ← List.map_take, ↓reduceIte, Int.reduceToNat]
 refine hK _ _ ?_; clear hK K
 refine WP.seq ?_
 refine WP.sr [0, 9] (by kernel_rfl) fun K hK => ?_
 simp (decide := true) only [TF, ← List.map_take, ↓reduceIte, Int.reduceToNat]
 refine hK _ _ ?_; clear hK K
 refine WP.cond (b := _) rfl (fun q1 => ?_) (fun q1 => ?_)
 ·
  refine WP.sr [2] (by kernel_rfl) fun K hK => ?_
  simp (decide := true) only [TF, q1, ← List.map_take, ↓reduceIte, Int.reduceToNat]
  refine hK _ _ ?_; clear hK K
  refine WP.ret ?_
  exact Ends.pure (.inr rfl) rfl (Le.of_eq (by simp (decide := true) only [St.get, lk, W, checkE, ruleAt, q1, ↓reduceIte])) (by simp)
 ·
  refine WP.skip ?_
  show WP _ _ _ _ _ _
  refine WP.seq ?_
  refine WP.sr [0, 10, 11, 12] (by kernel_rfl) fun K hK => ?_
  simp (decide := true) only [TF, q1, ← List.map_take, ↓reduceIte, Int.reduceToNat]
  refine hK _ _ ?_; clear hK K
  refine WP.block ?_
  refine WP.lp [0, 10, 11] (X := {k : Nat // k ≤ l.length ∧ chkL [] l = chkL (l.take k) (l.drop k)}) (fun x => match x with | ⟨(k), _⟩ => [(12, .int .i64 k)]) (fun x => match x with | ⟨(k), _⟩ => []) (fun x => match x with | ⟨(k), _⟩ => l.length - k) (by simp (decide := true) only [W, ↓reduceIte, Int.reduceToNat]; rfl) ?_ ⟨(0), ⟨Nat.zero_le _, by simp⟩⟩ ?_
  rotate_left
  · exact Weak.store (by simp [St.get, lk, W, Le.refl, q1]) (by simp [lk, W, q1]) (by simp [lk, W]) (by simp [BClo, lk]) (by simp [lk])
  rintro ⟨k, hk, hI⟩
  dsimp only
  simp only [List.cons_append, List.nil_append]
  refine WP.sr [0, 10, 11, 12, 13] (by kernel_rfl) fun K hK => ?_
  simp (decide := true) only [TF, q1, hk, ← List.map_take, ↓reduceIte, Int.reduceToNat]
  refine hK _ _ ?_; clear hK K
  refine WP.seq ?_
  refine WP.cond (b := _) rfl (fun q2 => ?_) (fun q2 => ?_)
  ·
   have hlt := lt_of_q q2
   have hg : (l.map Rule.cs)[k]? = some [.str l[k].name, .bool l[k].deny, .slice 3 l[k].nc (l[k].conds.map Cond.cs) none, .slice 1 l[k].ns (l[k].scopes.map fun x => [.str x]) none, .int .i64 l[k].lvl, .int .i64 l[k].age] := getM hlt
   have hnf := nl_false hnl hlt
   rw [dropE hlt] at hI
   simp only [chkL, ruleAt] at hI
   refine WP.skip ?_
   show WP _ _ _ _ _ _
   refine WP.seq ?_
   refine WP.block ?_
   refine WP.sr [0, 3, 4, 10, 11, 12] (by kernel_rfl) fun K hK => ?_
   simp (decide := true) only [TF, q1, hk, q2, hg, hnf, ← List.map_take, ↓reduceIte, Int.reduceToNat]
   refine hK _ _ ?_; clear hK K
   refine WP.sr [0, 3, 4, 5, 10, 11, 12] (by kernel_rfl) fun K hK => ?_
   simp (decide := true) only [TF, q1, hk, q2, hg, hnf, ← List.map_take, ↓reduceIte, Int.reduceToNat]
   refine hK _ _ ?_; clear hK K
   refine WP.seq ?_
   refine WP.sr [0, 3, 4, 5, 10, 11, 12, 21] (by kernel_rfl) fun K hK => ?_
   simp (decide := true) only [TF, q1, hk, q2, hg, hnf, ← List.map_take, ↓reduceIte, Int.reduceToNat]
   refine CallK.pure (c_word l[k].name (by have := (hl _ (List.getElem_mem hlt)).2.1; omega)) rfl rfl (by simp [-List.map_take]) ?_
   simp (decide := true) only [TF, q1, hk, q2, hg, hnf, ← List.map_take, ↓reduceIte, Int.reduceToNat]
   refine hK _ _ ?_; clear hK K
   refine WP.cond (b := _) rfl (fun q3 => ?_) (fun q3 => ?_)
   ·
    simp only [Bool.not_eq_true', Bool.not_eq_false'] at q3
    refine WP.sr [2] (by kernel_rfl) fun K hK => ?_
    simp (decide := true) only [TF, q1, hk, q2, hg, hnf, q3, ← List.map_take, ↓reduceIte, Int.reduceToNat]
    refine hK _ _ ?_; clear hK K
    refine WP.ret ?_
    exact Ends.pure (.inr rfl) rfl (Le.of_eq (by simp (decide := true) only [St.get, lk, W, checkE, ruleAt, q1, hk, q2, hg, hnf, q3, hI, ↓reduceIte])) (by simp)
   ·
    simp only [Bool.not_eq_true', Bool.not_eq_false'] at q3
    refine WP.skip ?_
    show WP _ _ _ _ _ _
    refine WP.seq ?_
    refine WP.sr [0, 4, 10, 11, 12, 26] (by kernel_rfl) fun K hK => ?_
    simp (decide := true) only [TF, q1, hk, q2, hg, hnf, q3, ← List.map_take, ↓reduceIte, Int.reduceToNat]
    refine CallK.imp (c_contfunc_named (l.take k) false l[k] (by simp; omega) nofun) rfl rfl (by simp [lk, BClo]) (by simp [lk]) (by simp [lk, -List.map_take]) ?_
    simp (decide := true) only [TF, q1, hk, q2, hg, hnf, q3, ← List.map_take, ↓reduceIte, Int.reduceToNat]
    refine hK _ _ ?_; clear hK K
    refine WP.cond (b := _) rfl (fun q4 => ?_) (fun q4 => ?_)
    ·
     refine WP.sr [2] (by kernel_rfl) fun K hK => ?_
     simp (decide := true) only [TF, q1, hk, q2, hg, hnf, q3, q4, ← List.map_take, ↓reduceIte, Int.reduceToNat]
     refine hK _ _ ?_; clear hK K
     refine WP.ret ?_
     exact Ends.pure (.inr rfl) rfl (Le.of_eq (by simp (decide := true) only [St.get, lk, W, checkE, ruleAt, q1, hk, q2, hg, hnf, q3, q4, hI, ↓reduceIte])) (by simp)
    ·
     refine WP.skip ?_
     show WP _ _ _ _ _ _
     refine WP.sr [0, 6, 10, 11, 12] (by kernel_rfl) fun K hK => ?_
     simp (decide := true) only [TF, q1, hk, q2, hg, hnf, q3, q4, ← List.map_take, ↓reduceIte, Int.reduceToNat]
     refine CallK.pure (c_ruleerr l[k] (hl _ (List.getElem_mem hlt))) rfl rfl (by simp [-List.map_take]) ?_
     simp (decide := true) only [TF, q1, hk, q2, hg, hnf, q3, q4, ← List.map_take, ↓reduceIte, Int.reduceToNat]
     refine hK _ _ ?_; clear hK K
     refine WP.sr [0, 6, 10, 11, 12, 30] (by kernel_rfl) fun K hK => ?_
     simp (decide := true) only [TF, q1, hk, q2, hg, hnf, q3, q4, ← List.map_take, ↓reduceIte, Int.reduceToNat]
     refine hK _ _ ?_; clear hK K
     refine WP.cond (b := _) rfl (fun q5 => ?_) (fun q5 => ?_)
     ·
      refine WP.sr [2] (by kernel_rfl) fun K hK => ?_
      simp (decide := true) only [TF, q1, hk, q2, hg, hnf, q3, q4, q5, ← List.map_take, ↓reduceIte, Int.reduceToNat]
      refine hK _ _ ?_; clear hK K
      refine WP.ret ?_
      exact Ends.pure (.inr rfl) rfl (Le.of_eq (by simp (decide := true) only [St.get, lk, W, checkE, ruleAt, q1, hk, q2, hg, hnf, q3, q4, q5, hI, ↓reduceIte])) (by simp)
     ·
      refine WP.skip ?_
      show WP _ _ _ _ _ _
      refine WP.region (by kernel_rfl) fun K hK => ?_
      simp (decide := true) only [TF, q1, hk, q2, hg, hnf, q3, q4, q5, ← List.map_take, ↓reduceIte, Int.reduceToNat]
      refine hK _ _ ?_; clear hK K
      show ∃ y, _ ∧ Weak _ _ _
      refine ⟨⟨k + 1, ?_⟩, ?_, ?_⟩
      · exact ⟨by omega, by first | (simpa [q1, hk, q2, hg, hnf, q3, q4, q5] using hI) | (simp_all; done)⟩
      · dsimp only; omega
      · exact Weak.store (by simp [St.get, lk, W, Le.refl, q1, hk, q2, hg, hnf, q3, q4, q5, wrapS hlt (show l.length ≤ 140737488355328 by omega)]) (by simp [lk, W, q1, hk, q2, hg, hnf, q3, q4, q5, wrapS hlt (show l.length ≤ 140737488355328 by omega)]) (by simp [lk, W]) (by simp [BClo, lk]) (by simp [lk])
  ·
   have hge := ge_of_q q2
   rw [dropN hge] at hI
   simp only [chkL] at hI
   refine WP.exit ?_
   show WP _ _ _ _ _ _
   refine WP.sr [2] (by kernel_rfl) fun K hK => ?_
   simp (decide := true) only [TF, q1, hk, q2, ← List.map_take, ↓reduceIte, Int.reduceToNat]
   refine hK _ _ ?_; clear hK K
   refine WP.ret ?_
   exact Ends.pure (.inr rfl) rfl (Le.of_eq (by simp (decide := true) only [St.get, lk, W, checkE, ruleAt, q1, hk, q2, hI, ↓reduceIte])) (by simp)
theorem c_r_rule (l : List Rule) (nl : Bool) (i : Nat) (hi : i < l.length) (hn : l.length ≤ 1099511627776) (hnl : nl = true → l = []) (hl : ∀ p ∈ l, p.ok) : CallP Pr 43 [.slice 6 nl (l.map Rule.cs) none, .int .i64 i] (.int .i64 (ruleAt (l.take i) l[i])) := by
 have hg0 : (l.map Rule.cs)[i]? = some [.str l[i].name, .bool l[i].deny, .slice 3 l[i].nc (l[i].conds.map Cond.cs) none, .slice 1 l[i].ns (l[i].scopes.map fun x => [.str x]) none, .int .i64 l[i].lvl, .int .i64 l[i].age] := getM hi
 have hnf0 := nl_false hnl hi
 have hp := hl _ (List.getElem_mem hi)
 refine CallP.of_wp Tryz.func43 rfl (by kernel_rfl) Tryz.ntmps43 (by simp) ?_
 simp only [frameOf, Nat.reduceAdd, Nat.zero_add]
 refine WP.sr [0, 1] (by kernel_rfl) fun K hK => ?_
 simp (decide := true) only [TF, hg0, hnf0, ↓reduceIte, Int.reduceToNat]
 refine hK _ _ ?_; clear hK K
 refine WP.sr [0, 1, 5] (by kernel_rfl) fun K hK => ?_
 simp (decide := true) only [TF, hg0, hnf0, ↓reduceIte, Int.reduceToNat]
 refine hK _ _ ?_; clear hK K
 refine WP.seq ?_
 refine WP.sr [0, 1, 5, 15] (by kernel_rfl) fun K hK => ?_
 simp (decide := true) only [TF, hg0, hnf0, ↓reduceIte, Int.reduceToNat]
 refine CallK.pure (c_r_word l[i].name (by have := hp.2.1; omega)) rfl rfl (by simp [-List.map_take]) ?_
 simp (decide := true) only [TF, hg0, hnf0, ↓reduceIte, Int.reduceToNat]
 refine hK _ _ ?_; clear hK K
 refine WP.cond (b := _) rfl (fun q1 => ?_) (fun q1 => ?_)
 ·
  simp only [Bool.not_eq_true', Bool.not_eq_false'] at q1
  refine WP.sr [4] (by kernel_rfl) fun K hK => ?_
  simp (decide := true) only [TF, hg0, hnf0, q1, ↓reduceIte, Int.reduceToNat]
  refine hK _ _ ?_; clear hK K
  refine WP.ret ?_
  exact Ends.pure (.inr rfl) rfl (Le.of_eq (by simp (decide := true) only [St.get, lk, W, ruleAt, ruleErrB, badSc, hg0, hnf0, q1, ↓reduceIte])) (by simp)
 ·
  simp only [Bool.not_eq_true', Bool.not_eq_false'] at q1
  refine WP.skip ?_
  show WP _ _ _ _ _ _
  refine WP.seq ?_
  refine WP.sr [0, 1, 5, 6] (by kernel_rfl) fun K hK => ?_
  simp (decide := true) only [TF, hg0, hnf0, q1, ↓reduceIte, Int.reduceToNat]
  refine hK _ _ ?_; clear hK K
  refine WP.block ?_
  refine WP.lp [0, 1, 5] (X := {j : Nat // j ≤ i ∧ ((l.take i).any fun q => q.name == l[i].name) = ((l.take i).drop j).any (fun q => q.name == l[i].name)}) (fun x => match x with | ⟨(j), _⟩ => [(6, .int .i64 j)]) (fun x => match x with | ⟨(j), _⟩ => [(0, .box 36 [.str l[i].name, .bool l[i].deny, .slice 3 l[i].nc (l[i].conds.map Cond.cs) none, .slice 1 l[i].ns (l[i].scopes.map fun x => [.str x]) none, .int .i64 l[i].lvl, .int .i64 l[i].age])]) (fun x => match x with | ⟨(j), _⟩ => i - j) (by simp (decide := true) only [W, ↓reduceIte, Int.reduceToNat]; rfl) ?_ ⟨(0), ⟨Nat.zero_le _, by rw [List.drop_zero]⟩⟩ ?_
  rotate_left
  · exact Weak.store (by simp [St.get, lk, W, Le.refl, hg0, hnf0, q1]) (by simp [lk, W, hg0, hnf0, q1]) (by simp [lk, W]) (by simp [BClo, lk]) (by simp [lk])
  rintro ⟨j, hj, hJ⟩
  dsimp only
  simp only [List.cons_append, List.nil_append]
  refine WP.seq ?_
  refine WP.sr [0, 1, 5, 6, 18] (by kernel_rfl) fun K hK => ?_
  simp (decide := true) only [TF, hg0, hnf0, q1, ↓reduceIte, Int.reduceToNat]
  refine hK _ _ ?_; clear hK K
  refine WP.cond (b := _) rfl (fun q2 => ?_) (fun q2 => ?_)
  ·
   have hjl : j < (l.take i).length := by simp at q2 ⊢; omega
   have hjk : j < i := by simp at hjl; omega
   have hgj : (l.map Rule.cs)[j]? = some [.str l[j].name, .bool l[j].deny, .slice 3 l[j].nc (l[j].conds.map Cond.cs) none, .slice 1 l[j].ns (l[j].scopes.map fun x => [.str x]) none, .int .i64 l[j].lvl, .int .i64 l[j].age] := getM (by omega)
   rw [dropE hjl] at hJ
   simp only [List.any_cons, List.getElem_take] at hJ
   refine WP.skip ?_
   show WP _ _ _ _ _ _
   refine WP.seq ?_
   refine WP.block ?_
   refine WP.sd [0, 1, 5, 6, 28] (by kernel_rfl) (by kernel_rfl) fun K hK => ?_
   simp (decide := true) only [TF, hg0, hnf0, q1, q2, hgj, ↓reduceIte, Int.reduceToNat]
   refine hK _ _ (by kernel_rfl) ?_
   clear hK K
   refine WP.cond (b := _) rfl (fun q3 => ?_) (fun q3 => ?_)
   ·
    refine WP.sr [4] (by kernel_rfl) fun K hK => ?_
    simp (decide := true) only [TF, hg0, hnf0, q1, q2, hgj, q3, ↓reduceIte, Int.reduceToNat]
    refine hK _ _ ?_; clear hK K
    refine WP.ret ?_
    exact Ends.pure (.inr rfl) rfl (Le.of_eq (by simp (decide := true) only [St.get, lk, W, ruleAt, ruleErrB, badSc, hg0, hnf0, q1, q2, hgj, q3, hJ, ↓reduceIte])) (by simp)
   ·
    refine WP.skip ?_
    show WP _ _ _ _ _ _
    refine WP.region (by kernel_rfl) fun K hK => ?_
    simp (decide := true) only [TF, hg0, hnf0, q1, q2, hgj, q3, ↓reduceIte, Int.reduceToNat]
    refine hK _ _ ?_; clear hK K
    show ∃ y, _ ∧ Weak _ _ _
    refine ⟨⟨j + 1, ?_⟩, ?_, ?_⟩
    · exact ⟨by omega, by first | (simpa [hg0, hnf0, q1, q2, hgj, q3] using hJ) | (simp_all; done)⟩
    · dsimp only; omega
    · exact Weak.store (by simp [St.get, lk, W, Le.refl, hg0, hnf0, q1, q2, hgj, q3, wrapS hjk (show i ≤ 140737488355328 by omega)]) (by simp [lk, W, hg0, hnf0, q1, q2, hgj, q3, wrapS hjk (show i ≤ 140737488355328 by omega)]) (by simp [lk, W]) (by simp [BClo, lk]) (by simp [lk])
  ·
   have hjg : (l.take i).length ≤ j := by simp at q2 ⊢; omega
   rw [dropN hjg] at hJ
   simp only [List.any_nil] at hJ
   refine WP.exit ?_
   show WP _ _ _ _ _ _
   refine WP.seq ?_
   refine WP.sr [5, 32] (by kernel_rfl) fun K hK => ?_
   simp (decide := true) only [TF, hg0, hnf0, q1, q2, ↓reduceIte, Int.reduceToNat]
   refine hK _ _ ?_; clear hK K
   refine WP.cond (b := _) rfl (fun q4 => ?_) (fun q4 => ?_)
   ·
    refine WP.sr [4] (by kernel_rfl) fun K hK => ?_
    simp (decide := true) only [TF, hg0, hnf0, q1, q2, q4, ↓reduceIte, Int.reduceToNat]
    refine hK _ _ ?_; clear hK K
    refine WP.ret ?_
    exact Ends.pure (.inr rfl) rfl (Le.of_eq (by simp (decide := true) only [St.get, lk, W, ruleAt, ruleErrB, badSc, hg0, hnf0, q1, q2, q4, hJ, ↓reduceIte])) (by simp)
   ·
    refine WP.skip ?_
    show WP _ _ _ _ _ _
    refine WP.seq ?_
    refine WP.sr [5, 7] (by kernel_rfl) fun K hK => ?_
    simp (decide := true) only [TF, hg0, hnf0, q1, q2, q4, ↓reduceIte, Int.reduceToNat]
    refine hK _ _ ?_; clear hK K
    refine WP.block ?_
    refine WP.lp [5] (X := {k : Nat // k ≤ l[i].conds.length ∧ (l[i].conds.any fun c => !possB c) = (l[i].conds.drop k).any (fun c => !possB c)}) (fun x => match x with | ⟨(k), _⟩ => [(7, .int .i64 k)]) (fun x => match x with | ⟨(k), _⟩ => [(0, .box 36 [.str l[i].name, .bool l[i].deny, .slice 3 l[i].nc (l[i].conds.map Cond.cs) none, .slice 1 l[i].ns (l[i].scopes.map fun x => [.str x]) none, .int .i64 l[i].lvl, .int .i64 l[i].age])]) (fun x => match x with | ⟨(k), _⟩ => l[i].conds.length - k) (by simp (decide := true) only [W, ↓reduceIte, Int.reduceToNat]; rfl) ?_ ⟨(0), ⟨Nat.zero_le _, by rw [List.drop_zero]⟩⟩ ?_
    rotate_left
    · exact Weak.store (by simp [St.get, lk, W, Le.refl, hg0, hnf0, q1, q2, q4]) (by simp [lk, W, hg0, hnf0, q1, q2, q4]) (by simp [lk, W]) (by simp [BClo, lk]) (by simp [lk])
    rintro ⟨k, hk, hC⟩
    dsimp only
    simp only [List.cons_append, List.nil_append]
    refine WP.seq ?_
    refine WP.sr [5, 7, 37] (by kernel_rfl) fun K hK => ?_
    simp (decide := true) only [TF, hg0, hnf0, q1, q2, q4, hk, ↓reduceIte, Int.reduceToNat]
    refine hK _ _ ?_; clear hK K
    refine WP.cond (b := _) rfl (fun q5 => ?_) (fun q5 => ?_)
    ·
     have hlt := lt_of_q q5
     have hg : (l[i].conds.map Cond.cs)[k]? = some [.str l[i].conds[k].f, .str l[i].conds[k].op, .str l[i].conds[k].v] := getM hlt
     have hnf := nl_false hp.1.2.1 hlt
     rw [dropE hlt] at hC
     simp only [List.any_cons] at hC
     have hp1 := hp.1.1
     refine WP.skip ?_
     show WP _ _ _ _ _ _
     refine WP.seq ?_
     refine WP.block ?_
     refine WP.sr [5, 7, 46] (by kernel_rfl) fun K hK => ?_
     simp (decide := true) only [TF, hg0, hnf0, q1, q2, q4, hk, q5, hg, hnf, ↓reduceIte, Int.reduceToNat]
     refine CallK.pure (c_r_possible l[i].conds[k] (hp.2.2.1 _ (List.getElem_mem hlt))) rfl rfl (by simp [-List.map_take]) ?_
     simp (decide := true) only [TF, hg0, hnf0, q1, q2, q4, hk, q5, hg, hnf, ↓reduceIte, Int.reduceToNat]
     refine hK _ _ ?_; clear hK K
     refine WP.cond (b := _) rfl (fun q6 => ?_) (fun q6 => ?_)
     ·
      simp only [Bool.not_eq_true', Bool.not_eq_false'] at q6
      refine WP.sr [4] (by kernel_rfl) fun K hK => ?_
      simp (decide := true) only [TF, hg0, hnf0, q1, q2, q4, hk, q5, hg, hnf, q6, ↓reduceIte, Int.reduceToNat]
      refine hK _ _ ?_; clear hK K
      refine WP.ret ?_
      exact Ends.pure (.inr rfl) rfl (Le.of_eq (by simp (decide := true) only [St.get, lk, W, ruleAt, ruleErrB, badSc, hg0, hnf0, q1, q2, q4, hk, q5, hg, hnf, q6, hC, hJ, ↓reduceIte])) (by simp)
     ·
      simp only [Bool.not_eq_true', Bool.not_eq_false'] at q6
      refine WP.skip ?_
      show WP _ _ _ _ _ _
      refine WP.region (by kernel_rfl) fun K hK => ?_
      simp (decide := true) only [TF, hg0, hnf0, q1, q2, q4, hk, q5, hg, hnf, q6, ↓reduceIte, Int.reduceToNat]
      refine hK _ _ ?_; clear hK K
      show ∃ y, _ ∧ Weak _ _ _
      refine ⟨⟨k + 1, ?_⟩, ?_, ?_⟩
      · exact ⟨by omega, by first | (simpa [hg0, hnf0, q1, q2, q4, hk, q5, hg, hnf, q6] using hC) | (simp_all; done)⟩
      · dsimp only; omega
      · exact Weak.store (by simp [St.get, lk, W, Le.refl, hg0, hnf0, q1, q2, q4, hk, q5, hg, hnf, q6, wrapS hlt (show l[i].conds.length ≤ 140737488355328 by omega)]) (by simp [lk, W, hg0, hnf0, q1, q2, q4, hk, q5, hg, hnf, q6, wrapS hlt (show l[i].conds.length ≤ 140737488355328 by omega)]) (by simp [lk, W]) (by simp [BClo, lk]) (by simp [lk])
    ·
     have hge := ge_of_q q5
     rw [dropN hge] at hC
     simp only [List.any_nil] at hC
     refine WP.exit ?_
     show WP _ _ _ _ _ _
     refine WP.seq ?_
     refine WP.sr [5, 48] (by kernel_rfl) fun K hK => ?_
     simp (decide := true) only [TF, hg0, hnf0, q1, q2, q4, hk, q5, ↓reduceIte, Int.reduceToNat]
     refine hK _ _ ?_; clear hK K
     refine WP.cond (b := _) rfl (fun q7 => ?_) (fun q7 => ?_)
     ·
      refine WP.seq ?_
      refine WP.sr [62] (by kernel_rfl) fun K hK => ?_
      refine runOps.take 5 fun J hJ => ?_
      simp (decide := true) only [TF, hg0, hnf0, q1, q2, q4, hk, q5, q7, ↓reduceIte, Int.reduceToNat]
      refine hJ _ _ ?_; clear hJ J
      refine runOps.part 53 rfl (fun q8 => ?_) (fun q8 => ?_)
      ·
       simp (decide := true) only [TF, hg0, hnf0, q1, q2, q4, hk, q5, q7, q8, ↓reduceIte, Int.reduceToNat]
       refine hK _ _ ?_; clear hK K
       refine WP.cond (b := true) (by rfl) (fun _ => ?_) nofun
       refine WP.sr [4] (by kernel_rfl) fun K hK => ?_
       simp (decide := true) only [TF, hg0, hnf0, q1, q2, q4, hk, q5, q7, q8, ↓reduceIte, Int.reduceToNat]
       refine hK _ _ ?_; clear hK K
       refine WP.ret ?_
       exact Ends.pure (.inr rfl) rfl (Le.of_eq (by simp (decide := true) only [St.get, lk, W, ruleAt, ruleErrB, badSc, hg0, hnf0, q1, q2, q4, hk, q5, q7, q8, hC, hJ, ↓reduceIte])) (by simp)
      ·
       refine runOps.take 5 fun J hJ => ?_
       simp (decide := true) only [TF, hg0, hnf0, q1, q2, q4, hk, q5, q7, q8, ↓reduceIte, Int.reduceToNat]
       refine hJ _ _ ?_; clear hJ J
       refine runOps.part 58 rfl (fun q9 => ?_) (fun q9 => ?_)
       ·
        simp (decide := true) only [TF, hg0, hnf0, q1, q2, q4, hk, q5, q7, q8, q9, ↓reduceIte, Int.reduceToNat]
        refine hK _ _ ?_; clear hK K
        refine WP.cond (b := true) (by rfl) (fun _ => ?_) nofun
        refine WP.sr [4] (by kernel_rfl) fun K hK => ?_
        simp (decide := true) only [TF, hg0, hnf0, q1, q2, q4, hk, q5, q7, q8, q9, ↓reduceIte, Int.reduceToNat]
        refine hK _ _ ?_; clear hK K
        refine WP.ret ?_
        exact Ends.pure (.inr rfl) rfl (Le.of_eq (by simp (decide := true) only [St.get, lk, W, ruleAt, ruleErrB, badSc, hg0, hnf0, q1, q2, q4, hk, q5, q7, q8, q9, hC, hJ, ↓reduceIte])) (by simp)
       ·
        simp (decide := true) only [TF, hg0, hnf0, q1, q2, q4, hk, q5, q7, q8, q9, ↓reduceIte, Int.reduceToNat]
        refine hK _ _ ?_; clear hK K
        refine WP.cond (b := _) rfl (fun q10 => ?_) (fun q10 => ?_)
        ·
         refine WP.sr [4] (by kernel_rfl) fun K hK => ?_
         simp (decide := true) only [TF, hg0, hnf0, q1, q2, q4, hk, q5, q7, q8, q9, q10, ↓reduceIte, Int.reduceToNat]
         refine hK _ _ ?_; clear hK K
         refine WP.ret ?_
         exact Ends.pure (.inr rfl) rfl (Le.of_eq (by simp (decide := true) only [St.get, lk, W, ruleAt, ruleErrB, badSc, hg0, hnf0, q1, q2, q4, hk, q5, q7, q8, q9, q10, hC, hJ, ↓reduceIte])) (by simp)
        ·
         refine WP.skip ?_
         show WP _ _ _ _ _ _
         refine WP.sr [4] (by kernel_rfl) fun K hK => ?_
         simp (decide := true) only [TF, hg0, hnf0, q1, q2, q4, hk, q5, q7, q8, q9, q10, ↓reduceIte, Int.reduceToNat]
         refine hK _ _ ?_; clear hK K
         refine WP.ret ?_
         exact Ends.pure (.inr rfl) rfl (Le.of_eq (by simp (decide := true) only [St.get, lk, W, ruleAt, ruleErrB, badSc, hg0, hnf0, q1, q2, q4, hk, q5, q7, q8, q9, q10, hC, hJ, ↓reduceIte])) (by simp)
     ·
      refine WP.skip ?_
      show WP _ _ _ _ _ _
      refine WP.seq ?_
      refine WP.sr [5, 66] (by kernel_rfl) fun K hK => ?_
      simp (decide := true) only [TF, hg0, hnf0, q1, q2, q4, hk, q5, q7, ↓reduceIte, Int.reduceToNat]
      refine hK _ _ ?_; clear hK K
      refine WP.cond (b := _) rfl (fun q11 => ?_) (fun q11 => ?_)
      ·
       refine WP.sr [4] (by kernel_rfl) fun K hK => ?_
       simp (decide := true) only [TF, hg0, hnf0, q1, q2, q4, hk, q5, q7, q11, ↓reduceIte, Int.reduceToNat]
       refine hK _ _ ?_; clear hK K
       refine WP.ret ?_
       exact Ends.pure (.inr rfl) rfl (Le.of_eq (by simp (decide := true) only [St.get, lk, W, ruleAt, ruleErrB, badSc, hg0, hnf0, q1, q2, q4, hk, q5, q7, q11, hC, hJ, ↓reduceIte])) (by simp)
      ·
       refine WP.skip ?_
       show WP _ _ _ _ _ _
       refine WP.seq ?_
       refine WP.sr [5, 80] (by kernel_rfl) fun K hK => ?_
       simp (decide := true) only [TF, hg0, hnf0, q1, q2, q4, hk, q5, q7, q11, ↓reduceIte, Int.reduceToNat]
       refine CallK.pure (c_r_sc_check l[i].scopes l[i].ns (by have := hp.1.2.2.1; omega) hp.1.2.2.2 (fun x hx => by have := hp.2.2.2 x hx; omega)) rfl rfl (by simp [-List.map_take]) ?_
       refine runOps.take 2 fun J hJ => ?_
       simp (decide := true) only [TF, hg0, hnf0, q1, q2, q4, hk, q5, q7, q11, ↓reduceIte, Int.reduceToNat]
       refine hJ _ _ ?_; clear hJ J
       refine runOps.part 71 rfl (fun q12 => ?_) (fun q12 => ?_)
       ·
        simp (decide := true) only [TF, hg0, hnf0, q1, q2, q4, hk, q5, q7, q11, q12, ↓reduceIte, Int.reduceToNat]
        refine hK _ _ ?_; clear hK K
        refine WP.cond (b := true) (by rfl) (fun _ => ?_) nofun
        refine WP.sr [4] (by kernel_rfl) fun K hK => ?_
        simp (decide := true) only [TF, hg0, hnf0, q1, q2, q4, hk, q5, q7, q11, q12, ↓reduceIte, Int.reduceToNat]
        refine hK _ _ ?_; clear hK K
        refine WP.ret ?_
        exact Ends.pure (.inr rfl) rfl (Le.of_eq (by simp (decide := true) only [St.get, lk, W, ruleAt, ruleErrB, badSc, hg0, hnf0, q1, q2, q4, hk, q5, q7, q11, q12, hC, hJ, ↓reduceIte])) (by simp)
       ·
        simp (decide := true) only [TF, hg0, hnf0, q1, q2, q4, hk, q5, q7, q11, q12, ↓reduceIte, Int.reduceToNat]
        refine CallK.pure (c_r_contains l[i].scopes l[i].ns _ (by have := hp.1.2.2.1; omega) hp.1.2.2.2) rfl rfl (by simp [-List.map_take]) ?_
        refine runOps.take 2 fun J hJ => ?_
        simp (decide := true) only [TF, hg0, hnf0, q1, q2, q4, hk, q5, q7, q11, q12, ↓reduceIte, Int.reduceToNat]
        refine hJ _ _ ?_; clear hJ J
        refine runOps.part 76 rfl (fun q13 => ?_) (fun q13 => ?_)
        ·
         simp (decide := true) only [TF, hg0, hnf0, q1, q2, q4, hk, q5, q7, q11, q12, q13, ↓reduceIte, Int.reduceToNat]
         refine hK _ _ ?_; clear hK K
         refine WP.cond (b := true) (by rfl) (fun _ => ?_) nofun
         refine WP.sr [4] (by kernel_rfl) fun K hK => ?_
         simp (decide := true) only [TF, hg0, hnf0, q1, q2, q4, hk, q5, q7, q11, q12, q13, ↓reduceIte, Int.reduceToNat]
         refine hK _ _ ?_; clear hK K
         refine WP.ret ?_
         exact Ends.pure (.inr rfl) rfl (Le.of_eq (by simp (decide := true) only [St.get, lk, W, ruleAt, ruleErrB, badSc, hg0, hnf0, q1, q2, q4, hk, q5, q7, q11, q12, q13, hC, hJ, ↓reduceIte])) (by simp)
        ·
         simp (decide := true) only [TF, hg0, hnf0, q1, q2, q4, hk, q5, q7, q11, q12, q13, ↓reduceIte, Int.reduceToNat]
         refine CallK.pure (c_r_contains l[i].scopes l[i].ns _ (by have := hp.1.2.2.1; omega) hp.1.2.2.2) rfl rfl (by simp [-List.map_take]) ?_
         simp (decide := true) only [TF, hg0, hnf0, q1, q2, q4, hk, q5, q7, q11, q12, q13, ↓reduceIte, Int.reduceToNat]
         refine hK _ _ ?_; clear hK K
         refine WP.cond (b := _) rfl (fun q14 => ?_) (fun q14 => ?_)
         ·
          refine WP.sr [4] (by kernel_rfl) fun K hK => ?_
          simp (decide := true) only [TF, hg0, hnf0, q1, q2, q4, hk, q5, q7, q11, q12, q13, q14, ↓reduceIte, Int.reduceToNat]
          refine hK _ _ ?_; clear hK K
          refine WP.ret ?_
          exact Ends.pure (.inr rfl) rfl (Le.of_eq (by simp (decide := true) only [St.get, lk, W, ruleAt, ruleErrB, badSc, hg0, hnf0, q1, q2, q4, hk, q5, q7, q11, q12, q13, q14, hC, hJ, ↓reduceIte])) (by simp)
         ·
          refine WP.skip ?_
          show WP _ _ _ _ _ _
          refine WP.seq ?_
          refine WP.sr [93] (by kernel_rfl) fun K hK => ?_
          refine runOps.take 4 fun J hJ => ?_
          simp (decide := true) only [TF, hg0, hnf0, q1, q2, q4, hk, q5, q7, q11, q12, q13, q14, ↓reduceIte, Int.reduceToNat]
          refine hJ _ _ ?_; clear hJ J
          refine runOps.part 84 rfl (fun q15 => ?_) (fun q15 => ?_)
          ·
           simp (decide := true) only [TF, hg0, hnf0, q1, q2, q4, hk, q5, q7, q11, q12, q13, q14, q15, ↓reduceIte, Int.reduceToNat]
           refine hK _ _ ?_; clear hK K
           refine WP.cond (b := true) (by rfl) (fun _ => ?_) nofun
           refine WP.sr [4] (by kernel_rfl) fun K hK => ?_
           simp (decide := true) only [TF, hg0, hnf0, q1, q2, q4, hk, q5, q7, q11, q12, q13, q14, q15, ↓reduceIte, Int.reduceToNat]
           refine hK _ _ ?_; clear hK K
           refine WP.ret ?_
           exact Ends.pure (.inr rfl) rfl (Le.of_eq (by simp (decide := true) only [St.get, lk, W, ruleAt, ruleErrB, badSc, hg0, hnf0, q1, q2, q4, hk, q5, q7, q11, q12, q13, q14, q15, hC, hJ, ↓reduceIte])) (by simp)
          ·
           refine runOps.take 5 fun J hJ => ?_
           simp (decide := true) only [TF, hg0, hnf0, q1, q2, q4, hk, q5, q7, q11, q12, q13, q14, q15, ↓reduceIte, Int.reduceToNat]
           refine hJ _ _ ?_; clear hJ J
           refine runOps.part 89 rfl (fun q16 => ?_) (fun q16 => ?_)
           ·
            simp (decide := true) only [TF, hg0, hnf0, q1, q2, q4, hk, q5, q7, q11, q12, q13, q14, q15, q16, ↓reduceIte, Int.reduceToNat]
            refine hK _ _ ?_; clear hK K
            refine WP.cond (b := true) (by rfl) (fun _ => ?_) nofun
            refine WP.sr [4] (by kernel_rfl) fun K hK => ?_
            simp (decide := true) only [TF, hg0, hnf0, q1, q2, q4, hk, q5, q7, q11, q12, q13, q14, q15, q16, ↓reduceIte, Int.reduceToNat]
            refine hK _ _ ?_; clear hK K
            refine WP.ret ?_
            exact Ends.pure (.inr rfl) rfl (Le.of_eq (by simp (decide := true) only [St.get, lk, W, ruleAt, ruleErrB, badSc, hg0, hnf0, q1, q2, q4, hk, q5, q7, q11, q12, q13, q14, q15, q16, hC, hJ, ↓reduceIte])) (by simp)
           ·
            simp (decide := true) only [TF, hg0, hnf0, q1, q2, q4, hk, q5, q7, q11, q12, q13, q14, q15, q16, ↓reduceIte, Int.reduceToNat]
            refine hK _ _ ?_; clear hK K
            refine WP.cond (b := _) rfl (fun q17 => ?_) (fun q17 => ?_)
            ·
             refine WP.sr [4] (by kernel_rfl) fun K hK => ?_
             simp (decide := true) only [TF, hg0, hnf0, q1, q2, q4, hk, q5, q7, q11, q12, q13, q14, q15, q16, q17, ↓reduceIte, Int.reduceToNat]
             refine hK _ _ ?_; clear hK K
             refine WP.ret ?_
             exact Ends.pure (.inr rfl) rfl (Le.of_eq (by simp (decide := true) only [St.get, lk, W, ruleAt, ruleErrB, badSc, hg0, hnf0, q1, q2, q4, hk, q5, q7, q11, q12, q13, q14, q15, q16, q17, hC, hJ, ↓reduceIte])) (by simp)
            ·
             refine WP.skip ?_
             show WP _ _ _ _ _ _
             refine WP.sr [4] (by kernel_rfl) fun K hK => ?_
             simp (decide := true) only [TF, hg0, hnf0, q1, q2, q4, hk, q5, q7, q11, q12, q13, q14, q15, q16, q17, ↓reduceIte, Int.reduceToNat]
             refine hK _ _ ?_; clear hK K
             refine WP.ret ?_
             exact Ends.pure (.inr rfl) rfl (Le.of_eq (by simp (decide := true) only [St.get, lk, W, ruleAt, ruleErrB, badSc, hg0, hnf0, q1, q2, q4, hk, q5, q7, q11, q12, q13, q14, q15, q16, q17, hC, hJ, ↓reduceIte])) (by simp)
theorem c_r_check (l : List Rule) (nl : Bool) (hn : l.length ≤ 1099511627776) (hnl : nl = true → l = []) (hl : ∀ p ∈ l, p.ok) : CallP Pr 16 [.slice 6 nl (l.map Rule.cs) none] (.int .i64 (checkE l)) := by
 refine CallP.of_wp Tryz.func16 rfl (by kernel_rfl) Tryz.ntmps16 (by simp) ?_
 simp only [frameOf, Nat.reduceAdd, Nat.zero_add]
 refine WP.sr [0] (by kernel_rfl) fun K hK => ?_
 simp (decide := true) only [TF, ↓reduceIte, Int.reduceToNat]
 refine hK _ _ ?_; clear hK K
 refine WP.seq ?_
 refine WP.sr [0, 7] (by kernel_rfl) fun K hK => ?_
 simp (decide := true) only [TF, ↓reduceIte, Int.reduceToNat]
 refine hK _ _ ?_; clear hK K
 refine WP.cond (b := _) rfl (fun q1 => ?_) (fun q1 => ?_)
 ·
  refine WP.sr [2] (by kernel_rfl) fun K hK => ?_
  simp (decide := true) only [TF, q1, ↓reduceIte, Int.reduceToNat]
  refine hK _ _ ?_; clear hK K
  refine WP.ret ?_
  exact Ends.pure (.inr rfl) rfl (Le.of_eq (by simp (decide := true) only [St.get, lk, W, checkE, q1, ↓reduceIte])) (by simp)
 ·
  refine WP.skip ?_
  show WP _ _ _ _ _ _
  refine WP.seq ?_
  refine WP.sr [0, 3] (by kernel_rfl) fun K hK => ?_
  simp (decide := true) only [TF, q1, ↓reduceIte, Int.reduceToNat]
  refine hK _ _ ?_; clear hK K
  refine WP.block ?_
  refine WP.lp [0] (X := {k : Nat // k ≤ l.length ∧ chkL [] l = chkL (l.take k) (l.drop k)}) (fun x => match x with | ⟨(k), _⟩ => [(3, .int .i64 k)]) (fun x => match x with | ⟨(k), _⟩ => []) (fun x => match x with | ⟨(k), _⟩ => l.length - k) (by simp (decide := true) only [W, ↓reduceIte, Int.reduceToNat]; rfl) ?_ ⟨(0), ⟨Nat.zero_le _, by simp⟩⟩ ?_
  rotate_left
  · exact Weak.store (by simp [St.get, lk, W, Le.refl, q1]) (by simp [lk, W, q1]) (by simp [lk, W]) (by simp [BClo, lk]) (by simp [lk])
  rintro ⟨k, hk, hI⟩
  dsimp only
  simp only [List.cons_append, List.nil_append]
  refine WP.seq ?_
  refine WP.sr [0, 3, 11] (by kernel_rfl) fun K hK => ?_
  simp (decide := true) only [TF, q1, hk, ↓reduceIte, Int.reduceToNat]
  refine hK _ _ ?_; clear hK K
  refine WP.cond (b := _) rfl (fun q2 => ?_) (fun q2 => ?_)
  ·
   have hlt := lt_of_q q2
   have hg : (l.map Rule.cs)[k]? = some [.str l[k].name, .bool l[k].deny, .slice 3 l[k].nc (l[k].conds.map Cond.cs) none, .slice 1 l[k].ns (l[k].scopes.map fun x => [.str x]) none, .int .i64 l[k].lvl, .int .i64 l[k].age] := getM hlt
   have hnf := nl_false hnl hlt
   rw [dropE hlt] at hI
   simp only [chkL] at hI
   refine WP.skip ?_
   show WP _ _ _ _ _ _
   refine WP.seq ?_
   refine WP.block ?_
   refine WP.sr [0, 3, 4] (by kernel_rfl) fun K hK => ?_
   simp (decide := true) only [TF, q1, hk, q2, hg, hnf, ↓reduceIte, Int.reduceToNat]
   refine CallK.pure (c_r_rule l false k hlt hn nofun hl) rfl rfl (by simp [-List.map_take]) ?_
   simp (decide := true) only [TF, q1, hk, q2, hg, hnf, ↓reduceIte, Int.reduceToNat]
   refine hK _ _ ?_; clear hK K
   refine WP.sr [0, 3, 4, 18] (by kernel_rfl) fun K hK => ?_
   simp (decide := true) only [TF, q1, hk, q2, hg, hnf, ↓reduceIte, Int.reduceToNat]
   refine hK _ _ ?_; clear hK K
   refine WP.cond (b := _) rfl (fun q3 => ?_) (fun q3 => ?_)
   ·
    refine WP.sr [2] (by kernel_rfl) fun K hK => ?_
    simp (decide := true) only [TF, q1, hk, q2, hg, hnf, q3, ↓reduceIte, Int.reduceToNat]
    refine hK _ _ ?_; clear hK K
    refine WP.ret ?_
    exact Ends.pure (.inr rfl) rfl (Le.of_eq (by simp (decide := true) only [St.get, lk, W, checkE, q1, hk, q2, hg, hnf, q3, hI, ↓reduceIte])) (by simp)
   ·
    refine WP.skip ?_
    show WP _ _ _ _ _ _
    refine WP.region (by kernel_rfl) fun K hK => ?_
    simp (decide := true) only [TF, q1, hk, q2, hg, hnf, q3, ↓reduceIte, Int.reduceToNat]
    refine hK _ _ ?_; clear hK K
    show ∃ y, _ ∧ Weak _ _ _
    refine ⟨⟨k + 1, ?_⟩, ?_, ?_⟩
    · exact ⟨by omega, by first | (simpa [q1, hk, q2, hg, hnf, q3] using hI) | (simp_all; done)⟩
    · dsimp only; omega
    · exact Weak.store (by simp [St.get, lk, W, Le.refl, q1, hk, q2, hg, hnf, q3, wrapS hlt (show l.length ≤ 140737488355328 by omega)]) (by simp [lk, W, q1, hk, q2, hg, hnf, q3, wrapS hlt (show l.length ≤ 140737488355328 by omega)]) (by simp [lk, W]) (by simp [BClo, lk]) (by simp [lk])
  ·
   have hge := ge_of_q q2
   rw [dropN hge] at hI
   simp only [chkL] at hI
   refine WP.exit ?_
   show WP _ _ _ _ _ _
   refine WP.sr [2] (by kernel_rfl) fun K hK => ?_
   simp (decide := true) only [TF, q1, hk, q2, ↓reduceIte, Int.reduceToNat]
   refine hK _ _ ?_; clear hK K
   refine WP.ret ?_
   exact Ends.pure (.inr rfl) rfl (Le.of_eq (by simp (decide := true) only [St.get, lk, W, checkE, q1, hk, q2, hI, ↓reduceIte])) (by simp)
end Go.Proofs

set_option linter.unusedSimpArgs false
set_option linter.unusedVariables false
namespace Go.Proofs
open Go Go.Id
/-- A rule of moderate size. -/
def Rule.sm (p : Rule) : Prop := p.name.length ≤ 100000 ∧ p.conds.length ≤ 100000 ∧ (∀ c ∈ p.conds, c.f.length ≤ 100000 ∧ c.op.length ≤ 100000 ∧ c.v.length ≤ 100000) ∧ p.scopes.length ≤ 100000 ∧ (∀ s ∈ p.scopes, s.length ≤ 100000) ∧
  (p.nc = true → p.conds = []) ∧ (p.ns = true → p.scopes = []) ∧ (-9223372036854775808 ≤ p.lvl ∧ p.lvl ≤ 9223372036854775807) ∧ (-9223372036854775808 ≤ p.age ∧ p.age ≤ 9223372036854775807)
theorem Rule.sm.ok {p : Rule} (h : p.sm) : p.ok := by
  obtain ⟨h1, h2, h3, h4, h5, h6, h7, _, _⟩ := h
  refine ⟨⟨by omega, h6, by omega, h7⟩, by omega, fun c hc => ?_, fun s hs => ?_⟩
  · have := h3 c hc; exact ⟨by omega, by omega, by omega⟩
  · have := h5 s hs; omega
def headW (p : Rule) : List (List UInt8) := [[114, 117, 108, 101], p.name, if p.deny then [100, 101, 110, 121] else [112, 101, 114, 109, 105, 116]]
def leadW (k : Nat) : List UInt8 := if k = 0 then [105, 102] else [97, 110, 100]
def condsW (k : Nat) : List Cond → List (List UInt8)
  | [] => []
  | c :: t => leadW k :: c.f :: c.op :: escB c.v :: condsW (k + 1) t
def wC (p : Rule) (k : Nat) : List (List UInt8) := headW p ++ condsW 0 (p.conds.take k)
def lineW (p : Rule) : List (List UInt8) :=
  wC p p.conds.length ++ (if decide ((p.scopes.length : Int) > 0) = true then [[115, 99, 111, 112, 101, 115]] ++ p.scopes else []) ++ (if (p.lvl != 0) = true then [[108, 101, 118, 101, 108], Lib.itoa p.lvl] else []) ++ (if (p.age != 0) = true then [[97, 103, 101], Lib.itoa p.age] else [])
def lineB (p : Rule) : List UInt8 := Lib.join (lineW p) [32]
def textB (l : List Rule) : List UInt8 := l.flatMap fun p => lineB p ++ [10]
theorem condsW_snoc : ∀ (l : List Cond) (k : Nat) (c : Cond), condsW k (l ++ [c]) = condsW k l ++ [leadW (k + l.length), c.f, c.op, escB c.v]
  | [], k, c => by simp [condsW]
  | a :: l, k, c => by
    simp only [List.cons_append, condsW, condsW_snoc l (k + 1) c, List.length_cons]
    have : k + 1 + l.length = k + (l.length + 1) := by omega
    rw [this]
theorem wC_0 (p : Rule) : wC p 0 = headW p := by simp [wC, condsW]
theorem wC_next (p : Rule) (k : Nat) (h : k < p.conds.length) : wC p (k + 1) = wC p k ++ [leadW k, p.conds[k].f, p.conds[k].op, escB p.conds[k].v] := by
  unfold wC
  rw [takeS h, condsW_snoc, List.append_assoc]
  simp only [List.length_take, Nat.zero_add]
  rw [Nat.min_eq_left (by omega)]
theorem condsW_len : ∀ (l : List Cond) (k : Nat), (condsW k l).length = 4 * l.length
  | [], k => rfl
  | c :: l, k => by simp only [condsW, List.length_cons, condsW_len l (k + 1)]; omega
theorem wC_len (p : Rule) (k : Nat) (h : k ≤ p.conds.length) : (wC p k).length = 3 + 4 * k := by
  unfold wC
  rw [List.length_append, condsW_len, List.length_take, Nat.min_eq_left h]; rfl
theorem leadW_len (k : Nat) : (leadW k).length ≤ 3 := by unfold leadW; split <;> simp
theorem condsW_mem : ∀ (l : List Cond) (k : Nat), (∀ c ∈ l, c.f.length ≤ 100000 ∧ c.op.length ≤ 100000 ∧ c.v.length ≤ 100000) → ∀ x ∈ condsW k l, x.length ≤ 300000
  | [], k, _, x, hx => by simp [condsW] at hx
  | c :: l, k, h, x, hx => by
    have hc := h c (by simp)
    have hl := leadW_len k
    have he := escB_len c.v
    simp only [condsW, List.mem_cons] at hx
    rcases hx with rfl | rfl | rfl | rfl | hx
    · omega
    · omega
    · omega
    · omega
    · exact condsW_mem l (k + 1) (fun c hc => h c (by simp [hc])) x hx
theorem headW_mem (p : Rule) (h : p.sm) : ∀ x ∈ headW p, x.length ≤ 300000 := by
  intro x hx
  have h1 := h.1
  simp only [headW, List.mem_cons, List.mem_nil_iff, or_false] at hx
  rcases hx with rfl | rfl | rfl
  · decide
  · omega
  · split <;> decide
theorem wC_mem (p : Rule) (h : p.sm) (k : Nat) : ∀ x ∈ wC p k, x.length ≤ 300000 := by
  intro x hx
  rcases List.mem_append.1 hx with hx | hx
  · exact headW_mem p h x hx
  · exact condsW_mem _ 0 (fun c hc => h.2.2.1 c (List.mem_of_mem_take hc)) x hx
theorem lineW_mem (p : Rule) (h : p.sm) : ∀ x ∈ lineW p, x.length ≤ 300000 := by
  intro x hx
  have hsm := h
  obtain ⟨_, _, _, _, h5, _, _, h8, h9⟩ := h
  have i1 := Lib.itoa_length_le p.lvl h8.1 h8.2
  have i2 := Lib.itoa_length_le p.age h9.1 h9.2
  simp only [lineW, List.mem_append] at hx
  rcases hx with ((hx | hx) | hx) | hx
  · exact wC_mem p hsm _ x hx
  · split at hx
    · simp only [List.mem_append, List.mem_singleton] at hx
      rcases hx with rfl | hx
      · decide
      · have := h5 x hx; omega
    · cases hx
  · split at hx
    · simp only [List.mem_cons, List.mem_nil_iff, or_false] at hx
      rcases hx with rfl | rfl
      · decide
      · omega
    · cases hx
  · split at hx
    · simp only [List.mem_cons, List.mem_nil_iff, or_false] at hx
      rcases hx with rfl | rfl
      · decide
      · omega
    · cases hx
theorem lens_le (B : Nat) : ∀ ls : List (List UInt8), (∀ x ∈ ls, x.length ≤ B) → Lib.lens ls ≤ ls.length * B
  | [], _ => by simp [Lib.lens]
  | x :: ls, h => by
    have ih := lens_le B ls (fun y hy => h y (by simp [hy]))
    have hx := h x (by simp)
    simp only [Lib.lens, List.map_cons, List.sum_cons, List.length_cons, Nat.succ_mul] at ih ⊢
    omega
theorem join_le (B : Nat) (ls : List (List UInt8)) (h : ∀ x ∈ ls, x.length ≤ B) : (Lib.join ls [32]).length ≤ ls.length * B + ls.length := by
  cases ls with
  | nil => simp [Lib.join_nil]
  | cons x r =>
    rw [Lib.join_length]
    have := lens_le B (x :: r) h
    simp only [List.length_cons, List.length_nil] at this ⊢
    omega
theorem lineW_len (p : Rule) (h : p.sm) : (lineW p).length ≤ 500012 := by
  have h2 := h.2.1; have h4 := h.2.2.2.1
  have := wC_len p p.conds.length (Nat.le_refl _)
  simp only [lineW, List.length_append, this]
  split <;> split <;> split <;> simp only [List.length_append, List.length_cons, List.length_nil] <;> omega
theorem lineB_len (p : Rule) (h : p.sm) : (lineB p).length ≤ 151000000000 := by
  have h1 := join_le 300000 (lineW p) (lineW_mem p h)
  have h2 := lineW_len p h
  unfold lineB
  have : (lineW p).length * 300000 ≤ 500012 * 300000 := Nat.mul_le_mul_right _ h2
  omega
theorem joinC_len (p : Rule) (h : p.sm) (k : Nat) (hk : k ≤ p.conds.length) : (Lib.join (wC p k) [32]).length ≤ 151000000000 := by
  have h1 := join_le 300000 (wC p k) (wC_mem p h k)
  have h2 := wC_len p k hk
  have h3 := h.2.1
  have : (wC p k).length * 300000 ≤ 400003 * 300000 := Nat.mul_le_mul_right _ (by omega)
  omega
theorem join_snoc (ls : List (List UInt8)) (x : List UInt8) (h : ls ≠ []) : Lib.join (ls ++ [x]) [32] = Lib.join ls [32] ++ ([32] ++ x) := by
  cases ls with
  | nil => exact absurd rfl h
  | cons a r =>
    rw [List.cons_append, Lib.join_cons, Lib.join_cons]
    simp [Lib.joinTail]
theorem wC_ne (p : Rule) (k : Nat) : wC p k ≠ [] := by simp [wC, headW]
theorem join_head (p : Rule) : Lib.join (headW p) [32] = [114, 117, 108, 101, 32] ++ p.name ++ (if p.deny = true then [32, 100, 101, 110, 121] else [32, 112, 101, 114, 109, 105, 116]) := by
  simp only [headW, Lib.join_cons, Lib.joinTail]
  cases p.deny <;> simp
theorem join_next (p : Rule) (k : Nat) (h : k < p.conds.length) : Lib.join (wC p (k + 1)) [32] = Lib.join (wC p k) [32] ++ ([32] ++ leadW k ++ [32] ++ p.conds[k].f ++ [32] ++ p.conds[k].op ++ [32] ++ escB p.conds[k].v) := by
  rw [wC_next p k h]
  have e : wC p k ++ [leadW k, p.conds[k].f, p.conds[k].op, escB p.conds[k].v] = (((wC p k ++ [leadW k]) ++ [p.conds[k].f]) ++ [p.conds[k].op]) ++ [escB p.conds[k].v] := by simp
  rw [e, join_snoc _ _ (by simp), join_snoc _ _ (by simp), join_snoc _ _ (by simp), join_snoc _ _ (wC_ne p k)]
  simp [List.append_assoc]
theorem isE_app (a b : List UInt8) : (a ++ b).isEmpty = (a.isEmpty && b.isEmpty) := by cases a <;> cases b <;> rfl
theorem map1 (A : List (List UInt8)) (a : List UInt8) : (A.map fun x => [D.str x]) ++ [[.str a]] = (A ++ [a]).map fun x => [D.str x] := by simp
theorem map2 (A : List (List UInt8)) (a b : List UInt8) : (A.map fun x => [D.str x]) ++ [[.str a], [.str b]] = (A ++ [a, b]).map fun x => [D.str x] := by simp
theorem map4 (A : List (List UInt8)) (a b c d : List UInt8) : (A.map fun x => [D.str x]) ++ [[.str a], [.str b], [.str c], [.str d]] = (A ++ [a, b, c, d]).map fun x => [D.str x] := by simp
theorem mapL (A B : List (List UInt8)) : (A.map fun x => [D.str x]) ++ (B.map fun x => [D.str x]) = (A ++ B).map fun x => [D.str x] := by simp
theorem textB_next (l : List Rule) (k : Nat) (h : k < l.length) : textB (l.take (k + 1)) = textB (l.take k) ++ (lineB l[k] ++ [10]) := by
  rw [takeS h]; simp only [textB, List.flatMap_append, List.flatMap_cons, List.flatMap_nil, List.append_nil]
theorem textB_len (l : List Rule) (h : ∀ p ∈ l, p.sm) : (textB l).length ≤ l.length * 151000000001 := by
  induction l with
  | nil => simp [textB]
  | cons p l ih =>
    have h1 := lineB_len p (h p (by simp))
    have h2 := ih (fun q hq => h q (by simp [hq]))
    simp only [textB, List.flatMap_cons, List.length_append, List.length_cons, List.length_nil, Nat.succ_mul] at h2 ⊢
    omega
theorem textB_take (l : List Rule) (h : ∀ p ∈ l, p.sm) (k : Nat) (hk : k ≤ 64) : (textB (l.take k)).length ≤ 9664000000064 :=
  Nat.le_trans (textB_len (l.take k) (fun p hp => h p (List.mem_of_mem_take hp))) (Nat.le_trans (Nat.mul_le_mul_right 151000000001 (show (l.take k).length ≤ 64 by rw [List.length_take]; omega)) (by decide))
theorem check_64 {l : List Rule} (h : checkE l = 0) : l.length ≤ 64 := by
  unfold checkE at h
  split at h
  · cases h
  · rename_i hc; simp at hc; omega
/-- The reference's line up to the scopes. -/
def preJ (p : Rule) : List UInt8 := Lib.join (wC p p.conds.length) [32] ++ (if decide ((p.scopes.length : Int) > 0) = true then [32, 115, 99, 111, 112, 101, 115] else [])
theorem preJ_len (p : Rule) (h : p.sm) : (preJ p).length ≤ 151000000007 := by
  have := joinC_len p h _ (Nat.le_refl _)
  unfold preJ
  split <;> simp only [List.length_append, List.length_cons, List.length_nil] <;> omega
def spS (l : List (List UInt8)) : List UInt8 := l.flatMap fun x => 32 :: x
theorem spS_nil : spS [] = [] := rfl
theorem flatS_next (l : List (List UInt8)) (j : Nat) (h : j < l.length) : spS (l.take (j + 1)) = spS (l.take j) ++ (32 :: l[j]) := by
  rw [takeS h]; simp only [spS, List.flatMap_append, List.flatMap_cons, List.flatMap_nil, List.append_nil]
theorem flatS_len (p : Rule) (h : p.sm) (j : Nat) : (spS (p.scopes.take j)).length ≤ 10000200000 := by
  have key : ∀ l : List (List UInt8), (∀ s ∈ l, s.length ≤ 100000) → (spS l).length ≤ l.length * 100001 := by
    intro l
    induction l with
    | nil => intro _; simp [spS]
    | cons s l ih =>
      intro hs
      have h1 := hs s (by simp)
      have h2 := ih (fun x hx => hs x (by simp [hx]))
      simp only [spS, List.flatMap_cons, List.length_append, List.length_cons, List.length_nil, Nat.succ_mul] at h2 ⊢
      omega
  have h1 := key (p.scopes.take j) (fun s hs => h.2.2.2.2.1 s (List.mem_of_mem_take hs))
  have h2 : (p.scopes.take j).length ≤ 100000 := by rw [List.length_take]; have := h.2.2.2.1; omega
  omega
theorem join_app : ∀ (m ls : List (List UInt8)), ls ≠ [] → Lib.join (ls ++ m) [32] = Lib.join ls [32] ++ spS m
  | [], ls, _ => by simp [spS]
  | x :: m, ls, h => by
    have e : ls ++ x :: m = (ls ++ [x]) ++ m := by simp
    rw [e, join_app m (ls ++ [x]) (by simp), join_snoc ls x h]
    simp [spS]
theorem lineB_eq (p : Rule) : lineB p = preJ p ++ spS p.scopes ++ (if (p.lvl != 0) = true then [32, 108, 101, 118, 101, 108, 32] ++ Lib.itoa p.lvl else []) ++ (if (p.age != 0) = true then [32, 97, 103, 101, 32] ++ Lib.itoa p.age else []) := by
  unfold lineB lineW preJ
  rw [List.append_assoc, List.append_assoc, join_app _ _ (wC_ne p _)]
  have e0 : decide ((p.scopes.length : Int) > 0) = false → p.scopes = [] := by
    intro h; cases hs : p.scopes with
    | nil => rfl
    | cons a t => rw [hs] at h; simp at h; try omega
  by_cases h1 : decide ((p.scopes.length : Int) > 0) = true
  · rw [if_pos h1, if_pos h1]
    by_cases h2 : (p.lvl != 0) = true <;> by_cases h3 : (p.age != 0) = true <;> simp only [h2, h3, if_true, if_false, Bool.false_eq_true] <;> simp [spS]
  · have h1' : decide ((p.scopes.length : Int) > 0) = false := by simpa using h1
    have := e0 h1'
    rw [if_neg h1, if_neg h1, this]
    by_cases h2 : (p.lvl != 0) = true <;> by_cases h3 : (p.age != 0) = true <;> simp only [h2, h3, if_true, if_false, Bool.false_eq_true] <;> simp [spS]
def textD (l : List Rule) : D := if (checkE l != 0) = true then .tup [.str [], .int .i64 (checkE l)] else if decide (((textB l).length : Int) > 4096) = true then .tup [.str [], .int .i64 3] else .tup [.str (textB l), .int .i64 0]
@[simp] theorem clo_textD {S : Nat → Prop} (l : List Rule) : Clo S (textD l) := by unfold textD; split <;> (try split) <;> simp
end Go.Proofs

set_option linter.unusedSimpArgs false
set_option linter.unusedVariables false
set_option maxRecDepth 10000
namespace Go.Proofs
open Go Go.Id

theorem c_line (p : Rule) (hp : p.sm) : CallP Pr 35 [.agg [.str p.name, .bool p.deny, .slice 3 p.nc (p.conds.map Cond.cs) none, .slice 1 p.ns (p.scopes.map fun x => [.str x]) none, .int .i64 p.lvl, .int .i64 p.age]] (.str (lineB p)) := by
 refine CallP.of_wp Tryz.func35 rfl (by kernel_rfl) Tryz.ntmps35 (by simp) ?_
 simp only [frameOf, Nat.reduceAdd, Nat.zero_add]
 refine WP.sr [1] (by kernel_rfl) fun K hK => ?_
 simp (decide := true) only [TF, map1, map2, map4, mapL, ↓reduceIte, Int.reduceToNat]
 refine hK _ _ ?_; clear hK K
 refine WP.sr [1, 3] (by kernel_rfl) fun K hK => ?_
 simp (decide := true) only [TF, map1, map2, map4, mapL, ↓reduceIte, Int.reduceToNat]
 refine hK _ _ ?_; clear hK K
 refine WP.seq ?_
 refine WP.sr [1, 3, 11] (by kernel_rfl) fun K hK => ?_
 simp (decide := true) only [TF, map1, map2, map4, mapL, ↓reduceIte, Int.reduceToNat]
 refine hK _ _ ?_; clear hK K
 refine WP.meetQ ⟨[(3, .slice 1 false ((headW p).map fun x => [D.str x]) (some 1)), (1, .ref 0 0)], [(0, .box 36 [.str p.name, .bool p.deny, .slice 3 p.nc (p.conds.map Cond.cs) none, .slice 1 p.ns (p.scopes.map fun x => [.str x]) none, .int .i64 p.lvl, .int .i64 p.age]), (1, .tip 9 1 (headW p).length)]⟩ ?_ ?_
 ·
  refine WP.cond (b := _) rfl (fun q1 => ?_) (fun q1 => ?_)
  ·
   refine WP.region (by kernel_rfl) fun K hK => ?_
   simp (decide := true) only [TF, q1, map1, map2, map4, mapL, ↓reduceIte, Int.reduceToNat]
   refine hK _ _ ?_; clear hK K
   show Weak _ _ _
   refine Weak.trans (Weak.keep [1, 3]) ?_
   simp only [keep, W, ↓reduceIte, Nat.reduceEqDiff]
   exact Weak.arrTip 1 9 1 [[D.str [114, 117, 108, 101]], [D.str p.name], [D.str [100, 101, 110, 121]]] 3 (by simp [St.get, lk]) (by simp [lk, W]) (by simp) (by simp) (by simp (decide := true) [ArF, ArD, headW, q1]) (by simp) (by intro i hi; by_cases h0 : i = 0 <;> simp_all [lk]) (by simp [lk, wC_len, headW]) (by simp [BClo])
  ·
   refine WP.skip ?_
   show Weak _ _ _
   refine Weak.trans (Weak.keep [1, 3]) ?_
   simp only [keep, W, ↓reduceIte, Nat.reduceEqDiff]
   exact Weak.arrTip 1 9 1 [[D.str [114, 117, 108, 101]], [D.str p.name], [D.str [112, 101, 114, 109, 105, 116]]] 3 (by simp [St.get, lk]) (by simp [lk, W]) (by simp) (by simp) (by simp (decide := true) [ArF, ArD, headW, q1]) (by simp) (by intro i hi; by_cases h0 : i = 0 <;> simp_all [lk]) (by simp [lk, wC_len, headW]) (by simp [BClo])
 ·
  refine WP.sr [1, 3, 4] (by kernel_rfl) fun K hK => ?_
  simp (decide := true) only [TF, map1, map2, map4, mapL, ↓reduceIte, Int.reduceToNat]
  refine hK _ _ ?_; clear hK K
  refine WP.seq ?_
  refine WP.sr [1, 3, 4, 15, 16, 17] (by kernel_rfl) fun K hK => ?_
  simp (decide := true) only [TF, map1, map2, map4, mapL, ↓reduceIte, Int.reduceToNat]
  refine hK _ _ ?_; clear hK K
  refine WP.block ?_
  refine WP.lp [1, 15, 16] (X := {k : Nat // k ≤ p.conds.length}) (fun x => match x with | ⟨(k), _⟩ => [(3, .slice 1 false ((wC p k).map fun x => [D.str x]) (some 1)), (4, .str (leadW k)), (17, .int .i64 k)]) (fun x => match x with | ⟨(k), _⟩ => [(0, .box 36 [.str p.name, .bool p.deny, .slice 3 p.nc (p.conds.map Cond.cs) none, .slice 1 p.ns (p.scopes.map fun x => [.str x]) none, .int .i64 p.lvl, .int .i64 p.age]), (1, .tip 9 1 (wC p k).length)]) (fun x => match x with | ⟨(k), _⟩ => p.conds.length - k) (by simp (decide := true) only [W, ↓reduceIte, Int.reduceToNat]; rfl) ?_ ⟨(0), Nat.zero_le _⟩ ?_
  rotate_left
  · exact Weak.store (by simp [St.get, lk, W, Le.refl, W, wC_0, leadW]) (by simp [lk, W, wC_0]) (by simp [lk, W]) (by simp [BClo, lk]) (by simp [lk])
  rintro ⟨k, hk⟩
  dsimp only
  simp only [List.cons_append, List.nil_append]
  refine WP.sr [1, 3, 4, 15, 16, 17, 18] (by kernel_rfl) fun K hK => ?_
  simp (decide := true) only [TF, map1, map2, map4, mapL, ↓reduceIte, Int.reduceToNat]
  refine hK _ _ ?_; clear hK K
  refine WP.seq ?_
  refine WP.cond (b := _) rfl (fun q2 => ?_) (fun q2 => ?_)
  ·
   have hlt := lt_of_q q2
   have hg : (p.conds.map Cond.cs)[k]? = some [.str p.conds[k].f, .str p.conds[k].op, .str p.conds[k].v] := getM hlt
   have hnf := nl_false hp.2.2.2.2.2.1 hlt
   have hc := hp.2.2.1 _ (List.getElem_mem hlt)
   have hnx := wC_next p k hlt
   refine WP.skip ?_
   show WP _ _ _ _ _ _
   refine WP.seq ?_
   refine WP.block ?_
   refine WP.sr [1, 3, 4, 6, 15, 16, 17] (by kernel_rfl) fun K hK => ?_
   simp (decide := true) only [TF, q2, hg, hnf, map1, map2, map4, mapL, ↓reduceIte, Int.reduceToNat]
   refine hK _ _ ?_; clear hK K
   refine WP.sd [1, 3, 15, 16, 17] (by kernel_rfl) (by kernel_rfl) fun K hK => ?_
   simp (decide := true) only [TF, q2, hg, hnf, map1, map2, map4, mapL, ↓reduceIte, Int.reduceToNat]
   refine CallK.pure (c_escape p.conds[k].v (by omega)) rfl rfl (by simp [-List.map_take]) ?_
   simp (decide := true) only [TF, q2, hg, hnf, map1, map2, map4, mapL, ↓reduceIte, Int.reduceToNat]
   refine ⟨⟨by simp only [List.length_append, List.length_cons, List.length_nil, List.length_map, wC_len p k hk]; have := hp.2.1; have := hp.2.2.2.1; omega, by simp only [List.length_append, List.length_cons, List.length_nil, List.length_map, wC_len p k hk]; have := hp.2.1; have := hp.2.2.2.1; omega⟩, ?_⟩
   refine hK _ _ (by kernel_rfl) ?_
   clear hK K
   refine WP.region (by kernel_rfl) fun K hK => ?_
   simp (decide := true) only [TF, q2, hg, hnf, map1, map2, map4, mapL, ↓reduceIte, Int.reduceToNat]
   refine hK _ _ ?_; clear hK K
   show WP _ _ _ _ _ _
   refine WP.region (by kernel_rfl) fun K hK => ?_
   simp (decide := true) only [TF, q2, hg, hnf, map1, map2, map4, mapL, ↓reduceIte, Int.reduceToNat]
   refine hK _ _ ?_; clear hK K
   show ∃ y, _ ∧ Weak _ _ _
   refine ⟨⟨k + 1, ?_⟩, ?_, ?_⟩
   · show k + 1 ≤ p.conds.length; omega
   · dsimp only; omega
   · exact Weak.store (by simp [St.get, lk, W, Le.refl, q2, hg, hnf, hnx, show leadW (k + 1) = [97, 110, 100] from rfl, wrapS hlt (show p.conds.length ≤ 140737488355328 by have := hp.2.1; omega)]) (by simp [lk, W, q2, hg, hnf, hnx]) (by simp [lk, W]) (by simp [BClo, lk]) (by simp [lk])
  ·
   have hge := ge_of_q q2
   obtain rfl : k = p.conds.length := by omega
   refine WP.exit ?_
   show WP _ _ _ _ _ _
   refine WP.seq ?_
   refine WP.sr [1, 3, 36] (by kernel_rfl) fun K hK => ?_
   simp (decide := true) only [TF, q2, map1, map2, map4, mapL, ↓reduceIte, Int.reduceToNat]
   refine hK _ _ ?_; clear hK K
   refine WP.cond (b := _) rfl (fun q3 => ?_) (fun q3 => ?_)
   ·
    refine WP.drawn (by kernel_rfl) (by kernel_rfl) fun K hK => ?_
    simp (decide := true) only [TF, q2, q3, map1, map2, map4, mapL, ↓reduceIte, Int.reduceToNat]
    refine ⟨⟨by simp only [List.length_append, List.length_cons, List.length_nil, List.length_map, wC_len p p.conds.length (Nat.le_refl _)]; have := hp.2.1; have := hp.2.2.2.1; omega, by simp only [List.length_append, List.length_cons, List.length_nil, List.length_map, wC_len p p.conds.length (Nat.le_refl _)]; have := hp.2.1; have := hp.2.2.2.1; omega⟩, ?_⟩
    refine ⟨⟨by simp only [List.length_append, List.length_cons, List.length_nil, List.length_map, wC_len p p.conds.length (Nat.le_refl _)]; have := hp.2.1; have := hp.2.2.2.1; omega, by simp only [List.length_append, List.length_cons, List.length_nil, List.length_map, wC_len p p.conds.length (Nat.le_refl _)]; have := hp.2.1; have := hp.2.2.2.1; omega⟩, ?_⟩
    refine hK _ _ (by kernel_rfl) ?_
    clear hK K
    show WP _ _ _ _ _ _
    refine WP.seq ?_
    refine WP.sr [1, 3, 45] (by kernel_rfl) fun K hK => ?_
    simp (decide := true) only [TF, q2, q3, map1, map2, map4, mapL, ↓reduceIte, Int.reduceToNat]
    refine hK _ _ ?_; clear hK K
    refine WP.cond (b := _) rfl (fun q4 => ?_) (fun q4 => ?_)
    ·
     refine WP.region (by kernel_rfl) fun K hK => ?_
     simp (decide := true) only [TF, q2, q3, q4, map1, map2, map4, mapL, ↓reduceIte, Int.reduceToNat]
     refine CallK.pure (c_int p.lvl hp.2.2.2.2.2.2.2.1.1 hp.2.2.2.2.2.2.2.1.2) rfl rfl (by simp [-List.map_take]) ?_
     simp (decide := true) only [TF, q2, q3, q4, map1, map2, map4, mapL, ↓reduceIte, Int.reduceToNat]
     refine ⟨⟨by simp only [List.length_append, List.length_cons, List.length_nil, List.length_map, wC_len p p.conds.length (Nat.le_refl _)]; have := hp.2.1; have := hp.2.2.2.1; omega, by simp only [List.length_append, List.length_cons, List.length_nil, List.length_map, wC_len p p.conds.length (Nat.le_refl _)]; have := hp.2.1; have := hp.2.2.2.1; omega⟩, ?_⟩
     refine hK _ _ ?_; clear hK K
     show WP _ _ _ _ _ _
     refine WP.seq ?_
     refine WP.sr [1, 3, 54] (by kernel_rfl) fun K hK => ?_
     simp (decide := true) only [TF, q2, q3, q4, map1, map2, map4, mapL, ↓reduceIte, Int.reduceToNat]
     refine hK _ _ ?_; clear hK K
     refine WP.cond (b := _) rfl (fun q5 => ?_) (fun q5 => ?_)
     ·
      refine WP.region (by kernel_rfl) fun K hK => ?_
      simp (decide := true) only [TF, q2, q3, q4, q5, map1, map2, map4, mapL, ↓reduceIte, Int.reduceToNat]
      refine CallK.pure (c_int p.age hp.2.2.2.2.2.2.2.2.1 hp.2.2.2.2.2.2.2.2.2) rfl rfl (by simp [-List.map_take]) ?_
      simp (decide := true) only [TF, q2, q3, q4, q5, map1, map2, map4, mapL, ↓reduceIte, Int.reduceToNat]
      refine ⟨⟨by simp only [List.length_append, List.length_cons, List.length_nil, List.length_map, wC_len p p.conds.length (Nat.le_refl _)]; have := hp.2.1; have := hp.2.2.2.1; omega, by simp only [List.length_append, List.length_cons, List.length_nil, List.length_map, wC_len p p.conds.length (Nat.le_refl _)]; have := hp.2.1; have := hp.2.2.2.1; omega⟩, ?_⟩
      refine hK _ _ ?_; clear hK K
      show WP _ _ _ _ _ _
      refine WP.sr [2] (by kernel_rfl) fun K hK => ?_
      simp (decide := true) only [TF, q2, q3, q4, q5, map1, map2, map4, mapL, ↓reduceIte, Int.reduceToNat]
      have hW : lineW p = (wC p p.conds.length ++ [[115, 99, 111, 112, 101, 115]] ++ p.scopes ++ [[108, 101, 118, 101, 108], Lib.itoa p.lvl] ++ [[97, 103, 101], Lib.itoa p.age]) := by simp (decide := true) only [lineW, W, q2, q3, q4, q5, ↓reduceIte]; try simp
      have hWl := lineW_len p hp
      have hWj := lineB_len p hp
      unfold lineB at hWj
      rw [hW] at hWl hWj
      refine CallK.pure (lib_join (wC p p.conds.length ++ [[115, 99, 111, 112, 101, 115]] ++ p.scopes ++ [[108, 101, 118, 101, 108], Lib.itoa p.lvl] ++ [[97, 103, 101], Lib.itoa p.age]) false [32] (by omega) (by omega)) rfl rfl (by simp [-List.map_append]) ?_
      simp (decide := true) only [TF, q2, q3, q4, q5, map1, map2, map4, mapL, ↓reduceIte, Int.reduceToNat]
      refine hK _ _ ?_; clear hK K
      refine WP.ret ?_
      exact Ends.pure (.inr rfl) rfl (Le.of_eq (by simp_all [St.get, lk, W, LN, bne, lineB])) (by simp)
     ·
      refine WP.skip ?_
      show WP _ _ _ _ _ _
      refine WP.sr [2] (by kernel_rfl) fun K hK => ?_
      simp (decide := true) only [TF, q2, q3, q4, q5, map1, map2, map4, mapL, ↓reduceIte, Int.reduceToNat]
      have hW : lineW p = (wC p p.conds.length ++ [[115, 99, 111, 112, 101, 115]] ++ p.scopes ++ [[108, 101, 118, 101, 108], Lib.itoa p.lvl]) := by simp (decide := true) only [lineW, W, q2, q3, q4, q5, ↓reduceIte]; try simp
      have hWl := lineW_len p hp
      have hWj := lineB_len p hp
      unfold lineB at hWj
      rw [hW] at hWl hWj
      refine CallK.pure (lib_join (wC p p.conds.length ++ [[115, 99, 111, 112, 101, 115]] ++ p.scopes ++ [[108, 101, 118, 101, 108], Lib.itoa p.lvl]) false [32] (by omega) (by omega)) rfl rfl (by simp [-List.map_append]) ?_
      simp (decide := true) only [TF, q2, q3, q4, q5, map1, map2, map4, mapL, ↓reduceIte, Int.reduceToNat]
      refine hK _ _ ?_; clear hK K
      refine WP.ret ?_
      exact Ends.pure (.inr rfl) rfl (Le.of_eq (by simp_all [St.get, lk, W, LN, bne, lineB])) (by simp)
    ·
     refine WP.skip ?_
     show WP _ _ _ _ _ _
     refine WP.seq ?_
     refine WP.sr [1, 3, 54] (by kernel_rfl) fun K hK => ?_
     simp (decide := true) only [TF, q2, q3, q4, map1, map2, map4, mapL, ↓reduceIte, Int.reduceToNat]
     refine hK _ _ ?_; clear hK K
     refine WP.cond (b := _) rfl (fun q6 => ?_) (fun q6 => ?_)
     ·
      refine WP.region (by kernel_rfl) fun K hK => ?_
      simp (decide := true) only [TF, q2, q3, q4, q6, map1, map2, map4, mapL, ↓reduceIte, Int.reduceToNat]
      refine CallK.pure (c_int p.age hp.2.2.2.2.2.2.2.2.1 hp.2.2.2.2.2.2.2.2.2) rfl rfl (by simp [-List.map_take]) ?_
      simp (decide := true) only [TF, q2, q3, q4, q6, map1, map2, map4, mapL, ↓reduceIte, Int.reduceToNat]
      refine ⟨⟨by simp only [List.length_append, List.length_cons, List.length_nil, List.length_map, wC_len p p.conds.length (Nat.le_refl _)]; have := hp.2.1; have := hp.2.2.2.1; omega, by simp only [List.length_append, List.length_cons, List.length_nil, List.length_map, wC_len p p.conds.length (Nat.le_refl _)]; have := hp.2.1; have := hp.2.2.2.1; omega⟩, ?_⟩
      refine hK _ _ ?_; clear hK K
      show WP _ _ _ _ _ _
      refine WP.sr [2] (by kernel_rfl) fun K hK => ?_
      simp (decide := true) only [TF, q2, q3, q4, q6, map1, map2, map4, mapL, ↓reduceIte, Int.reduceToNat]
      have hW : lineW p = (wC p p.conds.length ++ [[115, 99, 111, 112, 101, 115]] ++ p.scopes ++ [[97, 103, 101], Lib.itoa p.age]) := by simp (decide := true) only [lineW, W, q2, q3, q4, q6, ↓reduceIte]; try simp
      have hWl := lineW_len p hp
      have hWj := lineB_len p hp
      unfold lineB at hWj
      rw [hW] at hWl hWj
      refine CallK.pure (lib_join (wC p p.conds.length ++ [[115, 99, 111, 112, 101, 115]] ++ p.scopes ++ [[97, 103, 101], Lib.itoa p.age]) false [32] (by omega) (by omega)) rfl rfl (by simp [-List.map_append]) ?_
      simp (decide := true) only [TF, q2, q3, q4, q6, map1, map2, map4, mapL, ↓reduceIte, Int.reduceToNat]
      refine hK _ _ ?_; clear hK K
      refine WP.ret ?_
      exact Ends.pure (.inr rfl) rfl (Le.of_eq (by simp_all [St.get, lk, W, LN, bne, lineB])) (by simp)
     ·
      refine WP.skip ?_
      show WP _ _ _ _ _ _
      refine WP.sr [2] (by kernel_rfl) fun K hK => ?_
      simp (decide := true) only [TF, q2, q3, q4, q6, map1, map2, map4, mapL, ↓reduceIte, Int.reduceToNat]
      have hW : lineW p = (wC p p.conds.length ++ [[115, 99, 111, 112, 101, 115]] ++ p.scopes) := by simp (decide := true) only [lineW, W, q2, q3, q4, q6, ↓reduceIte]; try simp
      have hWl := lineW_len p hp
      have hWj := lineB_len p hp
      unfold lineB at hWj
      rw [hW] at hWl hWj
      refine CallK.pure (lib_join (wC p p.conds.length ++ [[115, 99, 111, 112, 101, 115]] ++ p.scopes) false [32] (by omega) (by omega)) rfl rfl (by simp [-List.map_append]) ?_
      simp (decide := true) only [TF, q2, q3, q4, q6, map1, map2, map4, mapL, ↓reduceIte, Int.reduceToNat]
      refine hK _ _ ?_; clear hK K
      refine WP.ret ?_
      exact Ends.pure (.inr rfl) rfl (Le.of_eq (by simp_all [St.get, lk, W, LN, bne, lineB])) (by simp)
   ·
    refine WP.skip ?_
    show WP _ _ _ _ _ _
    refine WP.seq ?_
    refine WP.sr [1, 3, 45] (by kernel_rfl) fun K hK => ?_
    simp (decide := true) only [TF, q2, q3, map1, map2, map4, mapL, ↓reduceIte, Int.reduceToNat]
    refine hK _ _ ?_; clear hK K
    refine WP.cond (b := _) rfl (fun q7 => ?_) (fun q7 => ?_)
    ·
     refine WP.region (by kernel_rfl) fun K hK => ?_
     simp (decide := true) only [TF, q2, q3, q7, map1, map2, map4, mapL, ↓reduceIte, Int.reduceToNat]
     refine CallK.pure (c_int p.lvl hp.2.2.2.2.2.2.2.1.1 hp.2.2.2.2.2.2.2.1.2) rfl rfl (by simp [-List.map_take]) ?_
     simp (decide := true) only [TF, q2, q3, q7, map1, map2, map4, mapL, ↓reduceIte, Int.reduceToNat]
     refine ⟨⟨by simp only [List.length_append, List.length_cons, List.length_nil, List.length_map, wC_len p p.conds.length (Nat.le_refl _)]; have := hp.2.1; have := hp.2.2.2.1; omega, by simp only [List.length_append, List.length_cons, List.length_nil, List.length_map, wC_len p p.conds.length (Nat.le_refl _)]; have := hp.2.1; have := hp.2.2.2.1; omega⟩, ?_⟩
     refine hK _ _ ?_; clear hK K
     show WP _ _ _ _ _ _
     refine WP.seq ?_
     refine WP.sr [1, 3, 54] (by kernel_rfl) fun K hK => ?_
     simp (decide := true) only [TF, q2, q3, q7, map1, map2, map4, mapL, ↓reduceIte, Int.reduceToNat]
     refine hK _ _ ?_; clear hK K
     refine WP.cond (b := _) rfl (fun q8 => ?_) (fun q8 => ?_)
     ·
      refine WP.region (by kernel_rfl) fun K hK => ?_
      simp (decide := true) only [TF, q2, q3, q7, q8, map1, map2, map4, mapL, ↓reduceIte, Int.reduceToNat]
      refine CallK.pure (c_int p.age hp.2.2.2.2.2.2.2.2.1 hp.2.2.2.2.2.2.2.2.2) rfl rfl (by simp [-List.map_take]) ?_
      simp (decide := true) only [TF, q2, q3, q7, q8, map1, map2, map4, mapL, ↓reduceIte, Int.reduceToNat]
      refine ⟨⟨by simp only [List.length_append, List.length_cons, List.length_nil, List.length_map, wC_len p p.conds.length (Nat.le_refl _)]; have := hp.2.1; have := hp.2.2.2.1; omega, by simp only [List.length_append, List.length_cons, List.length_nil, List.length_map, wC_len p p.conds.length (Nat.le_refl _)]; have := hp.2.1; have := hp.2.2.2.1; omega⟩, ?_⟩
      refine hK _ _ ?_; clear hK K
      show WP _ _ _ _ _ _
      refine WP.sr [2] (by kernel_rfl) fun K hK => ?_
      simp (decide := true) only [TF, q2, q3, q7, q8, map1, map2, map4, mapL, ↓reduceIte, Int.reduceToNat]
      have hW : lineW p = (wC p p.conds.length ++ [[108, 101, 118, 101, 108], Lib.itoa p.lvl] ++ [[97, 103, 101], Lib.itoa p.age]) := by simp (decide := true) only [lineW, W, q2, q3, q7, q8, ↓reduceIte]; try simp
      have hWl := lineW_len p hp
      have hWj := lineB_len p hp
      unfold lineB at hWj
      rw [hW] at hWl hWj
      refine CallK.pure (lib_join (wC p p.conds.length ++ [[108, 101, 118, 101, 108], Lib.itoa p.lvl] ++ [[97, 103, 101], Lib.itoa p.age]) false [32] (by omega) (by omega)) rfl rfl (by simp [-List.map_append]) ?_
      simp (decide := true) only [TF, q2, q3, q7, q8, map1, map2, map4, mapL, ↓reduceIte, Int.reduceToNat]
      refine hK _ _ ?_; clear hK K
      refine WP.ret ?_
      exact Ends.pure (.inr rfl) rfl (Le.of_eq (by simp_all [St.get, lk, W, LN, bne, lineB])) (by simp)
     ·
      refine WP.skip ?_
      show WP _ _ _ _ _ _
      refine WP.sr [2] (by kernel_rfl) fun K hK => ?_
      simp (decide := true) only [TF, q2, q3, q7, q8, map1, map2, map4, mapL, ↓reduceIte, Int.reduceToNat]
      have hW : lineW p = (wC p p.conds.length ++ [[108, 101, 118, 101, 108], Lib.itoa p.lvl]) := by simp (decide := true) only [lineW, W, q2, q3, q7, q8, ↓reduceIte]; try simp
      have hWl := lineW_len p hp
      have hWj := lineB_len p hp
      unfold lineB at hWj
      rw [hW] at hWl hWj
      refine CallK.pure (lib_join (wC p p.conds.length ++ [[108, 101, 118, 101, 108], Lib.itoa p.lvl]) false [32] (by omega) (by omega)) rfl rfl (by simp [-List.map_append]) ?_
      simp (decide := true) only [TF, q2, q3, q7, q8, map1, map2, map4, mapL, ↓reduceIte, Int.reduceToNat]
      refine hK _ _ ?_; clear hK K
      refine WP.ret ?_
      exact Ends.pure (.inr rfl) rfl (Le.of_eq (by simp_all [St.get, lk, W, LN, bne, lineB])) (by simp)
    ·
     refine WP.skip ?_
     show WP _ _ _ _ _ _
     refine WP.seq ?_
     refine WP.sr [1, 3, 54] (by kernel_rfl) fun K hK => ?_
     simp (decide := true) only [TF, q2, q3, q7, map1, map2, map4, mapL, ↓reduceIte, Int.reduceToNat]
     refine hK _ _ ?_; clear hK K
     refine WP.cond (b := _) rfl (fun q9 => ?_) (fun q9 => ?_)
     ·
      refine WP.region (by kernel_rfl) fun K hK => ?_
      simp (decide := true) only [TF, q2, q3, q7, q9, map1, map2, map4, mapL, ↓reduceIte, Int.reduceToNat]
      refine CallK.pure (c_int p.age hp.2.2.2.2.2.2.2.2.1 hp.2.2.2.2.2.2.2.2.2) rfl rfl (by simp [-List.map_take]) ?_
      simp (decide := true) only [TF, q2, q3, q7, q9, map1, map2, map4, mapL, ↓reduceIte, Int.reduceToNat]
      refine ⟨⟨by simp only [List.length_append, List.length_cons, List.length_nil, List.length_map, wC_len p p.conds.length (Nat.le_refl _)]; have := hp.2.1; have := hp.2.2.2.1; omega, by simp only [List.length_append, List.length_cons, List.length_nil, List.length_map, wC_len p p.conds.length (Nat.le_refl _)]; have := hp.2.1; have := hp.2.2.2.1; omega⟩, ?_⟩
      refine hK _ _ ?_; clear hK K
      show WP _ _ _ _ _ _
      refine WP.sr [2] (by kernel_rfl) fun K hK => ?_
      simp (decide := true) only [TF, q2, q3, q7, q9, map1, map2, map4, mapL, ↓reduceIte, Int.reduceToNat]
      have hW : lineW p = (wC p p.conds.length ++ [[97, 103, 101], Lib.itoa p.age]) := by simp (decide := true) only [lineW, W, q2, q3, q7, q9, ↓reduceIte]; try simp
      have hWl := lineW_len p hp
      have hWj := lineB_len p hp
      unfold lineB at hWj
      rw [hW] at hWl hWj
      refine CallK.pure (lib_join (wC p p.conds.length ++ [[97, 103, 101], Lib.itoa p.age]) false [32] (by omega) (by omega)) rfl rfl (by simp [-List.map_append]) ?_
      simp (decide := true) only [TF, q2, q3, q7, q9, map1, map2, map4, mapL, ↓reduceIte, Int.reduceToNat]
      refine hK _ _ ?_; clear hK K
      refine WP.ret ?_
      exact Ends.pure (.inr rfl) rfl (Le.of_eq (by simp_all [St.get, lk, W, LN, bne, lineB])) (by simp)
     ·
      refine WP.skip ?_
      show WP _ _ _ _ _ _
      refine WP.sr [2] (by kernel_rfl) fun K hK => ?_
      simp (decide := true) only [TF, q2, q3, q7, q9, map1, map2, map4, mapL, ↓reduceIte, Int.reduceToNat]
      have hW : lineW p = (wC p p.conds.length) := by simp (decide := true) only [lineW, W, q2, q3, q7, q9, ↓reduceIte]; try simp
      have hWl := lineW_len p hp
      have hWj := lineB_len p hp
      unfold lineB at hWj
      rw [hW] at hWl hWj
      refine CallK.pure (lib_join (wC p p.conds.length) false [32] (by omega) (by omega)) rfl rfl (by simp [-List.map_append]) ?_
      simp (decide := true) only [TF, q2, q3, q7, q9, map1, map2, map4, mapL, ↓reduceIte, Int.reduceToNat]
      refine hK _ _ ?_; clear hK K
      refine WP.ret ?_
      exact Ends.pure (.inr rfl) rfl (Le.of_eq (by simp_all [St.get, lk, W, LN, bne, lineB])) (by simp)
theorem c_text (l : List Rule) (nl : Bool) (hn : l.length ≤ 1099511627776) (hnl : nl = true → l = []) (hl : ∀ p ∈ l, p.sm) : CallP Pr 13 [.slice 6 nl (l.map Rule.cs) none] (textD l) := by
 refine CallP.of_wp Tryz.func13 rfl (by kernel_rfl) Tryz.ntmps13 (by simp) ?_
 simp only [frameOf, Nat.reduceAdd, Nat.zero_add]
 refine WP.sr [0] (by kernel_rfl) fun K hK => ?_
 simp (decide := true) only [TF, ↓reduceIte, Int.reduceToNat]
 refine hK _ _ ?_; clear hK K
 refine WP.seq ?_
 refine WP.sr [0, 4] (by kernel_rfl) fun K hK => ?_
 simp (decide := true) only [TF, ↓reduceIte, Int.reduceToNat]
 refine CallK.pure (c_check l nl hn hnl (fun p hp => (hl p hp).ok)) rfl rfl (by simp [-List.map_take]) ?_
 simp (decide := true) only [TF, ↓reduceIte, Int.reduceToNat]
 refine hK _ _ ?_; clear hK K
 refine WP.sr [0, 4, 11] (by kernel_rfl) fun K hK => ?_
 simp (decide := true) only [TF, ↓reduceIte, Int.reduceToNat]
 refine hK _ _ ?_; clear hK K
 refine WP.cond (b := _) rfl (fun q1 => ?_) (fun q1 => ?_)
 ·
  refine WP.sr [2, 3] (by kernel_rfl) fun K hK => ?_
  simp (decide := true) only [TF, q1, ↓reduceIte, Int.reduceToNat]
  refine hK _ _ ?_; clear hK K
  refine WP.ret ?_
  exact Ends.pure (d := .tup [_, _]) (.inr rfl) rfl (Le.of_eq (by simp (decide := true) only [St.get, lk, W, textD, q1, ↓reduceIte])) (by simp)
 ·
  have h0 : checkE l = 0 := by simpa using q1
  have h64 := check_64 h0
  have htx := textB_take l hl
  refine WP.skip ?_
  show WP _ _ _ _ _ _
  refine WP.sr [0, 5] (by kernel_rfl) fun K hK => ?_
  simp (decide := true) only [TF, q1, h0, ↓reduceIte, Int.reduceToNat]
  refine hK _ _ ?_; clear hK K
  refine WP.seq ?_
  refine WP.sr [5, 13, 14, 15] (by kernel_rfl) fun K hK => ?_
  simp (decide := true) only [TF, q1, h0, ↓reduceIte, Int.reduceToNat]
  refine hK _ _ ?_; clear hK K
  refine WP.block ?_
  refine WP.lp [5, 13, 14] (X := {x : (Nat) × (Bool) // match x with | (k, a) => k ≤ l.length}) (fun x => match x with | ⟨(k, a), _⟩ => [(15, .int .i64 k)]) (fun x => match x with | ⟨(k, a), _⟩ => [(0, .box 58 [adr a 0, .slice 1 (textB (l.take k)).isEmpty (u8s (textB (l.take k))) (some 1)]), (1, .tip 5 1 (textB (l.take k)).length)]) (fun x => match x with | ⟨(k, a), _⟩ => l.length - k) (by simp (decide := true) only [W, ↓reduceIte, Int.reduceToNat]; rfl) ?_ ⟨(0, true), Nat.zero_le _⟩ ?_
  rotate_left
  · refine Weak.trans (Weak.ghost 1 5 1 (σ' := [(0, .box 58 [.nilptr, .slice 1 true [] (some 1)])]) (by simp [lk, W]) (UpF.refl _ _ _) (by simp [UpS, UpB, UpL, UpD])) ?_; exact Weak.store (by simp [St.get, lk, W, Le.refl, q1, h0, textB]) (by simp [lk, W, adr_true, u8s, textB]) (by simp [lk]) (by simp [BClo, lk, u8s]) (by simp)
  rintro ⟨⟨k, a⟩, hk⟩
  dsimp only
  simp only [List.cons_append, List.nil_append]
  dsimp only at hk
  refine WP.sr [5, 13, 14, 15, 16] (by kernel_rfl) fun K hK => ?_
  simp (decide := true) only [TF, q1, h0, ↓reduceIte, Int.reduceToNat]
  refine hK _ _ ?_; clear hK K
  refine WP.seq ?_
  refine WP.cond (b := _) rfl (fun q2 => ?_) (fun q2 => ?_)
  ·
   have hlt := lt_of_q q2
   have hg : (l.map Rule.cs)[k]? = some [.str l[k].name, .bool l[k].deny, .slice 3 l[k].nc (l[k].conds.map Cond.cs) none, .slice 1 l[k].ns (l[k].scopes.map fun x => [.str x]) none, .int .i64 l[k].lvl, .int .i64 l[k].age] := getM hlt
   have hnf := nl_false hnl hlt
   have hp := hl _ (List.getElem_mem hlt)
   have hll := lineB_len l[k] hp
   have hnx := textB_next l k hlt
   have htk := htx k (by omega)
   refine WP.skip ?_
   show WP _ _ _ _ _ _
   refine WP.seq ?_
   refine WP.block ?_
   refine WP.sr [5, 7, 13, 14, 15] (by kernel_rfl) fun K hK => ?_
   simp (decide := true) only [TF, q1, h0, q2, hg, hnf, ↓reduceIte, Int.reduceToNat]
   refine hK _ _ ?_; clear hK K
   refine WP.region (by kernel_rfl) fun K hK => ?_
   simp (decide := true) only [TF, q1, h0, q2, hg, hnf, ↓reduceIte, Int.reduceToNat]
   refine CallK.pure (c_line l[k] hp) rfl rfl (by simp [-List.map_take]) ?_
   simp (decide := true) only [TF, q1, h0, q2, hg, hnf, ↓reduceIte, Int.reduceToNat]
   refine ⟨by first | omega | (simp only [List.length_append, List.length_cons, List.length_nil]; omega), ?_⟩
   refine CallK.imp (bld_ws 0 1 (by decide) a (textB (l.take k)).isEmpty (textB (l.take k)) (lineB l[k] ++ [10]) (by simp only [List.length_append, List.length_cons, List.length_nil]; omega)) rfl rfl (by simp [lk, BClo, adr_false]) (by simp [lk]) (by simp [lk]) ?_
   simp (decide := true) only [TF, q1, h0, q2, hg, hnf, ↓reduceIte, Int.reduceToNat]
   refine hK _ _ ?_; clear hK K
   show WP _ _ _ _ _ _
   refine WP.region (by kernel_rfl) fun K hK => ?_
   simp (decide := true) only [TF, q1, h0, q2, hg, hnf, ↓reduceIte, Int.reduceToNat]
   refine hK _ _ ?_; clear hK K
   show ∃ y, _ ∧ Weak _ _ _
   refine ⟨⟨(k + 1, false), ?_⟩, ?_, ?_⟩
   · show k + 1 ≤ l.length; omega
   · dsimp only; omega
   · exact Weak.store (by simp [St.get, lk, W, Le.refl, q1, h0, q2, hg, hnf, hnx, wrapS hlt (show l.length ≤ 140737488355328 by omega)]) (by simp [lk, W, adr_false, q1, h0, q2, hg, hnf, hnx, isE_app]) (by simp [lk]) (by simp [BClo, lk]) (by simp)
  ·
   have hge := ge_of_q q2
   obtain rfl : k = l.length := by omega
   have htk := htx l.length h64
   rw [List.take_length] at htk ⊢
   refine WP.exit ?_
   show WP _ _ _ _ _ _
   refine WP.seq ?_
   refine WP.sr [5, 25] (by kernel_rfl) fun K hK => ?_
   simp (decide := true) only [TF, q1, h0, q2, ↓reduceIte, Int.reduceToNat]
   refine CallK.imp (bld_len 0 1 (by decide) a (textB l).isEmpty (textB l)) rfl rfl (by simp [lk, BClo, adr_false]) (by simp [lk]) (by simp [lk]) ?_
   simp (decide := true) only [TF, q1, h0, q2, ↓reduceIte, Int.reduceToNat]
   refine hK _ _ ?_; clear hK K
   refine WP.cond (b := _) rfl (fun q3 => ?_) (fun q3 => ?_)
   ·
    refine WP.sr [2, 3] (by kernel_rfl) fun K hK => ?_
    simp (decide := true) only [TF, q1, h0, q2, q3, ↓reduceIte, Int.reduceToNat]
    refine hK _ _ ?_; clear hK K
    refine WP.ret ?_
    exact Ends.pure (d := .tup [_, _]) (.inr rfl) rfl (Le.of_eq (by simp (decide := true) only [St.get, lk, W, textD, q1, h0, q2, q3, ↓reduceIte])) (by simp)
   ·
    refine WP.skip ?_
    show WP _ _ _ _ _ _
    refine WP.sr [2, 3] (by kernel_rfl) fun K hK => ?_
    simp (decide := true) only [TF, q1, h0, q2, q3, ↓reduceIte, Int.reduceToNat]
    refine CallK.imp (bld_str 0 1 (by decide) (adr a 0) (textB l)) rfl rfl (by simp [lk, BClo, adr_false]) (by simp [lk]) (by simp [lk]) ?_
    simp (decide := true) only [TF, q1, h0, q2, q3, ↓reduceIte, Int.reduceToNat]
    refine hK _ _ ?_; clear hK K
    refine WP.ret ?_
    exact Ends.pure (d := .tup [_, _]) (.inr rfl) rfl (Le.of_eq (by simp (decide := true) only [St.get, lk, W, textD, q1, h0, q2, q3, ↓reduceIte])) (by simp)
theorem c_r_line (p : Rule) (hp : p.sm) : CallP Pr 38 [.agg [.str p.name, .bool p.deny, .slice 3 p.nc (p.conds.map Cond.cs) none, .slice 1 p.ns (p.scopes.map fun x => [.str x]) none, .int .i64 p.lvl, .int .i64 p.age]] (.str (lineB p ++ [10])) := by
 have hpn := hp.1
 refine CallP.of_wp Tryz.func38 rfl (by kernel_rfl) Tryz.ntmps38 (by simp) ?_
 simp only [frameOf, Nat.reduceAdd, Nat.zero_add]
 refine WP.sr [1] (by kernel_rfl) fun K hK => ?_
 simp (decide := true) only [TF, ↓reduceIte, Int.reduceToNat]
 refine hK _ _ ?_; clear hK K
 refine WP.sr [1, 3] (by kernel_rfl) fun K hK => ?_
 simp (decide := true) only [TF, ↓reduceIte, Int.reduceToNat]
 refine ⟨by first | omega | (simp only [List.length_append, List.length_cons, List.length_nil]; omega), ?_⟩
 refine ⟨by first | omega | (simp only [List.length_append, List.length_cons, List.length_nil]; omega), ?_⟩
 refine hK _ _ ?_; clear hK K
 refine WP.seq ?_
 refine WP.sr [1, 3, 12] (by kernel_rfl) fun K hK => ?_
 simp (decide := true) only [TF, ↓reduceIte, Int.reduceToNat]
 refine hK _ _ ?_; clear hK K
 refine WP.meetQ ⟨[(3, .str (Lib.join (wC p 0) [32])), (1, .ref 0 0)], [(0, .box 36 [.str p.name, .bool p.deny, .slice 3 p.nc (p.conds.map Cond.cs) none, .slice 1 p.ns (p.scopes.map fun x => [.str x]) none, .int .i64 p.lvl, .int .i64 p.age])]⟩ ?_ ?_
 ·
  refine WP.cond (b := _) rfl (fun q1 => ?_) (fun q1 => ?_)
  ·
   refine WP.region (by kernel_rfl) fun K hK => ?_
   simp (decide := true) only [TF, q1, ↓reduceIte, Int.reduceToNat]
   refine ⟨by first | omega | (simp only [List.length_append, List.length_cons, List.length_nil]; omega), ?_⟩
   refine ⟨by first | omega | (simp only [List.length_append, List.length_cons, List.length_nil]; omega), ?_⟩
   refine hK _ _ ?_; clear hK K
   show Weak _ _ _
   exact Weak.store (by simp [St.get, lk, W, Le.refl, wC_0, join_head, q1]) (by simp [lk, W, q1]) (by simp [lk, W]) (by simp [BClo, lk]) (by simp [lk])
  ·
   refine WP.skip ?_
   show Weak _ _ _
   exact Weak.store (by simp [St.get, lk, W, Le.refl, wC_0, join_head, q1]) (by simp [lk, W, q1]) (by simp [lk, W]) (by simp [BClo, lk]) (by simp [lk])
 ·
  refine WP.seq ?_
  refine WP.sr [1, 3, 4] (by kernel_rfl) fun K hK => ?_
  simp (decide := true) only [TF, ↓reduceIte, Int.reduceToNat]
  refine hK _ _ ?_; clear hK K
  refine WP.block ?_
  refine WP.lp [1] (X := {k : Nat // k ≤ p.conds.length}) (fun x => match x with | ⟨(k), _⟩ => [(3, .str (Lib.join (wC p k) [32])), (4, .int .i64 k)]) (fun x => match x with | ⟨(k), _⟩ => [(0, .box 36 [.str p.name, .bool p.deny, .slice 3 p.nc (p.conds.map Cond.cs) none, .slice 1 p.ns (p.scopes.map fun x => [.str x]) none, .int .i64 p.lvl, .int .i64 p.age])]) (fun x => match x with | ⟨(k), _⟩ => p.conds.length - k) (by simp (decide := true) only [W, ↓reduceIte, Int.reduceToNat]; rfl) ?_ ⟨(0), Nat.zero_le _⟩ ?_
  rotate_left
  · exact Weak.store (by simp [St.get, lk, W, Le.refl, W]) (by simp [lk, W, W]) (by simp [lk, W]) (by simp [BClo, lk]) (by simp [lk])
  rintro ⟨k, hk⟩
  dsimp only
  simp only [List.cons_append, List.nil_append]
  refine WP.seq ?_
  refine WP.sr [1, 3, 4, 21] (by kernel_rfl) fun K hK => ?_
  simp (decide := true) only [TF, ↓reduceIte, Int.reduceToNat]
  refine hK _ _ ?_; clear hK K
  refine WP.cond (b := _) rfl (fun q2 => ?_) (fun q2 => ?_)
  ·
   have hlt := lt_of_q q2
   have hg : (p.conds.map Cond.cs)[k]? = some [.str p.conds[k].f, .str p.conds[k].op, .str p.conds[k].v] := getM hlt
   have hnf := nl_false hp.2.2.2.2.2.1 hlt
   have hc := hp.2.2.1 _ (List.getElem_mem hlt)
   have hnx := join_next p k hlt
   have hjl := joinC_len p hp k hk
   have hel := escB_len p.conds[k].v
   have hll := leadW_len k
   refine WP.skip ?_
   show WP _ _ _ _ _ _
   refine WP.seq ?_
   refine WP.block ?_
   refine WP.sr [1, 3, 4, 5] (by kernel_rfl) fun K hK => ?_
   simp (decide := true) only [TF, q2, hg, hnf, ↓reduceIte, Int.reduceToNat]
   refine hK _ _ ?_; clear hK K
   refine WP.seq ?_
   refine WP.sr [1, 3, 4, 5, 30] (by kernel_rfl) fun K hK => ?_
   simp (decide := true) only [TF, q2, hg, hnf, ↓reduceIte, Int.reduceToNat]
   refine hK _ _ ?_; clear hK K
   refine WP.meetQ ⟨[(3, .str (Lib.join (wC p k) [32] ++ ([32] ++ leadW k ++ [32]))), (1, .ref 0 0), (4, .int .i64 k), (5, .ref 1 0)], [(0, .box 36 [.str p.name, .bool p.deny, .slice 3 p.nc (p.conds.map Cond.cs) none, .slice 1 p.ns (p.scopes.map fun x => [.str x]) none, .int .i64 p.lvl, .int .i64 p.age]), (1, .box 43 [.str p.conds[k].f, .str p.conds[k].op, .str p.conds[k].v])]⟩ ?_ ?_
   ·
    refine WP.cond (b := _) rfl (fun q3 => ?_) (fun q3 => ?_)
    ·
     have hkz : k = 0 := by simpa using q3
     refine WP.region (by kernel_rfl) fun K hK => ?_
     simp (decide := true) only [TF, q2, hg, hnf, q3, ↓reduceIte, Int.reduceToNat]
     refine ⟨by first | omega | (simp only [List.length_append, List.length_cons, List.length_nil]; omega), ?_⟩
     refine hK _ _ ?_; clear hK K
     show Weak _ _ _
     exact Weak.store (by simp [St.get, lk, W, Le.refl, q2, hg, hnf, q3, leadW, hkz]) (by simp [lk, W, q2, hg, hnf, q3]) (by simp [lk, W]) (by simp [BClo, lk]) (by simp [lk])
    ·
     have hkz : ¬ k = 0 := by simpa using q3
     refine WP.region (by kernel_rfl) fun K hK => ?_
     simp (decide := true) only [TF, q2, hg, hnf, q3, ↓reduceIte, Int.reduceToNat]
     refine ⟨by first | omega | (simp only [List.length_append, List.length_cons, List.length_nil]; omega), ?_⟩
     refine hK _ _ ?_; clear hK K
     show Weak _ _ _
     exact Weak.store (by simp [St.get, lk, W, Le.refl, q2, hg, hnf, q3, leadW, hkz]) (by simp [lk, W, q2, hg, hnf, q3]) (by simp [lk, W]) (by simp [BClo, lk]) (by simp [lk])
   ·
    refine WP.drawn (by kernel_rfl) (by kernel_rfl) fun K hK => ?_
    simp (decide := true) only [TF, q2, hg, hnf, ↓reduceIte, Int.reduceToNat]
    refine ⟨by first | omega | (simp only [List.length_append, List.length_cons, List.length_nil]; omega), ?_⟩
    refine ⟨by first | omega | (simp only [List.length_append, List.length_cons, List.length_nil]; omega), ?_⟩
    refine ⟨by first | omega | (simp only [List.length_append, List.length_cons, List.length_nil]; omega), ?_⟩
    refine ⟨by first | omega | (simp only [List.length_append, List.length_cons, List.length_nil]; omega), ?_⟩
    refine CallK.pure (c_r_escape p.conds[k].v (by omega)) rfl rfl (by simp [-List.map_take]) ?_
    simp (decide := true) only [TF, q2, hg, hnf, ↓reduceIte, Int.reduceToNat]
    refine ⟨by first | omega | (simp only [List.length_append, List.length_cons, List.length_nil]; omega), ?_⟩
    refine hK _ _ (by kernel_rfl) ?_
    clear hK K
    show WP _ _ _ _ _ _
    refine WP.region (by kernel_rfl) fun K hK => ?_
    simp (decide := true) only [TF, q2, hg, hnf, ↓reduceIte, Int.reduceToNat]
    refine hK _ _ ?_; clear hK K
    show ∃ y, _ ∧ Weak _ _ _
    refine ⟨⟨k + 1, ?_⟩, ?_, ?_⟩
    · show k + 1 ≤ p.conds.length; omega
    · dsimp only; omega
    · exact Weak.store (by simp [St.get, lk, W, Le.refl, q2, hg, hnf, hnx, wrapS hlt (show p.conds.length ≤ 140737488355328 by have := hp.2.1; omega)]) (by simp [lk, W, q2, hg, hnf]) (by simp [lk, W]) (by simp [BClo, lk]) (by simp [lk])
  ·
   have hge := ge_of_q q2
   obtain rfl : k = p.conds.length := by omega
   have hjl := joinC_len p hp _ hk
   refine WP.exit ?_
   show WP _ _ _ _ _ _
   refine WP.seq ?_
   refine WP.sr [1, 3, 51] (by kernel_rfl) fun K hK => ?_
   simp (decide := true) only [TF, q2, ↓reduceIte, Int.reduceToNat]
   refine hK _ _ ?_; clear hK K
   refine WP.cond (b := _) rfl (fun q4 => ?_) (fun q4 => ?_)
   ·
    have hpr : preJ p = Lib.join (wC p p.conds.length) [32] ++ [32, 115, 99, 111, 112, 101, 115] := by rw [preJ, if_pos q4]
    refine WP.region (by kernel_rfl) fun K hK => ?_
    simp (decide := true) only [TF, q2, q4, ↓reduceIte, Int.reduceToNat]
    refine ⟨by first | omega | (simp only [List.length_append, List.length_cons, List.length_nil]; omega), ?_⟩
    refine hK _ _ ?_; clear hK K
    show WP _ _ _ _ _ _
    refine WP.seq ?_
    refine WP.sr [1, 3, 6] (by kernel_rfl) fun K hK => ?_
    simp (decide := true) only [TF, q2, q4, ↓reduceIte, Int.reduceToNat]
    refine hK _ _ ?_; clear hK K
    refine WP.block ?_
    refine WP.lp [1] (X := {j : Nat // j ≤ p.scopes.length}) (fun x => match x with | ⟨(j), _⟩ => [(3, .str (preJ p ++ spS (p.scopes.take j))), (6, .int .i64 j)]) (fun x => match x with | ⟨(j), _⟩ => [(0, .box 36 [.str p.name, .bool p.deny, .slice 3 p.nc (p.conds.map Cond.cs) none, .slice 1 p.ns (p.scopes.map fun x => [.str x]) none, .int .i64 p.lvl, .int .i64 p.age])]) (fun x => match x with | ⟨(j), _⟩ => p.scopes.length - j) (by simp (decide := true) only [W, ↓reduceIte, Int.reduceToNat]; rfl) ?_ ⟨(0), Nat.zero_le _⟩ ?_
    rotate_left
    · exact Weak.store (by simp [St.get, lk, W, Le.refl, hpr, q2, q4, spS_nil]) (by simp [lk, W, q2, q4]) (by simp [lk, W]) (by simp [BClo, lk]) (by simp [lk])
    rintro ⟨j, hj⟩
    dsimp only
    simp only [List.cons_append, List.nil_append]
    refine WP.seq ?_
    refine WP.sr [1, 3, 6, 58] (by kernel_rfl) fun K hK => ?_
    simp (decide := true) only [TF, q2, q4, ↓reduceIte, Int.reduceToNat]
    refine hK _ _ ?_; clear hK K
    refine WP.cond (b := _) rfl (fun q5 => ?_) (fun q5 => ?_)
    ·
     have hlj := lt_of_q q5
     have hg : (p.scopes.map fun x => [D.str x])[j]? = some [.str p.scopes[j]] := getM hlj
     have hnf := nl_false hp.2.2.2.2.2.2.1 hlj
     have hsl := hp.2.2.2.2.1 _ (List.getElem_mem hlj)
     have hnx := flatS_next p.scopes j hlj
     have hfl := flatS_len p hp j
     have hpj := preJ_len p hp
     refine WP.skip ?_
     show WP _ _ _ _ _ _
     refine WP.seq ?_
     refine WP.block ?_
     refine WP.region (by kernel_rfl) fun K hK => ?_
     simp (decide := true) only [TF, q2, q4, q5, hg, hnf, ↓reduceIte, Int.reduceToNat]
     refine ⟨by first | omega | (simp only [List.length_append, List.length_cons, List.length_nil]; omega), ?_⟩
     refine ⟨by first | omega | (simp only [List.length_append, List.length_cons, List.length_nil]; omega), ?_⟩
     refine hK _ _ ?_; clear hK K
     show WP _ _ _ _ _ _
     refine WP.region (by kernel_rfl) fun K hK => ?_
     simp (decide := true) only [TF, q2, q4, q5, hg, hnf, ↓reduceIte, Int.reduceToNat]
     refine hK _ _ ?_; clear hK K
     show ∃ y, _ ∧ Weak _ _ _
     refine ⟨⟨j + 1, ?_⟩, ?_, ?_⟩
     · show j + 1 ≤ p.scopes.length; omega
     · dsimp only; omega
     · exact Weak.store (by simp [St.get, lk, W, Le.refl, q2, q4, q5, hg, hnf, hnx, wrapS hlj (show p.scopes.length ≤ 140737488355328 by have := hp.2.2.2.1; omega)]) (by simp [lk, W, q2, q4, q5, hg, hnf]) (by simp [lk, W]) (by simp [BClo, lk]) (by simp [lk])
    ·
     have hgj := ge_of_q q5
     obtain rfl : j = p.scopes.length := by omega
     have hfl := flatS_len p hp p.scopes.length
     have hpj := preJ_len p hp
     rw [List.take_length] at hfl ⊢
     have i1 := Lib.itoa_length_le p.lvl hp.2.2.2.2.2.2.2.1.1 hp.2.2.2.2.2.2.2.1.2
     have i2 := Lib.itoa_length_le p.age hp.2.2.2.2.2.2.2.2.1 hp.2.2.2.2.2.2.2.2.2
     refine WP.exit ?_
     show WP _ _ _ _ _ _
     refine WP.seq ?_
     refine WP.sr [1, 3, 71] (by kernel_rfl) fun K hK => ?_
     simp (decide := true) only [TF, q2, q4, q5, ↓reduceIte, Int.reduceToNat]
     refine hK _ _ ?_; clear hK K
     refine WP.cond (b := _) rfl (fun q6 => ?_) (fun q6 => ?_)
     ·
      refine WP.region (by kernel_rfl) fun K hK => ?_
      simp (decide := true) only [TF, q2, q4, q5, q6, ↓reduceIte, Int.reduceToNat]
      refine ⟨by first | omega | (simp only [List.length_append, List.length_cons, List.length_nil]; omega), ?_⟩
      refine CallK.pure (c_r_int p.lvl hp.2.2.2.2.2.2.2.1.1 hp.2.2.2.2.2.2.2.1.2) rfl rfl (by simp [-List.map_take]) ?_
      simp (decide := true) only [TF, q2, q4, q5, q6, ↓reduceIte, Int.reduceToNat]
      refine ⟨by first | omega | (simp only [List.length_append, List.length_cons, List.length_nil]; omega), ?_⟩
      refine hK _ _ ?_; clear hK K
      show WP _ _ _ _ _ _
      refine WP.seq ?_
      refine WP.sr [1, 3, 80] (by kernel_rfl) fun K hK => ?_
      simp (decide := true) only [TF, q2, q4, q5, q6, ↓reduceIte, Int.reduceToNat]
      refine hK _ _ ?_; clear hK K
      refine WP.cond (b := _) rfl (fun q7 => ?_) (fun q7 => ?_)
      ·
       refine WP.region (by kernel_rfl) fun K hK => ?_
       simp (decide := true) only [TF, q2, q4, q5, q6, q7, ↓reduceIte, Int.reduceToNat]
       refine ⟨by first | omega | (simp only [List.length_append, List.length_cons, List.length_nil]; omega), ?_⟩
       refine CallK.pure (c_r_int p.age hp.2.2.2.2.2.2.2.2.1 hp.2.2.2.2.2.2.2.2.2) rfl rfl (by simp [-List.map_take]) ?_
       simp (decide := true) only [TF, q2, q4, q5, q6, q7, ↓reduceIte, Int.reduceToNat]
       refine ⟨by first | omega | (simp only [List.length_append, List.length_cons, List.length_nil]; omega), ?_⟩
       refine hK _ _ ?_; clear hK K
       show WP _ _ _ _ _ _
       refine WP.sr [2] (by kernel_rfl) fun K hK => ?_
       simp (decide := true) only [TF, q2, q4, q5, q6, q7, ↓reduceIte, Int.reduceToNat]
       refine ⟨by first | omega | (simp only [List.length_append, List.length_cons, List.length_nil]; omega), ?_⟩
       refine hK _ _ ?_; clear hK K
       refine WP.ret ?_
       exact Ends.pure (.inr rfl) rfl (Le.of_eq (by have hz := lineB_eq p; simp (decide := true) only [q2, q4, q5, q6, q7, ↓reduceIte, W] at hz; simp (decide := true) only [St.get, lk, W, hz]; simp [lk])) (by simp)
      ·
       refine WP.skip ?_
       show WP _ _ _ _ _ _
       refine WP.sr [2] (by kernel_rfl) fun K hK => ?_
       simp (decide := true) only [TF, q2, q4, q5, q6, q7, ↓reduceIte, Int.reduceToNat]
       refine ⟨by first | omega | (simp only [List.length_append, List.length_cons, List.length_nil]; omega), ?_⟩
       refine hK _ _ ?_; clear hK K
       refine WP.ret ?_
       exact Ends.pure (.inr rfl) rfl (Le.of_eq (by have hz := lineB_eq p; simp (decide := true) only [q2, q4, q5, q6, q7, ↓reduceIte, W] at hz; simp (decide := true) only [St.get, lk, W, hz]; simp [lk])) (by simp)
     ·
      refine WP.skip ?_
      show WP _ _ _ _ _ _
      refine WP.seq ?_
      refine WP.sr [1, 3, 80] (by kernel_rfl) fun K hK => ?_
      simp (decide := true) only [TF, q2, q4, q5, q6, ↓reduceIte, Int.reduceToNat]
      refine hK _ _ ?_; clear hK K
      refine WP.cond (b := _) rfl (fun q8 => ?_) (fun q8 => ?_)
      ·
       refine WP.region (by kernel_rfl) fun K hK => ?_
       simp (decide := true) only [TF, q2, q4, q5, q6, q8, ↓reduceIte, Int.reduceToNat]
       refine ⟨by first | omega | (simp only [List.length_append, List.length_cons, List.length_nil]; omega), ?_⟩
       refine CallK.pure (c_r_int p.age hp.2.2.2.2.2.2.2.2.1 hp.2.2.2.2.2.2.2.2.2) rfl rfl (by simp [-List.map_take]) ?_
       simp (decide := true) only [TF, q2, q4, q5, q6, q8, ↓reduceIte, Int.reduceToNat]
       refine ⟨by first | omega | (simp only [List.length_append, List.length_cons, List.length_nil]; omega), ?_⟩
       refine hK _ _ ?_; clear hK K
       show WP _ _ _ _ _ _
       refine WP.sr [2] (by kernel_rfl) fun K hK => ?_
       simp (decide := true) only [TF, q2, q4, q5, q6, q8, ↓reduceIte, Int.reduceToNat]
       refine ⟨by first | omega | (simp only [List.length_append, List.length_cons, List.length_nil]; omega), ?_⟩
       refine hK _ _ ?_; clear hK K
       refine WP.ret ?_
       exact Ends.pure (.inr rfl) rfl (Le.of_eq (by have hz := lineB_eq p; simp (decide := true) only [q2, q4, q5, q6, q8, ↓reduceIte, W] at hz; simp (decide := true) only [St.get, lk, W, hz]; simp [lk])) (by simp)
      ·
       refine WP.skip ?_
       show WP _ _ _ _ _ _
       refine WP.sr [2] (by kernel_rfl) fun K hK => ?_
       simp (decide := true) only [TF, q2, q4, q5, q6, q8, ↓reduceIte, Int.reduceToNat]
       refine ⟨by first | omega | (simp only [List.length_append, List.length_cons, List.length_nil]; omega), ?_⟩
       refine hK _ _ ?_; clear hK K
       refine WP.ret ?_
       exact Ends.pure (.inr rfl) rfl (Le.of_eq (by have hz := lineB_eq p; simp (decide := true) only [q2, q4, q5, q6, q8, ↓reduceIte, W] at hz; simp (decide := true) only [St.get, lk, W, hz]; simp [lk])) (by simp)
   ·
    have hpr : preJ p = Lib.join (wC p p.conds.length) [32] := by rw [preJ, if_neg (by rw [q4]; decide)]; simp
    refine WP.skip ?_
    show WP _ _ _ _ _ _
    refine WP.seq ?_
    refine WP.sr [1, 3, 6] (by kernel_rfl) fun K hK => ?_
    simp (decide := true) only [TF, q2, q4, ↓reduceIte, Int.reduceToNat]
    refine hK _ _ ?_; clear hK K
    refine WP.block ?_
    refine WP.lp [1] (X := {j : Nat // j ≤ p.scopes.length}) (fun x => match x with | ⟨(j), _⟩ => [(3, .str (preJ p ++ spS (p.scopes.take j))), (6, .int .i64 j)]) (fun x => match x with | ⟨(j), _⟩ => [(0, .box 36 [.str p.name, .bool p.deny, .slice 3 p.nc (p.conds.map Cond.cs) none, .slice 1 p.ns (p.scopes.map fun x => [.str x]) none, .int .i64 p.lvl, .int .i64 p.age])]) (fun x => match x with | ⟨(j), _⟩ => p.scopes.length - j) (by simp (decide := true) only [W, ↓reduceIte, Int.reduceToNat]; rfl) ?_ ⟨(0), Nat.zero_le _⟩ ?_
    rotate_left
    · exact Weak.store (by simp [St.get, lk, W, Le.refl, hpr, q2, q4, spS_nil]) (by simp [lk, W, q2, q4]) (by simp [lk, W]) (by simp [BClo, lk]) (by simp [lk])
    rintro ⟨j, hj⟩
    dsimp only
    simp only [List.cons_append, List.nil_append]
    refine WP.seq ?_
    refine WP.sr [1, 3, 6, 58] (by kernel_rfl) fun K hK => ?_
    simp (decide := true) only [TF, q2, q4, ↓reduceIte, Int.reduceToNat]
    refine hK _ _ ?_; clear hK K
    refine WP.cond (b := _) rfl (fun q9 => ?_) (fun q9 => ?_)
    ·
     have hlj := lt_of_q q9
     have hg : (p.scopes.map fun x => [D.str x])[j]? = some [.str p.scopes[j]] := getM hlj
     have hnf := nl_false hp.2.2.2.2.2.2.1 hlj
     have hsl := hp.2.2.2.2.1 _ (List.getElem_mem hlj)
     have hnx := flatS_next p.scopes j hlj
     have hfl := flatS_len p hp j
     have hpj := preJ_len p hp
     refine WP.skip ?_
     show WP _ _ _ _ _ _
     refine WP.seq ?_
     refine WP.block ?_
     refine WP.region (by kernel_rfl) fun K hK => ?_
     simp (decide := true) only [TF, q2, q4, q9, hg, hnf, ↓reduceIte, Int.reduceToNat]
     refine ⟨by first | omega | (simp only [List.length_append, List.length_cons, List.length_nil]; omega), ?_⟩
     refine ⟨by first | omega | (simp only [List.length_append, List.length_cons, List.length_nil]; omega), ?_⟩
     refine hK _ _ ?_; clear hK K
     show WP _ _ _ _ _ _
     refine WP.region (by kernel_rfl) fun K hK => ?_
     simp (decide := true) only [TF, q2, q4, q9, hg, hnf, ↓reduceIte, Int.reduceToNat]
     refine hK _ _ ?_; clear hK K
     show ∃ y, _ ∧ Weak _ _ _
     refine ⟨⟨j + 1, ?_⟩, ?_, ?_⟩
     · show j + 1 ≤ p.scopes.length; omega
     · dsimp only; omega
     · exact Weak.store (by simp [St.get, lk, W, Le.refl, q2, q4, q9, hg, hnf, hnx, wrapS hlj (show p.scopes.length ≤ 140737488355328 by have := hp.2.2.2.1; omega)]) (by simp [lk, W, q2, q4, q9, hg, hnf]) (by simp [lk, W]) (by simp [BClo, lk]) (by simp [lk])
    ·
     have hgj := ge_of_q q9
     obtain rfl : j = p.scopes.length := by omega
     have hfl := flatS_len p hp p.scopes.length
     have hpj := preJ_len p hp
     rw [List.take_length] at hfl ⊢
     have i1 := Lib.itoa_length_le p.lvl hp.2.2.2.2.2.2.2.1.1 hp.2.2.2.2.2.2.2.1.2
     have i2 := Lib.itoa_length_le p.age hp.2.2.2.2.2.2.2.2.1 hp.2.2.2.2.2.2.2.2.2
     refine WP.exit ?_
     show WP _ _ _ _ _ _
     refine WP.seq ?_
     refine WP.sr [1, 3, 71] (by kernel_rfl) fun K hK => ?_
     simp (decide := true) only [TF, q2, q4, q9, ↓reduceIte, Int.reduceToNat]
     refine hK _ _ ?_; clear hK K
     refine WP.cond (b := _) rfl (fun q10 => ?_) (fun q10 => ?_)
     ·
      refine WP.region (by kernel_rfl) fun K hK => ?_
      simp (decide := true) only [TF, q2, q4, q9, q10, ↓reduceIte, Int.reduceToNat]
      refine ⟨by first | omega | (simp only [List.length_append, List.length_cons, List.length_nil]; omega), ?_⟩
      refine CallK.pure (c_r_int p.lvl hp.2.2.2.2.2.2.2.1.1 hp.2.2.2.2.2.2.2.1.2) rfl rfl (by simp [-List.map_take]) ?_
      simp (decide := true) only [TF, q2, q4, q9, q10, ↓reduceIte, Int.reduceToNat]
      refine ⟨by first | omega | (simp only [List.length_append, List.length_cons, List.length_nil]; omega), ?_⟩
      refine hK _ _ ?_; clear hK K
      show WP _ _ _ _ _ _
      refine WP.seq ?_
      refine WP.sr [1, 3, 80] (by kernel_rfl) fun K hK => ?_
      simp (decide := true) only [TF, q2, q4, q9, q10, ↓reduceIte, Int.reduceToNat]
      refine hK _ _ ?_; clear hK K
      refine WP.cond (b := _) rfl (fun q11 => ?_) (fun q11 => ?_)
      ·
       refine WP.region (by kernel_rfl) fun K hK => ?_
       simp (decide := true) only [TF, q2, q4, q9, q10, q11, ↓reduceIte, Int.reduceToNat]
       refine ⟨by first | omega | (simp only [List.length_append, List.length_cons, List.length_nil]; omega), ?_⟩
       refine CallK.pure (c_r_int p.age hp.2.2.2.2.2.2.2.2.1 hp.2.2.2.2.2.2.2.2.2) rfl rfl (by simp [-List.map_take]) ?_
       simp (decide := true) only [TF, q2, q4, q9, q10, q11, ↓reduceIte, Int.reduceToNat]
       refine ⟨by first | omega | (simp only [List.length_append, List.length_cons, List.length_nil]; omega), ?_⟩
       refine hK _ _ ?_; clear hK K
       show WP _ _ _ _ _ _
       refine WP.sr [2] (by kernel_rfl) fun K hK => ?_
       simp (decide := true) only [TF, q2, q4, q9, q10, q11, ↓reduceIte, Int.reduceToNat]
       refine ⟨by first | omega | (simp only [List.length_append, List.length_cons, List.length_nil]; omega), ?_⟩
       refine hK _ _ ?_; clear hK K
       refine WP.ret ?_
       exact Ends.pure (.inr rfl) rfl (Le.of_eq (by have hz := lineB_eq p; simp (decide := true) only [q2, q4, q9, q10, q11, ↓reduceIte, W] at hz; simp (decide := true) only [St.get, lk, W, hz]; simp [lk])) (by simp)
      ·
       refine WP.skip ?_
       show WP _ _ _ _ _ _
       refine WP.sr [2] (by kernel_rfl) fun K hK => ?_
       simp (decide := true) only [TF, q2, q4, q9, q10, q11, ↓reduceIte, Int.reduceToNat]
       refine ⟨by first | omega | (simp only [List.length_append, List.length_cons, List.length_nil]; omega), ?_⟩
       refine hK _ _ ?_; clear hK K
       refine WP.ret ?_
       exact Ends.pure (.inr rfl) rfl (Le.of_eq (by have hz := lineB_eq p; simp (decide := true) only [q2, q4, q9, q10, q11, ↓reduceIte, W] at hz; simp (decide := true) only [St.get, lk, W, hz]; simp [lk])) (by simp)
     ·
      refine WP.skip ?_
      show WP _ _ _ _ _ _
      refine WP.seq ?_
      refine WP.sr [1, 3, 80] (by kernel_rfl) fun K hK => ?_
      simp (decide := true) only [TF, q2, q4, q9, q10, ↓reduceIte, Int.reduceToNat]
      refine hK _ _ ?_; clear hK K
      refine WP.cond (b := _) rfl (fun q12 => ?_) (fun q12 => ?_)
      ·
       refine WP.region (by kernel_rfl) fun K hK => ?_
       simp (decide := true) only [TF, q2, q4, q9, q10, q12, ↓reduceIte, Int.reduceToNat]
       refine ⟨by first | omega | (simp only [List.length_append, List.length_cons, List.length_nil]; omega), ?_⟩
       refine CallK.pure (c_r_int p.age hp.2.2.2.2.2.2.2.2.1 hp.2.2.2.2.2.2.2.2.2) rfl rfl (by simp [-List.map_take]) ?_
       simp (decide := true) only [TF, q2, q4, q9, q10, q12, ↓reduceIte, Int.reduceToNat]
       refine ⟨by first | omega | (simp only [List.length_append, List.length_cons, List.length_nil]; omega), ?_⟩
       refine hK _ _ ?_; clear hK K
       show WP _ _ _ _ _ _
       refine WP.sr [2] (by kernel_rfl) fun K hK => ?_
       simp (decide := true) only [TF, q2, q4, q9, q10, q12, ↓reduceIte, Int.reduceToNat]
       refine ⟨by first | omega | (simp only [List.length_append, List.length_cons, List.length_nil]; omega), ?_⟩
       refine hK _ _ ?_; clear hK K
       refine WP.ret ?_
       exact Ends.pure (.inr rfl) rfl (Le.of_eq (by have hz := lineB_eq p; simp (decide := true) only [q2, q4, q9, q10, q12, ↓reduceIte, W] at hz; simp (decide := true) only [St.get, lk, W, hz]; simp [lk])) (by simp)
      ·
       refine WP.skip ?_
       show WP _ _ _ _ _ _
       refine WP.sr [2] (by kernel_rfl) fun K hK => ?_
       simp (decide := true) only [TF, q2, q4, q9, q10, q12, ↓reduceIte, Int.reduceToNat]
       refine ⟨by first | omega | (simp only [List.length_append, List.length_cons, List.length_nil]; omega), ?_⟩
       refine hK _ _ ?_; clear hK K
       refine WP.ret ?_
       exact Ends.pure (.inr rfl) rfl (Le.of_eq (by have hz := lineB_eq p; simp (decide := true) only [q2, q4, q9, q10, q12, ↓reduceIte, W] at hz; simp (decide := true) only [St.get, lk, W, hz]; simp [lk])) (by simp)
theorem c_r_text (l : List Rule) (nl : Bool) (hn : l.length ≤ 1099511627776) (hnl : nl = true → l = []) (hl : ∀ p ∈ l, p.sm) : CallP Pr 14 [.slice 6 nl (l.map Rule.cs) none] (textD l) := by
 refine CallP.of_wp Tryz.func14 rfl (by kernel_rfl) Tryz.ntmps14 (by simp) ?_
 simp only [frameOf, Nat.reduceAdd, Nat.zero_add]
 refine WP.sr [0] (by kernel_rfl) fun K hK => ?_
 simp (decide := true) only [TF, ↓reduceIte, Int.reduceToNat]
 refine hK _ _ ?_; clear hK K
 refine WP.seq ?_
 refine WP.sr [0, 4] (by kernel_rfl) fun K hK => ?_
 simp (decide := true) only [TF, ↓reduceIte, Int.reduceToNat]
 refine CallK.pure (c_r_check l nl hn hnl (fun p hp => (hl p hp).ok)) rfl rfl (by simp [-List.map_take]) ?_
 simp (decide := true) only [TF, ↓reduceIte, Int.reduceToNat]
 refine hK _ _ ?_; clear hK K
 refine WP.sr [0, 4, 10] (by kernel_rfl) fun K hK => ?_
 simp (decide := true) only [TF, ↓reduceIte, Int.reduceToNat]
 refine hK _ _ ?_; clear hK K
 refine WP.cond (b := _) rfl (fun q1 => ?_) (fun q1 => ?_)
 ·
  refine WP.sr [2, 3] (by kernel_rfl) fun K hK => ?_
  simp (decide := true) only [TF, q1, ↓reduceIte, Int.reduceToNat]
  refine hK _ _ ?_; clear hK K
  refine WP.ret ?_
  exact Ends.pure (d := .tup [_, _]) (.inr rfl) rfl (Le.of_eq (by simp (decide := true) only [St.get, lk, W, textD, q1, ↓reduceIte])) (by simp)
 ·
  have h0 : checkE l = 0 := by simpa using q1
  have h64 := check_64 h0
  have htx := textB_take l hl
  refine WP.skip ?_
  show WP _ _ _ _ _ _
  refine WP.sr [0, 5] (by kernel_rfl) fun K hK => ?_
  simp (decide := true) only [TF, q1, h0, ↓reduceIte, Int.reduceToNat]
  refine hK _ _ ?_; clear hK K
  refine WP.seq ?_
  refine WP.sr [0, 5, 6] (by kernel_rfl) fun K hK => ?_
  simp (decide := true) only [TF, q1, h0, ↓reduceIte, Int.reduceToNat]
  refine hK _ _ ?_; clear hK K
  refine WP.block ?_
  refine WP.lp [0] (X := {k : Nat // k ≤ l.length}) (fun x => match x with | ⟨(k), _⟩ => [(5, .str (textB (l.take k))), (6, .int .i64 k)]) (fun x => match x with | ⟨(k), _⟩ => []) (fun x => match x with | ⟨(k), _⟩ => l.length - k) (by simp (decide := true) only [W, ↓reduceIte, Int.reduceToNat]; rfl) ?_ ⟨(0), Nat.zero_le _⟩ ?_
  rotate_left
  · exact Weak.nil (by simp [St.get, lk, W, Le.refl, textB, q1, h0]) (by simp [W])
  rintro ⟨k, hk⟩
  dsimp only
  simp only [List.cons_append, List.nil_append]
  refine WP.seq ?_
  refine WP.sr [0, 5, 6, 15] (by kernel_rfl) fun K hK => ?_
  simp (decide := true) only [TF, q1, h0, ↓reduceIte, Int.reduceToNat]
  refine hK _ _ ?_; clear hK K
  refine WP.cond (b := _) rfl (fun q2 => ?_) (fun q2 => ?_)
  ·
   have hlt := lt_of_q q2
   have hg : (l.map Rule.cs)[k]? = some [.str l[k].name, .bool l[k].deny, .slice 3 l[k].nc (l[k].conds.map Cond.cs) none, .slice 1 l[k].ns (l[k].scopes.map fun x => [.str x]) none, .int .i64 l[k].lvl, .int .i64 l[k].age] := getM hlt
   have hnf := nl_false hnl hlt
   have hp := hl _ (List.getElem_mem hlt)
   have hll := lineB_len l[k] hp
   have hnx := textB_next l k hlt
   have htk := htx k (by omega)
   refine WP.skip ?_
   show WP _ _ _ _ _ _
   refine WP.seq ?_
   refine WP.block ?_
   refine WP.region (by kernel_rfl) fun K hK => ?_
   simp (decide := true) only [TF, q1, h0, q2, hg, hnf, ↓reduceIte, Int.reduceToNat]
   refine CallK.pure (c_r_line l[k] hp) rfl rfl (by simp [-List.map_take]) ?_
   simp (decide := true) only [TF, q1, h0, q2, hg, hnf, ↓reduceIte, Int.reduceToNat]
   refine ⟨by first | omega | (simp only [List.length_append, List.length_cons, List.length_nil]; omega), ?_⟩
   refine hK _ _ ?_; clear hK K
   show WP _ _ _ _ _ _
   refine WP.region (by kernel_rfl) fun K hK => ?_
   simp (decide := true) only [TF, q1, h0, q2, hg, hnf, ↓reduceIte, Int.reduceToNat]
   refine hK _ _ ?_; clear hK K
   show ∃ y, _ ∧ Weak _ _ _
   refine ⟨⟨k + 1, ?_⟩, ?_, Weak.nil ?_ ?_⟩
   · show k + 1 ≤ l.length; omega
   · dsimp only; omega
   · simp [St.get, lk, W, Le.refl, q1, h0, q2, hg, hnf, hnx, wrapS hlt (show l.length ≤ 140737488355328 by omega)]
   · simp [W]
  ·
   have hge := ge_of_q q2
   obtain rfl : k = l.length := by omega
   have htk := htx l.length h64
   rw [List.take_length] at htk ⊢
   refine WP.exit ?_
   show WP _ _ _ _ _ _
   refine WP.seq ?_
   refine WP.sr [5, 27] (by kernel_rfl) fun K hK => ?_
   simp (decide := true) only [TF, q1, h0, q2, ↓reduceIte, Int.reduceToNat]
   refine hK _ _ ?_; clear hK K
   refine WP.cond (b := _) rfl (fun q3 => ?_) (fun q3 => ?_)
   ·
    refine WP.sr [2, 3] (by kernel_rfl) fun K hK => ?_
    simp (decide := true) only [TF, q1, h0, q2, q3, ↓reduceIte, Int.reduceToNat]
    refine hK _ _ ?_; clear hK K
    refine WP.ret ?_
    exact Ends.pure (d := .tup [_, _]) (.inr rfl) rfl (Le.of_eq (by simp (decide := true) only [St.get, lk, W, textD, q1, h0, q2, q3, ↓reduceIte])) (by simp)
   ·
    refine WP.skip ?_
    show WP _ _ _ _ _ _
    refine WP.sr [2, 3] (by kernel_rfl) fun K hK => ?_
    simp (decide := true) only [TF, q1, h0, q2, q3, ↓reduceIte, Int.reduceToNat]
    refine hK _ _ ?_; clear hK K
    refine WP.ret ?_
    exact Ends.pure (d := .tup [_, _]) (.inr rfl) rfl (Le.of_eq (by simp (decide := true) only [St.get, lk, W, textD, q1, h0, q2, q3, ↓reduceIte])) (by simp)
end Go.Proofs

set_option linter.unusedSimpArgs false
set_option linter.unusedVariables false
namespace Go.Proofs
open Go Go.Id
abbrev Wds := List (List UInt8)
def hdB (ws : Wds) (w : List UInt8) : Bool := ws.head? == some w
def tlW (ws : Wds) (w : List UInt8) : Wds := if hdB ws w then ws.tail else ws
theorem hd_cases (ws : Wds) : ws = [] ∨ ∃ x t, ws = x :: t := by cases ws <;> simp
theorem takeMap {α β : Type} (f : α → β) (l : List α) : (l.map f).take l.length = l.map f := by rw [← List.length_map (f := f), List.take_length]
theorem hdB_cons (x : List UInt8) (t : Wds) (w : List UInt8) : hdB (x :: t) w = (x == w) := by simp [hdB]
theorem hdB_nil (w : List UInt8) : hdB [] w = false := rfl
theorem hdB_t {ws : Wds} {w : List UInt8} (h : hdB ws w = true) : ws = w :: ws.tail := by
  cases ws with
  | nil => cases h
  | cons x t => rw [hdB_cons] at h; simp at h; simp [h]
/-- condition. -/
def cdV (ws : Wds) : Bool := match ws with | _ :: _ :: v :: _ => (unB v).isSome | _ => false
def cdW (ws : Wds) : Wds := match ws with | _ :: _ :: _ :: t => t | ws => ws
def cdC (ws : Wds) (cs : List Cond) : List Cond := match ws with | f :: op :: v :: _ => cs ++ [⟨f, op, (unB v).getD []⟩] | _ => cs
theorem cd_cases (ws : Wds) : (ws.length < 3 ∧ cdV ws = false ∧ cdW ws = ws ∧ ∀ cs, cdC ws cs = cs) ∨ ∃ f op v t, ws = f :: op :: v :: t := by
  match ws with
  | [] => exact .inl ⟨by simp, rfl, rfl, fun _ => rfl⟩
  | [_] => exact .inl ⟨by simp, rfl, rfl, fun _ => rfl⟩
  | [_, _] => exact .inl ⟨by simp, rfl, rfl, fun _ => rfl⟩
  | f :: op :: v :: t => exact .inr ⟨f, op, v, t, rfl⟩
theorem un_cases (v : List UInt8) : (∃ u, unD (unB v) = .tup [.str u, .int .i64 0] ∧ unB v = some u) ∨ (unD (unB v) = .tup [.str [], .int .i64 4] ∧ unB v = none) := by
  cases h : unB v with
  | none => exact .inr ⟨rfl, rfl⟩
  | some u => exact .inl ⟨u, rfl, rfl⟩
theorem unD_s (u : List UInt8) : unD (some u) = .tup [.str u, .int .i64 0] := rfl
theorem unD_n : unD none = .tup [.str [], .int .i64 4] := rfl
theorem mapC (l : List Cond) (f op v : List UInt8) : l.map Cond.cs ++ [[.str f, .str op, .str v]] = (l ++ [(⟨f, op, v⟩ : Cond)]).map Cond.cs := by simp [Cond.cs]
theorem isE1 {α : Type} (l : List α) (x : α) : (l ++ [x]).isEmpty = false := by cases l <;> rfl
/-- scopes. -/
def scR : Wds → Wds → Wds × Wds
  | [], sc => ([], sc)
  | x :: t, sc => if (x == [108, 101, 118, 101, 108] || x == [97, 103, 101]) = true then (x :: t, sc) else scR t (sc ++ [x])
theorem scR_len : ∀ (ws sc : Wds), (scR ws sc).1.length ≤ ws.length ∧ (scR ws sc).1.length + (scR ws sc).2.length = ws.length + sc.length
  | [], sc => by simp [scR]
  | x :: t, sc => by
    have := scR_len t (sc ++ [x])
    simp only [List.length_append, List.length_cons, List.length_nil] at this
    unfold scR
    split
    · simp
    · simp only [List.length_cons]; omega
theorem scR_mem : ∀ (ws sc : Wds), (∀ x ∈ (scR ws sc).1, x ∈ ws) ∧ (∀ x ∈ (scR ws sc).2, x ∈ ws ∨ x ∈ sc)
  | [], sc => by simp [scR]
  | y :: t, sc => by
    obtain ⟨h1, h2⟩ := scR_mem t (sc ++ [y])
    unfold scR
    split
    · exact ⟨fun x hx => hx, fun x hx => .inr hx⟩
    · refine ⟨fun x hx => List.mem_cons_of_mem _ (h1 x hx), fun x hx => ?_⟩
      rcases h2 x hx with h | h
      · exact .inl (List.mem_cons_of_mem _ h)
      · rcases List.mem_append.1 h with h | h
        · exact .inr h
        · simp at h; subst h; simp
/-- count. -/
def cntR (ws : Wds) (w : List UInt8) : Int × Bool × Wds :=
  if hdB ws w then (match ws.tail with | [] => (0, false, []) | x :: u => ((rdN x).1, (rdN x).2 == 0 && (rdN x).1 != 0, u)) else (0, true, ws)
theorem cntR_suf (ws : Wds) (w : List UInt8) : (∀ x ∈ (cntR ws w).2.2, x ∈ ws) ∧ (cntR ws w).2.2.length ≤ ws.length := by
  unfold cntR
  split
  · match ws with
    | [] => simp
    | [_] => simp
    | a :: b :: u => exact ⟨fun x hx => List.mem_cons_of_mem _ (List.mem_cons_of_mem _ hx), by simp; omega⟩
  · exact ⟨fun x hx => hx, Nat.le_refl _⟩
/-- The conditions. -/
def cdR (n : Nat) (lead : List UInt8) (ws : Wds) (cs : List Cond) : Bool × Wds × List Cond :=
  match n with
  | 0 => (true, ws, cs)
  | n + 1 => if hdB ws lead then (if cdV ws.tail then cdR n [97, 110, 100] (cdW ws.tail) (cdC ws.tail cs) else (false, cdW ws.tail, cdC ws.tail cs)) else (true, ws, cs)
theorem cdW_len (ws : Wds) : (cdW ws).length ≤ ws.length := by
  rcases cd_cases ws with ⟨_, _, h, _⟩ | ⟨f, op, v, t, rfl⟩
  · rw [h]; exact Nat.le_refl _
  · simp [cdW]; omega
theorem cdW_mem (ws : Wds) : ∀ x ∈ cdW ws, x ∈ ws := by
  rcases cd_cases ws with ⟨_, _, h, _⟩ | ⟨f, op, v, t, rfl⟩
  · rw [h]; exact fun x hx => hx
  · intro x hx; simp only [cdW] at hx; simp [hx]
end Go.Proofs

set_option linter.unusedSimpArgs false
set_option linter.unusedVariables false
set_option maxRecDepth 10000
namespace Go.Proofs
open Go Go.Id

theorem c_next (ws : Wds) (cs : List Cond) (sc : Wds) (lv ag : Int) (nm : List UInt8) (dn : Bool) (w : List UInt8) (hw : ws.length ≤ 1099511627776) : CallE Pr 114 [.ref 0 0, .str w] [(0, .box 97 [.slice 1 false ((ws).map fun x => [D.str x]) none, .str nm, .bool dn, .slice 3 (cs).isEmpty ((cs).map Cond.cs) (some 1), .slice 1 (sc).isEmpty ((sc).map fun x => [D.str x]) (some 2), .int .i64 (lv), .int .i64 (ag)]), (1, .tip 43 3 (cs).length), (2, .tip 9 1 (sc).length)] (.bool (hdB ws w)) [(0, .box 97 [.slice 1 false ((tlW ws w).map fun x => [D.str x]) none, .str nm, .bool dn, .slice 3 (cs).isEmpty ((cs).map Cond.cs) (some 1), .slice 1 (sc).isEmpty ((sc).map fun x => [D.str x]) (some 2), .int .i64 (lv), .int .i64 (ag)]), (1, .tip 43 3 (cs).length), (2, .tip 9 1 (sc).length)] := by
 refine CallE.of_wp Tryz.func114 rfl (by kernel_rfl) Tryz.ntmps114 (by simp) ?_
 simp only [frameOf, Nat.reduceAdd, Nat.zero_add, List.map_cons, List.map_nil]
 rcases hd_cases ws with rfl | ⟨x, t, rfl⟩
 ·
  have z0 : (((0 : Nat) : Int) == 0) = true := rfl
  refine WP.sr [0, 1] (by kernel_rfl) fun K hK => ?_
  simp (decide := true) only [TF, z0, takeMap, le1, ↓reduceIte, Int.reduceToNat]
  refine hK _ _ ?_; clear hK K
  refine WP.seq ?_
  refine WP.sr [0, 20] (by kernel_rfl) fun K hK => ?_
  simp (decide := true) only [TF, z0, takeMap, le1, ↓reduceIte, Int.reduceToNat]
  refine hK _ _ ?_; clear hK K
  refine WP.cond (b := true) (by rfl) (fun _ => ?_) nofun
  refine WP.sr [4] (by kernel_rfl) fun K hK => ?_
  simp (decide := true) only [TF, z0, takeMap, le1, ↓reduceIte, Int.reduceToNat]
  refine hK _ _ ?_; clear hK K
  refine WP.ret ?_
  refine Ends.imp (.inr rfl) rfl (Le.of_eq (by simp [St.get, lk, W, bne, hdB, tlW, z0])) ?_ ?_ ?_
  · simp
  · simp_all [St.get, lk, W, BClo, hdB, tlW]
  · simp [lk]
 ·
  have z0 : (((t.length + 1 : Nat) : Int) == 0) = false := by rw [beq_eq_false_iff_ne]; omega
  refine WP.sr [0, 1] (by kernel_rfl) fun K hK => ?_
  simp (decide := true) only [TF, z0, takeMap, le1, ↓reduceIte, Int.reduceToNat]
  refine hK _ _ ?_; clear hK K
  refine WP.seq ?_
  refine WP.sr [0, 20] (by kernel_rfl) fun K hK => ?_
  simp (decide := true) only [TF, z0, takeMap, le1, ↓reduceIte, Int.reduceToNat]
  refine hK _ _ ?_; clear hK K
  refine WP.cond (b := _) rfl (fun q1 => ?_) (fun q1 => ?_)
  ·
   refine WP.sr [4] (by kernel_rfl) fun K hK => ?_
   simp (decide := true) only [TF, z0, q1, takeMap, le1, ↓reduceIte, Int.reduceToNat]
   refine hK _ _ ?_; clear hK K
   refine WP.ret ?_
   refine Ends.imp (.inr rfl) rfl (Le.of_eq (by simp_all [St.get, lk, W, LN, bne, hdB, tlW])) ?_ ?_ ?_
   · simp
   · simp_all [St.get, lk, W, BClo, hdB, tlW]
   · simp [lk]
  ·
   refine WP.skip ?_
   show WP _ _ _ _ _ _
   refine WP.sr [] (by kernel_rfl) fun K hK => ?_
   simp (decide := true) only [TF, z0, q1, takeMap, le1, ↓reduceIte, Int.reduceToNat]
   refine hK _ _ ?_; clear hK K
   refine WP.sr [4] (by kernel_rfl) fun K hK => ?_
   simp (decide := true) only [TF, z0, q1, takeMap, le1, ↓reduceIte, Int.reduceToNat]
   refine hK _ _ ?_; clear hK K
   refine WP.ret ?_
   refine Ends.imp (.inr rfl) rfl (Le.of_eq (by simp_all [St.get, lk, W, LN, bne, hdB, tlW])) ?_ ?_ ?_
   · simp
   · simp_all [St.get, lk, W, BClo, hdB, tlW]
   · simp [lk]
theorem c_cond_long (f op v : List UInt8) (t : Wds) (cs : List Cond) (sc : Wds) (lv ag : Int) (nm : List UInt8) (dn : Bool) (hv : v.length ≤ 1099511627776) (hcs : cs.length ≤ 1099511627776) : CallE Pr 115 [.ref 0 0] [(0, .box 97 [.slice 1 false ((f :: op :: v :: t).map fun x => [D.str x]) none, .str nm, .bool dn, .slice 3 (cs).isEmpty ((cs).map Cond.cs) (some 1), .slice 1 (sc).isEmpty ((sc).map fun x => [D.str x]) (some 2), .int .i64 (lv), .int .i64 (ag)]), (1, .tip 43 3 (cs).length), (2, .tip 9 1 (sc).length)] (.bool (unB v).isSome) [(0, .box 97 [.slice 1 false ((t).map fun x => [D.str x]) none, .str nm, .bool dn, .slice 3 (cs ++ [(⟨f, op, (unB v).getD []⟩ : Cond)]).isEmpty ((cs ++ [(⟨f, op, (unB v).getD []⟩ : Cond)]).map Cond.cs) (some 1), .slice 1 (sc).isEmpty ((sc).map fun x => [D.str x]) (some 2), .int .i64 (lv), .int .i64 (ag)]), (1, .tip 43 3 (cs ++ [(⟨f, op, (unB v).getD []⟩ : Cond)]).length), (2, .tip 9 1 (sc).length)] := by
 have z0 : decide (((t.length + 1 + 1 + 1 : Nat) : Int) < 3) = false := decide_eq_false (by omega)
 have z3 : (3 ≤ t.length + 1 + 1 + 1) = True := eq_true (by omega)
 refine CallE.of_wp Tryz.func115 rfl (by kernel_rfl) Tryz.ntmps115 (by simp) ?_
 simp only [frameOf, Nat.reduceAdd, Nat.zero_add, List.map_cons, List.map_nil]
 refine WP.sr [0] (by kernel_rfl) fun K hK => ?_
 simp (decide := true) only [TF, z0, z3, takeMap, mapC, unD_s, unD_n, ↓reduceIte, Int.reduceToNat]
 refine hK _ _ ?_; clear hK K
 refine WP.seq ?_
 refine WP.sr [0, 10] (by kernel_rfl) fun K hK => ?_
 simp (decide := true) only [TF, z0, z3, takeMap, mapC, unD_s, unD_n, ↓reduceIte, Int.reduceToNat]
 refine hK _ _ ?_; clear hK K
 refine WP.cond (b := false) (by rfl) nofun (fun _ => ?_)
 refine WP.skip ?_
 show WP _ _ _ _ _ _
 rcases un_cases v with ⟨u, hu, hu2⟩ | ⟨hu, hu2⟩
 ·
  refine WP.sr [0, 3, 4] (by kernel_rfl) fun K hK => ?_
  simp (decide := true) only [TF, z0, z3, hu2, takeMap, mapC, unD_s, unD_n, ↓reduceIte, Int.reduceToNat]
  refine CallK.pure (c_unescape v hv) rfl rfl (by simp [-List.map_take]) ?_
  simp (decide := true) only [TF, z0, z3, hu2, takeMap, mapC, unD_s, unD_n, ↓reduceIte, Int.reduceToNat]
  refine hK _ _ ?_; clear hK K
  refine WP.sd [0, 4] (by kernel_rfl) (by kernel_rfl) fun K hK => ?_
  simp (decide := true) only [TF, z0, z3, hu2, takeMap, mapC, unD_s, unD_n, ↓reduceIte, Int.reduceToNat]
  refine ⟨⟨by simp only [List.length_append, List.length_map, List.length_cons, List.length_nil]; omega, by simp only [List.length_append, List.length_map, List.length_cons, List.length_nil]; omega⟩, ?_⟩
  refine hK _ _ (by kernel_rfl) ?_
  clear hK K
  refine WP.sr [4] (by kernel_rfl) fun K hK => ?_
  simp (decide := true) only [TF, z0, z3, hu2, takeMap, mapC, unD_s, unD_n, ↓reduceIte, Int.reduceToNat]
  refine hK _ _ ?_; clear hK K
  refine WP.sr [2] (by kernel_rfl) fun K hK => ?_
  simp (decide := true) only [TF, z0, z3, hu2, takeMap, mapC, unD_s, unD_n, ↓reduceIte, Int.reduceToNat]
  refine hK _ _ ?_; clear hK K
  refine WP.ret ?_
  refine Ends.imp (.inr rfl) rfl (Le.of_eq (by simp [St.get, lk, W, bne, z0, z3, hu2])) ?_ ?_ ?_
  · simp
  · simp [St.get, lk, W, BClo, z0, z3, hu2, isE1, Cond.cs, or_imp, forall_and]
  · simp [lk]
 ·
  refine WP.sr [0, 3, 4] (by kernel_rfl) fun K hK => ?_
  simp (decide := true) only [TF, z0, z3, hu2, takeMap, mapC, unD_s, unD_n, ↓reduceIte, Int.reduceToNat]
  refine CallK.pure (c_unescape v hv) rfl rfl (by simp [-List.map_take]) ?_
  simp (decide := true) only [TF, z0, z3, hu2, takeMap, mapC, unD_s, unD_n, ↓reduceIte, Int.reduceToNat]
  refine hK _ _ ?_; clear hK K
  refine WP.sd [0, 4] (by kernel_rfl) (by kernel_rfl) fun K hK => ?_
  simp (decide := true) only [TF, z0, z3, hu2, takeMap, mapC, unD_s, unD_n, ↓reduceIte, Int.reduceToNat]
  refine ⟨⟨by simp only [List.length_append, List.length_map, List.length_cons, List.length_nil]; omega, by simp only [List.length_append, List.length_map, List.length_cons, List.length_nil]; omega⟩, ?_⟩
  refine hK _ _ (by kernel_rfl) ?_
  clear hK K
  refine WP.sr [4] (by kernel_rfl) fun K hK => ?_
  simp (decide := true) only [TF, z0, z3, hu2, takeMap, mapC, unD_s, unD_n, ↓reduceIte, Int.reduceToNat]
  refine hK _ _ ?_; clear hK K
  refine WP.sr [2] (by kernel_rfl) fun K hK => ?_
  simp (decide := true) only [TF, z0, z3, hu2, takeMap, mapC, unD_s, unD_n, ↓reduceIte, Int.reduceToNat]
  refine hK _ _ ?_; clear hK K
  refine WP.ret ?_
  refine Ends.imp (.inr rfl) rfl (Le.of_eq (by simp [St.get, lk, W, bne, z0, z3, hu2])) ?_ ?_ ?_
  · simp
  · simp [St.get, lk, W, BClo, z0, z3, hu2, isE1, Cond.cs, or_imp, forall_and]
  · simp [lk]
theorem c_cond_short (ws : Wds) (cs : List Cond) (sc : Wds) (lv ag : Int) (nm : List UInt8) (dn : Bool) (h3 : ws.length < 3) : CallE Pr 115 [.ref 0 0] [(0, .box 97 [.slice 1 false ((ws).map fun x => [D.str x]) none, .str nm, .bool dn, .slice 3 (cs).isEmpty ((cs).map Cond.cs) (some 1), .slice 1 (sc).isEmpty ((sc).map fun x => [D.str x]) (some 2), .int .i64 (lv), .int .i64 (ag)]), (1, .tip 43 3 (cs).length), (2, .tip 9 1 (sc).length)] (.bool false) [(0, .box 97 [.slice 1 false ((ws).map fun x => [D.str x]) none, .str nm, .bool dn, .slice 3 (cs).isEmpty ((cs).map Cond.cs) (some 1), .slice 1 (sc).isEmpty ((sc).map fun x => [D.str x]) (some 2), .int .i64 (lv), .int .i64 (ag)]), (1, .tip 43 3 (cs).length), (2, .tip 9 1 (sc).length)] := by
 have z0 : decide ((ws.length : Int) < 3) = true := decide_eq_true (by omega)
 refine CallE.of_wp Tryz.func115 rfl (by kernel_rfl) Tryz.ntmps115 (by simp) ?_
 simp only [frameOf, Nat.reduceAdd, Nat.zero_add, List.map_cons, List.map_nil]
 refine WP.sr [0] (by kernel_rfl) fun K hK => ?_
 simp (decide := true) only [TF, z0, ↓reduceIte, Int.reduceToNat]
 refine hK _ _ ?_; clear hK K
 refine WP.seq ?_
 refine WP.sr [0, 10] (by kernel_rfl) fun K hK => ?_
 simp (decide := true) only [TF, z0, ↓reduceIte, Int.reduceToNat]
 refine hK _ _ ?_; clear hK K
 refine WP.cond (b := true) (by rfl) (fun _ => ?_) nofun
 refine WP.sr [2] (by kernel_rfl) fun K hK => ?_
 simp (decide := true) only [TF, z0, ↓reduceIte, Int.reduceToNat]
 refine hK _ _ ?_; clear hK K
 refine WP.ret ?_
 refine Ends.imp (.inr rfl) rfl (Le.of_eq (by simp (decide := true) only [St.get, lk, W, z0, ↓reduceIte])) ?_ ?_ ?_
 · simp
 · simp [St.get, lk, W, BClo, z0]
 · simp [lk]
theorem c_condition (ws : Wds) (cs : List Cond) (sc : Wds) (lv ag : Int) (nm : List UInt8) (dn : Bool) (hv : ∀ x ∈ ws, x.length ≤ 1099511627776) (hcs : cs.length ≤ 1099511627776) : CallE Pr 115 [.ref 0 0] [(0, .box 97 [.slice 1 false ((ws).map fun x => [D.str x]) none, .str nm, .bool dn, .slice 3 (cs).isEmpty ((cs).map Cond.cs) (some 1), .slice 1 (sc).isEmpty ((sc).map fun x => [D.str x]) (some 2), .int .i64 (lv), .int .i64 (ag)]), (1, .tip 43 3 (cs).length), (2, .tip 9 1 (sc).length)] (.bool (cdV ws)) [(0, .box 97 [.slice 1 false ((cdW ws).map fun x => [D.str x]) none, .str nm, .bool dn, .slice 3 (cdC ws cs).isEmpty ((cdC ws cs).map Cond.cs) (some 1), .slice 1 (sc).isEmpty ((sc).map fun x => [D.str x]) (some 2), .int .i64 (lv), .int .i64 (ag)]), (1, .tip 43 3 (cdC ws cs).length), (2, .tip 9 1 (sc).length)] := by
 rcases cd_cases ws with ⟨h1, h2, h3, h4⟩ | ⟨f, op, v, t, rfl⟩
 · rw [h2, h3, h4]; exact c_cond_short ws cs sc lv ag nm dn h1
 · exact c_cond_long f op v t cs sc lv ag nm dn (hv v (by simp)) hcs
theorem c_scopes (ws : Wds) (cs : List Cond) (sc : Wds) (lv ag : Int) (nm : List UInt8) (dn : Bool) (hw : ws.length + sc.length ≤ 1099511627776) : CallE Pr 116 [.ref 0 0] [(0, .box 97 [.slice 1 false ((ws).map fun x => [D.str x]) none, .str nm, .bool dn, .slice 3 (cs).isEmpty ((cs).map Cond.cs) (some 1), .slice 1 (sc).isEmpty ((sc).map fun x => [D.str x]) (some 2), .int .i64 (lv), .int .i64 (ag)]), (1, .tip 43 3 (cs).length), (2, .tip 9 1 (sc).length)] (.bool (decide (((scR ws sc).2.length : Int) > 0))) [(0, .box 97 [.slice 1 false (((scR ws sc).1).map fun x => [D.str x]) none, .str nm, .bool dn, .slice 3 (cs).isEmpty ((cs).map Cond.cs) (some 1), .slice 1 ((scR ws sc).2).isEmpty (((scR ws sc).2).map fun x => [D.str x]) (some 2), .int .i64 (lv), .int .i64 (ag)]), (1, .tip 43 3 (cs).length), (2, .tip 9 1 ((scR ws sc).2).length)] := by
 refine CallE.of_wp Tryz.func116 rfl (by kernel_rfl) Tryz.ntmps116 (by simp) ?_
 simp only [frameOf, Nat.reduceAdd, Nat.zero_add, List.map_cons, List.map_nil]
 refine WP.sr [0] (by kernel_rfl) fun K hK => ?_
 simp (decide := true) only [TF, takeMap, le1, map1, ↓reduceIte, Int.reduceToNat]
 refine hK _ _ ?_; clear hK K
 refine WP.seq ?_
 refine WP.block ?_
 refine WP.lp [0] (X := {x : (Wds) × (Wds) // match x with | (u, q) => u.length + q.length ≤ 1099511627776 ∧ scR ws sc = scR u q}) (fun x => match x with | ⟨(u, q), _⟩ => []) (fun x => match x with | ⟨(u, q), _⟩ => [(0, .box 97 [.slice 1 false ((u).map fun x => [D.str x]) none, .str nm, .bool dn, .slice 3 (cs).isEmpty ((cs).map Cond.cs) (some 1), .slice 1 (q).isEmpty ((q).map fun x => [D.str x]) (some 2), .int .i64 (lv), .int .i64 (ag)]), (1, .tip 43 3 (cs).length), (2, .tip 9 1 (q).length)]) (fun x => match x with | ⟨(u, q), _⟩ => u.length) (by simp (decide := true) only [W, ↓reduceIte, Int.reduceToNat]; rfl) ?_ ⟨(ws, sc), ⟨hw, rfl⟩⟩ ?_
 rotate_left
 · exact Weak.store (by simp [St.get, lk, W, Le.refl]) (by simp [lk, W]) (by simp [lk, W]) (by simp [BClo, lk]) (by simp [lk])
 rintro ⟨⟨u, q⟩, hs, hI⟩
 dsimp only
 simp only [List.cons_append, List.nil_append]
 rcases hd_cases u with rfl | ⟨x, t, rfl⟩
 ·
  have z0 : decide (((0 : Nat) : Int) > 0) = false := rfl
  rw [scR] at hI
  refine WP.seq ?_
  refine WP.sr [0, 26] (by kernel_rfl) fun K hK => ?_
  simp (decide := true) only [TF, z0, takeMap, le1, map1, ↓reduceIte, Int.reduceToNat]
  refine hK _ _ ?_; clear hK K
  refine WP.cond (b := false) (by rfl) nofun (fun _ => ?_)
  refine WP.exit ?_
  show WP _ _ _ _ _ _
  refine WP.sr [2] (by kernel_rfl) fun K hK => ?_
  simp (decide := true) only [TF, z0, takeMap, le1, map1, ↓reduceIte, Int.reduceToNat]
  refine hK _ _ ?_; clear hK K
  refine WP.ret ?_
  refine Ends.imp (.inr rfl) rfl (Le.of_eq (by simp (decide := true) only [St.get, lk, W, z0, hI, ↓reduceIte])) ?_ ?_ ?_
  · simp
  · simp_all [St.get, lk, W, BClo]
  · simp [lk]
 ·
  have z0 := gt0 t.length
  rw [scR] at hI
  refine WP.seq ?_
  refine WP.sr [0, 26] (by kernel_rfl) fun K hK => ?_
  refine runOps.take 16 fun J hJ => ?_
  simp (decide := true) only [TF, z0, takeMap, le1, map1, ↓reduceIte, Int.reduceToNat]
  refine hJ _ _ ?_; clear hJ J
  refine runOps.part 18 rfl (fun q1 => ?_) (fun q1 => ?_)
  ·
   simp (decide := true) only [TF, z0, q1, takeMap, le1, map1, ↓reduceIte, Int.reduceToNat]
   refine hK _ _ ?_; clear hK K
   refine WP.cond (b := _) rfl (fun q2 => ?_) (fun q2 => ?_)
   ·
    refine WP.skip ?_
    show WP _ _ _ _ _ _
    refine WP.block ?_
    refine WP.sd [0] (by kernel_rfl) (by kernel_rfl) fun K hK => ?_
    simp (decide := true) only [TF, z0, q1, q2, takeMap, le1, map1, ↓reduceIte, Int.reduceToNat]
    refine ⟨⟨by simp only [List.length_append, List.length_map, List.length_cons, List.length_nil] at hs ⊢; omega, by simp only [List.length_append, List.length_map, List.length_cons, List.length_nil] at hs ⊢; omega⟩, ?_⟩
    refine hK _ _ (by kernel_rfl) ?_
    clear hK K
    refine WP.region (by kernel_rfl) fun K hK => ?_
    simp (decide := true) only [TF, z0, q1, q2, takeMap, le1, map1, ↓reduceIte, Int.reduceToNat]
    refine hK _ _ ?_; clear hK K
    show ∃ y, _ ∧ Weak _ _ _
    refine ⟨⟨(t, q ++ [x]), ?_⟩, ?_, ?_⟩
    · exact ⟨by simp at hs ⊢; omega, by first | (simpa [z0, q1, q2] using hI) | (simp_all; done)⟩
    · simp
    · exact Weak.store (by simp [St.get, lk, W, Le.refl]) (by simp [lk, W, isE1, -List.map_append]) (by simp [lk, W]) (by simp [BClo, lk, or_imp, forall_and]) (by simp [lk])
   ·
    refine WP.exit ?_
    show WP _ _ _ _ _ _
    refine WP.sr [2] (by kernel_rfl) fun K hK => ?_
    simp (decide := true) only [TF, z0, q1, q2, takeMap, le1, map1, ↓reduceIte, Int.reduceToNat]
    refine hK _ _ ?_; clear hK K
    refine WP.ret ?_
    refine Ends.imp (.inr rfl) rfl (Le.of_eq (by simp_all [St.get, lk, W, LN, bne])) ?_ ?_ ?_
    · simp
    · simp_all [St.get, lk, W, BClo]
    · simp [lk]
  ·
   simp (decide := true) only [TF, z0, q1, takeMap, le1, map1, ↓reduceIte, Int.reduceToNat]
   refine hK _ _ ?_; clear hK K
   refine WP.cond (b := false) (by rfl) nofun (fun _ => ?_)
   refine WP.exit ?_
   show WP _ _ _ _ _ _
   refine WP.sr [2] (by kernel_rfl) fun K hK => ?_
   simp (decide := true) only [TF, z0, q1, takeMap, le1, map1, ↓reduceIte, Int.reduceToNat]
   refine hK _ _ ?_; clear hK K
   refine WP.ret ?_
   refine Ends.imp (.inr rfl) rfl (Le.of_eq (by simp_all [St.get, lk, W, LN, bne])) ?_ ?_ ?_
   · simp
   · simp_all [St.get, lk, W, BClo]
   · simp [lk]
end Go.Proofs

set_option linter.unusedSimpArgs false
set_option linter.unusedVariables false
namespace Go.Proofs
open Go Go.Id
def rdScp (ok : Bool) (w : Wds) : Bool × Wds × Wds := if ok then (if hdB w [115, 99, 111, 112, 101, 115] then (decide (((scR w.tail []).2.length : Int) > 0), (scR w.tail []).1, (scR w.tail []).2) else (true, w, [])) else (false, w, [])
def readF (ws : Wds) : Bool × Wds × List Cond × Wds × Int × Int :=
  match cdR (ws.length + 1) [105, 102] ws [] with
  | (ok, w1, c1) => match rdScp ok w1 with
    | (ok2, w2, s2) => match cntR w2 [108, 101, 118, 101, 108] with
      | (n1, b1, w3) => match cntR w3 [97, 103, 101] with
        | (n2, b2, w4) => (ok2 && b1 && b2 && ((w4.length : Int) == 0), w4, c1, s2, n1, n2)
theorem cdR_succ (n : Nat) (lead : List UInt8) (ws : Wds) (cs : List Cond) : cdR (n + 1) lead ws cs = if hdB ws lead then (if cdV ws.tail then cdR n [97, 110, 100] (cdW ws.tail) (cdC ws.tail cs) else (false, cdW ws.tail, cdC ws.tail cs)) else (true, ws, cs) := rfl
theorem tlW_t {ws : Wds} {w : List UInt8} (h : hdB ws w = true) : tlW ws w = ws.tail := by simp [tlW, h]
theorem tlW_f {ws : Wds} {w : List UInt8} (h : hdB ws w = false) : tlW ws w = ws := by simp [tlW, h]
theorem cntR_f {ws : Wds} {w : List UInt8} (h : hdB ws w = false) : cntR ws w = (0, true, ws) := by simp [cntR, h]
theorem cntR_n {ws : Wds} {w : List UInt8} (h : hdB ws w = true) (h2 : ws.tail = []) : cntR ws w = (0, false, []) := by simp [cntR, h, h2]
theorem cntR_c {ws : Wds} {w x : List UInt8} {u : Wds} (h : hdB ws w = true) (h2 : ws.tail = x :: u) : cntR ws w = ((rdN x).1, (rdN x).2 == 0 && (rdN x).1 != 0, u) := by simp [cntR, h, h2]
theorem rdScp_suf {ok : Bool} {u : Wds} {E : Bool × Wds × Wds} (h : rdScp ok u = E) : (∀ x ∈ E.2.1, x ∈ u) ∧ E.2.1.length ≤ u.length := by
  subst h
  unfold rdScp
  split
  · split
    · have h1 := scR_mem u.tail []
      have h2 := scR_len u.tail []
      refine ⟨fun x hx => List.mem_of_mem_tail (h1.1 x hx), ?_⟩
      have : u.tail.length ≤ u.length := by simp
      simp only
      omega
    · exact ⟨fun x hx => hx, Nat.le_refl _⟩
  · exact ⟨fun x hx => hx, Nat.le_refl _⟩
theorem readF_eq {ws w1 w2 s2 w3 w4 : Wds} {c1 : List Cond} {ok ok2 b1 b2 : Bool} {n1 n2 : Int} (h1 : cdR (ws.length + 1) [105, 102] ws [] = (ok, w1, c1)) (h2 : rdScp ok w1 = (ok2, w2, s2)) (h3 : cntR w2 [108, 101, 118, 101, 108] = (n1, b1, w3)) (h4 : cntR w3 [97, 103, 101] = (n2, b2, w4)) :
    readF ws = (ok2 && b1 && b2 && ((w4.length : Int) == 0), w4, c1, s2, n1, n2) := by
  simp only [readF, h1, h2, h3, h4]
theorem cdC_len (ws : Wds) (cs : List Cond) : (cdC ws cs).length + (cdW ws).length ≤ cs.length + ws.length := by
  rcases cd_cases ws with ⟨_, _, h, h'⟩ | ⟨f, op, v, t, rfl⟩
  · rw [h, h']; exact Nat.le_refl _
  · simp [cdW, cdC]; omega
theorem tail_len {ws : Wds} {w : List UInt8} (h : hdB ws w = true) : ws.tail.length + 1 = ws.length := by
  cases ws with
  | nil => cases h
  | cons => simp
end Go.Proofs

set_option linter.unusedSimpArgs false
set_option linter.unusedVariables false
set_option maxRecDepth 10000
namespace Go.Proofs
open Go Go.Id

theorem c_count (ws : Wds) (cs : List Cond) (sc : Wds) (lv ag : Int) (nm : List UInt8) (dn : Bool) (w : List UInt8) (hw : ws.length ≤ 1099511627776) (hv : ∀ x ∈ ws, x.length ≤ 1099511627776) : CallE Pr 117 [.ref 0 0, .str w] [(0, .box 97 [.slice 1 false ((ws).map fun x => [D.str x]) none, .str nm, .bool dn, .slice 3 (cs).isEmpty ((cs).map Cond.cs) (some 1), .slice 1 (sc).isEmpty ((sc).map fun x => [D.str x]) (some 2), .int .i64 (lv), .int .i64 (ag)]), (1, .tip 43 3 (cs).length), (2, .tip 9 1 (sc).length)] (.tup [.int .i64 (cntR ws w).1, .bool (cntR ws w).2.1]) [(0, .box 97 [.slice 1 false (((cntR ws w).2.2).map fun x => [D.str x]) none, .str nm, .bool dn, .slice 3 (cs).isEmpty ((cs).map Cond.cs) (some 1), .slice 1 (sc).isEmpty ((sc).map fun x => [D.str x]) (some 2), .int .i64 (lv), .int .i64 (ag)]), (1, .tip 43 3 (cs).length), (2, .tip 9 1 (sc).length)] := by
 refine CallE.of_wp Tryz.func117 rfl (by kernel_rfl) Tryz.ntmps117 (by simp) ?_
 simp only [frameOf, Nat.reduceAdd, Nat.zero_add, List.map_cons, List.map_nil]
 refine WP.sr [0, 1] (by kernel_rfl) fun K hK => ?_
 simp (decide := true) only [TF, takeMap, le1, ↓reduceIte, Int.reduceToNat]
 refine hK _ _ ?_; clear hK K
 refine WP.seq ?_
 refine WP.sr [0, 11] (by kernel_rfl) fun K hK => ?_
 simp (decide := true) only [TF, takeMap, le1, ↓reduceIte, Int.reduceToNat]
 refine CallK.imp (c_next ws cs sc lv ag nm dn w hw) rfl rfl (by simp [lk, BClo, -List.map_tail]) (by simp [lk]) (by simp [lk]) ?_
 simp (decide := true) only [TF, takeMap, le1, ↓reduceIte, Int.reduceToNat]
 refine hK _ _ ?_; clear hK K
 refine WP.cond (b := _) rfl (fun q1 => ?_) (fun q1 => ?_)
 ·
  simp only [Bool.not_eq_true', Bool.not_eq_false'] at q1
  have ht := tlW_f q1
  have hc := cntR_f q1
  refine WP.sr [4, 5] (by kernel_rfl) fun K hK => ?_
  simp (decide := true) only [TF, q1, ht, hc, takeMap, le1, ↓reduceIte, Int.reduceToNat]
  refine hK _ _ ?_; clear hK K
  refine WP.ret ?_
  refine Ends.imp (d := .tup [_, _]) (.inr rfl) rfl (Le.of_eq (by simp (decide := true) only [St.get, lk, W, q1, ht, hc, ↓reduceIte])) ?_ ?_ ?_
  · simp
  · simp [St.get, lk, W, BClo, q1, ht, hc, W, Cond.cs, or_imp, forall_and]
  · simp [lk]
 ·
  simp only [Bool.not_eq_true', Bool.not_eq_false'] at q1
  have ht := tlW_t q1
  have hd := q1
  refine WP.skip ?_
  show WP _ _ _ _ _ _
  refine WP.seq ?_
  rcases hd_cases ws.tail with hx | ⟨x, u, hx⟩
  ·
   have hc := cntR_n hd hx
   have z0 : (((0 : Nat) : Int) == 0) = true := rfl
   refine WP.sr [0, 17] (by kernel_rfl) fun K hK => ?_
   simp (decide := true) only [TF, q1, ht, hx, hc, z0, takeMap, le1, ↓reduceIte, Int.reduceToNat]
   refine hK _ _ ?_; clear hK K
   refine WP.cond (b := true) (by rfl) (fun _ => ?_) nofun
   refine WP.sr [4, 5] (by kernel_rfl) fun K hK => ?_
   simp (decide := true) only [TF, q1, ht, hx, hc, z0, takeMap, le1, ↓reduceIte, Int.reduceToNat]
   refine hK _ _ ?_; clear hK K
   refine WP.ret ?_
   refine Ends.imp (d := .tup [_, _]) (.inr rfl) rfl (Le.of_eq (by simp (decide := true) only [St.get, lk, W, q1, ht, hx, hc, z0, ↓reduceIte])) ?_ ?_ ?_
   · simp
   · simp [St.get, lk, W, BClo, q1, ht, hx, hc, z0, W, Cond.cs, or_imp, forall_and]
   · simp [lk]
  ·
   have hc := cntR_c hd hx
   have z0 : (((u.length + 1 : Nat) : Int) == 0) = false := by rw [beq_eq_false_iff_ne]; omega
   have hxm : x ∈ ws := List.mem_of_mem_tail (by rw [hx]; simp)
   refine WP.sr [0, 17] (by kernel_rfl) fun K hK => ?_
   simp (decide := true) only [TF, q1, ht, hx, hc, z0, takeMap, le1, ↓reduceIte, Int.reduceToNat]
   refine hK _ _ ?_; clear hK K
   refine WP.cond (b := false) (by rfl) nofun (fun _ => ?_)
   refine WP.skip ?_
   show WP _ _ _ _ _ _
   refine WP.sr [0, 6, 7] (by kernel_rfl) fun K hK => ?_
   simp (decide := true) only [TF, q1, ht, hx, hc, z0, takeMap, le1, ↓reduceIte, Int.reduceToNat]
   refine CallK.pure (c_number x (hv x hxm)) rfl rfl (by simp [-List.map_take]) ?_
   simp (decide := true) only [TF, q1, ht, hx, hc, z0, takeMap, le1, ↓reduceIte, Int.reduceToNat]
   refine hK _ _ ?_; clear hK K
   refine WP.sr [6, 7] (by kernel_rfl) fun K hK => ?_
   simp (decide := true) only [TF, q1, ht, hx, hc, z0, takeMap, le1, ↓reduceIte, Int.reduceToNat]
   refine hK _ _ ?_; clear hK K
   refine WP.sr [4, 5] (by kernel_rfl) fun K hK => ?_
   refine runOps.take 3 fun J hJ => ?_
   simp (decide := true) only [TF, q1, ht, hx, hc, z0, takeMap, le1, ↓reduceIte, Int.reduceToNat]
   refine hJ _ _ ?_; clear hJ J
   refine runOps.part 38 rfl (fun q2 => ?_) (fun q2 => ?_)
   ·
    simp (decide := true) only [TF, q1, ht, hx, hc, z0, q2, takeMap, le1, ↓reduceIte, Int.reduceToNat]
    refine hK _ _ ?_; clear hK K
    refine WP.ret ?_
    refine Ends.imp (d := .tup [_, _]) (.inr rfl) rfl (Le.of_eq (by simp (decide := true) only [St.get, lk, W, q1, ht, hx, hc, z0, q2, ↓reduceIte])) ?_ ?_ ?_
    · simp
    · simp [St.get, lk, W, BClo, q1, ht, hx, hc, z0, q2, W, Cond.cs, or_imp, forall_and]
    · simp [lk]
   ·
    simp (decide := true) only [TF, q1, ht, hx, hc, z0, q2, takeMap, le1, ↓reduceIte, Int.reduceToNat]
    refine hK _ _ ?_; clear hK K
    refine WP.ret ?_
    refine Ends.imp (d := .tup [_, _]) (.inr rfl) rfl (Le.of_eq (by simp (decide := true) only [St.get, lk, W, q1, ht, hx, hc, z0, q2, ↓reduceIte])) ?_ ?_ ?_
    · simp
    · simp [St.get, lk, W, BClo, q1, ht, hx, hc, z0, q2, W, Cond.cs, or_imp, forall_and]
    · simp [lk]
theorem c_read (ws : Wds) (nm : List UInt8) (dn : Bool) (hw : ws.length ≤ 1099511627770) (hv : ∀ x ∈ ws, x.length ≤ 1099511627776) : CallE Pr 84 [.ref 0 0, .int .i64 0] [(0, .box 97 [.slice 1 false ((ws).map fun x => [D.str x]) none, .str nm, .bool dn, .slice 3 (([] : List Cond)).isEmpty ((([] : List Cond)).map Cond.cs) (some 1), .slice 1 (([] : Wds)).isEmpty ((([] : Wds)).map fun x => [D.str x]) (some 2), .int .i64 (0), .int .i64 (0)]), (1, .tip 43 3 (([] : List Cond)).length), (2, .tip 9 1 (([] : Wds)).length)] (.bool (readF ws).1) [(0, .box 97 [.slice 1 false (((readF ws).2.1).map fun x => [D.str x]) none, .str nm, .bool dn, .slice 3 ((readF ws).2.2.1).isEmpty (((readF ws).2.2.1).map Cond.cs) (some 1), .slice 1 ((readF ws).2.2.2.1).isEmpty (((readF ws).2.2.2.1).map fun x => [D.str x]) (some 2), .int .i64 ((readF ws).2.2.2.2.1), .int .i64 ((readF ws).2.2.2.2.2)]), (1, .tip 43 3 ((readF ws).2.2.1).length), (2, .tip 9 1 ((readF ws).2.2.2.1).length)] := by
 have z00 : ((0 : Int) == 0) = true := rfl
 refine CallE.of_wp Tryz.func84 rfl (by kernel_rfl) Tryz.ntmps84 (by simp) ?_
 simp only [frameOf, Nat.reduceAdd, Nat.zero_add, List.map_cons, List.map_nil]
 refine WP.sr [0, 1] (by kernel_rfl) fun K hK => ?_
 simp (decide := true) only [TF, z00, ↓reduceIte, Int.reduceToNat]
 refine hK _ _ ?_; clear hK K
 refine WP.sr [0, 1, 5] (by kernel_rfl) fun K hK => ?_
 simp (decide := true) only [TF, z00, ↓reduceIte, Int.reduceToNat]
 refine hK _ _ ?_; clear hK K
 refine WP.seq ?_
 refine WP.sr [0, 5, 11] (by kernel_rfl) fun K hK => ?_
 simp (decide := true) only [TF, z00, ↓reduceIte, Int.reduceToNat]
 refine hK _ _ ?_; clear hK K
 refine WP.block ?_
 refine WP.seq ?_
 refine WP.block ?_
 refine WP.seq ?_
 refine WP.block ?_
 refine WP.seq ?_
 refine WP.block ?_
 refine WP.seq ?_
 refine WP.block ?_
 refine WP.seq ?_
 refine WP.block ?_
 refine WP.seq ?_
 refine WP.seq ?_
 refine WP.sr [0, 5, 11, 12] (by kernel_rfl) fun K hK => ?_
 simp (decide := true) only [TF, z00, ↓reduceIte, Int.reduceToNat]
 refine hK _ _ ?_; clear hK K
 refine WP.cond (b := true) (by rfl) (fun _ => ?_) nofun
 refine WP.exit ?_
 show WP _ _ _ _ _ _
 refine WP.sr [0, 5, 6] (by kernel_rfl) fun K hK => ?_
 simp (decide := true) only [TF, z00, ↓reduceIte, Int.reduceToNat]
 refine hK _ _ ?_; clear hK K
 refine WP.block ?_
 refine WP.lp [0] (X := {x : (Nat) × (Wds) × (List Cond) × (Bool) × (List UInt8) // match x with | (n, u, cs, ok, lead) => u.length < n ∧ cs.length + u.length ≤ 1099511627770 ∧ (∀ x ∈ u, x ∈ ws) ∧ cdR (ws.length + 1) [105, 102] ws [] = (if ok then cdR n lead u cs else (false, u, cs))}) (fun x => match x with | ⟨(n, u, cs, ok, lead), _⟩ => [(5, .bool ok), (6, .str lead)]) (fun x => match x with | ⟨(n, u, cs, ok, lead), _⟩ => [(0, .box 97 [.slice 1 false ((u).map fun x => [D.str x]) none, .str nm, .bool dn, .slice 3 (cs).isEmpty ((cs).map Cond.cs) (some 1), .slice 1 (([] : Wds)).isEmpty ((([] : Wds)).map fun x => [D.str x]) (some 2), .int .i64 (0), .int .i64 (0)]), (1, .tip 43 3 (cs).length), (2, .tip 9 1 (([] : Wds)).length)]) (fun x => match x with | ⟨(n, u, cs, ok, lead), _⟩ => 2 * u.length + (if ok then 1 else 0)) (by simp (decide := true) only [W, ↓reduceIte, Int.reduceToNat]; rfl) ?_ ⟨(ws.length + 1, ws, [], true, [105, 102]), ⟨by omega, by simpa using hw, fun x hx => hx, rfl⟩⟩ ?_
 rotate_left
 · exact Weak.store (by simp [St.get, lk, W, Le.refl]) (by simp [lk, W]) (by simp [lk, W]) (by simp [BClo, lk]) (by simp [lk])
 rintro ⟨⟨n, u, cs, ok, lead⟩, hn, hl, hm, hI⟩
 dsimp only
 simp only [List.cons_append, List.nil_append]
 obtain ⟨m, rfl⟩ : ∃ m, n = m + 1 := ⟨n - 1, by omega⟩
 refine WP.seq ?_
 refine WP.sr [0, 5, 27] (by kernel_rfl) fun K hK => ?_
 refine runOps.take 2 fun J hJ => ?_
 simp (decide := true) only [TF, z00, ↓reduceIte, Int.reduceToNat]
 refine hJ _ _ ?_; clear hJ J
 refine runOps.part 23 rfl (fun q1 => ?_) (fun q1 => ?_)
 ·
  rw [if_pos q1] at hI
  simp (decide := true) only [TF, z00, q1, ↓reduceIte, Int.reduceToNat]
  refine CallK.imp (c_next u cs [] 0 0 nm dn lead (by omega)) rfl rfl (by simp [lk, BClo, -List.map_tail]) (by simp [lk]) (by simp [lk]) ?_
  simp (decide := true) only [TF, z00, q1, ↓reduceIte, Int.reduceToNat]
  refine hK _ _ ?_; clear hK K
  refine WP.cond (b := _) rfl (fun q2 => ?_) (fun q2 => ?_)
  ·
   have hd := q2
   have ht := tlW_t hd
   refine WP.skip ?_
   show WP _ _ _ _ _ _
   refine WP.seq ?_
   refine WP.block ?_
   refine WP.region (by kernel_rfl) fun K hK => ?_
   simp (decide := true) only [TF, z00, q1, q2, ht, ↓reduceIte, Int.reduceToNat]
   refine CallK.imp (c_condition u.tail cs [] 0 0 nm dn (fun x hx => hv x (hm x (List.mem_of_mem_tail hx))) (by omega)) rfl rfl (by simp [lk, BClo, -List.map_tail]) (by simp [lk]) (by simp [lk]) ?_
   simp (decide := true) only [TF, z00, q1, q2, ht, ↓reduceIte, Int.reduceToNat]
   refine hK _ _ ?_; clear hK K
   show WP _ _ _ _ _ _
   refine WP.region (by kernel_rfl) fun K hK => ?_
   simp (decide := true) only [TF, z00, q1, q2, ht, ↓reduceIte, Int.reduceToNat]
   refine hK _ _ ?_; clear hK K
   show ∃ y, _ ∧ Weak _ _ _
   have hct := cdC_len u.tail cs
   have htl := tail_len hd
   have hcw := cdW_len u.tail
   rw [cdR_succ m lead u cs, if_pos hd] at hI
   refine ⟨⟨(m, cdW u.tail, cdC u.tail cs, cdV u.tail, [97, 110, 100]), ?_⟩, ?_, ?_⟩
   · refine ⟨by dsimp only; omega, by dsimp only; omega, fun x hx => hm x (List.mem_of_mem_tail (cdW_mem _ x hx)), hI⟩
   · dsimp only; split <;> simp <;> omega
   · exact Weak.store (by simp [St.get, lk, W, Le.refl]) (by simp [lk, W]) (by simp [lk, W]) (by simp [BClo, lk]) (by simp [lk])
  ·
   have ht := tlW_f q2
   rw [cdR_succ m lead u cs, if_neg (by rw [q2]; decide)] at hI
   have hcR : cdR (ws.length + 1) [105, 102] ws [] = (ok, u, cs) := by rw [hI]; simp_all
   refine WP.exit ?_
   show WP _ _ _ _ _ _
   refine WP.meetN ⟨[(5, .bool (rdScp ok u).1), (0, .ref 0 0)], [(0, .box 97 [.slice 1 false (((rdScp ok u).2.1).map fun x => [D.str x]) none, .str nm, .bool dn, .slice 3 (cs).isEmpty ((cs).map Cond.cs) (some 1), .slice 1 ((rdScp ok u).2.2).isEmpty (((rdScp ok u).2.2).map fun x => [D.str x]) (some 2), .int .i64 (0), .int .i64 (0)]), (1, .tip 43 3 (cs).length), (2, .tip 9 1 ((rdScp ok u).2.2).length)]⟩ ?_ (fun st' hw' => ?_)
   ·
    refine WP.region (by kernel_rfl) fun K hK => ?_
    simp (decide := true) only [TF, z00, q1, q2, ht, ↓reduceIte, Int.reduceToNat]
    refine CallK.imp (c_next u cs [] 0 0 nm dn [115, 99, 111, 112, 101, 115] (by omega)) rfl rfl (by simp [lk, BClo, -List.map_tail]) (by simp [lk]) (by simp [lk]) ?_
    refine runOps.take 2 fun J hJ => ?_
    simp (decide := true) only [TF, z00, q1, q2, ht, ↓reduceIte, Int.reduceToNat]
    refine hJ _ _ ?_; clear hJ J
    refine runOps.part 35 rfl (fun q3 => ?_) (fun q3 => ?_)
    ·
     simp only [Bool.not_eq_true', Bool.not_eq_false'] at q3
     have hd : hdB u [115, 99, 111, 112, 101, 115] = false := by simpa using q3
     have ht := tlW_f hd
     simp (decide := true) only [TF, z00, q1, q2, ht, q3, hd, ↓reduceIte, Int.reduceToNat]
     refine hK _ _ ?_; clear hK K
     refine ⟨rfl, ?_⟩
     show Weak _ _ _
     exact Weak.store (by simp [St.get, lk, W, Le.refl, z00, q1, q2, ht, q3, ht, hd, rdScp]) (by simp [lk, W, z00, q1, q2, ht, q3, ht, hd, rdScp]) (by simp [lk, W]) (by simp [BClo, lk, -List.map_tail]) (by simp [lk])
    ·
     simp only [Bool.not_eq_true', Bool.not_eq_false'] at q3
     have hd : hdB u [115, 99, 111, 112, 101, 115] = true := by simpa using q3
     have ht := tlW_t hd
     have htl := tail_len hd
     simp (decide := true) only [TF, z00, q1, q2, ht, q3, hd, ↓reduceIte, Int.reduceToNat]
     refine CallK.imp (c_scopes u.tail cs [] 0 0 nm dn (by simp; omega)) rfl rfl (by simp [lk, BClo, -List.map_tail]) (by simp [lk]) (by simp [lk]) ?_
     simp (decide := true) only [TF, z00, q1, q2, ht, q3, hd, ↓reduceIte, Int.reduceToNat]
     refine hK _ _ ?_; clear hK K
     refine ⟨rfl, ?_⟩
     show Weak _ _ _
     exact Weak.store (by simp [St.get, lk, W, Le.refl, z00, q1, q2, ht, q3, ht, hd, rdScp]) (by simp [lk, W, z00, q1, q2, ht, q3, ht, hd, rdScp]) (by simp [lk, W]) (by simp [BClo, lk, -List.map_tail]) (by simp [lk])
   ·
    show WP _ _ _ _ _ _
    refine WP.weak hw' ?_
    clear hw' st'
    clear hn hI
    generalize hE : rdScp ok u = E at *
    obtain ⟨ok2, w2, s2⟩ := E
    dsimp only
    have hw2 := rdScp_suf hE
    dsimp only at hw2
    refine WP.sr [0, 5, 7, 8] (by kernel_rfl) fun K hK => ?_
    simp (decide := true) only [TF, z00, q1, q2, ht, ↓reduceIte, Int.reduceToNat]
    refine CallK.imp (c_count w2 cs s2 0 0 nm dn [108, 101, 118, 101, 108] (by omega) (fun x hx => hv x (hm x (hw2.1 x hx)))) rfl rfl (by simp [lk, BClo, -List.map_tail]) (by simp [lk]) (by simp [lk]) ?_
    simp (decide := true) only [TF, z00, q1, q2, ht, ↓reduceIte, Int.reduceToNat]
    refine hK _ _ ?_; clear hK K
    refine WP.meetN ⟨[(5, .bool (ok2 && (cntR w2 [108, 101, 118, 101, 108]).2.1)), (0, .ref 0 0)], [(0, .box 97 [.slice 1 false (((cntR w2 [108, 101, 118, 101, 108]).2.2).map fun x => [D.str x]) none, .str nm, .bool dn, .slice 3 (cs).isEmpty ((cs).map Cond.cs) (some 1), .slice 1 (s2).isEmpty ((s2).map fun x => [D.str x]) (some 2), .int .i64 ((cntR w2 [108, 101, 118, 101, 108]).1), .int .i64 (0)]), (1, .tip 43 3 (cs).length), (2, .tip 9 1 (s2).length)]⟩ ?_ (fun st' hw' => ?_)
    ·
     refine WP.region (by kernel_rfl) fun K hK => ?_
     refine runOps.take 4 fun J hJ => ?_
     simp (decide := true) only [TF, z00, q1, q2, ht, ↓reduceIte, Int.reduceToNat]
     refine hJ _ _ ?_; clear hJ J
     refine runOps.part 48 rfl (fun q4 => ?_) (fun q4 => ?_)
     ·
      simp (decide := true) only [TF, z00, q1, q2, ht, q4, ↓reduceIte, Int.reduceToNat]
      refine hK _ _ ?_; clear hK K
      refine ⟨rfl, ?_⟩
      show Weak _ _ _
      exact Weak.store (by simp [St.get, lk, W, Le.refl, z00, q1, q2, ht, q4, W]) (by simp [lk, W, z00, q1, q2, ht, q4, W]) (by simp [lk, W]) (by simp [BClo, lk, -List.map_tail]) (by simp [lk])
     ·
      simp (decide := true) only [TF, z00, q1, q2, ht, q4, ↓reduceIte, Int.reduceToNat]
      refine hK _ _ ?_; clear hK K
      refine ⟨rfl, ?_⟩
      show Weak _ _ _
      exact Weak.store (by simp [St.get, lk, W, Le.refl, z00, q1, q2, ht, q4, W]) (by simp [lk, W, z00, q1, q2, ht, q4, W]) (by simp [lk, W]) (by simp [BClo, lk, -List.map_tail]) (by simp [lk])
    ·
     show WP _ _ _ _ _ _
     refine WP.weak hw' ?_
     clear hw' st'
     have hw3 := cntR_suf w2 [108, 101, 118, 101, 108]
     generalize hL : cntR w2 [108, 101, 118, 101, 108] = E at *
     obtain ⟨n1, b1, w3⟩ := E
     dsimp only at *
     refine WP.sr [0, 5, 9, 10] (by kernel_rfl) fun K hK => ?_
     simp (decide := true) only [TF, z00, q1, q2, ht, ↓reduceIte, Int.reduceToNat]
     refine CallK.imp (c_count w3 cs s2 n1 0 nm dn [97, 103, 101] (by omega) (fun x hx => hv x (hm x (hw2.1 x (hw3.1 x hx))))) rfl rfl (by simp [lk, BClo, -List.map_tail]) (by simp [lk]) (by simp [lk]) ?_
     simp (decide := true) only [TF, z00, q1, q2, ht, ↓reduceIte, Int.reduceToNat]
     refine hK _ _ ?_; clear hK K
     refine WP.meetN ⟨[(5, .bool (ok2 && b1 && (cntR w3 [97, 103, 101]).2.1)), (0, .ref 0 0)], [(0, .box 97 [.slice 1 false (((cntR w3 [97, 103, 101]).2.2).map fun x => [D.str x]) none, .str nm, .bool dn, .slice 3 (cs).isEmpty ((cs).map Cond.cs) (some 1), .slice 1 (s2).isEmpty ((s2).map fun x => [D.str x]) (some 2), .int .i64 (n1), .int .i64 ((cntR w3 [97, 103, 101]).1)]), (1, .tip 43 3 (cs).length), (2, .tip 9 1 (s2).length)]⟩ ?_ (fun st' hw' => ?_)
     ·
      refine WP.region (by kernel_rfl) fun K hK => ?_
      refine runOps.take 4 fun J hJ => ?_
      simp (decide := true) only [TF, z00, q1, q2, ht, ↓reduceIte, Int.reduceToNat]
      refine hJ _ _ ?_; clear hJ J
      refine runOps.part 62 rfl (fun q5 => ?_) (fun q5 => ?_)
      ·
       simp (decide := true) only [TF, z00, q1, q2, ht, q5, ↓reduceIte, Int.reduceToNat]
       refine hK _ _ ?_; clear hK K
       refine ⟨rfl, ?_⟩
       show Weak _ _ _
       exact Weak.store (by simp [St.get, lk, W, Le.refl, z00, q1, q2, ht, q5, W]) (by simp [lk, W, z00, q1, q2, ht, q5, W]) (by simp [lk, W]) (by simp [BClo, lk, -List.map_tail]) (by simp [lk])
      ·
       simp (decide := true) only [TF, z00, q1, q2, ht, q5, ↓reduceIte, Int.reduceToNat]
       refine hK _ _ ?_; clear hK K
       refine ⟨rfl, ?_⟩
       show Weak _ _ _
       exact Weak.store (by simp [St.get, lk, W, Le.refl, z00, q1, q2, ht, q5, W]) (by simp [lk, W, z00, q1, q2, ht, q5, W]) (by simp [lk, W]) (by simp [BClo, lk, -List.map_tail]) (by simp [lk])
     ·
      show WP _ _ _ _ _ _
      refine WP.weak hw' ?_
      clear hw' st'
      have hw4 := cntR_suf w3 [97, 103, 101]
      generalize hA : cntR w3 [97, 103, 101] = E at *
      obtain ⟨n2, b2, w4⟩ := E
      dsimp only at *
      have hRF := readF_eq hcR hE hL hA
      refine WP.sr [5] (by kernel_rfl) fun K hK => ?_
      refine runOps.take 2 fun J hJ => ?_
      simp (decide := true) only [TF, z00, q1, q2, ht, hRF, ↓reduceIte, Int.reduceToNat]
      refine hJ _ _ ?_; clear hJ J
      refine runOps.part 69 rfl (fun q6 => ?_) (fun q6 => ?_)
      ·
       simp (decide := true) only [TF, z00, q1, q2, ht, hRF, q6, ↓reduceIte, Int.reduceToNat]
       refine hK _ _ ?_; clear hK K
       refine WP.exit ?_
       show WP _ _ _ _ _ _
       refine WP.sr [4] (by kernel_rfl) fun K hK => ?_
       simp (decide := true) only [TF, z00, q1, q2, ht, hRF, q6, ↓reduceIte, Int.reduceToNat]
       refine hK _ _ ?_; clear hK K
       refine WP.ret ?_
       refine Ends.imp (.inr rfl) rfl (Le.of_eq (by simp (decide := true) only [St.get, lk, W, z00, q1, q2, ht, hRF, q6, ↓reduceIte])) ?_ ?_ ?_
       · simp
       · simp [St.get, lk, W, BClo, z00, q1, q2, ht, hRF, q6, W, Cond.cs, or_imp, forall_and]
       · simp [lk]
      ·
       simp (decide := true) only [TF, z00, q1, q2, ht, hRF, q6, ↓reduceIte, Int.reduceToNat]
       refine hK _ _ ?_; clear hK K
       refine WP.exit ?_
       show WP _ _ _ _ _ _
       refine WP.sr [4] (by kernel_rfl) fun K hK => ?_
       simp (decide := true) only [TF, z00, q1, q2, ht, hRF, q6, ↓reduceIte, Int.reduceToNat]
       refine hK _ _ ?_; clear hK K
       refine WP.ret ?_
       refine Ends.imp (.inr rfl) rfl (Le.of_eq (by simp (decide := true) only [St.get, lk, W, z00, q1, q2, ht, hRF, q6, ↓reduceIte])) ?_ ?_ ?_
       · simp
       · simp [St.get, lk, W, BClo, z00, q1, q2, ht, hRF, q6, W, Cond.cs, or_imp, forall_and]
       · simp [lk]
 ·
  rw [if_neg (by rw [q1]; decide)] at hI
  have hcR : cdR (ws.length + 1) [105, 102] ws [] = (ok, u, cs) := by rw [hI, q1]
  simp (decide := true) only [TF, z00, q1, ↓reduceIte, Int.reduceToNat]
  refine hK _ _ ?_; clear hK K
  refine WP.cond (b := false) (by rfl) nofun (fun _ => ?_)
  refine WP.exit ?_
  show WP _ _ _ _ _ _
  refine WP.meetN ⟨[(5, .bool (rdScp ok u).1), (0, .ref 0 0)], [(0, .box 97 [.slice 1 false (((rdScp ok u).2.1).map fun x => [D.str x]) none, .str nm, .bool dn, .slice 3 (cs).isEmpty ((cs).map Cond.cs) (some 1), .slice 1 ((rdScp ok u).2.2).isEmpty (((rdScp ok u).2.2).map fun x => [D.str x]) (some 2), .int .i64 (0), .int .i64 (0)]), (1, .tip 43 3 (cs).length), (2, .tip 9 1 ((rdScp ok u).2.2).length)]⟩ ?_ (fun st' hw' => ?_)
  ·
   refine WP.region (by kernel_rfl) fun K hK => ?_
   simp (decide := true) only [TF, z00, q1, ↓reduceIte, Int.reduceToNat]
   refine hK _ _ ?_; clear hK K
   refine ⟨rfl, ?_⟩
   show Weak _ _ _
   exact Weak.store (by simp [St.get, lk, W, Le.refl, z00, q1, rdScp]) (by simp [lk, W, z00, q1, rdScp]) (by simp [lk, W]) (by simp [BClo, lk, -List.map_tail]) (by simp [lk])
  ·
   show WP _ _ _ _ _ _
   refine WP.weak hw' ?_
   clear hw' st'
   clear hn hI
   generalize hE : rdScp ok u = E at *
   obtain ⟨ok2, w2, s2⟩ := E
   dsimp only
   have hw2 := rdScp_suf hE
   dsimp only at hw2
   refine WP.sr [0, 5, 7, 8] (by kernel_rfl) fun K hK => ?_
   simp (decide := true) only [TF, z00, q1, ↓reduceIte, Int.reduceToNat]
   refine CallK.imp (c_count w2 cs s2 0 0 nm dn [108, 101, 118, 101, 108] (by omega) (fun x hx => hv x (hm x (hw2.1 x hx)))) rfl rfl (by simp [lk, BClo, -List.map_tail]) (by simp [lk]) (by simp [lk]) ?_
   simp (decide := true) only [TF, z00, q1, ↓reduceIte, Int.reduceToNat]
   refine hK _ _ ?_; clear hK K
   refine WP.meetN ⟨[(5, .bool (ok2 && (cntR w2 [108, 101, 118, 101, 108]).2.1)), (0, .ref 0 0)], [(0, .box 97 [.slice 1 false (((cntR w2 [108, 101, 118, 101, 108]).2.2).map fun x => [D.str x]) none, .str nm, .bool dn, .slice 3 (cs).isEmpty ((cs).map Cond.cs) (some 1), .slice 1 (s2).isEmpty ((s2).map fun x => [D.str x]) (some 2), .int .i64 ((cntR w2 [108, 101, 118, 101, 108]).1), .int .i64 (0)]), (1, .tip 43 3 (cs).length), (2, .tip 9 1 (s2).length)]⟩ ?_ (fun st' hw' => ?_)
   ·
    refine WP.region (by kernel_rfl) fun K hK => ?_
    refine runOps.take 4 fun J hJ => ?_
    simp (decide := true) only [TF, z00, q1, ↓reduceIte, Int.reduceToNat]
    refine hJ _ _ ?_; clear hJ J
    refine runOps.part 48 rfl (fun q7 => ?_) (fun q7 => ?_)
    ·
     simp (decide := true) only [TF, z00, q1, q7, ↓reduceIte, Int.reduceToNat]
     refine hK _ _ ?_; clear hK K
     refine ⟨rfl, ?_⟩
     show Weak _ _ _
     exact Weak.store (by simp [St.get, lk, W, Le.refl, z00, q1, q7, W]) (by simp [lk, W, z00, q1, q7, W]) (by simp [lk, W]) (by simp [BClo, lk, -List.map_tail]) (by simp [lk])
    ·
     simp (decide := true) only [TF, z00, q1, q7, ↓reduceIte, Int.reduceToNat]
     refine hK _ _ ?_; clear hK K
     refine ⟨rfl, ?_⟩
     show Weak _ _ _
     exact Weak.store (by simp [St.get, lk, W, Le.refl, z00, q1, q7, W]) (by simp [lk, W, z00, q1, q7, W]) (by simp [lk, W]) (by simp [BClo, lk, -List.map_tail]) (by simp [lk])
   ·
    show WP _ _ _ _ _ _
    refine WP.weak hw' ?_
    clear hw' st'
    have hw3 := cntR_suf w2 [108, 101, 118, 101, 108]
    generalize hL : cntR w2 [108, 101, 118, 101, 108] = E at *
    obtain ⟨n1, b1, w3⟩ := E
    dsimp only at *
    refine WP.sr [0, 5, 9, 10] (by kernel_rfl) fun K hK => ?_
    simp (decide := true) only [TF, z00, q1, ↓reduceIte, Int.reduceToNat]
    refine CallK.imp (c_count w3 cs s2 n1 0 nm dn [97, 103, 101] (by omega) (fun x hx => hv x (hm x (hw2.1 x (hw3.1 x hx))))) rfl rfl (by simp [lk, BClo, -List.map_tail]) (by simp [lk]) (by simp [lk]) ?_
    simp (decide := true) only [TF, z00, q1, ↓reduceIte, Int.reduceToNat]
    refine hK _ _ ?_; clear hK K
    refine WP.meetN ⟨[(5, .bool (ok2 && b1 && (cntR w3 [97, 103, 101]).2.1)), (0, .ref 0 0)], [(0, .box 97 [.slice 1 false (((cntR w3 [97, 103, 101]).2.2).map fun x => [D.str x]) none, .str nm, .bool dn, .slice 3 (cs).isEmpty ((cs).map Cond.cs) (some 1), .slice 1 (s2).isEmpty ((s2).map fun x => [D.str x]) (some 2), .int .i64 (n1), .int .i64 ((cntR w3 [97, 103, 101]).1)]), (1, .tip 43 3 (cs).length), (2, .tip 9 1 (s2).length)]⟩ ?_ (fun st' hw' => ?_)
    ·
     refine WP.region (by kernel_rfl) fun K hK => ?_
     refine runOps.take 4 fun J hJ => ?_
     simp (decide := true) only [TF, z00, q1, ↓reduceIte, Int.reduceToNat]
     refine hJ _ _ ?_; clear hJ J
     refine runOps.part 62 rfl (fun q8 => ?_) (fun q8 => ?_)
     ·
      simp (decide := true) only [TF, z00, q1, q8, ↓reduceIte, Int.reduceToNat]
      refine hK _ _ ?_; clear hK K
      refine ⟨rfl, ?_⟩
      show Weak _ _ _
      exact Weak.store (by simp [St.get, lk, W, Le.refl, z00, q1, q8, W]) (by simp [lk, W, z00, q1, q8, W]) (by simp [lk, W]) (by simp [BClo, lk, -List.map_tail]) (by simp [lk])
     ·
      simp (decide := true) only [TF, z00, q1, q8, ↓reduceIte, Int.reduceToNat]
      refine hK _ _ ?_; clear hK K
      refine ⟨rfl, ?_⟩
      show Weak _ _ _
      exact Weak.store (by simp [St.get, lk, W, Le.refl, z00, q1, q8, W]) (by simp [lk, W, z00, q1, q8, W]) (by simp [lk, W]) (by simp [BClo, lk, -List.map_tail]) (by simp [lk])
    ·
     show WP _ _ _ _ _ _
     refine WP.weak hw' ?_
     clear hw' st'
     have hw4 := cntR_suf w3 [97, 103, 101]
     generalize hA : cntR w3 [97, 103, 101] = E at *
     obtain ⟨n2, b2, w4⟩ := E
     dsimp only at *
     have hRF := readF_eq hcR hE hL hA
     refine WP.sr [5] (by kernel_rfl) fun K hK => ?_
     refine runOps.take 2 fun J hJ => ?_
     simp (decide := true) only [TF, z00, q1, hRF, ↓reduceIte, Int.reduceToNat]
     refine hJ _ _ ?_; clear hJ J
     refine runOps.part 69 rfl (fun q9 => ?_) (fun q9 => ?_)
     ·
      simp (decide := true) only [TF, z00, q1, hRF, q9, ↓reduceIte, Int.reduceToNat]
      refine hK _ _ ?_; clear hK K
      refine WP.exit ?_
      show WP _ _ _ _ _ _
      refine WP.sr [4] (by kernel_rfl) fun K hK => ?_
      simp (decide := true) only [TF, z00, q1, hRF, q9, ↓reduceIte, Int.reduceToNat]
      refine hK _ _ ?_; clear hK K
      refine WP.ret ?_
      refine Ends.imp (.inr rfl) rfl (Le.of_eq (by simp (decide := true) only [St.get, lk, W, z00, q1, hRF, q9, ↓reduceIte])) ?_ ?_ ?_
      · simp
      · simp [St.get, lk, W, BClo, z00, q1, hRF, q9, W, Cond.cs, or_imp, forall_and]
      · simp [lk]
     ·
      simp (decide := true) only [TF, z00, q1, hRF, q9, ↓reduceIte, Int.reduceToNat]
      refine hK _ _ ?_; clear hK K
      refine WP.exit ?_
      show WP _ _ _ _ _ _
      refine WP.sr [4] (by kernel_rfl) fun K hK => ?_
      simp (decide := true) only [TF, z00, q1, hRF, q9, ↓reduceIte, Int.reduceToNat]
      refine hK _ _ ?_; clear hK K
      refine WP.ret ?_
      refine Ends.imp (.inr rfl) rfl (Le.of_eq (by simp (decide := true) only [St.get, lk, W, z00, q1, hRF, q9, ↓reduceIte])) ?_ ?_ ?_
      · simp
      · simp [St.get, lk, W, BClo, z00, q1, hRF, q9, W, Cond.cs, or_imp, forall_and]
      · simp [lk]
end Go.Proofs

set_option linter.unusedSimpArgs false
set_option linter.unusedVariables false
namespace Go.Proofs
open Go Go.Id
/-- The pieces between the bytes c; 'acc': the piece so far. -/
def cutA (c : UInt8) (acc : List UInt8) : List UInt8 → Wds
  | [] => [acc]
  | x :: t => if ((x.toNat : Int) == (c.toNat : Int)) = true then acc :: cutA c [] t else cutA c (acc ++ [x]) t
theorem u8_beq (x c : UInt8) : ((x.toNat : Int) == (c.toNat : Int)) = (x == c) := by
  rw [Bool.eq_iff_iff]
  simp only [beq_iff_eq]
  exact ⟨fun e => UInt8.toNat_inj.1 (by omega), fun e => by rw [e]⟩
theorem cut_index (c : UInt8) : ∀ (s : List UInt8), (Lib.index s [c] = -1 → ∀ acc, cutA c acc s = [acc ++ s]) ∧ (∀ i : Nat, Lib.index s [c] = i → ∀ acc, cutA c acc s = (acc ++ s.take i) :: cutA c [] (s.drop (i + 1)))
  | [] => by
    refine ⟨fun _ acc => by simp [cutA], fun i h => ?_⟩
    simp [Lib.index] at h
  | x :: t => by
    obtain ⟨h1, h2⟩ := cut_index c t
    have hg := Lib.index_ge t [c]
    have e : Lib.index (x :: t) [c] = if (c == x) = true then 0 else if Lib.index t [c] == -1 then -1 else Lib.index t [c] + 1 := by
      rw [Lib.index]; simp [List.isPrefixOf]
    by_cases hx : x = c
    · subst hx
      rw [e]
      refine ⟨fun h => by simp at h, fun i h acc => ?_⟩
      simp at h
      obtain rfl : i = 0 := by omega
      simp [cutA]
    · have hcx : (c == x) = false := by simpa using fun q => hx q.symm
      have hxc : ((x.toNat : Int) == (c.toNat : Int)) = false := by rw [u8_beq]; simpa using hx
      rw [e, hcx]
      simp only [Bool.false_eq_true, if_false]
      by_cases hm : Lib.index t [c] = -1
      · simp only [hm, beq_self_eq_true, if_true]
        refine ⟨fun _ acc => ?_, fun i h => by omega⟩
        rw [cutA, hxc]; simp only [Bool.false_eq_true, if_false]
        rw [h1 hm]; simp
      · have hm' : (Lib.index t [c] == -1) = false := by simpa using hm
        rw [hm']
        simp only [Bool.false_eq_true, if_false]
        refine ⟨fun h => by omega, fun i h acc => ?_⟩
        obtain ⟨j, rfl⟩ : ∃ j, i = j + 1 := ⟨i - 1, by omega⟩
        rw [cutA, hxc]; simp only [Bool.false_eq_true, if_false]
        rw [h2 j (by omega)]; simp
theorem splitK_cut (c : UInt8) : ∀ (k : Nat) (s : List UInt8), Lib.count s [c] = k → Lib.splitK [c] 0 k s = cutA c [] s
  | 0, s, h => by
    rcases Lib.index_spec s [c] with ⟨h1, _⟩ | ⟨i, h1, _⟩
    · rw [(cut_index c s).1 h1]; rfl
    · have := Lib.count_hit (s := s) (sub := [c]) (by simp) h1
      omega
  | k + 1, s, h => by
    rcases Lib.index_spec s [c] with ⟨h1, _⟩ | ⟨i, h1, _⟩
    · have := Lib.count_miss h1; omega
    · have h2 := Lib.count_hit (s := s) (sub := [c]) (by simp) h1
      rw [Lib.splitK]
      have hne : (Lib.index s [c] == -1) = false := by rw [h1]; rw [beq_eq_false_iff_ne]; omega
      rw [hne]
      simp only [Bool.false_eq_true, if_false]
      have hi : (Lib.index s [c]).toNat = i := by omega
      rw [hi, (cut_index c s).2 i h1, List.nil_append]
      simp only [List.length_cons, List.length_nil, Nat.zero_add] at h2 ⊢
      rw [splitK_cut c k _ (by omega)]
      rfl
theorem splitL_cut (s : List UInt8) (c : UInt8) : splitL s [c] = cutA c [] s := by
  unfold splitL
  rw [Lib.splitB_data]
  exact splitK_cut c _ s rfl
theorem cutA_len (c : UInt8) : ∀ (s acc : List UInt8), (cutA c acc s).length ≤ s.length + 1 ∧ 1 ≤ (cutA c acc s).length
  | [], acc => by simp [cutA]
  | x :: t, acc => by
    have h1 := cutA_len c t []
    have h2 := cutA_len c t (acc ++ [x])
    unfold cutA
    split
    · simp only [List.length_cons]; omega
    · simp only [List.length_cons]; omega
theorem cutA_mem (c : UInt8) : ∀ (s acc : List UInt8), ∀ x ∈ cutA c acc s, x.length ≤ acc.length + s.length
  | [], acc, x, h => by simp [cutA] at h; subst h; simp
  | y :: t, acc, x, h => by
    unfold cutA at h
    split at h
    · rcases List.mem_cons.1 h with rfl | h
      · simp
      · have := cutA_mem c t [] x h
        simp at this ⊢; omega
    · have := cutA_mem c t (acc ++ [y]) x h
      simp at this ⊢; omega
def wdAt (ws : Wds) (i : Nat) : List UInt8 := (ws[i]?).getD []
theorem wdAt_lt {ws : Wds} {i : Nat} (h : i < ws.length) : wdAt ws i = ws[i] := by simp [wdAt, h]
theorem wdAt_ge {ws : Wds} {i : Nat} (h : ws.length ≤ i) : wdAt ws i = [] := by simp [wdAt, h]
def tailR (ws : Wds) (i : Nat) (key : List UInt8) : Int × Nat × Bool :=
  if (wdAt ws i == key) = true then ((rdN (wdAt ws (i + 1))).1, i + 2, (rdN (wdAt ws (i + 1))).2 == 0 && (rdN (wdAt ws (i + 1))).1 != 0) else (0, i, true)
/-- The rule of the words of a line. -/
def rdLine (ws : Wds) : Option Rule :=
  if ws.length < 3 ∨ ¬ (wdAt ws 0 = [114, 117, 108, 101]) ∨ (¬ (wdAt ws 2 = [112, 101, 114, 109, 105, 116]) ∧ ¬ (wdAt ws 2 = [100, 101, 110, 121])) ∨ [] ∈ ws then none
  else match readF (ws.drop 3) with
    | (true, _, cs, sc, lv, ag) => some ⟨wdAt ws 1, wdAt ws 2 == [100, 101, 110, 121], cs, cs.isEmpty, sc, sc.isEmpty, lv, ag⟩
    | (false, _) => none
def lineD (o : Option Rule) : D :=
  match o with
  | some p => .tup [.agg p.cs, .bool true]
  | none => .tup [.agg [.junk, .junk, .junk, .junk, .junk, .junk], .bool false]
@[simp] theorem clo_rcs {S : Nat → Prop} (p : Rule) : (∀ d ∈ p.cs, Clo S d) ↔ True := by
  simp only [iff_true]
  intro d hd
  simp only [Rule.cs, List.mem_cons, List.mem_nil_iff, or_false] at hd
  rcases hd with rfl | rfl | rfl | rfl | rfl | rfl <;> simp
@[simp] theorem clo_lineD {S : Nat → Prop} (o : Option Rule) : Clo S (lineD o) := by
  cases o <;> simp [lineD]
theorem Le.junks {a b c d e f : D} {ok : Bool} (h : ok = false) : Le (.tup [.agg [a, b, c, d, e, f], .bool ok]) (.tup [.agg [.junk, .junk, .junk, .junk, .junk, .junk], .bool false]) := by
  subst h
  intro M γ w v hr
  cases hr with
  | @tup _ vs hl hr =>
    refine .tup (by simpa using hl) fun i d v hd hv => ?_
    match i with
    | 0 =>
      simp at hd; subst hd
      have h0 := hr 0 _ v rfl hv
      cases h0 with
      | agg a1 a2 a3 =>
        refine .agg (by simpa using a1) a2 fun i d v hd hv => ?_
        match i with
        | 0 | 1 | 2 | 3 | 4 | 5 => simp at hd; subst hd; exact .junk v
        | i + 6 => simp at hd
    | 1 => simp at hd; subst hd; exact hr 1 _ v rfl hv
    | i + 2 => simp at hd
end Go.Proofs

set_option linter.unusedSimpArgs false
set_option linter.unusedVariables false
set_option maxRecDepth 10000
namespace Go.Proofs
open Go Go.Id

theorem cut_split (s : List UInt8) (k : Nat) {p q : Prop} {r : Prop} (h : (k ≤ s.length ∧ p) ∨ (k = s.length + 1 ∧ q ∧ r)) : (k < s.length ∧ p) ∨ (k = s.length ∧ p) ∨ (k = s.length + 1 ∧ q ∧ r) := by
 rcases h with ⟨h, hp⟩ | h
 ·
  rcases Nat.lt_or_ge k s.length with h' | h'
  · exact .inl ⟨h', hp⟩
  · exact .inr (.inl ⟨by omega, hp⟩)
 · exact .inr (.inr h)

theorem c_r_cut (s : List UInt8) (c : UInt8) (hs : s.length ≤ 1099511627776) : CallP Pr 46 [.str s, .int .u8 c.toNat] (.slice 1 false ((cutA c [] s).map fun x => [.str x]) none) := by
 refine CallP.of_wp Tryz.func46 rfl (by kernel_rfl) Tryz.ntmps46 (by simp) ?_
 simp only [frameOf, Nat.reduceAdd, Nat.zero_add]
 refine WP.sr [0, 1] (by kernel_rfl) fun K hK => ?_
 simp (decide := true) only [TF, map1, ↓reduceIte, Int.reduceToNat]
 refine hK _ _ ?_; clear hK K
 refine WP.sr [0, 1, 5] (by kernel_rfl) fun K hK => ?_
 simp (decide := true) only [TF, map1, ↓reduceIte, Int.reduceToNat]
 refine hK _ _ ?_; clear hK K
 refine WP.sr [0, 1, 5, 6] (by kernel_rfl) fun K hK => ?_
 simp (decide := true) only [TF, map1, ↓reduceIte, Int.reduceToNat]
 refine hK _ _ ?_; clear hK K
 refine WP.seq ?_
 refine WP.sr [0, 1, 5, 6, 7] (by kernel_rfl) fun K hK => ?_
 simp (decide := true) only [TF, map1, ↓reduceIte, Int.reduceToNat]
 refine hK _ _ ?_; clear hK K
 refine WP.block ?_
 refine WP.lp [0, 1] (X := {x : (Nat) × (Nat) × (Wds) // match x with | (k, f, out) => f ≤ k ∧ out.length ≤ k ∧ ((k ≤ s.length ∧ cutA c [] s = out ++ cutA c ((s.take k).drop f) (s.drop k)) ∨ (k = s.length + 1 ∧ cutA c [] s = out ∧ out ≠ []))}) (fun x => match x with | ⟨(k, f, out), _⟩ => [(5, .slice 1 out.isEmpty (out.map fun x => [D.str x]) (some 0)), (6, .int .i64 f), (7, .int .i64 k)]) (fun x => match x with | ⟨(k, f, out), _⟩ => [(0, .tip 9 1 out.length)]) (fun x => match x with | ⟨(k, f, out), _⟩ => s.length + 1 - k) (by simp (decide := true) only [W, ↓reduceIte, Int.reduceToNat]; rfl) ?_ ⟨(0, 0, []), ⟨Nat.le_refl _, Nat.le_refl _, .inl ⟨Nat.zero_le _, by simp⟩⟩⟩ ?_
 rotate_left
 · refine Weak.trans (Weak.ghost 0 9 1 (F' := [(7, .int .i64 0), (6, .int .i64 0), (5, .slice 1 true [] (some 0)), (0, .str s), (1, .int .u8 c.toNat)]) (σ' := []) (by simp [lk, W]) (by simp [W, keep, ins, UpF, UpD]) (by simp [UpS])) ?_; exact Weak.store (by simp [St.get, lk, W, Le.refl]) (by simp [lk, W]) (by simp [lk]) (by simp [BClo]) (by simp)
 rintro ⟨⟨k, f, out⟩, hf, ho, hI⟩
 dsimp only
 simp only [List.cons_append, List.nil_append]
 rcases cut_split s k hI with ⟨hlt, hI⟩ | ⟨rfl, hI⟩ | ⟨rfl, hI, hne⟩
 ·
  have hg := getE hlt
  have hq : decide ((k : Int) ≤ (s.length : Int)) = true := decide_eq_true (by omega)
  have hq2 : ((k : Int) == (s.length : Int)) = false := by rw [beq_eq_false_iff_ne]; omega
  have hfk : f ≤ k := hf
  have hks : k ≤ s.length := by omega
  rw [dropE hlt, cutA] at hI
  refine WP.seq ?_
  refine WP.sr [0, 1, 5, 6, 7, 11] (by kernel_rfl) fun K hK => ?_
  simp (decide := true) only [TF, hg, hq, hq2, hfk, hks, map1, ↓reduceIte, Int.reduceToNat]
  refine hK _ _ ?_; clear hK K
  refine WP.cond (b := true) (by rfl) (fun _ => ?_) nofun
  refine WP.skip ?_
  show WP _ _ _ _ _ _
  refine WP.seq ?_
  refine WP.block ?_
  refine WP.sr [0, 1, 5, 6, 7, 24] (by kernel_rfl) fun K hK => ?_
  simp (decide := true) only [TF, hg, hq, hq2, hfk, hks, map1, ↓reduceIte, Int.reduceToNat]
  refine hK _ _ ?_; clear hK K
  refine WP.cond (b := _) rfl (fun q1 => ?_) (fun q1 => ?_)
  ·
   have hsc := q1
   refine WP.sr [0, 1, 5, 7] (by kernel_rfl) fun K hK => ?_
   simp (decide := true) only [TF, hg, hq, hq2, hfk, hks, q1, map1, ↓reduceIte, Int.reduceToNat]
   refine ⟨⟨by simp only [List.length_append, List.length_map, List.length_cons, List.length_nil]; omega, by simp only [List.length_append, List.length_map, List.length_cons, List.length_nil]; omega⟩, ?_⟩
   refine hK _ _ ?_; clear hK K
   refine WP.region (by kernel_rfl) fun K hK => ?_
   simp (decide := true) only [TF, hg, hq, hq2, hfk, hks, q1, map1, ↓reduceIte, Int.reduceToNat]
   refine hK _ _ ?_; clear hK K
   show WP _ _ _ _ _ _
   refine WP.region (by kernel_rfl) fun K hK => ?_
   simp (decide := true) only [TF, hg, hq, hq2, hfk, hks, q1, map1, ↓reduceIte, Int.reduceToNat]
   refine hK _ _ ?_; clear hK K
   show ∃ y, _ ∧ Weak _ _ _
   rw [if_pos hsc] at hI
   refine ⟨⟨(k + 1, k + 1, out ++ [(s.take k).drop f]), ?_⟩, ?_, ?_⟩
   · exact ⟨Nat.le_refl _, by simp; omega, .inl ⟨by omega, by rw [hI]; simp⟩⟩
   · dsimp only; omega
   · exact Weak.store (by simp [St.get, lk, W, Le.refl, hg, hq, hq2, hfk, hks, q1, isE1, wrapS hlt (show s.length ≤ 140737488355328 by omega)]) (by simp [lk, W, isE1]) (by simp [lk, W, or_imp, forall_and]) (by simp [BClo, lk]) (by simp [lk])
  ·
   have hsc := q1
   refine WP.skip ?_
   show WP _ _ _ _ _ _
   refine WP.region (by kernel_rfl) fun K hK => ?_
   simp (decide := true) only [TF, hg, hq, hq2, hfk, hks, q1, map1, ↓reduceIte, Int.reduceToNat]
   refine hK _ _ ?_; clear hK K
   show ∃ y, _ ∧ Weak _ _ _
   rw [if_neg (by rw [hsc]; decide)] at hI
   refine ⟨⟨(k + 1, f, out), ?_⟩, ?_, ?_⟩
   · refine ⟨by dsimp only; omega, by dsimp only; omega, .inl ⟨by dsimp only; omega, ?_⟩⟩; dsimp only; rw [hI, takeS hlt, List.drop_append_of_le_length (by simp; omega)]
   · dsimp only; omega
   · exact Weak.store (by simp [St.get, lk, W, Le.refl, hg, hq, hq2, hfk, hks, q1, isE1, wrapS hlt (show s.length ≤ 140737488355328 by omega)]) (by simp [lk, W, isE1]) (by simp [lk, W]) (by simp [BClo, lk]) (by simp [lk])
 ·
  have hq : decide ((s.length : Int) ≤ (s.length : Int)) = true := decide_eq_true (by omega)
  have hq2 : ((s.length : Int) == (s.length : Int)) = true := beq_self_eq_true _
  have hfk : f ≤ s.length := hf
  have hks : s.length ≤ s.length := Nat.le_refl _
  rw [dropN (Nat.le_refl _), cutA] at hI
  refine WP.seq ?_
  refine WP.sr [0, 1, 5, 6, 7, 11] (by kernel_rfl) fun K hK => ?_
  simp (decide := true) only [TF, hq, hq2, hfk, hks, map1, ↓reduceIte, Int.reduceToNat]
  refine hK _ _ ?_; clear hK K
  refine WP.cond (b := true) (by rfl) (fun _ => ?_) nofun
  refine WP.skip ?_
  show WP _ _ _ _ _ _
  refine WP.seq ?_
  refine WP.block ?_
  refine WP.sr [0, 1, 5, 6, 7, 24] (by kernel_rfl) fun K hK => ?_
  simp (decide := true) only [TF, hq, hq2, hfk, hks, map1, ↓reduceIte, Int.reduceToNat]
  refine hK _ _ ?_; clear hK K
  refine WP.cond (b := true) (by rfl) (fun _ => ?_) nofun
  refine WP.sr [0, 1, 5, 7] (by kernel_rfl) fun K hK => ?_
  simp (decide := true) only [TF, hq, hq2, hfk, hks, map1, ↓reduceIte, Int.reduceToNat]
  refine ⟨⟨by simp only [List.length_append, List.length_map, List.length_cons, List.length_nil]; omega, by simp only [List.length_append, List.length_map, List.length_cons, List.length_nil]; omega⟩, ?_⟩
  refine hK _ _ ?_; clear hK K
  refine WP.region (by kernel_rfl) fun K hK => ?_
  simp (decide := true) only [TF, hq, hq2, hfk, hks, map1, ↓reduceIte, Int.reduceToNat]
  refine hK _ _ ?_; clear hK K
  show WP _ _ _ _ _ _
  refine WP.region (by kernel_rfl) fun K hK => ?_
  simp (decide := true) only [TF, hq, hq2, hfk, hks, map1, ↓reduceIte, Int.reduceToNat]
  refine hK _ _ ?_; clear hK K
  show ∃ y, _ ∧ Weak _ _ _
  refine ⟨⟨(s.length + 1, s.length + 1, out ++ [(s.take s.length).drop f]), ?_⟩, ?_, ?_⟩
  · exact ⟨Nat.le_refl _, by simp; omega, .inr ⟨rfl, hI, by simp⟩⟩
  · dsimp only; omega
  · exact Weak.store (by simp [St.get, lk, W, Le.refl, hq, hq2, hfk, hks, isE1, wrapN 1 (show s.length < s.length + 1 by omega) (show s.length + 1 ≤ 140737488355328 by omega) (by omega), wrap_i64 (show (-9223372036854775808 : Int) ≤ (s.length : Int) + 1 by omega) (show (s.length : Int) + 1 ≤ 9223372036854775807 by omega)]) (by simp [lk, W, isE1]) (by simp [lk, W, or_imp, forall_and]) (by simp [BClo, lk]) (by simp [lk])
 ·
  have hq : decide (((s.length + 1 : Nat) : Int) ≤ (s.length : Int)) = false := decide_eq_false (by omega)
  have hoe : out.isEmpty = false := by cases out <;> simp at hne ⊢
  rw [hI]
  refine WP.seq ?_
  refine WP.sr [0, 1, 5, 6, 7, 11] (by kernel_rfl) fun K hK => ?_
  simp (decide := true) only [TF, hq, hoe, map1, ↓reduceIte, Int.reduceToNat]
  refine hK _ _ ?_; clear hK K
  refine WP.cond (b := false) (by rfl) nofun (fun _ => ?_)
  refine WP.exit ?_
  show WP _ _ _ _ _ _
  refine WP.sr [4] (by kernel_rfl) fun K hK => ?_
  simp (decide := true) only [TF, hq, hoe, map1, ↓reduceIte, Int.reduceToNat]
  refine hK _ _ ?_; clear hK K
  refine WP.ret ?_
  exact Ends.pure (.inr rfl) rfl (Le.trans (Le.fg _) (Le.of_eq (by simp [fg, St.get, lk, W, hq, hoe]))) (by simp)
theorem c_r_wd (ws : Wds) (nl : Bool) (i : Nat) (hnl : nl = true → ws = []) : CallP Pr 85 [.slice 1 nl (ws.map fun x => [.str x]) none, .int .i64 i] (.str (wdAt ws i)) := by
 refine CallP.of_wp Tryz.func85 rfl (by kernel_rfl) Tryz.ntmps85 (by simp) ?_
 simp only [frameOf, Nat.reduceAdd, Nat.zero_add]
 refine WP.sr [0, 1] (by kernel_rfl) fun K hK => ?_
 simp (decide := true) only [TF, ↓reduceIte, Int.reduceToNat]
 refine hK _ _ ?_; clear hK K
 refine WP.seq ?_
 refine WP.sr [0, 1, 8] (by kernel_rfl) fun K hK => ?_
 simp (decide := true) only [TF, ↓reduceIte, Int.reduceToNat]
 refine hK _ _ ?_; clear hK K
 refine WP.cond (b := _) rfl (fun q1 => ?_) (fun q1 => ?_)
 ·
  have hlt := lt_of_q q1
  have hg : (ws.map fun x => [D.str x])[i]? = some [.str ws[i]] := getM hlt
  have hnf := nl_false hnl hlt
  have hw := wdAt_lt hlt
  refine WP.sr [4] (by kernel_rfl) fun K hK => ?_
  simp (decide := true) only [TF, q1, hg, hnf, hw, ↓reduceIte, Int.reduceToNat]
  refine hK _ _ ?_; clear hK K
  refine WP.ret ?_
  exact Ends.pure (.inr rfl) rfl (Le.of_eq (by simp (decide := true) only [St.get, lk, W, q1, hg, hnf, hw, ↓reduceIte])) (by simp)
 ·
  have hge := ge_of_q q1
  have hw := wdAt_ge hge
  refine WP.skip ?_
  show WP _ _ _ _ _ _
  refine WP.sr [4] (by kernel_rfl) fun K hK => ?_
  simp (decide := true) only [TF, q1, hw, ↓reduceIte, Int.reduceToNat]
  refine hK _ _ ?_; clear hK K
  refine WP.ret ?_
  exact Ends.pure (.inr rfl) rfl (Le.of_eq (by simp (decide := true) only [St.get, lk, W, q1, hw, ↓reduceIte])) (by simp)
theorem c_r_tail (ws : Wds) (nl : Bool) (i : Nat) (key : List UInt8) (hnl : nl = true → ws = []) (hi : i ≤ 1099511627776) (hv : (wdAt ws (i + 1)).length ≤ 1099511627776) : CallP Pr 87 [.slice 1 nl (ws.map fun x => [.str x]) none, .int .i64 i, .str key] (.tup [.int .i64 (tailR ws i key).1, .int .i64 (tailR ws i key).2.1, .bool (tailR ws i key).2.2]) := by
 have hw1 : IntKind.wrap .i64 ((i : Int) + 1) = ((i + 1 : Nat) : Int) := by rw [wrap_i64 (by omega) (by omega)]; rfl
 have hw2 : IntKind.wrap .i64 ((i : Int) + 2) = ((i + 2 : Nat) : Int) := by rw [wrap_i64 (by omega) (by omega)]; rfl
 refine CallP.of_wp Tryz.func87 rfl (by kernel_rfl) Tryz.ntmps87 (by simp) ?_
 simp only [frameOf, Nat.reduceAdd, Nat.zero_add]
 refine WP.sr [0, 1, 2] (by kernel_rfl) fun K hK => ?_
 simp (decide := true) only [TF, hw1, hw2, rdD, ↓reduceIte, Int.reduceToNat]
 refine hK _ _ ?_; clear hK K
 refine WP.seq ?_
 refine WP.sr [0, 1, 15] (by kernel_rfl) fun K hK => ?_
 simp (decide := true) only [TF, hw1, hw2, rdD, ↓reduceIte, Int.reduceToNat]
 refine CallK.pure (c_r_wd ws nl i hnl) rfl rfl (by simp [-List.map_take]) ?_
 simp (decide := true) only [TF, hw1, hw2, rdD, ↓reduceIte, Int.reduceToNat]
 refine hK _ _ ?_; clear hK K
 refine WP.cond (b := _) rfl (fun q1 => ?_) (fun q1 => ?_)
 ·
  have hne : (wdAt ws i == key) = false := by simpa [bne] using q1
  refine WP.sr [6, 7, 8] (by kernel_rfl) fun K hK => ?_
  simp (decide := true) only [TF, hw1, hw2, q1, hne, rdD, ↓reduceIte, Int.reduceToNat]
  refine hK _ _ ?_; clear hK K
  refine WP.ret ?_
  exact Ends.pure (d := .tup [_, _, _]) (.inr rfl) rfl (Le.of_eq (by simp (decide := true) only [St.get, lk, W, tailR, hw1, hw2, q1, hne, ↓reduceIte])) (by simp)
 ·
  have hne : (wdAt ws i == key) = true := by simpa [bne] using q1
  refine WP.skip ?_
  show WP _ _ _ _ _ _
  refine WP.sr [1, 9, 10] (by kernel_rfl) fun K hK => ?_
  simp (decide := true) only [TF, hw1, hw2, q1, hne, rdD, ↓reduceIte, Int.reduceToNat]
  refine CallK.pure (c_r_wd ws nl (i + 1) hnl) rfl rfl (by simp [-List.map_take]) ?_
  simp (decide := true) only [TF, hw1, hw2, q1, hne, rdD, ↓reduceIte, Int.reduceToNat]
  refine CallK.pure (c_r_readint (wdAt ws (i + 1)) hv) rfl rfl (by simp [-List.map_take]) ?_
  simp (decide := true) only [TF, hw1, hw2, q1, hne, rdD, ↓reduceIte, Int.reduceToNat]
  refine hK _ _ ?_; clear hK K
  refine WP.sr [6, 7, 8] (by kernel_rfl) fun K hK => ?_
  refine runOps.take 6 fun J hJ => ?_
  simp (decide := true) only [TF, hw1, hw2, q1, hne, rdD, ↓reduceIte, Int.reduceToNat]
  refine hJ _ _ ?_; clear hJ J
  refine runOps.part 30 rfl (fun q2 => ?_) (fun q2 => ?_)
  ·
   simp (decide := true) only [TF, hw1, hw2, q1, hne, q2, rdD, ↓reduceIte, Int.reduceToNat]
   refine hK _ _ ?_; clear hK K
   refine WP.ret ?_
   exact Ends.pure (d := .tup [_, _, _]) (.inr rfl) rfl (Le.of_eq (by simp (decide := true) only [St.get, lk, W, tailR, hw1, hw2, q1, hne, q2, ↓reduceIte])) (by simp)
  ·
   simp (decide := true) only [TF, hw1, hw2, q1, hne, q2, rdD, ↓reduceIte, Int.reduceToNat]
   refine hK _ _ ?_; clear hK K
   refine WP.ret ?_
   exact Ends.pure (d := .tup [_, _, _]) (.inr rfl) rfl (Le.of_eq (by simp (decide := true) only [St.get, lk, W, tailR, hw1, hw2, q1, hne, q2, ↓reduceIte])) (by simp)
end Go.Proofs
