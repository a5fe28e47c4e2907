import Derived.Test.YtabkoicelflhcaaGreatDoorG06
import Derived.Test.YtabkoicelflhcaaGreatDoorG03
import Derived.Test.YtabkoicelflhcaaGreatDoorG02
set_option linter.unusedVariables false
set_option linter.unusedSimpArgs false
/-
  Plain: keys, windows and what the functions of the key ring come to. Conditions: none, definitions and their laws.
-/
set_option linter.unusedSimpArgs false
set_option linter.unusedVariables false
namespace Go.Proofs
open Go Go.Id
def all2 {α β : Type} (p : α → β → Bool) : List α → List β → Bool
  | [], [] => true
  | x :: a, y :: b => p x y && all2 p a b
  | _, _ => false
theorem all2_len {α β : Type} (p : α → β → Bool) : ∀ (a : List α) (b : List β), a.length ≠ b.length → all2 p a b = false
  | [], [], h => absurd rfl h
  | x :: a, y :: b, h => by
    rw [all2, all2_len p a b (by simpa using h), Bool.and_false]
  | [], _ :: _, _ => rfl
  | _ :: _, [], _ => rfl
theorem all2_cons {α β : Type} (p : α → β → Bool) (x : α) (a : List α) (y : β) (b : List β) : all2 p (x :: a) (y :: b) = (p x y && all2 p a b) := rfl
theorem all2_nil {α β : Type} (p : α → β → Bool) : all2 p ([] : List α) ([] : List β) = true := rfl
def ixP {α : Type} (p : α → Bool) : List α → Int → Int
  | [], _ => -1
  | x :: l, i => if p x then i else ixP p l (i + 1)
theorem ixP_any {α : Type} (p : α → Bool) : ∀ (l : List α) (i : Int), 0 ≤ i → decide (ixP p l i ≥ 0) = l.any p
  | [], i, _ => by simp [ixP]
  | x :: l, i, hi => by
    have ih := ixP_any p l (i + 1) (by omega)
    by_cases h : p x = true
    · have e : ixP p (x :: l) i = i := by simp [ixP, h]
      simp only [e, List.any_cons, h, Bool.true_or]; simp; omega
    · have e : ixP p (x :: l) i = ixP p l (i + 1) := by simp [ixP, h]
      simp only [e, ih, List.any_cons]; simp [h]
theorem ixP_any0 {α : Type} (p : α → Bool) (l : List α) : decide (ixP p l 0 ≥ 0) = l.any p := ixP_any p l 0 (Int.le_refl 0)
structure Key where
  id : List UInt8
  sec : List UInt8
  sf : Int
  su : Int
  af : Int
  au : Int
def Key.cs (k : Key) : List D := [.str k.id, .str k.sec, .int .i64 k.sf, .int .i64 k.su, .int .i64 k.af, .int .i64 k.au]
def zeroK : Key := ⟨[], [], 0, 0, 0, 0⟩
@[simp] theorem clo_key {S : Nat → Prop} (l : List Key) : (∀ e ∈ l.map Key.cs, ∀ d ∈ e, Clo S d) ↔ True := by
  simp only [iff_true]
  intro e he d hd
  simp only [List.mem_map] at he
  obtain ⟨c, _, rfl⟩ := he
  simp only [Key.cs, List.mem_cons, List.mem_nil_iff, or_false] at hd
  rcases hd with rfl | rfl | rfl | rfl | rfl | rfl <;> simp
@[simp] theorem clo_keys {S : Nat → Prop} (l : List Key) : (∀ a ∈ l, ∀ d ∈ a.cs, Clo S d) ↔ True := by
  simp only [iff_true]
  intro c _ d hd
  simp only [Key.cs, List.mem_cons, List.mem_nil_iff, or_false] at hd
  rcases hd with rfl | rfl | rfl | rfl | rfl | rfl <;> simp
/-- Sizes. -/
def Key.ok (k : Key) : Prop := k.id.length ≤ 1099511627776 ∧ k.sec.length ≤ 1099511627776
theorem wrapBig {k n : Nat} (h : k < n) (hn : n ≤ 9223372036854775807) : IntKind.wrap .i64 ((k : Int) + 1) = ((k + 1 : Nat) : Int) := by
  rw [wrap_i64 (by omega) (by omega)]; rfl
/-! Windows. -/
def inB (f u t : Int) : Bool := decide (f ≤ limB t) && decide (limB t < u)
def skB (s : Int) : Int := if 600 < (if 0 > s then 0 else s) then 600 else (if 0 > s then 0 else s)
theorem skB_p (s : Int) : (if 600 < (if 0 > s then 0 else s) then (600 : Int) else (if 0 > s then 0 else s)) = skB s := rfl
theorem skB_r (s : Int) : (if (if 600 < s then 600 else s) > 0 then (if 600 < s then (600 : Int) else s) else 0) = skB s := by
  unfold skB; repeat' split <;> omega
theorem skB_lo (s : Int) : 0 ≤ skB s ∧ skB s ≤ 600 := by unfold skB; repeat' split <;> omega
theorem sk_add (t s : Int) : IntKind.wrap .i64 (limB t + skB s) = limB t + skB s := by
  have := lim_lo t; have := lim_hi t; have := skB_lo s
  exact wrap_i64 (by omega) (by omega)
theorem sk_sub (t s : Int) : IntKind.wrap .i64 (limB t - skB s) = limB t - skB s := by
  have := lim_lo t; have := lim_hi t; have := skB_lo s
  exact wrap_i64 (by omega) (by omega)
def chkW (f u t s : Int) : Int := if decide (f > u) = true then 2 else if decide (limB t + skB s < f) = true then 14 else if decide (limB t - skB s ≥ u) = true then 13 else 0
/-! Sorted integers. -/
def sortB : List Int → Bool
  | a :: b :: t => !(decide (b < a)) && sortB (b :: t)
  | _ => true
theorem sort_step : ∀ (l : List Int) (i : Nat) (h : i + 1 < l.length), sortB (l.take (i + 2)) = (sortB (l.take (i + 1)) && !(decide (l[i + 1] < l[i])))
  | a :: b :: t, 0, _ => by simp [sortB]
  | a :: b :: t, i + 1, h => by
    have ih := sort_step (b :: t) i (by simpa using h)
    simp only [List.take_succ_cons] at ih ⊢
    rw [sortB, ih, sortB]
    simp [Bool.and_assoc]
/-! Keys. -/
def windowsB (k : Key) : Bool := decide (k.af ≥ 0) && decide (k.af ≤ k.sf) && decide (k.sf ≤ k.su) && decide (k.su ≤ k.au) && decide (k.au ≤ 1099511627776) && decide (k.af < k.au)
theorem win_sort (k : Key) : (!(sortB [0, k.af, k.sf, k.su, k.au, 1099511627776]) || decide (k.af ≥ k.au)) = !(windowsB k) := by
  rw [Bool.eq_iff_iff]
  simp only [sortB, windowsB, Bool.or_eq_true, Bool.not_eq_true', Bool.and_eq_false_iff, Bool.not_eq_false', decide_eq_true_eq, decide_eq_false_iff_not, Bool.and_true]
  omega
def keyE (seen : List Key) (k : Key) : Int :=
  if (!wordB k.id) = true then 5 else if (!cleanB k.sec) = true then 4 else if seen.any (fun q => q.id == k.id) = true then 7 else if (!windowsB k) = true then 2 else 0
def chkK (seen : List Key) : List Key → Int
  | [] => 0
  | k :: t => if (keyE seen k != 0) = true then keyE seen k else chkK (seen ++ [k]) t
def checkK (l : List Key) : Int := if decide ((l.length : Int) > 16) = true then 3 else chkK [] l
def greatB (l : List Key) (n : Int) : Bool := decide ((l.length : Int) > n) || l.any (fun k => decide ((k.id.length : Int) > 300) || decide ((k.sec.length : Int) > 300))
def eqK (a b : Key) : Bool := a.id == b.id && (a.sec == b.sec && (a.sf == b.sf && (a.su == b.su && (a.af == b.af && a.au == b.au))))
def sameK (a b : List Key) : Bool := all2 eqK a b
def gtB (a b : List UInt8) : Bool := !(Op.bytesLess a b || a == b)
def bestB (b k : Key) : Bool := eqK b zeroK || decide (k.sf > b.sf) || (k.sf == b.sf && gtB k.id b.id)
def sgL (now : Int) (b : Key) : List Key → Key
  | [] => b
  | k :: t => sgL now (if inB k.sf k.su now && bestB b k then k else b) t
/-- The key that signs. -/
def sgK (l : List Key) (now : Int) : Key := if (checkK l != 0) = true then zeroK else sgL now zeroK l
def accD (l : List Key) (id : List UInt8) (now skew : Int) : Key × Int :=
  match l with
  | [] => (zeroK, 26)
  | k :: t => if k.id == id then (if (chkW k.af k.au now skew != 0) = true then (zeroK, chkW k.af k.au now skew) else (k, 0)) else accD t id now skew
end Go.Proofs

set_option linter.unusedSimpArgs false
set_option linter.unusedVariables false
set_option maxRecDepth 10000
namespace Go.Proofs
open Go Go.Id
set_option maxHeartbeats 4000000
theorem c_k_limited (n : Int) : CallP Pr 37 [.int .i64 n] (.int .i64 (limB n)) := by
 refine CallP.of_wp Tryz.func37 rfl (by kernel_rfl) Tryz.ntmps37 (by simp) ?_
 simp only [frameOf, Nat.reduceAdd, Nat.zero_add]
 refine WP.sr [0] (by kernel_rfl) fun K hK => ?_
 simp (decide := true) only [TF, ↓reduceIte, Int.reduceToNat]
 refine hK _ _ ?_; clear hK K
 refine WP.sr [2] (by kernel_rfl) fun K hK => ?_
 simp (decide := true) only [TF, ↓reduceIte, Int.reduceToNat]
 refine hK _ _ ?_; clear hK K
 refine WP.ret ?_
 exact Ends.pure (.inr rfl) rfl (Le.of_eq (by simp [St.get, lk, W, limB]; repeat' split <;> (try omega))) (by simp)
theorem c_r_add (n m : Int) : CallP Pr 46 [.int .i64 n, .int .i64 m] (.int .i64 (limB (limB n + limB m))) := by
 refine CallP.of_wp Tryz.func46 rfl (by kernel_rfl) Tryz.ntmps46 (by simp) ?_
 simp only [frameOf, Nat.reduceAdd, Nat.zero_add]
 refine WP.sr [0, 1] (by kernel_rfl) fun K hK => ?_
 simp (decide := true) only [TF, lim_add, ↓reduceIte, Int.reduceToNat]
 refine hK _ _ ?_; clear hK K
 refine WP.sr [4] (by kernel_rfl) fun K hK => ?_
 simp (decide := true) only [TF, lim_add, ↓reduceIte, Int.reduceToNat]
 refine CallK.pure (c_r_limit _) rfl rfl (by simp [-List.map_take]) ?_
 simp (decide := true) only [TF, lim_add, ↓reduceIte, Int.reduceToNat]
 refine CallK.pure (c_r_limit _) rfl rfl (by simp [-List.map_take]) ?_
 simp (decide := true) only [TF, lim_add, ↓reduceIte, Int.reduceToNat]
 refine CallK.pure (c_r_limit _) rfl rfl (by simp [-List.map_take]) ?_
 simp (decide := true) only [TF, lim_add, ↓reduceIte, Int.reduceToNat]
 refine hK _ _ ?_; clear hK K
 refine WP.ret ?_
 exact Ends.pure (.inr rfl) rfl (Le.of_eq (by simp (decide := true) only [St.get, lk, W, ↓reduceIte])) (by simp)
theorem c_r_instant (n : Int) : CallP Pr 22 [.int .i64 n] (.int .i64 (limB n)) := by
 refine CallP.of_wp Tryz.func22 rfl (by kernel_rfl) Tryz.ntmps22 (by simp) ?_
 simp only [frameOf, Nat.reduceAdd, Nat.zero_add]
 refine WP.sr [0] (by kernel_rfl) fun K hK => ?_
 simp (decide := true) only [TF, ↓reduceIte, Int.reduceToNat]
 refine hK _ _ ?_; clear hK K
 refine WP.seq ?_
 refine WP.sr [0, 4] (by kernel_rfl) fun K hK => ?_
 simp (decide := true) only [TF, ↓reduceIte, Int.reduceToNat]
 refine hK _ _ ?_; clear hK K
 refine WP.cond (b := _) rfl (fun q1 => ?_) (fun q1 => ?_)
 ·
  refine WP.sr [2] (by kernel_rfl) fun K hK => ?_
  simp (decide := true) only [TF, q1, ↓reduceIte, Int.reduceToNat]
  refine hK _ _ ?_; clear hK K
  refine WP.ret ?_
  exact Ends.pure (.inr rfl) rfl (Le.of_eq (by first | (simp [St.get, lk, W, limB, q1]; done) | (simp_all [St.get, lk, W, limB, q1]; repeat' split <;> (try omega); done))) (by simp)
 ·
  refine WP.skip ?_
  show WP _ _ _ _ _ _
  refine WP.seq ?_
  refine WP.sr [0, 6] (by kernel_rfl) fun K hK => ?_
  simp (decide := true) only [TF, q1, ↓reduceIte, Int.reduceToNat]
  refine hK _ _ ?_; clear hK K
  refine WP.cond (b := _) rfl (fun q2 => ?_) (fun q2 => ?_)
  ·
   refine WP.sr [2] (by kernel_rfl) fun K hK => ?_
   simp (decide := true) only [TF, q1, q2, ↓reduceIte, Int.reduceToNat]
   refine hK _ _ ?_; clear hK K
   refine WP.ret ?_
   exact Ends.pure (.inr rfl) rfl (Le.of_eq (by first | (simp [St.get, lk, W, limB, q1, q2]; done) | (simp_all [St.get, lk, W, limB, q1, q2]; repeat' split <;> (try omega); done))) (by simp)
  ·
   refine WP.skip ?_
   show WP _ _ _ _ _ _
   refine WP.sr [2] (by kernel_rfl) fun K hK => ?_
   simp (decide := true) only [TF, q1, q2, ↓reduceIte, Int.reduceToNat]
   refine hK _ _ ?_; clear hK K
   refine WP.ret ?_
   exact Ends.pure (.inr rfl) rfl (Le.of_eq (by simp_all [St.get, lk, W, limB, q1, q2]; repeat' split <;> (try omega))) (by simp)
theorem c_c_in (f u t : Int) : CallP Pr 18 [.agg [.int .i64 f, .int .i64 u], .int .i64 t] (.bool (inB f u t)) := by
 refine CallP.of_wp Tryz.func18 rfl (by kernel_rfl) Tryz.ntmps18 (by simp) ?_
 simp only [frameOf, Nat.reduceAdd, Nat.zero_add]
 refine WP.sr [1, 2] (by kernel_rfl) fun K hK => ?_
 simp (decide := true) only [TF, ↓reduceIte, Int.reduceToNat]
 refine hK _ _ ?_; clear hK K
 refine WP.sr [1, 2] (by kernel_rfl) fun K hK => ?_
 simp (decide := true) only [TF, ↓reduceIte, Int.reduceToNat]
 refine CallK.pure (c_limited _) rfl rfl (by simp [-List.map_take]) ?_
 simp (decide := true) only [TF, ↓reduceIte, Int.reduceToNat]
 refine hK _ _ ?_; clear hK K
 refine WP.sr [4] (by kernel_rfl) fun K hK => ?_
 refine runOps.take 5 fun J hJ => ?_
 simp (decide := true) only [TF, ↓reduceIte, Int.reduceToNat]
 refine hJ _ _ ?_; clear hJ J
 refine runOps.part 11 rfl (fun q1 => ?_) (fun q1 => ?_)
 ·
  simp (decide := true) only [TF, q1, ↓reduceIte, Int.reduceToNat]
  refine hK _ _ ?_; clear hK K
  refine WP.ret ?_
  exact Ends.pure (.inr rfl) rfl (Le.of_eq (by simp (decide := true) only [St.get, lk, W, inB, q1, ↓reduceIte])) (by simp)
 ·
  simp (decide := true) only [TF, q1, ↓reduceIte, Int.reduceToNat]
  refine hK _ _ ?_; clear hK K
  refine WP.ret ?_
  exact Ends.pure (.inr rfl) rfl (Le.of_eq (by simp (decide := true) only [St.get, lk, W, inB, q1, ↓reduceIte])) (by simp)
theorem c_r_in (f u t : Int) : CallP Pr 38 [.agg [.int .i64 f, .int .i64 u], .int .i64 t] (.bool (inB f u t)) := by
 refine CallP.of_wp Tryz.func38 rfl (by kernel_rfl) Tryz.ntmps38 (by simp) ?_
 simp only [frameOf, Nat.reduceAdd, Nat.zero_add]
 refine WP.sr [1, 2] (by kernel_rfl) fun K hK => ?_
 simp (decide := true) only [TF, ↓reduceIte, Int.reduceToNat]
 refine hK _ _ ?_; clear hK K
 refine WP.sd [4] (by kernel_rfl) (by kernel_rfl) fun K hK => ?_
 simp (decide := true) only [TF, ↓reduceIte, Int.reduceToNat]
 refine CallK.pure (c_r_limit _) rfl rfl (by simp [-List.map_take]) ?_
 refine runOps.take 2 fun J hJ => ?_
 simp (decide := true) only [TF, ↓reduceIte, Int.reduceToNat]
 refine hJ _ _ ?_; clear hJ J
 refine runOps.part 10 rfl (fun q1 => ?_) (fun q1 => ?_)
 ·
  simp (decide := true) only [TF, q1, ↓reduceIte, Int.reduceToNat]
  refine CallK.pure (c_r_limit _) rfl rfl (by simp [-List.map_take]) ?_
  simp (decide := true) only [TF, q1, ↓reduceIte, Int.reduceToNat]
  refine hK _ _ (by kernel_rfl) ?_
  clear hK K
  refine WP.ret ?_
  exact Ends.pure (.inr rfl) rfl (Le.of_eq (by simp (decide := true) only [St.get, lk, W, inB, q1, ↓reduceIte])) (by simp)
 ·
  simp (decide := true) only [TF, q1, ↓reduceIte, Int.reduceToNat]
  refine hK _ _ (by kernel_rfl) ?_
  clear hK K
  refine WP.ret ?_
  exact Ends.pure (.inr rfl) rfl (Le.of_eq (by simp (decide := true) only [St.get, lk, W, inB, q1, ↓reduceIte])) (by simp)
theorem c_ck_check (f u t s : Int) : CallP Pr 40 [.agg [.int .i64 f, .int .i64 u], .int .i64 t, .int .i64 s] (.int .i64 (chkW f u t s)) := by
 refine CallP.of_wp Tryz.func40 rfl (by kernel_rfl) Tryz.ntmps40 (by simp) ?_
 simp only [frameOf, Nat.reduceAdd, Nat.zero_add]
 refine WP.sr [1, 2, 3] (by kernel_rfl) fun K hK => ?_
 simp (decide := true) only [TF, skB_p, sk_add, sk_sub, ↓reduceIte, Int.reduceToNat]
 refine hK _ _ ?_; clear hK K
 refine WP.sr [3, 7, 8] (by kernel_rfl) fun K hK => ?_
 simp (decide := true) only [TF, skB_p, sk_add, sk_sub, ↓reduceIte, Int.reduceToNat]
 refine CallK.pure (c_limited _) rfl rfl (by simp [-List.map_take]) ?_
 simp (decide := true) only [TF, skB_p, sk_add, sk_sub, ↓reduceIte, Int.reduceToNat]
 refine hK _ _ ?_; clear hK K
 refine WP.seq ?_
 refine WP.block ?_
 refine WP.sr [3, 7, 8, 14] (by kernel_rfl) fun K hK => ?_
 simp (decide := true) only [TF, skB_p, sk_add, sk_sub, ↓reduceIte, Int.reduceToNat]
 refine hK _ _ ?_; clear hK K
 refine WP.cond (b := _) rfl (fun q1 => ?_) (fun q1 => ?_)
 ·
  refine WP.sr [6] (by kernel_rfl) fun K hK => ?_
  simp (decide := true) only [TF, q1, skB_p, sk_add, sk_sub, ↓reduceIte, Int.reduceToNat]
  refine hK _ _ ?_; clear hK K
  refine WP.ret ?_
  exact Ends.pure (.inr rfl) rfl (Le.of_eq (by simp (decide := true) only [St.get, lk, W, chkW, q1, ↓reduceIte])) (by simp)
 ·
  refine WP.sr [3, 7, 8, 20] (by kernel_rfl) fun K hK => ?_
  simp (decide := true) only [TF, q1, skB_p, sk_add, sk_sub, ↓reduceIte, Int.reduceToNat]
  refine hK _ _ ?_; clear hK K
  refine WP.cond (b := _) rfl (fun q2 => ?_) (fun q2 => ?_)
  ·
   refine WP.sr [6] (by kernel_rfl) fun K hK => ?_
   simp (decide := true) only [TF, q1, q2, skB_p, sk_add, sk_sub, ↓reduceIte, Int.reduceToNat]
   refine hK _ _ ?_; clear hK K
   refine WP.ret ?_
   exact Ends.pure (.inr rfl) rfl (Le.of_eq (by simp (decide := true) only [St.get, lk, W, chkW, q1, q2, ↓reduceIte])) (by simp)
  ·
   refine WP.sr [27] (by kernel_rfl) fun K hK => ?_
   simp (decide := true) only [TF, q1, q2, skB_p, sk_add, sk_sub, ↓reduceIte, Int.reduceToNat]
   refine hK _ _ ?_; clear hK K
   refine WP.cond (b := _) rfl (fun q3 => ?_) (fun q3 => ?_)
   ·
    refine WP.sr [6] (by kernel_rfl) fun K hK => ?_
    simp (decide := true) only [TF, q1, q2, q3, skB_p, sk_add, sk_sub, ↓reduceIte, Int.reduceToNat]
    refine hK _ _ ?_; clear hK K
    refine WP.ret ?_
    exact Ends.pure (.inr rfl) rfl (Le.of_eq (by simp (decide := true) only [St.get, lk, W, chkW, q1, q2, q3, ↓reduceIte])) (by simp)
   ·
    refine WP.skip ?_
    show WP _ _ _ _ _ _
    refine WP.sr [6] (by kernel_rfl) fun K hK => ?_
    simp (decide := true) only [TF, q1, q2, q3, skB_p, sk_add, sk_sub, ↓reduceIte, Int.reduceToNat]
    refine hK _ _ ?_; clear hK K
    refine WP.ret ?_
    exact Ends.pure (.inr rfl) rfl (Le.of_eq (by simp (decide := true) only [St.get, lk, W, chkW, q1, q2, q3, ↓reduceIte])) (by simp)
theorem c_r_ck_check (f u t s : Int) : CallP Pr 41 [.agg [.int .i64 f, .int .i64 u], .int .i64 t, .int .i64 s] (.int .i64 (chkW f u t s)) := by
 refine CallP.of_wp Tryz.func41 rfl (by kernel_rfl) Tryz.ntmps41 (by simp) ?_
 simp only [frameOf, Nat.reduceAdd, Nat.zero_add]
 refine WP.sr [1, 2, 3] (by kernel_rfl) fun K hK => ?_
 simp (decide := true) only [TF, skB_r, sk_add, sk_sub, ↓reduceIte, Int.reduceToNat]
 refine hK _ _ ?_; clear hK K
 refine WP.sr [1, 3, 7] (by kernel_rfl) fun K hK => ?_
 simp (decide := true) only [TF, skB_r, sk_add, sk_sub, ↓reduceIte, Int.reduceToNat]
 refine hK _ _ ?_; clear hK K
 refine WP.seq ?_
 refine WP.sr [1, 3, 7, 15] (by kernel_rfl) fun K hK => ?_
 simp (decide := true) only [TF, skB_r, sk_add, sk_sub, ↓reduceIte, Int.reduceToNat]
 refine hK _ _ ?_; clear hK K
 refine WP.cond (b := _) rfl (fun q1 => ?_) (fun q1 => ?_)
 ·
  refine WP.sr [6] (by kernel_rfl) fun K hK => ?_
  simp (decide := true) only [TF, q1, skB_r, sk_add, sk_sub, ↓reduceIte, Int.reduceToNat]
  refine hK _ _ ?_; clear hK K
  refine WP.ret ?_
  exact Ends.pure (.inr rfl) rfl (Le.of_eq (by simp (decide := true) only [St.get, lk, W, chkW, q1, ↓reduceIte])) (by simp)
 ·
  refine WP.skip ?_
  show WP _ _ _ _ _ _
  refine WP.seq ?_
  refine WP.sd [1, 3, 7, 22] (by kernel_rfl) (by kernel_rfl) fun K hK => ?_
  simp (decide := true) only [TF, q1, skB_r, sk_add, sk_sub, ↓reduceIte, Int.reduceToNat]
  refine CallK.pure (c_r_limit _) rfl rfl (by simp [-List.map_take]) ?_
  simp (decide := true) only [TF, q1, skB_r, sk_add, sk_sub, ↓reduceIte, Int.reduceToNat]
  refine hK _ _ (by kernel_rfl) ?_
  clear hK K
  refine WP.cond (b := _) rfl (fun q2 => ?_) (fun q2 => ?_)
  ·
   refine WP.sr [6] (by kernel_rfl) fun K hK => ?_
   simp (decide := true) only [TF, q1, q2, skB_r, sk_add, sk_sub, ↓reduceIte, Int.reduceToNat]
   refine hK _ _ ?_; clear hK K
   refine WP.ret ?_
   exact Ends.pure (.inr rfl) rfl (Le.of_eq (by simp (decide := true) only [St.get, lk, W, chkW, q1, q2, ↓reduceIte])) (by simp)
  ·
   refine WP.skip ?_
   show WP _ _ _ _ _ _
   refine WP.seq ?_
   refine WP.sd [29] (by kernel_rfl) (by kernel_rfl) fun K hK => ?_
   simp (decide := true) only [TF, q1, q2, skB_r, sk_add, sk_sub, ↓reduceIte, Int.reduceToNat]
   refine CallK.pure (c_r_limit _) rfl rfl (by simp [-List.map_take]) ?_
   simp (decide := true) only [TF, q1, q2, skB_r, sk_add, sk_sub, ↓reduceIte, Int.reduceToNat]
   refine hK _ _ (by kernel_rfl) ?_
   clear hK K
   refine WP.cond (b := _) rfl (fun q3 => ?_) (fun q3 => ?_)
   ·
    refine WP.sr [6] (by kernel_rfl) fun K hK => ?_
    simp (decide := true) only [TF, q1, q2, q3, skB_r, sk_add, sk_sub, ↓reduceIte, Int.reduceToNat]
    refine hK _ _ ?_; clear hK K
    refine WP.ret ?_
    exact Ends.pure (.inr rfl) rfl (Le.of_eq (by simp (decide := true) only [St.get, lk, W, chkW, q1, q2, q3, ↓reduceIte])) (by simp)
   ·
    refine WP.skip ?_
    show WP _ _ _ _ _ _
    refine WP.sr [6] (by kernel_rfl) fun K hK => ?_
    simp (decide := true) only [TF, q1, q2, q3, skB_r, sk_add, sk_sub, ↓reduceIte, Int.reduceToNat]
    refine hK _ _ ?_; clear hK K
    refine WP.ret ?_
    exact Ends.pure (.inr rfl) rfl (Le.of_eq (by simp (decide := true) only [St.get, lk, W, chkW, q1, q2, q3, ↓reduceIte])) (by simp)
theorem c_find1 (k : Key) (id : List UInt8) : CallE Pr 61 [.agg [.str k.id, .str k.sec, .int .i64 k.sf, .int .i64 k.su, .int .i64 k.af, .int .i64 k.au], .ref 0 0] [(0, .box 9 [.str id])] (.bool (k.id == id)) [(0, .box 9 [.str id])] := by
 refine CallE.of_wp Tryz.func61 rfl (by kernel_rfl) Tryz.ntmps61 (by simp) ?_
 simp only [frameOf, Nat.reduceAdd, Nat.zero_add, List.map_cons, List.map_nil]
 refine WP.sr [1, 2] (by kernel_rfl) fun K hK => ?_
 simp (decide := true) only [TF, ↓reduceIte, Int.reduceToNat]
 refine hK _ _ ?_; clear hK K
 refine WP.sr [3] (by kernel_rfl) fun K hK => ?_
 simp (decide := true) only [TF, ↓reduceIte, Int.reduceToNat]
 refine hK _ _ ?_; clear hK K
 refine WP.ret ?_
 refine Ends.imp (.inr rfl) rfl (Le.of_eq (by simp (decide := true) only [St.get, lk, W, ↓reduceIte])) ?_ ?_ ?_
 · simp
 · simp [St.get, lk, W, BClo, W]
 · simp [lk]
theorem c_indexfunc_find (l : List Key) (nl : Bool) (id : List UInt8) (hn : l.length ≤ 1099511627776) (hnl : nl = true → l = []) : CallE Pr 60 [.slice 6 nl (l.map Key.cs) none, .fn (.func 61) [] [.ref 0 0]] [(0, .box 9 [.str id])] (.int .i64 (ixP (fun k => k.id == id) l 0)) [(0, .box 9 [.str id])] := by
 refine CallE.of_wp Tryz.func60 rfl (by kernel_rfl) Tryz.ntmps60 (by simp) ?_
 simp only [frameOf, Nat.reduceAdd, Nat.zero_add, List.map_cons, List.map_nil]
 refine WP.sr [0, 1] (by kernel_rfl) fun K hK => ?_
 simp (decide := true) only [TF, ↓reduceIte, Int.reduceToNat]
 refine hK _ _ ?_; clear hK K
 refine WP.seq ?_
 refine WP.sr [0, 1, 7, 8] (by kernel_rfl) fun K hK => ?_
 simp (decide := true) only [TF, ↓reduceIte, Int.reduceToNat]
 refine hK _ _ ?_; clear hK K
 refine WP.block ?_
 refine WP.lp [0, 1, 7] (X := {k : Nat // k ≤ l.length ∧ ixP (fun k => k.id == id) l 0 = ixP (fun k => k.id == id) (l.drop k) k}) (fun x => match x with | ⟨(k), _⟩ => [(8, .int .i64 k)]) (fun x => match x with | ⟨(k), _⟩ => [(0, .box 9 [.str id])]) (fun x => match x with | ⟨(k), _⟩ => l.length - k) (by simp (decide := true) only [W, ↓reduceIte, Int.reduceToNat]; rfl) ?_ ⟨(0), ⟨Nat.zero_le _, by simp⟩⟩ ?_
 rotate_left
 · exact Weak.store (by simp [St.get, lk, W, Le.refl, W]) (by simp [lk, W, W]) (by simp [lk, W]) (by simp [BClo, lk]) (by simp [lk])
 rintro ⟨k, hk, hI⟩
 dsimp only
 simp only [List.cons_append, List.nil_append]
 refine WP.sr [0, 1, 7, 8, 9] (by kernel_rfl) fun K hK => ?_
 simp (decide := true) only [TF, hk, ↓reduceIte, Int.reduceToNat]
 refine hK _ _ ?_; clear hK K
 refine WP.seq ?_
 refine WP.cond (b := _) rfl (fun q1 => ?_) (fun q1 => ?_)
 ·
  have hlt := lt_of_q q1
  have hg : (l.map Key.cs)[k]? = some [.str l[k].id, .str l[k].sec, .int .i64 l[k].sf, .int .i64 l[k].su, .int .i64 l[k].af, .int .i64 l[k].au] := getM hlt
  have hnf := nl_false hnl hlt
  rw [dropE hlt] at hI
  simp only [ixP] at hI
  refine WP.skip ?_
  show WP _ _ _ _ _ _
  refine WP.seq ?_
  refine WP.block ?_
  refine WP.sr [0, 1, 5, 7, 8] (by kernel_rfl) fun K hK => ?_
  simp (decide := true) only [TF, hk, q1, hg, hnf, ↓reduceIte, Int.reduceToNat]
  refine hK _ _ ?_; clear hK K
  refine WP.sr [0, 1, 5, 7, 8, 16] (by kernel_rfl) fun K hK => ?_
  simp (decide := true) only [TF, hk, q1, hg, hnf, ↓reduceIte, Int.reduceToNat]
  refine CallK.imp (c_find1 l[k] id) rfl rfl (by simp [lk, BClo]) (by simp [lk]) (by simp [lk]) ?_
  simp (decide := true) only [TF, hk, q1, hg, hnf, ↓reduceIte, Int.reduceToNat]
  refine hK _ _ ?_; clear hK K
  refine WP.cond (b := _) rfl (fun q2 => ?_) (fun q2 => ?_)
  ·
   refine WP.sr [4] (by kernel_rfl) fun K hK => ?_
   simp (decide := true) only [TF, hk, q1, hg, hnf, q2, ↓reduceIte, Int.reduceToNat]
   refine hK _ _ ?_; clear hK K
   refine WP.ret ?_
   refine Ends.imp (.inr rfl) rfl (Le.of_eq (by simp (decide := true) only [St.get, lk, W, hk, q1, hg, hnf, q2, hI, ↓reduceIte])) ?_ ?_ ?_
   · simp
   · simp [St.get, lk, W, BClo, hk, q1, hg, hnf, q2]
   · simp [lk]
  ·
   refine WP.skip ?_
   show WP _ _ _ _ _ _
   refine WP.region (by kernel_rfl) fun K hK => ?_
   simp (decide := true) only [TF, hk, q1, hg, hnf, q2, ↓reduceIte, Int.reduceToNat]
   refine hK _ _ ?_; clear hK K
   show ∃ y, _ ∧ Weak _ _ _
   refine ⟨⟨k + 1, ?_⟩, ?_, ?_⟩
   · exact ⟨by omega, by first | (simpa [hk, q1, hg, hnf, q2] using hI) | (simp_all; done)⟩
   · dsimp only; omega
   · exact Weak.store (by simp [St.get, lk, W, Le.refl, hk, q1, hg, hnf, q2, wrapS hlt (show l.length ≤ 140737488355328 by omega)]) (by simp [lk, W, hk, q1, hg, hnf, q2, wrapS hlt (show l.length ≤ 140737488355328 by omega)]) (by simp [lk, W]) (by simp [BClo, lk]) (by simp [lk])
 ·
  have hge := ge_of_q q1
  rw [dropN hge] at hI
  simp only [ixP] at hI
  refine WP.exit ?_
  show WP _ _ _ _ _ _
  refine WP.sr [4] (by kernel_rfl) fun K hK => ?_
  simp (decide := true) only [TF, hk, q1, ↓reduceIte, Int.reduceToNat]
  refine hK _ _ ?_; clear hK K
  refine WP.ret ?_
  refine Ends.imp (.inr rfl) rfl (Le.of_eq (by simp (decide := true) only [St.get, lk, W, hk, q1, hI, ↓reduceIte])) ?_ ?_ ?_
  · simp
  · simp [St.get, lk, W, BClo, hk, q1]
  · simp [lk]
theorem c_find (l : List Key) (nl : Bool) (id : List UInt8) (hn : l.length ≤ 1099511627776) (hnl : nl = true → l = []) : CallP Pr 39 [.slice 6 nl (l.map Key.cs) none, .str id] (.int .i64 (ixP (fun k => k.id == id) l 0)) := by
 refine CallP.of_wp Tryz.func39 rfl (by kernel_rfl) Tryz.ntmps39 (by simp) ?_
 simp only [frameOf, Nat.reduceAdd, Nat.zero_add]
 refine WP.sr [0, 3] (by kernel_rfl) fun K hK => ?_
 simp (decide := true) only [TF, ↓reduceIte, Int.reduceToNat]
 refine hK _ _ ?_; clear hK K
 refine WP.sr [4] (by kernel_rfl) fun K hK => ?_
 simp (decide := true) only [TF, ↓reduceIte, Int.reduceToNat]
 refine CallK.imp (c_indexfunc_find l nl id hn hnl) rfl rfl (by simp [lk, BClo]) (by simp [lk]) (by simp [lk]) ?_
 simp (decide := true) only [TF, ↓reduceIte, Int.reduceToNat]
 refine hK _ _ ?_; clear hK K
 refine WP.ret ?_
 exact Ends.pure (.inr rfl) rfl (Le.of_eq (by simp (decide := true) only [St.get, lk, W, ↓reduceIte])) (by simp)
theorem c_isnan (n : Int) : CallP Pr 106 [.int .i64 n] (.bool false) := by
 refine CallP.of_wp Tryz.func106 rfl (by kernel_rfl) Tryz.ntmps106 (by simp) ?_
 simp only [frameOf, Nat.reduceAdd, Nat.zero_add]
 refine WP.sr [0] (by kernel_rfl) fun K hK => ?_
 simp (decide := true) only [TF, EV, ↓reduceIte, Int.reduceToNat]
 refine hK _ _ ?_; clear hK K
 refine WP.sr [2] (by kernel_rfl) fun K hK => ?_
 simp (decide := true) only [TF, EV, ↓reduceIte, Int.reduceToNat]
 refine hK _ _ ?_; clear hK K
 refine WP.ret ?_
 exact Ends.pure (.inr rfl) rfl (Le.of_eq (by simp (decide := true) only [St.get, lk, W, ↓reduceIte])) (by simp)
theorem c_less (n m : Int) : CallP Pr 86 [.int .i64 n, .int .i64 m] (.bool (decide (n < m))) := by
 refine CallP.of_wp Tryz.func86 rfl (by kernel_rfl) Tryz.ntmps86 (by simp) ?_
 simp only [frameOf, Nat.reduceAdd, Nat.zero_add]
 refine WP.sr [0, 1] (by kernel_rfl) fun K hK => ?_
 simp (decide := true) only [TF, ↓reduceIte, Int.reduceToNat]
 refine hK _ _ ?_; clear hK K
 refine WP.sr [4] (by kernel_rfl) fun K hK => ?_
 simp (decide := true) only [TF, ↓reduceIte, Int.reduceToNat]
 refine CallK.pure (c_isnan _) rfl rfl (by simp [-List.map_take]) ?_
 simp (decide := true) only [TF, ↓reduceIte, Int.reduceToNat]
 refine hK _ _ ?_; clear hK K
 refine WP.ret ?_
 exact Ends.pure (.inr rfl) rfl (Le.of_eq (by simp (decide := true) only [St.get, lk, W, ↓reduceIte])) (by simp)
theorem c_windows (k : Key) : CallP Pr 36 [.agg [.str k.id, .str k.sec, .int .i64 k.sf, .int .i64 k.su, .int .i64 k.af, .int .i64 k.au]] (.bool (windowsB k)) := by
 refine CallP.of_wp Tryz.func36 rfl (by kernel_rfl) Tryz.ntmps36 (by simp) ?_
 simp only [frameOf, Nat.reduceAdd, Nat.zero_add]
 refine WP.sr [1] (by kernel_rfl) fun K hK => ?_
 simp (decide := true) only [TF, ↓reduceIte, Int.reduceToNat]
 refine hK _ _ ?_; clear hK K
 refine WP.sr [2] (by kernel_rfl) fun K hK => ?_
 refine runOps.take 5 fun J hJ => ?_
 simp (decide := true) only [TF, ↓reduceIte, Int.reduceToNat]
 refine hJ _ _ ?_; clear hJ J
 refine runOps.part 7 rfl (fun q1 => ?_) (fun q1 => ?_)
 ·
  refine runOps.take 9 fun J hJ => ?_
  simp (decide := true) only [TF, q1, ↓reduceIte, Int.reduceToNat]
  refine hJ _ _ ?_; clear hJ J
  refine runOps.part 16 rfl (fun q2 => ?_) (fun q2 => ?_)
  ·
   refine runOps.take 9 fun J hJ => ?_
   simp (decide := true) only [TF, q1, q2, ↓reduceIte, Int.reduceToNat]
   refine hJ _ _ ?_; clear hJ J
   refine runOps.part 25 rfl (fun q3 => ?_) (fun q3 => ?_)
   ·
    refine runOps.take 9 fun J hJ => ?_
    simp (decide := true) only [TF, q1, q2, q3, ↓reduceIte, Int.reduceToNat]
    refine hJ _ _ ?_; clear hJ J
    refine runOps.part 34 rfl (fun q4 => ?_) (fun q4 => ?_)
    ·
     refine runOps.take 6 fun J hJ => ?_
     simp (decide := true) only [TF, q1, q2, q3, q4, ↓reduceIte, Int.reduceToNat]
     refine hJ _ _ ?_; clear hJ J
     refine runOps.part 40 rfl (fun q5 => ?_) (fun q5 => ?_)
     ·
      simp (decide := true) only [TF, q1, q2, q3, q4, q5, ↓reduceIte, Int.reduceToNat]
      refine hK _ _ ?_; clear hK K
      refine WP.ret ?_
      exact Ends.pure (.inr rfl) rfl (Le.of_eq (by simp (decide := true) only [St.get, lk, W, windowsB, q1, q2, q3, q4, q5, ↓reduceIte])) (by simp)
     ·
      simp (decide := true) only [TF, q1, q2, q3, q4, q5, ↓reduceIte, Int.reduceToNat]
      refine hK _ _ ?_; clear hK K
      refine WP.ret ?_
      exact Ends.pure (.inr rfl) rfl (Le.of_eq (by simp (decide := true) only [St.get, lk, W, windowsB, q1, q2, q3, q4, q5, ↓reduceIte])) (by simp)
    ·
     simp (decide := true) only [TF, q1, q2, q3, q4, ↓reduceIte, Int.reduceToNat]
     refine hK _ _ ?_; clear hK K
     refine WP.ret ?_
     exact Ends.pure (.inr rfl) rfl (Le.of_eq (by simp (decide := true) only [St.get, lk, W, windowsB, q1, q2, q3, q4, ↓reduceIte])) (by simp)
   ·
    simp (decide := true) only [TF, q1, q2, q3, ↓reduceIte, Int.reduceToNat]
    refine hK _ _ ?_; clear hK K
    refine WP.ret ?_
    exact Ends.pure (.inr rfl) rfl (Le.of_eq (by simp (decide := true) only [St.get, lk, W, windowsB, q1, q2, q3, ↓reduceIte])) (by simp)
  ·
   simp (decide := true) only [TF, q1, q2, ↓reduceIte, Int.reduceToNat]
   refine hK _ _ ?_; clear hK K
   refine WP.ret ?_
   exact Ends.pure (.inr rfl) rfl (Le.of_eq (by simp (decide := true) only [St.get, lk, W, windowsB, q1, q2, ↓reduceIte])) (by simp)
 ·
  simp (decide := true) only [TF, q1, ↓reduceIte, Int.reduceToNat]
  refine hK _ _ ?_; clear hK K
  refine WP.ret ?_
  exact Ends.pure (.inr rfl) rfl (Le.of_eq (by simp (decide := true) only [St.get, lk, W, windowsB, q1, ↓reduceIte])) (by simp)
theorem c_great (l : List Key) (nl : Bool) (n : Int) (hn : l.length ≤ 9223372036854775807) (hnl : nl = true → l = []) : CallP Pr 10 [.slice 6 nl (l.map Key.cs) none, .int .i64 n] (.bool (greatB l n)) := by
 refine CallP.of_wp Tryz.func10 rfl (by kernel_rfl) Tryz.ntmps10 (by simp) ?_
 simp only [frameOf, Nat.reduceAdd, Nat.zero_add]
 refine WP.sr [0, 1] (by kernel_rfl) fun K hK => ?_
 simp (decide := true) only [TF, ↓reduceIte, Int.reduceToNat]
 refine hK _ _ ?_; clear hK K
 refine WP.seq ?_
 refine WP.sr [0, 9] (by kernel_rfl) fun K hK => ?_
 simp (decide := true) only [TF, ↓reduceIte, Int.reduceToNat]
 refine hK _ _ ?_; clear hK K
 refine WP.cond (b := _) rfl (fun q1 => ?_) (fun q1 => ?_)
 ·
  refine WP.sr [4] (by kernel_rfl) fun K hK => ?_
  simp (decide := true) only [TF, q1, ↓reduceIte, Int.reduceToNat]
  refine hK _ _ ?_; clear hK K
  refine WP.ret ?_
  exact Ends.pure (.inr rfl) rfl (Le.of_eq (by simp (decide := true) only [St.get, lk, W, greatB, q1, ↓reduceIte])) (by simp)
 ·
  refine WP.skip ?_
  show WP _ _ _ _ _ _
  refine WP.seq ?_
  refine WP.sr [0, 5] (by kernel_rfl) fun K hK => ?_
  simp (decide := true) only [TF, q1, ↓reduceIte, Int.reduceToNat]
  refine hK _ _ ?_; clear hK K
  refine WP.block ?_
  refine WP.lp [0] (X := {k : Nat // k ≤ l.length ∧ greatB l n = (l.drop k).any (fun k => decide ((k.id.length : Int) > 300) || decide ((k.sec.length : Int) > 300))}) (fun x => match x with | ⟨(k), _⟩ => [(5, .int .i64 k)]) (fun x => match x with | ⟨(k), _⟩ => []) (fun x => match x with | ⟨(k), _⟩ => l.length - k) (by simp (decide := true) only [W, ↓reduceIte, Int.reduceToNat]; rfl) ?_ ⟨(0), ⟨Nat.zero_le _, by simp only [greatB, List.drop_zero, q1, Bool.false_or]⟩⟩ ?_
  rotate_left
  · exact Weak.store (by simp [St.get, lk, W, Le.refl, q1]) (by simp [lk, W, q1]) (by simp [lk, W]) (by simp [BClo, lk]) (by simp [lk])
  rintro ⟨k, hk, hI⟩
  dsimp only
  simp only [List.cons_append, List.nil_append]
  refine WP.seq ?_
  refine WP.sr [0, 5, 13] (by kernel_rfl) fun K hK => ?_
  simp (decide := true) only [TF, q1, hk, ↓reduceIte, Int.reduceToNat]
  refine hK _ _ ?_; clear hK K
  refine WP.cond (b := _) rfl (fun q2 => ?_) (fun q2 => ?_)
  ·
   have hlt := lt_of_q q2
   have hg : (l.map Key.cs)[k]? = some [.str l[k].id, .str l[k].sec, .int .i64 l[k].sf, .int .i64 l[k].su, .int .i64 l[k].af, .int .i64 l[k].au] := getM hlt
   have hnf := nl_false hnl hlt
   rw [dropE hlt] at hI
   simp only [List.any_cons] at hI
   refine WP.skip ?_
   show WP _ _ _ _ _ _
   refine WP.seq ?_
   refine WP.block ?_
   refine WP.sr [0, 5, 31] (by kernel_rfl) fun K hK => ?_
   refine runOps.take 8 fun J hJ => ?_
   simp (decide := true) only [TF, q1, hk, q2, hg, hnf, ↓reduceIte, Int.reduceToNat]
   refine hJ _ _ ?_; clear hJ J
   refine runOps.part 23 rfl (fun q3 => ?_) (fun q3 => ?_)
   ·
    simp (decide := true) only [TF, q1, hk, q2, hg, hnf, q3, ↓reduceIte, Int.reduceToNat]
    refine hK _ _ ?_; clear hK K
    refine WP.cond (b := true) (by rfl) (fun _ => ?_) nofun
    refine WP.sr [4] (by kernel_rfl) fun K hK => ?_
    simp (decide := true) only [TF, q1, hk, q2, hg, hnf, q3, ↓reduceIte, Int.reduceToNat]
    refine hK _ _ ?_; clear hK K
    refine WP.ret ?_
    exact Ends.pure (.inr rfl) rfl (Le.of_eq (by simp_all [St.get, lk, W, LN, bne, greatB])) (by simp)
   ·
    simp (decide := true) only [TF, q1, hk, q2, hg, hnf, q3, ↓reduceIte, Int.reduceToNat]
    refine hK _ _ ?_; clear hK K
    refine WP.cond (b := _) rfl (fun q4 => ?_) (fun q4 => ?_)
    ·
     refine WP.sr [4] (by kernel_rfl) fun K hK => ?_
     simp (decide := true) only [TF, q1, hk, q2, hg, hnf, q3, q4, ↓reduceIte, Int.reduceToNat]
     refine hK _ _ ?_; clear hK K
     refine WP.ret ?_
     exact Ends.pure (.inr rfl) rfl (Le.of_eq (by simp_all [St.get, lk, W, LN, bne, greatB])) (by simp)
    ·
     refine WP.skip ?_
     show WP _ _ _ _ _ _
     refine WP.region (by kernel_rfl) fun K hK => ?_
     simp (decide := true) only [TF, q1, hk, q2, hg, hnf, q3, q4, ↓reduceIte, Int.reduceToNat]
     refine hK _ _ ?_; clear hK K
     show ∃ y, _ ∧ Weak _ _ _
     refine ⟨⟨k + 1, ?_⟩, ?_, ?_⟩
     · exact ⟨by omega, by first | (simpa [q1, hk, q2, hg, hnf, q3, q4] using hI) | (simp_all; done)⟩
     · dsimp only; omega
     · exact Weak.store (by simp [St.get, lk, W, Le.refl, q1, hk, q2, hg, hnf, q3, q4, wrapBig hlt (show l.length ≤ 9223372036854775807 by omega)]) (by simp [lk, W, q1, hk, q2, hg, hnf, q3, q4, wrapBig hlt (show l.length ≤ 9223372036854775807 by omega)]) (by simp [lk, W]) (by simp [BClo, lk]) (by simp [lk])
  ·
   have hge := ge_of_q q2
   rw [dropN hge] at hI
   simp only [List.any_nil] at hI
   refine WP.exit ?_
   show WP _ _ _ _ _ _
   refine WP.sr [4] (by kernel_rfl) fun K hK => ?_
   simp (decide := true) only [TF, q1, hk, q2, ↓reduceIte, Int.reduceToNat]
   refine hK _ _ ?_; clear hK K
   refine WP.ret ?_
   exact Ends.pure (.inr rfl) rfl (Le.of_eq (by simp_all [St.get, lk, W, LN, bne, greatB])) (by simp)
end Go.Proofs

set_option linter.unusedSimpArgs false
set_option linter.unusedVariables false
set_option maxRecDepth 10000
namespace Go.Proofs
open Go Go.Id
set_option maxHeartbeats 4000000
theorem c_issorted (l : List Int) (hne : 0 < l.length) (hn : l.length ≤ 1099511627776) : CallP Pr 56 [.slice 1 false (l.map fun x => [.int .i64 x]) none] (.bool (sortB l)) := by
 have hw0 := wrapP hne (show l.length ≤ 140737488355328 by omega)
 refine CallP.of_wp Tryz.func56 rfl (by kernel_rfl) Tryz.ntmps56 (by simp) ?_
 simp only [frameOf, Nat.reduceAdd, Nat.zero_add]
 refine WP.sr [0] (by kernel_rfl) fun K hK => ?_
 simp (decide := true) only [TF, hw0, ↓reduceIte, Int.reduceToNat]
 refine hK _ _ ?_; clear hK K
 refine WP.seq ?_
 refine WP.sr [0, 3] (by kernel_rfl) fun K hK => ?_
 simp (decide := true) only [TF, hw0, ↓reduceIte, Int.reduceToNat]
 refine hK _ _ ?_; clear hK K
 refine WP.block ?_
 refine WP.lp [0] (X := {i : Nat // i < l.length ∧ sortB l = sortB (l.take (i + 1))}) (fun x => match x with | ⟨(i), _⟩ => [(3, .int .i64 i)]) (fun x => match x with | ⟨(i), _⟩ => []) (fun x => match x with | ⟨(i), _⟩ => i) (by simp (decide := true) only [W, ↓reduceIte, Int.reduceToNat]; rfl) ?_ ⟨(l.length - 1), ⟨by omega, by rw [show l.length - 1 + 1 = l.length by omega, List.take_length]⟩⟩ ?_
 rotate_left
 · exact Weak.store (by simp [St.get, lk, W, Le.refl, W]) (by simp [lk, W, W]) (by simp [lk, W]) (by simp [BClo, lk]) (by simp [lk])
 rintro ⟨i, hi, hI⟩
 dsimp only
 simp only [List.cons_append, List.nil_append]
 refine WP.seq ?_
 refine WP.sr [0, 3, 8] (by kernel_rfl) fun K hK => ?_
 simp (decide := true) only [TF, hi, hw0, ↓reduceIte, Int.reduceToNat]
 refine hK _ _ ?_; clear hK K
 refine WP.cond (b := _) rfl (fun q1 => ?_) (fun q1 => ?_)
 ·
  obtain ⟨j, rfl⟩ : ∃ j, i = j + 1 := ⟨i - 1, by have := of_decide_eq_true q1; omega⟩
  have hg1 : (l.map fun x => [D.int .i64 x])[j + 1]? = some [.int .i64 l[j + 1]] := getM hi
  have hg0 : (l.map fun x => [D.int .i64 x])[j]? = some [.int .i64 l[j]] := getM (show j < l.length by omega)
  have hwj : IntKind.wrap .i64 (((j + 1 : Nat) : Int) - 1) = ((j : Nat) : Int) := by rw [wrap_i64 (by omega) (by omega)]; omega
  rw [sort_step l j hi] at hI
  refine WP.skip ?_
  show WP _ _ _ _ _ _
  refine WP.seq ?_
  refine WP.block ?_
  refine WP.sd [0, 3, 20] (by kernel_rfl) (by kernel_rfl) fun K hK => ?_
  simp (decide := true) only [TF, hi, q1, hg1, hg0, hwj, hw0, ↓reduceIte, Int.reduceToNat]
  refine CallK.pure (c_less _ _) rfl rfl (by simp [-List.map_take]) ?_
  simp (decide := true) only [TF, hi, q1, hg1, hg0, hwj, hw0, ↓reduceIte, Int.reduceToNat]
  refine hK _ _ (by kernel_rfl) ?_
  clear hK K
  refine WP.cond (b := _) rfl (fun q2 => ?_) (fun q2 => ?_)
  ·
   have hf : sortB l = false := by rw [hI, q2]; simp
   refine WP.sr [2] (by kernel_rfl) fun K hK => ?_
   simp (decide := true) only [TF, hi, q1, hg1, hg0, hwj, q2, hf, hw0, ↓reduceIte, Int.reduceToNat]
   refine hK _ _ ?_; clear hK K
   refine WP.ret ?_
   exact Ends.pure (.inr rfl) rfl (Le.of_eq (by simp (decide := true) only [St.get, lk, W, hi, q1, hg1, hg0, hwj, q2, hf, hI, ↓reduceIte])) (by simp)
  ·
   have hI : sortB l = sortB (l.take (j + 1)) := by rw [hI, q2]; simp
   refine WP.skip ?_
   show WP _ _ _ _ _ _
   refine WP.region (by kernel_rfl) fun K hK => ?_
   simp (decide := true) only [TF, hi, q1, hg1, hg0, hwj, q2, hw0, ↓reduceIte, Int.reduceToNat]
   refine hK _ _ ?_; clear hK K
   show ∃ y, _ ∧ Weak _ _ _
   refine ⟨⟨j, ?_⟩, ?_, ?_⟩
   · exact ⟨by omega, hI⟩
   · dsimp only; omega
   · exact Weak.store (by simp [St.get, lk, W, Le.refl, hi, q1, hg1, hg0, hwj, q2, hwj]) (by simp [lk, W, hi, q1, hg1, hg0, hwj, q2, hwj]) (by simp [lk, W]) (by simp [BClo, lk]) (by simp [lk])
 ·
  have hi0 : i = 0 := by have := of_decide_eq_false q1; omega
  subst hi0
  have hone : sortB (l.take 1) = true := by match l with | [] => rfl | a :: t => rfl
  rw [hone] at hI
  refine WP.exit ?_
  show WP _ _ _ _ _ _
  refine WP.sr [2] (by kernel_rfl) fun K hK => ?_
  simp (decide := true) only [TF, hi, q1, hw0, ↓reduceIte, Int.reduceToNat]
  refine hK _ _ ?_; clear hK K
  refine WP.ret ?_
  exact Ends.pure (.inr rfl) rfl (Le.of_eq (by simp (decide := true) only [St.get, lk, W, hi, q1, hI, ↓reduceIte])) (by simp)
theorem c_checkkey (l : List Key) (nl : Bool) (i : Nat) (hi : i < l.length) (hn : l.length ≤ 1099511627776) (hnl : nl = true → l = []) (hl : ∀ k ∈ l, k.ok) : CallP Pr 33 [.slice 6 nl (l.map Key.cs) none, .int .i64 i] (.int .i64 (keyE (l.take i) l[i])) := by
 have hg : (l.map Key.cs)[i]? = some [.str l[i].id, .str l[i].sec, .int .i64 l[i].sf, .int .i64 l[i].su, .int .i64 l[i].af, .int .i64 l[i].au] := getM hi
 have hnf := nl_false hnl hi
 have hk := hl _ (List.getElem_mem hi)
 have hle : i ≤ l.length := by omega
 have hix := ixP_any0 (fun q => q.id == l[i].id) (l.take i)
 have hws := win_sort l[i]
 refine CallP.of_wp Tryz.func33 rfl (by kernel_rfl) Tryz.ntmps33 (by simp) ?_
 simp only [frameOf, Nat.reduceAdd, Nat.zero_add]
 refine WP.sr [0, 1] (by kernel_rfl) fun K hK => ?_
 simp (decide := true) only [TF, hg, hnf, hle, hix, hws, ← List.map_take, ↓reduceIte, Int.reduceToNat]
 refine hK _ _ ?_; clear hK K
 refine WP.sr [0, 1, 5] (by kernel_rfl) fun K hK => ?_
 simp (decide := true) only [TF, hg, hnf, hle, hix, hws, ← List.map_take, ↓reduceIte, Int.reduceToNat]
 refine hK _ _ ?_; clear hK K
 refine WP.seq ?_
 refine WP.block ?_
 refine WP.sr [0, 1, 5, 11] (by kernel_rfl) fun K hK => ?_
 simp (decide := true) only [TF, hg, hnf, hle, hix, hws, ← List.map_take, ↓reduceIte, Int.reduceToNat]
 refine CallK.pure (c_word l[i].id (by have := hk.1; omega)) rfl rfl (by simp [-List.map_take]) ?_
 simp (decide := true) only [TF, hg, hnf, hle, hix, hws, ← List.map_take, ↓reduceIte, Int.reduceToNat]
 refine hK _ _ ?_; clear hK K
 refine WP.cond (b := _) rfl (fun q1 => ?_) (fun q1 => ?_)
 ·
  refine WP.sr [4] (by kernel_rfl) fun K hK => ?_
  simp (decide := true) only [TF, hg, hnf, hle, hix, hws, q1, ← List.map_take, ↓reduceIte, Int.reduceToNat]
  refine hK _ _ ?_; clear hK K
  refine WP.ret ?_
  exact Ends.pure (.inr rfl) rfl (Le.of_eq (by simp (decide := true) only [St.get, lk, W, keyE, hg, hnf, hle, hix, hws, q1, ↓reduceIte])) (by simp)
 ·
  refine WP.sr [0, 1, 5, 16] (by kernel_rfl) fun K hK => ?_
  simp (decide := true) only [TF, hg, hnf, hle, hix, hws, q1, ← List.map_take, ↓reduceIte, Int.reduceToNat]
  refine CallK.pure (c_clean l[i].sec (by have := hk.2; omega)) rfl rfl (by simp [-List.map_take]) ?_
  simp (decide := true) only [TF, hg, hnf, hle, hix, hws, q1, ← List.map_take, ↓reduceIte, Int.reduceToNat]
  refine hK _ _ ?_; clear hK K
  refine WP.cond (b := _) rfl (fun q2 => ?_) (fun q2 => ?_)
  ·
   refine WP.sr [4] (by kernel_rfl) fun K hK => ?_
   simp (decide := true) only [TF, hg, hnf, hle, hix, hws, q1, q2, ← List.map_take, ↓reduceIte, Int.reduceToNat]
   refine hK _ _ ?_; clear hK K
   refine WP.ret ?_
   exact Ends.pure (.inr rfl) rfl (Le.of_eq (by simp (decide := true) only [St.get, lk, W, keyE, hg, hnf, hle, hix, hws, q1, q2, ↓reduceIte])) (by simp)
  ·
   refine WP.sd [5, 21] (by kernel_rfl) (by kernel_rfl) fun K hK => ?_
   simp (decide := true) only [TF, hg, hnf, hle, hix, hws, q1, q2, ← List.map_take, ↓reduceIte, Int.reduceToNat]
   refine CallK.pure (c_find (l.take i) false l[i].id (by simp; omega) nofun) rfl rfl (by simp [-List.map_take]) ?_
   simp (decide := true) only [TF, hg, hnf, hle, hix, hws, q1, q2, ← List.map_take, ↓reduceIte, Int.reduceToNat]
   refine hK _ _ (by kernel_rfl) ?_
   clear hK K
   refine WP.cond (b := _) rfl (fun q3 => ?_) (fun q3 => ?_)
   ·
    refine WP.sr [4] (by kernel_rfl) fun K hK => ?_
    simp (decide := true) only [TF, hg, hnf, hle, hix, hws, q1, q2, q3, ← List.map_take, ↓reduceIte, Int.reduceToNat]
    refine hK _ _ ?_; clear hK K
    refine WP.ret ?_
    exact Ends.pure (.inr rfl) rfl (Le.of_eq (by simp (decide := true) only [St.get, lk, W, keyE, hg, hnf, hle, hix, hws, q1, q2, q3, ↓reduceIte])) (by simp)
   ·
    refine WP.skip ?_
    show WP _ _ _ _ _ _
    refine WP.sr [5, 6] (by kernel_rfl) fun K hK => ?_
    simp (decide := true) only [TF, hg, hnf, hle, hix, hws, q1, q2, q3, ← List.map_take, ↓reduceIte, Int.reduceToNat]
    refine CallK.pure (c_issorted [0, l[i].af, l[i].sf, l[i].su, l[i].au, 1099511627776] (by simp) (by simp)) rfl rfl (by simp [-List.map_take]) ?_
    simp (decide := true) only [TF, hg, hnf, hle, hix, hws, q1, q2, q3, ← List.map_take, ↓reduceIte, Int.reduceToNat]
    refine hK _ _ ?_; clear hK K
    refine WP.seq ?_
    refine WP.sr [53] (by kernel_rfl) fun K hK => ?_
    refine runOps.take 3 fun J hJ => ?_
    simp (decide := true) only [TF, hg, hnf, hle, hix, hws, q1, q2, q3, ← List.map_take, ↓reduceIte, Int.reduceToNat]
    refine hJ _ _ ?_; clear hJ J
    refine runOps.part 45 rfl (fun q4 => ?_) (fun q4 => ?_)
    ·
     simp only [Bool.not_eq_true', Bool.not_eq_false'] at q4
     simp (decide := true) only [TF, hg, hnf, hle, hix, hws, q1, q2, q3, q4, ← List.map_take, ↓reduceIte, Int.reduceToNat]
     refine hK _ _ ?_; clear hK K
     refine WP.cond (b := true) (by rfl) (fun _ => ?_) nofun
     refine WP.sr [4] (by kernel_rfl) fun K hK => ?_
     simp (decide := true) only [TF, hg, hnf, hle, hix, hws, q1, q2, q3, q4, ← List.map_take, ↓reduceIte, Int.reduceToNat]
     refine hK _ _ ?_; clear hK K
     refine WP.ret ?_
     exact Ends.pure (.inr rfl) rfl (Le.of_eq (by simp_all [St.get, lk, W, LN, bne, keyE])) (by simp)
    ·
     simp only [Bool.not_eq_true', Bool.not_eq_false'] at q4
     simp (decide := true) only [TF, hg, hnf, hle, hix, hws, q1, q2, q3, q4, ← List.map_take, ↓reduceIte, Int.reduceToNat]
     refine hK _ _ ?_; clear hK K
     refine WP.cond (b := _) rfl (fun q5 => ?_) (fun q5 => ?_)
     ·
      refine WP.sr [4] (by kernel_rfl) fun K hK => ?_
      simp (decide := true) only [TF, hg, hnf, hle, hix, hws, q1, q2, q3, q4, q5, ← List.map_take, ↓reduceIte, Int.reduceToNat]
      refine hK _ _ ?_; clear hK K
      refine WP.ret ?_
      exact Ends.pure (.inr rfl) rfl (Le.of_eq (by simp_all [St.get, lk, W, LN, bne, keyE])) (by simp)
     ·
      refine WP.skip ?_
      show WP _ _ _ _ _ _
      refine WP.sr [4] (by kernel_rfl) fun K hK => ?_
      simp (decide := true) only [TF, hg, hnf, hle, hix, hws, q1, q2, q3, q4, q5, ← List.map_take, ↓reduceIte, Int.reduceToNat]
      refine hK _ _ ?_; clear hK K
      refine WP.ret ?_
      exact Ends.pure (.inr rfl) rfl (Le.of_eq (by simp_all [St.get, lk, W, LN, bne, keyE])) (by simp)
theorem c_k_check (l : List Key) (nl : Bool) (hn : l.length ≤ 1099511627776) (hnl : nl = true → l = []) (hl : ∀ k ∈ l, k.ok) : CallP Pr 12 [.slice 6 nl (l.map Key.cs) none] (.int .i64 (checkK l)) := by
 refine CallP.of_wp Tryz.func12 rfl (by kernel_rfl) Tryz.ntmps12 (by simp) ?_
 simp only [frameOf, Nat.reduceAdd, Nat.zero_add]
 refine WP.sr [0] (by kernel_rfl) fun K hK => ?_
 simp (decide := true) only [TF, ↓reduceIte, Int.reduceToNat]
 refine hK _ _ ?_; clear hK K
 refine WP.seq ?_
 refine WP.sr [0, 7] (by kernel_rfl) fun K hK => ?_
 simp (decide := true) only [TF, ↓reduceIte, Int.reduceToNat]
 refine hK _ _ ?_; clear hK K
 refine WP.cond (b := _) rfl (fun q1 => ?_) (fun q1 => ?_)
 ·
  refine WP.sr [2] (by kernel_rfl) fun K hK => ?_
  simp (decide := true) only [TF, q1, ↓reduceIte, Int.reduceToNat]
  refine hK _ _ ?_; clear hK K
  refine WP.ret ?_
  exact Ends.pure (.inr rfl) rfl (Le.of_eq (by simp (decide := true) only [St.get, lk, W, checkK, q1, ↓reduceIte])) (by simp)
 ·
  refine WP.skip ?_
  show WP _ _ _ _ _ _
  refine WP.seq ?_
  refine WP.sr [0, 9, 10] (by kernel_rfl) fun K hK => ?_
  simp (decide := true) only [TF, q1, ↓reduceIte, Int.reduceToNat]
  refine hK _ _ ?_; clear hK K
  refine WP.block ?_
  refine WP.lp [0, 9] (X := {k : Nat // k ≤ l.length ∧ chkK [] l = chkK (l.take k) (l.drop k)}) (fun x => match x with | ⟨(k), _⟩ => [(10, .int .i64 k)]) (fun x => match x with | ⟨(k), _⟩ => []) (fun x => match x with | ⟨(k), _⟩ => l.length - k) (by simp (decide := true) only [W, ↓reduceIte, Int.reduceToNat]; rfl) ?_ ⟨(0), ⟨Nat.zero_le _, by simp⟩⟩ ?_
  rotate_left
  · exact Weak.store (by simp [St.get, lk, W, Le.refl, q1]) (by simp [lk, W, q1]) (by simp [lk, W]) (by simp [BClo, lk]) (by simp [lk])
  rintro ⟨k, hk, hI⟩
  dsimp only
  simp only [List.cons_append, List.nil_append]
  refine WP.sr [0, 9, 10, 11] (by kernel_rfl) fun K hK => ?_
  simp (decide := true) only [TF, q1, hk, ↓reduceIte, Int.reduceToNat]
  refine hK _ _ ?_; clear hK K
  refine WP.seq ?_
  refine WP.cond (b := _) rfl (fun q2 => ?_) (fun q2 => ?_)
  ·
   have hlt := lt_of_q q2
   have hg : (l.map Key.cs)[k]? = some [.str l[k].id, .str l[k].sec, .int .i64 l[k].sf, .int .i64 l[k].su, .int .i64 l[k].af, .int .i64 l[k].au] := getM hlt
   have hnf := nl_false hnl hlt
   rw [dropE hlt] at hI
   simp only [chkK] at hI
   refine WP.skip ?_
   show WP _ _ _ _ _ _
   refine WP.seq ?_
   refine WP.block ?_
   refine WP.sr [0, 3, 9, 10] (by kernel_rfl) fun K hK => ?_
   simp (decide := true) only [TF, q1, hk, q2, hg, hnf, ↓reduceIte, Int.reduceToNat]
   refine hK _ _ ?_; clear hK K
   refine WP.sr [0, 4, 9, 10] (by kernel_rfl) fun K hK => ?_
   simp (decide := true) only [TF, q1, hk, q2, hg, hnf, ↓reduceIte, Int.reduceToNat]
   refine CallK.pure (c_checkkey l false k hlt hn nofun hl) rfl rfl (by simp [-List.map_take]) ?_
   simp (decide := true) only [TF, q1, hk, q2, hg, hnf, ↓reduceIte, Int.reduceToNat]
   refine hK _ _ ?_; clear hK K
   refine WP.sr [0, 4, 9, 10, 17] (by kernel_rfl) fun K hK => ?_
   simp (decide := true) only [TF, q1, hk, q2, hg, hnf, ↓reduceIte, Int.reduceToNat]
   refine hK _ _ ?_; clear hK K
   refine WP.cond (b := _) rfl (fun q3 => ?_) (fun q3 => ?_)
   ·
    refine WP.sr [2] (by kernel_rfl) fun K hK => ?_
    simp (decide := true) only [TF, q1, hk, q2, hg, hnf, q3, ↓reduceIte, Int.reduceToNat]
    refine hK _ _ ?_; clear hK K
    refine WP.ret ?_
    exact Ends.pure (.inr rfl) rfl (Le.of_eq (by simp (decide := true) only [St.get, lk, W, checkK, q1, hk, q2, hg, hnf, q3, hI, ↓reduceIte])) (by simp)
   ·
    refine WP.skip ?_
    show WP _ _ _ _ _ _
    refine WP.region (by kernel_rfl) fun K hK => ?_
    simp (decide := true) only [TF, q1, hk, q2, hg, hnf, q3, ↓reduceIte, Int.reduceToNat]
    refine hK _ _ ?_; clear hK K
    show ∃ y, _ ∧ Weak _ _ _
    refine ⟨⟨k + 1, ?_⟩, ?_, ?_⟩
    · exact ⟨by omega, by first | (simpa [q1, hk, q2, hg, hnf, q3] using hI) | (simp_all; done)⟩
    · dsimp only; omega
    · exact Weak.store (by simp [St.get, lk, W, Le.refl, q1, hk, q2, hg, hnf, q3, wrapS hlt (show l.length ≤ 140737488355328 by omega)]) (by simp [lk, W, q1, hk, q2, hg, hnf, q3, wrapS hlt (show l.length ≤ 140737488355328 by omega)]) (by simp [lk, W]) (by simp [BClo, lk]) (by simp [lk])
  ·
   have hge := ge_of_q q2
   rw [dropN hge] at hI
   simp only [chkK] at hI
   refine WP.exit ?_
   show WP _ _ _ _ _ _
   refine WP.sr [2] (by kernel_rfl) fun K hK => ?_
   simp (decide := true) only [TF, q1, hk, q2, ↓reduceIte, Int.reduceToNat]
   refine hK _ _ ?_; clear hK K
   refine WP.ret ?_
   exact Ends.pure (.inr rfl) rfl (Le.of_eq (by simp (decide := true) only [St.get, lk, W, checkK, q1, hk, q2, hI, ↓reduceIte])) (by simp)
end Go.Proofs

set_option linter.unusedSimpArgs false
set_option linter.unusedVariables false
set_option maxRecDepth 10000
namespace Go.Proofs
open Go Go.Id
set_option maxHeartbeats 4000000
theorem c_r_check (l : List Key) (nl : Bool) (hn : l.length ≤ 1099511627776) (hnl : nl = true → l = []) (hl : ∀ k ∈ l, k.ok) : CallP Pr 13 [.slice 6 nl (l.map Key.cs) none] (.int .i64 (checkK l)) := by
 refine CallP.of_wp Tryz.func13 rfl (by kernel_rfl) Tryz.ntmps13 (by simp) ?_
 simp only [frameOf, Nat.reduceAdd, Nat.zero_add]
 refine WP.sr [0] (by kernel_rfl) fun K hK => ?_
 simp (decide := true) only [TF, ↓reduceIte, Int.reduceToNat]
 refine hK _ _ ?_; clear hK K
 refine WP.seq ?_
 refine WP.sr [0, 7] (by kernel_rfl) fun K hK => ?_
 simp (decide := true) only [TF, ↓reduceIte, Int.reduceToNat]
 refine hK _ _ ?_; clear hK K
 refine WP.cond (b := _) rfl (fun q1 => ?_) (fun q1 => ?_)
 ·
  refine WP.sr [2] (by kernel_rfl) fun K hK => ?_
  simp (decide := true) only [TF, q1, ↓reduceIte, Int.reduceToNat]
  refine hK _ _ ?_; clear hK K
  refine WP.ret ?_
  exact Ends.pure (.inr rfl) rfl (Le.of_eq (by simp (decide := true) only [St.get, lk, W, checkK, keyE, q1, ↓reduceIte])) (by simp)
 ·
  refine WP.skip ?_
  show WP _ _ _ _ _ _
  refine WP.seq ?_
  refine WP.sr [0, 3] (by kernel_rfl) fun K hK => ?_
  simp (decide := true) only [TF, q1, ↓reduceIte, Int.reduceToNat]
  refine hK _ _ ?_; clear hK K
  refine WP.block ?_
  refine WP.lp [0] (X := {k : Nat // k ≤ l.length ∧ chkK [] l = chkK (l.take k) (l.drop k)}) (fun x => match x with | ⟨(k), _⟩ => [(3, .int .i64 k)]) (fun x => match x with | ⟨(k), _⟩ => []) (fun x => match x with | ⟨(k), _⟩ => l.length - k) (by simp (decide := true) only [W, ↓reduceIte, Int.reduceToNat]; rfl) ?_ ⟨(0), ⟨Nat.zero_le _, by simp⟩⟩ ?_
  rotate_left
  · exact Weak.store (by simp [St.get, lk, W, Le.refl, q1]) (by simp [lk, W, q1]) (by simp [lk, W]) (by simp [BClo, lk]) (by simp [lk])
  rintro ⟨k, hk, hI⟩
  dsimp only
  simp only [List.cons_append, List.nil_append]
  refine WP.seq ?_
  refine WP.sr [0, 3, 11] (by kernel_rfl) fun K hK => ?_
  simp (decide := true) only [TF, q1, hk, ↓reduceIte, Int.reduceToNat]
  refine hK _ _ ?_; clear hK K
  refine WP.cond (b := _) rfl (fun q2 => ?_) (fun q2 => ?_)
  ·
   have hlt := lt_of_q q2
   have hg : (l.map Key.cs)[k]? = some [.str l[k].id, .str l[k].sec, .int .i64 l[k].sf, .int .i64 l[k].su, .int .i64 l[k].af, .int .i64 l[k].au] := getM hlt
   have hnf := nl_false hnl hlt
   rw [dropE hlt] at hI
   simp only [chkK] at hI
   have hk1 := hl _ (List.getElem_mem hlt)
   have hke : keyE (l.take k) l[k] = keyE (l.take k) l[k] := rfl
   refine WP.skip ?_
   show WP _ _ _ _ _ _
   refine WP.seq ?_
   refine WP.block ?_
   refine WP.seq ?_
   refine WP.sr [0, 3, 20] (by kernel_rfl) fun K hK => ?_
   simp (decide := true) only [TF, q1, hk, q2, hg, hnf, ↓reduceIte, Int.reduceToNat]
   refine CallK.pure (c_r_word l[k].id (by have := hk1.1; omega)) rfl rfl (by simp [-List.map_take]) ?_
   simp (decide := true) only [TF, q1, hk, q2, hg, hnf, ↓reduceIte, Int.reduceToNat]
   refine hK _ _ ?_; clear hK K
   refine WP.cond (b := _) rfl (fun q3 => ?_) (fun q3 => ?_)
   ·
    simp only [Bool.not_eq_true', Bool.not_eq_false'] at q3
    refine WP.sr [2] (by kernel_rfl) fun K hK => ?_
    simp (decide := true) only [TF, q1, hk, q2, hg, hnf, q3, ↓reduceIte, Int.reduceToNat]
    refine hK _ _ ?_; clear hK K
    refine WP.ret ?_
    exact Ends.pure (.inr rfl) rfl (Le.of_eq (by simp (decide := true) only [St.get, lk, W, checkK, keyE, q1, hk, q2, hg, hnf, q3, hI, ↓reduceIte])) (by simp)
   ·
    simp only [Bool.not_eq_true', Bool.not_eq_false'] at q3
    refine WP.skip ?_
    show WP _ _ _ _ _ _
    refine WP.seq ?_
    refine WP.sr [0, 3, 27] (by kernel_rfl) fun K hK => ?_
    simp (decide := true) only [TF, q1, hk, q2, hg, hnf, q3, ↓reduceIte, Int.reduceToNat]
    refine CallK.pure (c_r_clean l[k].sec (by have := hk1.2; omega)) rfl rfl (by simp [-List.map_take]) ?_
    simp (decide := true) only [TF, q1, hk, q2, hg, hnf, q3, ↓reduceIte, Int.reduceToNat]
    refine hK _ _ ?_; clear hK K
    refine WP.cond (b := _) rfl (fun q4 => ?_) (fun q4 => ?_)
    ·
     simp only [Bool.not_eq_true', Bool.not_eq_false'] at q4
     refine WP.sr [2] (by kernel_rfl) fun K hK => ?_
     simp (decide := true) only [TF, q1, hk, q2, hg, hnf, q3, q4, ↓reduceIte, Int.reduceToNat]
     refine hK _ _ ?_; clear hK K
     refine WP.ret ?_
     exact Ends.pure (.inr rfl) rfl (Le.of_eq (by simp (decide := true) only [St.get, lk, W, checkK, keyE, q1, hk, q2, hg, hnf, q3, q4, hI, ↓reduceIte])) (by simp)
    ·
     simp only [Bool.not_eq_true', Bool.not_eq_false'] at q4
     refine WP.skip ?_
     show WP _ _ _ _ _ _
     refine WP.seq ?_
     refine WP.sr [0, 3, 4] (by kernel_rfl) fun K hK => ?_
     simp (decide := true) only [TF, q1, hk, q2, hg, hnf, q3, q4, ↓reduceIte, Int.reduceToNat]
     refine hK _ _ ?_; clear hK K
     refine WP.block ?_
     refine WP.lp [0, 3] (X := {j : Nat // j ≤ k ∧ (l.take k).any (fun q => q.id == l[k].id) = ((l.take k).drop j).any (fun q => q.id == l[k].id)}) (fun x => match x with | ⟨(j), _⟩ => [(4, .int .i64 j)]) (fun x => match x with | ⟨(j), _⟩ => []) (fun x => match x with | ⟨(j), _⟩ => k - j) (by simp (decide := true) only [W, ↓reduceIte, Int.reduceToNat]; rfl) ?_ ⟨(0), ⟨Nat.zero_le _, by simp⟩⟩ ?_
     rotate_left
     · exact Weak.store (by simp [St.get, lk, W, Le.refl, q1, hk, q2, hg, hnf, q3, q4]) (by simp [lk, W, q1, hk, q2, hg, hnf, q3, q4]) (by simp [lk, W]) (by simp [BClo, lk]) (by simp [lk])
     rintro ⟨j, hj, hJ⟩
     dsimp only
     simp only [List.cons_append, List.nil_append]
     refine WP.seq ?_
     refine WP.sr [0, 3, 4, 30] (by kernel_rfl) fun K hK => ?_
     simp (decide := true) only [TF, q1, hk, q2, hg, hnf, q3, q4, hj, ↓reduceIte, Int.reduceToNat]
     refine hK _ _ ?_; clear hK K
     refine WP.cond (b := _) rfl (fun q5 => ?_) (fun q5 => ?_)
     ·
      have hjk : j < k := by have := of_decide_eq_true q5; omega
      have hjl : j < l.length := by omega
      have hgj : (l.map Key.cs)[j]? = some [.str l[j].id, .str l[j].sec, .int .i64 l[j].sf, .int .i64 l[j].su, .int .i64 l[j].af, .int .i64 l[j].au] := getM hjl
      have htj : j < (l.take k).length := by simp; omega
      rw [dropE htj, List.any_cons, List.getElem_take] at hJ
      refine WP.skip ?_
      show WP _ _ _ _ _ _
      refine WP.seq ?_
      refine WP.block ?_
      refine WP.sd [0, 3, 4, 43] (by kernel_rfl) (by kernel_rfl) fun K hK => ?_
      simp (decide := true) only [TF, q1, hk, q2, hg, hnf, q3, q4, hj, q5, hgj, ↓reduceIte, Int.reduceToNat]
      refine hK _ _ (by kernel_rfl) ?_
      clear hK K
      refine WP.cond (b := _) rfl (fun q6 => ?_) (fun q6 => ?_)
      ·
       refine WP.sr [2] (by kernel_rfl) fun K hK => ?_
       simp (decide := true) only [TF, q1, hk, q2, hg, hnf, q3, q4, hj, q5, hgj, q6, ↓reduceIte, Int.reduceToNat]
       refine hK _ _ ?_; clear hK K
       refine WP.ret ?_
       exact Ends.pure (.inr rfl) rfl (Le.of_eq (by simp (decide := true) only [St.get, lk, W, checkK, keyE, q1, hk, q2, hg, hnf, q3, q4, hj, q5, hgj, q6, hJ, hI, ↓reduceIte])) (by simp)
      ·
       refine WP.skip ?_
       show WP _ _ _ _ _ _
       refine WP.region (by kernel_rfl) fun K hK => ?_
       simp (decide := true) only [TF, q1, hk, q2, hg, hnf, q3, q4, hj, q5, hgj, q6, ↓reduceIte, Int.reduceToNat]
       refine hK _ _ ?_; clear hK K
       show ∃ y, _ ∧ Weak _ _ _
       refine ⟨⟨j + 1, ?_⟩, ?_, ?_⟩
       · exact ⟨by omega, by first | (simpa [q1, hk, q2, hg, hnf, q3, q4, hj, q5, hgj, q6] using hJ) | (simp_all; done)⟩
       · dsimp only; omega
       · exact Weak.store (by simp [St.get, lk, W, Le.refl, q1, hk, q2, hg, hnf, q3, q4, hj, q5, hgj, q6, wrapS hjl (show l.length ≤ 140737488355328 by omega)]) (by simp [lk, W, q1, hk, q2, hg, hnf, q3, q4, hj, q5, hgj, q6, wrapS hjl (show l.length ≤ 140737488355328 by omega)]) (by simp [lk, W]) (by simp [BClo, lk]) (by simp [lk])
     ·
      have hjk : k ≤ j := by have := of_decide_eq_false q5; omega
      rw [dropN (show (l.take k).length ≤ j by simp; omega)] at hJ
      simp only [List.any_nil] at hJ
      refine WP.exit ?_
      show WP _ _ _ _ _ _
      refine WP.sr [0, 3, 49] (by kernel_rfl) fun K hK => ?_
      simp (decide := true) only [TF, q1, hk, q2, hg, hnf, q3, q4, hj, q5, hJ, ↓reduceIte, Int.reduceToNat]
      refine CallK.pure (c_windows l[k]) rfl rfl (by simp [-List.map_take]) ?_
      simp (decide := true) only [TF, q1, hk, q2, hg, hnf, q3, q4, hj, q5, hJ, ↓reduceIte, Int.reduceToNat]
      refine hK _ _ ?_; clear hK K
      refine WP.cond (b := _) rfl (fun q7 => ?_) (fun q7 => ?_)
      ·
       simp only [Bool.not_eq_true', Bool.not_eq_false'] at q7
       refine WP.sr [2] (by kernel_rfl) fun K hK => ?_
       simp (decide := true) only [TF, q1, hk, q2, hg, hnf, q3, q4, hj, q5, hJ, q7, ↓reduceIte, Int.reduceToNat]
       refine hK _ _ ?_; clear hK K
       refine WP.ret ?_
       exact Ends.pure (.inr rfl) rfl (Le.of_eq (by simp (decide := true) only [St.get, lk, W, checkK, keyE, q1, hk, q2, hg, hnf, q3, q4, hj, q5, hJ, q7, hJ, hI, ↓reduceIte])) (by simp)
      ·
       simp only [Bool.not_eq_true', Bool.not_eq_false'] at q7
       have hk0 : keyE (l.take k) l[k] = 0 := by clear hI; simp_all [keyE]
       simp only [hk0, bne_self_eq_false, Bool.false_eq_true, if_false] at hI
       refine WP.skip ?_
       show WP _ _ _ _ _ _
       refine WP.region (by kernel_rfl) fun K hK => ?_
       simp (decide := true) only [TF, q1, hk, q2, hg, hnf, q3, q4, hj, q5, hJ, q7, hk0, ↓reduceIte, Int.reduceToNat]
       refine hK _ _ ?_; clear hK K
       show ∃ y, _ ∧ Weak _ _ _
       refine ⟨⟨k + 1, ?_⟩, ?_, ?_⟩
       · exact ⟨by omega, by first | (simpa [q1, hk, q2, hg, hnf, q3, q4, hj, q5, hJ, q7, hk0] using hI) | (simp_all; done)⟩
       · dsimp only; omega
       · exact Weak.store (by simp [St.get, lk, W, Le.refl, q1, hk, q2, hg, hnf, q3, q4, hj, q5, hJ, q7, hk0, wrapS hlt (show l.length ≤ 140737488355328 by omega)]) (by simp [lk, W, q1, hk, q2, hg, hnf, q3, q4, hj, q5, hJ, q7, hk0, wrapS hlt (show l.length ≤ 140737488355328 by omega)]) (by simp [lk, W]) (by simp [BClo, lk]) (by simp [lk])
  ·
   have hge := ge_of_q q2
   rw [dropN hge] at hI
   simp only [chkK] at hI
   refine WP.exit ?_
   show WP _ _ _ _ _ _
   refine WP.sr [2] (by kernel_rfl) fun K hK => ?_
   simp (decide := true) only [TF, q1, hk, q2, ↓reduceIte, Int.reduceToNat]
   refine hK _ _ ?_; clear hK K
   refine WP.ret ?_
   exact Ends.pure (.inr rfl) rfl (Le.of_eq (by simp (decide := true) only [St.get, lk, W, checkK, keyE, q1, hk, q2, hI, ↓reduceIte])) (by simp)
end Go.Proofs

/-
  Plain: which key signs, which is accepted. Conditions: as each theorem says.
-/
set_option linter.unusedSimpArgs false
set_option linter.unusedVariables false
namespace Go.Proofs
open Go Go.Id
theorem acc_find (id : List UInt8) (now skew : Int) : ∀ (l : List Key) (c : Int), 0 ≤ c → (ixP (fun k => k.id == id) l c = -1 ∧ accD l id now skew = (zeroK, 26)) ∨
    ∃ (i : Nat) (h : i < l.length), ixP (fun k => k.id == id) l c = c + i ∧ accD l id now skew = (if (chkW l[i].af l[i].au now skew != 0) = true then (zeroK, chkW l[i].af l[i].au now skew) else (l[i], 0))
  | [], c, _ => .inl ⟨rfl, rfl⟩
  | k :: t, c, hc => by
    by_cases h : (k.id == id) = true
    · exact .inr ⟨0, by simp, by simp [ixP, h], by simp [accD, h]⟩
    · rcases acc_find id now skew t (c + 1) (by omega) with ⟨h1, h2⟩ | ⟨i, hi, h1, h2⟩
      · exact .inl ⟨by simp only [ixP, h]; exact h1, by simp only [accD, h]; exact h2⟩
      · refine .inr ⟨i + 1, by simpa using hi, ?_, ?_⟩
        · simp only [ixP, h, Bool.false_eq_true, if_false]; rw [h1]; omega
        · simp only [accD, h, Bool.false_eq_true, if_false]; rw [h2]; rfl
theorem acc_cases (l : List Key) (id : List UInt8) (now skew : Int) : (ixP (fun k => k.id == id) l 0 = -1 ∧ accD l id now skew = (zeroK, 26)) ∨
    ∃ (i : Nat) (h : i < l.length), ixP (fun k => k.id == id) l 0 = i ∧ accD l id now skew = (if (chkW l[i].af l[i].au now skew != 0) = true then (zeroK, chkW l[i].af l[i].au now skew) else (l[i], 0)) := by
  rcases acc_find id now skew l 0 (Int.le_refl 0) with h | ⟨i, h, h1, h2⟩
  · exact .inl h
  · exact .inr ⟨i, h, by simpa using h1, h2⟩
theorem accD_cons (k : Key) (t : List Key) (id : List UInt8) (now skew : Int) : accD (k :: t) id now skew = if k.id == id then (if (chkW k.af k.au now skew != 0) = true then (zeroK, chkW k.af k.au now skew) else (k, 0)) else accD t id now skew := rfl
theorem accD_nil (id : List UInt8) (now skew : Int) : accD [] id now skew = (zeroK, 26) := rfl
theorem chkK_word : ∀ (l seen : List Key), chkK seen l = 0 → ∀ k ∈ l, keyE [] k = 0
  | [], _, _, k, hk => by simp at hk
  | q :: t, seen, h, k, hk => by
    rw [chkK] at h
    split at h
    · rename_i h1; rw [h] at h1; simp at h1
    · rename_i h1
      rcases List.mem_cons.1 hk with rfl | hk
      · simp only [bne_iff_ne, ne_eq, Decidable.not_not] at h1
        unfold keyE at h1 ⊢
        repeat' split at h1
        all_goals first | (cases h1; done) | simp_all
      · exact chkK_word t _ h k hk
theorem checkK_word {l : List Key} (h : checkK l = 0) : ∀ k ∈ l, wordB k.id = true ∧ k.id ≠ [] := by
  rw [checkK] at h
  split at h
  · cases h
  intro k hk
  have := chkK_word l [] h k hk
  unfold keyE at this
  split at this
  · cases this
  · rename_i h1
    have hw : wordB k.id = true := by simpa using h1
    exact ⟨hw, (by intro e; rw [e] at hw; simp [wordB] at hw)⟩
theorem eqK_zero {k : Key} (h : k.id ≠ []) : eqK k zeroK = false := by simp [eqK, zeroK, h]
theorem bestB_zero (k : Key) : bestB zeroK k = true := by simp [bestB, eqK, zeroK]
theorem sgL_cons (now : Int) (b k : Key) (t : List Key) : sgL now b (k :: t) = sgL now (if inB k.sf k.su now && bestB b k then k else b) t := rfl
theorem sgL_nil (now : Int) (b : Key) : sgL now b [] = b := rfl
theorem inB_lim (f u t : Int) : inB f u (limB t) = inB f u t := by simp only [inB, lim_lim]
theorem sgL_lim : ∀ (l : List Key) (now : Int) (b : Key), sgL (limB now) b l = sgL now b l
  | [], _, _ => rfl
  | k :: t, now, b => by simp only [sgL, inB_lim, sgL_lim t now]
theorem eqK_iff (a b : Key) : eqK a b = true ↔ a = b := by
  cases a; cases b; simp [eqK]
end Go.Proofs

set_option linter.unusedSimpArgs false
set_option linter.unusedVariables false
set_option maxRecDepth 10000
namespace Go.Proofs
open Go Go.Id
set_option maxHeartbeats 4000000
theorem zK (h : 31 < Tryz.prog.types.size) : (Tryz.prog.types[31]'h).size = 6 := by kernel_rfl
theorem c_r_same (a : List Key) (na : Bool) (b : List Key) (nb : Bool) (ha : a.length ≤ 1099511627776) (hna : na = true → a = []) (hb : b.length ≤ 1099511627776) (hnb : nb = true → b = []) : CallP Pr 21 [.slice 6 na (a.map Key.cs) none, .slice 6 nb (b.map Key.cs) none] (.bool (sameK a b)) := by
 refine CallP.of_wp Tryz.func21 rfl (by kernel_rfl) Tryz.ntmps21 (by simp) ?_
 simp only [frameOf, Nat.reduceAdd, Nat.zero_add]
 refine WP.sr [0, 1] (by kernel_rfl) fun K hK => ?_
 simp (decide := true) only [TF, ↓reduceIte, Int.reduceToNat]
 refine hK _ _ ?_; clear hK K
 refine WP.seq ?_
 refine WP.sr [0, 1, 10] (by kernel_rfl) fun K hK => ?_
 simp (decide := true) only [TF, ↓reduceIte, Int.reduceToNat]
 refine hK _ _ ?_; clear hK K
 refine WP.cond (b := _) rfl (fun q1 => ?_) (fun q1 => ?_)
 ·
  have hF : sameK a b = false := all2_len eqK a b (by intro e; simp [e] at q1)
  refine WP.sr [4] (by kernel_rfl) fun K hK => ?_
  simp (decide := true) only [TF, q1, hF, ↓reduceIte, Int.reduceToNat]
  refine hK _ _ ?_; clear hK K
  refine WP.ret ?_
  exact Ends.pure (.inr rfl) rfl (Le.of_eq (by simp (decide := true) only [St.get, lk, W, q1, hF, ↓reduceIte])) (by simp)
 ·
  have hlen : a.length = b.length := by simp at q1; omega
  refine WP.skip ?_
  show WP _ _ _ _ _ _
  refine WP.seq ?_
  refine WP.sr [0, 1, 5] (by kernel_rfl) fun K hK => ?_
  simp (decide := true) only [TF, q1, ↓reduceIte, Int.reduceToNat]
  refine hK _ _ ?_; clear hK K
  refine WP.block ?_
  refine WP.lp [0, 1] (X := {k : Nat // k ≤ a.length ∧ sameK a b = all2 eqK (a.drop k) (b.drop k)}) (fun x => match x with | ⟨(k), _⟩ => [(5, .int .i64 k)]) (fun x => match x with | ⟨(k), _⟩ => []) (fun x => match x with | ⟨(k), _⟩ => a.length - k) (by simp (decide := true) only [W, ↓reduceIte, Int.reduceToNat]; rfl) ?_ ⟨(0), ⟨Nat.zero_le _, by simp [sameK]⟩⟩ ?_
  rotate_left
  · exact Weak.store (by simp [St.get, lk, W, Le.refl, q1]) (by simp [lk, W, q1]) (by simp [lk, W]) (by simp [BClo, lk]) (by simp [lk])
  rintro ⟨k, hk, hI⟩
  dsimp only
  simp only [List.cons_append, List.nil_append]
  refine WP.seq ?_
  refine WP.sr [0, 1, 5, 14] (by kernel_rfl) fun K hK => ?_
  simp (decide := true) only [TF, q1, hk, ↓reduceIte, Int.reduceToNat]
  refine hK _ _ ?_; clear hK K
  refine WP.cond (b := _) rfl (fun q2 => ?_) (fun q2 => ?_)
  ·
   have hlt := lt_of_q q2
   have hg : (a.map Key.cs)[k]? = some [.str a[k].id, .str a[k].sec, .int .i64 a[k].sf, .int .i64 a[k].su, .int .i64 a[k].af, .int .i64 a[k].au] := getM hlt
   have hnf := nl_false hna hlt
   rw [dropE hlt] at hI
   have hlt2 : k < b.length := by omega
   have hgb : (b.map Key.cs)[k]? = some [.str b[k].id, .str b[k].sec, .int .i64 b[k].sf, .int .i64 b[k].su, .int .i64 b[k].af, .int .i64 b[k].au] := getM hlt2
   have hnfb := nl_false hnb hlt2
   rw [dropE hlt2, all2_cons] at hI
   refine WP.skip ?_
   show WP _ _ _ _ _ _
   refine WP.seq ?_
   refine WP.block ?_
   refine WP.sd [0, 1, 5, 25] (by kernel_rfl) (by kernel_rfl) fun K hK => ?_
   simp (decide := true) only [TF, q1, hk, q2, hg, hnf, hgb, hnfb, ↓reduceIte, Int.reduceToNat]
   refine hK _ _ (by kernel_rfl) ?_
   clear hK K
   refine WP.cond (b := _) rfl (fun q3 => ?_) (fun q3 => ?_)
   ·
    have hz : eqK a[k] b[k] = false := by have hq := q3; simp only [Bool.not_eq_true'] at hq; exact hq
    have hF : sameK a b = false := by rw [hI, hz]; rfl
    refine WP.sr [4] (by kernel_rfl) fun K hK => ?_
    simp (decide := true) only [TF, q1, hk, q2, hg, hnf, hgb, hnfb, q3, hF, ↓reduceIte, Int.reduceToNat]
    refine hK _ _ ?_; clear hK K
    refine WP.ret ?_
    exact Ends.pure (.inr rfl) rfl (Le.of_eq (by simp (decide := true) only [St.get, lk, W, q1, hk, q2, hg, hnf, hgb, hnfb, q3, hF, hI, ↓reduceIte])) (by simp)
   ·
    have hz : eqK a[k] b[k] = true := by have hq := q3; simp only [Bool.not_eq_false'] at hq; exact hq
    rw [hz, Bool.true_and] at hI
    refine WP.skip ?_
    show WP _ _ _ _ _ _
    refine WP.region (by kernel_rfl) fun K hK => ?_
    simp (decide := true) only [TF, q1, hk, q2, hg, hnf, hgb, hnfb, q3, ↓reduceIte, Int.reduceToNat]
    refine hK _ _ ?_; clear hK K
    show ∃ y, _ ∧ Weak _ _ _
    refine ⟨⟨k + 1, ?_⟩, ?_, ?_⟩
    · exact ⟨by omega, by first | (simpa [q1, hk, q2, hg, hnf, hgb, hnfb, q3] using hI) | (simp_all; done)⟩
    · dsimp only; omega
    · exact Weak.store (by simp [St.get, lk, W, Le.refl, q1, hk, q2, hg, hnf, hgb, hnfb, q3, wrapS hlt (show a.length ≤ 140737488355328 by omega)]) (by simp [lk, W, q1, hk, q2, hg, hnf, hgb, hnfb, q3, wrapS hlt (show a.length ≤ 140737488355328 by omega)]) (by simp [lk, W]) (by simp [BClo, lk]) (by simp [lk])
  ·
   have hge := ge_of_q q2
   rw [dropN hge, dropN (show b.length ≤ k by omega)] at hI
   simp only [all2_nil] at hI
   refine WP.exit ?_
   show WP _ _ _ _ _ _
   refine WP.sr [4] (by kernel_rfl) fun K hK => ?_
   simp (decide := true) only [TF, q1, hk, q2, ↓reduceIte, Int.reduceToNat]
   refine hK _ _ ?_; clear hK K
   refine WP.ret ?_
   exact Ends.pure (.inr rfl) rfl (Le.of_eq (by simp (decide := true) only [St.get, lk, W, q1, hk, q2, hI, ↓reduceIte])) (by simp)
theorem c_accepting (l : List Key) (nl : Bool) (id : List UInt8) (now skew : Int) (hn : l.length ≤ 1099511627776) (hnl : nl = true → l = []) : CallP Pr 16 [.slice 6 nl (l.map Key.cs) none, .str id, .int .i64 now, .int .i64 skew] (.tup [.agg [.str (accD l id now skew).1.id, .str (accD l id now skew).1.sec, .int .i64 (accD l id now skew).1.sf, .int .i64 (accD l id now skew).1.su, .int .i64 (accD l id now skew).1.af, .int .i64 (accD l id now skew).1.au], .int .i64 (accD l id now skew).2]) := by
 refine CallP.of_wp Tryz.func16 rfl (by kernel_rfl) Tryz.ntmps16 (by simp) ?_
 simp only [frameOf, Nat.reduceAdd, Nat.zero_add]
 rcases acc_cases l id now skew with ⟨hx, hacc⟩ | ⟨i, hi, hx, hacc⟩
 ·
  refine WP.sr [0, 1, 2, 3, 8] (by kernel_rfl) fun K hK => ?_
  simp (decide := true) only [TF, hx, hacc, ↓reduceIte, Int.reduceToNat]
  refine hK _ _ ?_; clear hK K
  refine WP.sr [0, 2, 3, 8, 10] (by kernel_rfl) fun K hK => ?_
  simp (decide := true) only [TF, hx, hacc, ↓reduceIte, Int.reduceToNat]
  refine CallK.pure (c_find l nl id hn hnl) rfl rfl (by simp [-List.map_take]) ?_
  simp (decide := true) only [TF, hx, hacc, ↓reduceIte, Int.reduceToNat]
  refine hK _ _ ?_; clear hK K
  refine WP.seq ?_
  refine WP.sr [0, 2, 3, 8, 10, 16] (by kernel_rfl) fun K hK => ?_
  simp (decide := true) only [TF, hx, hacc, ↓reduceIte, Int.reduceToNat]
  refine hK _ _ ?_; clear hK K
  refine WP.cond (b := true) (by rfl) (fun _ => ?_) nofun
  refine WP.sr [8, 9] (by kernel_rfl) fun K hK => ?_
  simp (decide := true) only [TF, hx, hacc, ↓reduceIte, Int.reduceToNat]
  refine hK _ _ ?_; clear hK K
  refine WP.ret ?_
  exact Ends.pure (d := .tup [_, _]) (.inr rfl) rfl (Le.of_eq (by simp [St.get, lk, W, Pr_prog, zK, zeroK, hx, hacc])) (by simp)
 ·
  have hnf := nl_false hnl hi
  have hg : (l.map Key.cs)[i]? = some [.str l[i].id, .str l[i].sec, .int .i64 l[i].sf, .int .i64 l[i].su, .int .i64 l[i].af, .int .i64 l[i].au] := getM hi
  have hn0 : decide ((i : Int) < 0) = false := by simp
  refine WP.sr [0, 1, 2, 3, 8] (by kernel_rfl) fun K hK => ?_
  simp (decide := true) only [TF, hx, hacc, hnf, hg, hn0, ↓reduceIte, Int.reduceToNat]
  refine hK _ _ ?_; clear hK K
  refine WP.sr [0, 2, 3, 8, 10] (by kernel_rfl) fun K hK => ?_
  simp (decide := true) only [TF, hx, hacc, hnf, hg, hn0, ↓reduceIte, Int.reduceToNat]
  refine CallK.pure (c_find l false id hn nofun) rfl rfl (by simp [-List.map_take]) ?_
  simp (decide := true) only [TF, hx, hacc, hnf, hg, hn0, ↓reduceIte, Int.reduceToNat]
  refine hK _ _ ?_; clear hK K
  refine WP.seq ?_
  refine WP.sr [0, 2, 3, 8, 10, 16] (by kernel_rfl) fun K hK => ?_
  simp (decide := true) only [TF, hx, hacc, hnf, hg, hn0, ↓reduceIte, Int.reduceToNat]
  refine hK _ _ ?_; clear hK K
  refine WP.cond (b := false) (by rfl) nofun (fun _ => ?_)
  refine WP.skip ?_
  show WP _ _ _ _ _ _
  refine WP.seq ?_
  refine WP.sr [0, 8, 10, 11] (by kernel_rfl) fun K hK => ?_
  simp (decide := true) only [TF, hx, hacc, hnf, hg, hn0, ↓reduceIte, Int.reduceToNat]
  refine CallK.pure (c_ck_check l[i].af l[i].au now skew) rfl rfl (by simp [-List.map_take]) ?_
  simp (decide := true) only [TF, hx, hacc, hnf, hg, hn0, ↓reduceIte, Int.reduceToNat]
  refine hK _ _ ?_; clear hK K
  refine WP.sr [0, 8, 10, 11, 27] (by kernel_rfl) fun K hK => ?_
  simp (decide := true) only [TF, hx, hacc, hnf, hg, hn0, ↓reduceIte, Int.reduceToNat]
  refine hK _ _ ?_; clear hK K
  refine WP.cond (b := _) rfl (fun q1 => ?_) (fun q1 => ?_)
  ·
   refine WP.sr [8, 9] (by kernel_rfl) fun K hK => ?_
   simp (decide := true) only [TF, hx, hacc, hnf, hg, hn0, q1, ↓reduceIte, Int.reduceToNat]
   refine hK _ _ ?_; clear hK K
   refine WP.ret ?_
   exact Ends.pure (d := .tup [_, _]) (.inr rfl) rfl (Le.of_eq (by simp [St.get, lk, W, Pr_prog, zK, zeroK, hx, hacc, hnf, hg, hn0, q1])) (by simp)
  ·
   refine WP.skip ?_
   show WP _ _ _ _ _ _
   refine WP.sr [8, 9] (by kernel_rfl) fun K hK => ?_
   simp (decide := true) only [TF, hx, hacc, hnf, hg, hn0, q1, ↓reduceIte, Int.reduceToNat]
   refine hK _ _ ?_; clear hK K
   refine WP.ret ?_
   exact Ends.pure (d := .tup [_, _]) (.inr rfl) rfl (Le.of_eq (by simp [St.get, lk, W, Pr_prog, zK, zeroK, hx, hacc, hnf, hg, hn0, q1])) (by simp)
theorem c_r_accepting (l : List Key) (nl : Bool) (id : List UInt8) (now skew : Int) (hn : l.length ≤ 1099511627776) (hnl : nl = true → l = []) : CallP Pr 17 [.slice 6 nl (l.map Key.cs) none, .str id, .int .i64 now, .int .i64 skew] (.tup [.agg [.str (accD l id now skew).1.id, .str (accD l id now skew).1.sec, .int .i64 (accD l id now skew).1.sf, .int .i64 (accD l id now skew).1.su, .int .i64 (accD l id now skew).1.af, .int .i64 (accD l id now skew).1.au], .int .i64 (accD l id now skew).2]) := by
 refine CallP.of_wp Tryz.func17 rfl (by kernel_rfl) Tryz.ntmps17 (by simp) ?_
 simp only [frameOf, Nat.reduceAdd, Nat.zero_add]
 refine WP.sr [0, 1, 2, 3, 8] (by kernel_rfl) fun K hK => ?_
 simp (decide := true) only [TF, ↓reduceIte, Int.reduceToNat]
 refine hK _ _ ?_; clear hK K
 refine WP.seq ?_
 refine WP.sr [0, 1, 2, 3, 8, 10] (by kernel_rfl) fun K hK => ?_
 simp (decide := true) only [TF, ↓reduceIte, Int.reduceToNat]
 refine hK _ _ ?_; clear hK K
 refine WP.block ?_
 refine WP.lp [0, 1, 2, 3, 8] (X := {k : Nat // k ≤ l.length ∧ accD l id now skew = accD (l.drop k) id now skew}) (fun x => match x with | ⟨(k), _⟩ => [(10, .int .i64 k)]) (fun x => match x with | ⟨(k), _⟩ => [(0, .box 31 [.str [], .str [], .int .i64 0, .int .i64 0, .int .i64 0, .int .i64 0])]) (fun x => match x with | ⟨(k), _⟩ => l.length - k) (by simp (decide := true) only [W, ↓reduceIte, Int.reduceToNat]; rfl) ?_ ⟨(0), ⟨Nat.zero_le _, by simp⟩⟩ ?_
 rotate_left
 · exact Weak.store (by simp [St.get, lk, W, Le.refl, W]) (by simp [lk, W, W]) (by simp [lk, W]) (by simp [BClo, lk]) (by simp [lk])
 rintro ⟨k, hk, hI⟩
 dsimp only
 simp only [List.cons_append, List.nil_append]
 refine WP.seq ?_
 refine WP.sr [0, 1, 2, 3, 8, 10, 15] (by kernel_rfl) fun K hK => ?_
 simp (decide := true) only [TF, hk, ↓reduceIte, Int.reduceToNat]
 refine hK _ _ ?_; clear hK K
 refine WP.cond (b := _) rfl (fun q1 => ?_) (fun q1 => ?_)
 ·
  have hlt := lt_of_q q1
  have hg : (l.map Key.cs)[k]? = some [.str l[k].id, .str l[k].sec, .int .i64 l[k].sf, .int .i64 l[k].su, .int .i64 l[k].af, .int .i64 l[k].au] := getM hlt
  have hnf := nl_false hnl hlt
  rw [dropE hlt] at hI
  simp only [accD_cons] at hI
  refine WP.skip ?_
  show WP _ _ _ _ _ _
  refine WP.seq ?_
  refine WP.block ?_
  refine WP.sr [0, 1, 2, 3, 8, 10, 24] (by kernel_rfl) fun K hK => ?_
  simp (decide := true) only [TF, hk, q1, hg, hnf, ↓reduceIte, Int.reduceToNat]
  refine hK _ _ ?_; clear hK K
  refine WP.cond (b := _) rfl (fun q2 => ?_) (fun q2 => ?_)
  ·
   refine WP.sr [0, 8, 10, 11] (by kernel_rfl) fun K hK => ?_
   simp (decide := true) only [TF, hk, q1, hg, hnf, q2, ↓reduceIte, Int.reduceToNat]
   refine CallK.pure (c_r_ck_check _ _ _ _) rfl rfl (by simp [-List.map_take]) ?_
   simp (decide := true) only [TF, hk, q1, hg, hnf, q2, ↓reduceIte, Int.reduceToNat]
   refine hK _ _ ?_; clear hK K
   refine WP.seq ?_
   refine WP.sr [0, 8, 10, 11, 34] (by kernel_rfl) fun K hK => ?_
   simp (decide := true) only [TF, hk, q1, hg, hnf, q2, ↓reduceIte, Int.reduceToNat]
   refine hK _ _ ?_; clear hK K
   refine WP.cond (b := _) rfl (fun q3 => ?_) (fun q3 => ?_)
   ·
    refine WP.sr [8, 9] (by kernel_rfl) fun K hK => ?_
    simp (decide := true) only [TF, hk, q1, hg, hnf, q2, q3, ↓reduceIte, Int.reduceToNat]
    refine hK _ _ ?_; clear hK K
    refine WP.ret ?_
    exact Ends.pure (d := .tup [_, _]) (.inr rfl) rfl (Le.of_eq (by simp [St.get, lk, W, Pr_prog, zK, hI, zeroK, hk, q1, hg, hnf, q2, q3])) (by simp)
   ·
    refine WP.skip ?_
    show WP _ _ _ _ _ _
    refine WP.sr [8, 9] (by kernel_rfl) fun K hK => ?_
    simp (decide := true) only [TF, hk, q1, hg, hnf, q2, q3, ↓reduceIte, Int.reduceToNat]
    refine hK _ _ ?_; clear hK K
    refine WP.ret ?_
    exact Ends.pure (d := .tup [_, _]) (.inr rfl) rfl (Le.of_eq (by simp [St.get, lk, W, Pr_prog, zK, hI, zeroK, hk, q1, hg, hnf, q2, q3])) (by simp)
  ·
   refine WP.skip ?_
   show WP _ _ _ _ _ _
   refine WP.region (by kernel_rfl) fun K hK => ?_
   simp (decide := true) only [TF, hk, q1, hg, hnf, q2, ↓reduceIte, Int.reduceToNat]
   refine hK _ _ ?_; clear hK K
   show ∃ y, _ ∧ Weak _ _ _
   refine ⟨⟨k + 1, ?_⟩, ?_, ?_⟩
   · exact ⟨by omega, by first | (simpa [hk, q1, hg, hnf, q2] using hI) | (simp_all; done)⟩
   · dsimp only; omega
   · exact Weak.store (by simp [St.get, lk, W, Le.refl, hk, q1, hg, hnf, q2, wrapS hlt (show l.length ≤ 140737488355328 by omega)]) (by simp [lk, W, hk, q1, hg, hnf, q2, wrapS hlt (show l.length ≤ 140737488355328 by omega)]) (by simp [lk, W]) (by simp [BClo, lk]) (by simp [lk])
 ·
  have hge := ge_of_q q1
  rw [dropN hge] at hI
  simp only [accD_nil] at hI
  refine WP.exit ?_
  show WP _ _ _ _ _ _
  refine WP.sr [8, 9] (by kernel_rfl) fun K hK => ?_
  simp (decide := true) only [TF, hk, q1, ↓reduceIte, Int.reduceToNat]
  refine hK _ _ ?_; clear hK K
  refine WP.ret ?_
  exact Ends.pure (d := .tup [_, _]) (.inr rfl) rfl (Le.of_eq (by simp [St.get, lk, W, Pr_prog, zK, hI, zeroK, hk, q1])) (by simp)
theorem c_signing (l : List Key) (nl : Bool) (now : Int) (hn : l.length ≤ 1099511627776) (hnl : nl = true → l = []) (hl : ∀ k ∈ l, k.ok) : CallP Pr 14 [.slice 6 nl (l.map Key.cs) none, .int .i64 now] (.tup [.agg [.str (sgK l now).id, .str (sgK l now).sec, .int .i64 (sgK l now).sf, .int .i64 (sgK l now).su, .int .i64 (sgK l now).af, .int .i64 (sgK l now).au], .bool (!(eqK (sgK l now) zeroK))]) := by
 refine CallP.of_wp Tryz.func14 rfl (by kernel_rfl) Tryz.ntmps14 (by simp) ?_
 simp only [frameOf, Nat.reduceAdd, Nat.zero_add]
 refine WP.sr [0, 1, 4] (by kernel_rfl) fun K hK => ?_
 simp (decide := true) only [TF, inB_lim, ↓reduceIte, Int.reduceToNat]
 refine hK _ _ ?_; clear hK K
 refine WP.sr [0, 1, 4] (by kernel_rfl) fun K hK => ?_
 simp (decide := true) only [TF, inB_lim, ↓reduceIte, Int.reduceToNat]
 refine CallK.pure (c_k_limited _) rfl rfl (by simp [-List.map_take]) ?_
 simp (decide := true) only [TF, inB_lim, ↓reduceIte, Int.reduceToNat]
 refine hK _ _ ?_; clear hK K
 refine WP.sr [0, 1, 4, 6] (by kernel_rfl) fun K hK => ?_
 simp (decide := true) only [TF, inB_lim, ↓reduceIte, Int.reduceToNat]
 refine hK _ _ ?_; clear hK K
 refine WP.seq ?_
 refine WP.sr [0, 1, 4, 6, 14] (by kernel_rfl) fun K hK => ?_
 simp (decide := true) only [TF, inB_lim, ↓reduceIte, Int.reduceToNat]
 refine CallK.pure (c_k_check l nl hn hnl hl) rfl rfl (by simp [-List.map_take]) ?_
 simp (decide := true) only [TF, inB_lim, ↓reduceIte, Int.reduceToNat]
 refine hK _ _ ?_; clear hK K
 refine WP.cond (b := _) rfl (fun q1 => ?_) (fun q1 => ?_)
 ·
  have hs : sgK l now = zeroK := by simp [sgK, q1]
  refine WP.sr [4, 5] (by kernel_rfl) fun K hK => ?_
  simp (decide := true) only [TF, q1, hs, inB_lim, ↓reduceIte, Int.reduceToNat]
  refine hK _ _ ?_; clear hK K
  refine WP.ret ?_
  exact Ends.pure (d := .tup [_, _]) (.inr rfl) rfl (Le.of_eq (by simp [St.get, lk, W, Pr_prog, zK, q1, hs, zeroK, eqK])) (by simp)
 ·
  have hs : sgK l now = sgL now zeroK l := by simp [sgK, q1]
  refine WP.skip ?_
  show WP _ _ _ _ _ _
  refine WP.seq ?_
  refine WP.sr [1, 4, 6, 16, 17, 18] (by kernel_rfl) fun K hK => ?_
  simp (decide := true) only [TF, q1, inB_lim, ↓reduceIte, Int.reduceToNat]
  refine hK _ _ ?_; clear hK K
  refine WP.block ?_
  refine WP.lp [1, 4, 6, 16, 17] (X := {x : (Nat) × (Key) // match x with | (k, b) => k ≤ l.length ∧ sgL now zeroK l = sgL now b (l.drop k)}) (fun x => match x with | ⟨(k, b), _⟩ => [(18, .int .i64 k)]) (fun x => match x with | ⟨(k, b), _⟩ => [(0, .box 31 [.str [], .str [], .int .i64 0, .int .i64 0, .int .i64 0, .int .i64 0]), (1, .box 31 [.str b.id, .str b.sec, .int .i64 b.sf, .int .i64 b.su, .int .i64 b.af, .int .i64 b.au])]) (fun x => match x with | ⟨(k, b), _⟩ => l.length - k) (by simp (decide := true) only [W, ↓reduceIte, Int.reduceToNat]; rfl) ?_ ⟨(0, zeroK), ⟨Nat.zero_le _, by simp⟩⟩ ?_
  rotate_left
  · exact Weak.store (by simp [St.get, lk, W, Le.refl, q1, zeroK]) (by simp [lk, W, q1, zeroK]) (by simp [lk, W]) (by simp [BClo, lk]) (by simp [lk])
  rintro ⟨⟨k, b⟩, hk, hI⟩
  dsimp only
  simp only [List.cons_append, List.nil_append]
  refine WP.sr [1, 4, 6, 16, 17, 18, 19] (by kernel_rfl) fun K hK => ?_
  simp (decide := true) only [TF, q1, hk, inB_lim, ↓reduceIte, Int.reduceToNat]
  refine hK _ _ ?_; clear hK K
  refine WP.seq ?_
  refine WP.cond (b := _) rfl (fun q2 => ?_) (fun q2 => ?_)
  ·
   have hlt := lt_of_q q2
   have hg : (l.map Key.cs)[k]? = some [.str l[k].id, .str l[k].sec, .int .i64 l[k].sf, .int .i64 l[k].su, .int .i64 l[k].af, .int .i64 l[k].au] := getM hlt
   have hnf := nl_false hnl hlt
   rw [dropE hlt] at hI
   simp only [sgL_cons] at hI
   refine WP.skip ?_
   show WP _ _ _ _ _ _
   refine WP.seq ?_
   refine WP.block ?_
   refine WP.sr [1, 4, 6, 8, 16, 17, 18] (by kernel_rfl) fun K hK => ?_
   simp (decide := true) only [TF, q1, hk, q2, hg, hnf, inB_lim, ↓reduceIte, Int.reduceToNat]
   refine hK _ _ ?_; clear hK K
   refine WP.seq ?_
   refine WP.sr [1, 4, 6, 8, 16, 17, 18, 26] (by kernel_rfl) fun K hK => ?_
   simp (decide := true) only [TF, q1, hk, q2, hg, hnf, inB_lim, ↓reduceIte, Int.reduceToNat]
   refine CallK.pure (c_c_in _ _ _) rfl rfl (by simp [-List.map_take]) ?_
   simp (decide := true) only [TF, q1, hk, q2, hg, hnf, inB_lim, ↓reduceIte, Int.reduceToNat]
   refine hK _ _ ?_; clear hK K
   refine WP.cond (b := _) rfl (fun q3 => ?_) (fun q3 => ?_)
   ·
    simp only [Bool.not_eq_true', Bool.not_eq_false'] at q3
    have hni : inB l[k].sf l[k].su now = false := by simpa using q3
    simp only [hni, Bool.false_and, Bool.false_eq_true, if_false] at hI
    refine WP.exit ?_
    show WP _ _ _ _ _ _
    refine WP.region (by kernel_rfl) fun K hK => ?_
    simp (decide := true) only [TF, q1, hk, q2, hg, hnf, q3, inB_lim, ↓reduceIte, Int.reduceToNat]
    refine hK _ _ ?_; clear hK K
    show ∃ y, _ ∧ Weak _ _ _
    refine ⟨⟨(k + 1, b), ?_⟩, ?_, ?_⟩
    · exact ⟨by omega, hI⟩
    · dsimp only; omega
    · exact Weak.store (by simp [St.get, lk, W, Le.refl, q1, hk, q2, hg, hnf, q3, wrapS hlt (show l.length ≤ 140737488355328 by omega)]) (by simp [lk, W, q1, hk, q2, hg, hnf, q3, wrapS hlt (show l.length ≤ 140737488355328 by omega)]) (by simp [lk, W]) (by simp [BClo, lk]) (by simp [lk])
   ·
    simp only [Bool.not_eq_true', Bool.not_eq_false'] at q3
    have hni : inB l[k].sf l[k].su now = true := by simpa using q3
    simp only [hni, Bool.true_and] at hI
    refine WP.skip ?_
    show WP _ _ _ _ _ _
    refine WP.sm [1, 4, 6, 8, 16, 17, 18] 54 (.bool (bestB b l[k])) (by kernel_rfl) (fun K hK => ?_) ?_
    ·
     refine runOps.take 4 fun J hJ => ?_
     simp (decide := true) only [TF, q1, hk, q2, hg, hnf, q3, inB_lim, ↓reduceIte, Int.reduceToNat]
     refine hJ _ _ ?_; clear hJ J
     refine runOps.part 30 rfl (fun q4 => ?_) (fun q4 => ?_)
     ·
      simp (decide := true) only [TF, q1, hk, q2, hg, hnf, q3, q4, inB_lim, ↓reduceIte, Int.reduceToNat]
      exact hK _ _ (by simp [St.get, lk, W]) rfl (Le.of_eq (by simp_all [St.get, lk, W, LN, bne, bestB, eqK, zeroK, gtB]))
     ·
      refine runOps.take 9 fun J hJ => ?_
      simp (decide := true) only [TF, q1, hk, q2, hg, hnf, q3, q4, inB_lim, ↓reduceIte, Int.reduceToNat]
      refine hJ _ _ ?_; clear hJ J
      refine runOps.part 39 rfl (fun q5 => ?_) (fun q5 => ?_)
      ·
       simp (decide := true) only [TF, q1, hk, q2, hg, hnf, q3, q4, q5, inB_lim, ↓reduceIte, Int.reduceToNat]
       exact hK _ _ (by simp [St.get, lk, W]) rfl (Le.of_eq (by simp [St.get, lk, W, bne, bestB, eqK, zeroK, gtB, q1, hk, q2, hg, hnf, q3, q4, q5]))
      ·
       refine runOps.take 8 fun J hJ => ?_
       simp (decide := true) only [TF, q1, hk, q2, hg, hnf, q3, q4, q5, inB_lim, ↓reduceIte, Int.reduceToNat]
       refine hJ _ _ ?_; clear hJ J
       refine runOps.part 47 rfl (fun q6 => ?_) (fun q6 => ?_)
       ·
        simp (decide := true) only [TF, q1, hk, q2, hg, hnf, q3, q4, q5, q6, inB_lim, ↓reduceIte, Int.reduceToNat]
        exact hK _ _ (by simp [St.get, lk, W]) rfl (Le.of_eq (by simp_all [St.get, lk, W, LN, bne, bestB, eqK, zeroK, gtB]))
       ·
        simp (decide := true) only [TF, q1, hk, q2, hg, hnf, q3, q4, q5, q6, inB_lim, ↓reduceIte, Int.reduceToNat]
        exact hK _ _ (by simp [St.get, lk, W]) rfl (Le.of_eq (by simp_all [St.get, lk, W, LN, bne, bestB, eqK, zeroK, gtB]))
    ·
     refine WP.cond (b := _) rfl (fun q7 => ?_) (fun q7 => ?_)
     ·
      have hbt := q7
      simp only [hbt, if_true] at hI
      refine WP.region (by kernel_rfl) fun K hK => ?_
      simp (decide := true) only [TF, q1, hk, q2, hg, hnf, q3, q7, hbt, inB_lim, ↓reduceIte, Int.reduceToNat]
      refine hK _ _ ?_; clear hK K
      show WP _ _ _ _ _ _
      refine WP.region (by kernel_rfl) fun K hK => ?_
      simp (decide := true) only [TF, q1, hk, q2, hg, hnf, q3, q7, hbt, inB_lim, ↓reduceIte, Int.reduceToNat]
      refine hK _ _ ?_; clear hK K
      show ∃ y, _ ∧ Weak _ _ _
      refine ⟨⟨(k + 1, l[k]), ?_⟩, ?_, ?_⟩
      · exact ⟨by omega, hI⟩
      · dsimp only; omega
      · exact Weak.store (by simp [St.get, lk, W, Le.refl, q1, hk, q2, hg, hnf, q3, q7, hbt, wrapS hlt (show l.length ≤ 140737488355328 by omega)]) (by simp [lk, W, q1, hk, q2, hg, hnf, q3, q7, hbt, wrapS hlt (show l.length ≤ 140737488355328 by omega)]) (by simp [lk, W]) (by simp [BClo, lk]) (by simp [lk])
     ·
      simp only [q7, Bool.false_eq_true, if_false] at hI
      refine WP.skip ?_
      show WP _ _ _ _ _ _
      refine WP.region (by kernel_rfl) fun K hK => ?_
      simp (decide := true) only [TF, q1, hk, q2, hg, hnf, q3, q7, inB_lim, ↓reduceIte, Int.reduceToNat]
      refine hK _ _ ?_; clear hK K
      show ∃ y, _ ∧ Weak _ _ _
      refine ⟨⟨(k + 1, b), ?_⟩, ?_, ?_⟩
      · exact ⟨by omega, hI⟩
      · dsimp only; omega
      · exact Weak.store (by simp [St.get, lk, W, Le.refl, q1, hk, q2, hg, hnf, q3, q7, wrapS hlt (show l.length ≤ 140737488355328 by omega)]) (by simp [lk, W, q1, hk, q2, hg, hnf, q3, q7, wrapS hlt (show l.length ≤ 140737488355328 by omega)]) (by simp [lk, W]) (by simp [BClo, lk]) (by simp [lk])
  ·
   have hge := ge_of_q q2
   rw [dropN hge] at hI
   simp only [sgL_nil] at hI
   rw [hI] at hs
   refine WP.exit ?_
   show WP _ _ _ _ _ _
   refine WP.sd [4, 5] (by kernel_rfl) (by kernel_rfl) fun K hK => ?_
   simp (decide := true) only [TF, q1, hk, q2, inB_lim, ↓reduceIte, Int.reduceToNat]
   refine hK _ _ (by kernel_rfl) ?_
   clear hK K
   refine WP.ret ?_
   exact Ends.pure (d := .tup [_, _]) (.inr rfl) rfl (Le.of_eq (by simp [St.get, lk, W, Pr_prog, zK, hs, eqK, zeroK])) (by simp)
end Go.Proofs

set_option linter.unusedSimpArgs false
set_option linter.unusedVariables false
set_option maxRecDepth 10000
namespace Go.Proofs
open Go Go.Id
set_option maxHeartbeats 4000000
theorem c_r_signing (l : List Key) (nl : Bool) (now : Int) (hn : l.length ≤ 1099511627776) (hnl : nl = true → l = []) (hl : ∀ k ∈ l, k.ok) : CallP Pr 15 [.slice 6 nl (l.map Key.cs) none, .int .i64 now] (.tup [.agg [.str (sgK l now).id, .str (sgK l now).sec, .int .i64 (sgK l now).sf, .int .i64 (sgK l now).su, .int .i64 (sgK l now).af, .int .i64 (sgK l now).au], .bool (!(eqK (sgK l now) zeroK))]) := by
 refine CallP.of_wp Tryz.func15 rfl (by kernel_rfl) Tryz.ntmps15 (by simp) ?_
 simp only [frameOf, Nat.reduceAdd, Nat.zero_add]
 refine WP.sr [0, 1, 4] (by kernel_rfl) fun K hK => ?_
 simp (decide := true) only [TF, ↓reduceIte, Int.reduceToNat]
 refine hK _ _ ?_; clear hK K
 refine WP.sr [0, 1, 4, 6] (by kernel_rfl) fun K hK => ?_
 simp (decide := true) only [TF, ↓reduceIte, Int.reduceToNat]
 refine hK _ _ ?_; clear hK K
 refine WP.seq ?_
 refine WP.sr [0, 1, 4, 6, 10] (by kernel_rfl) fun K hK => ?_
 simp (decide := true) only [TF, ↓reduceIte, Int.reduceToNat]
 refine CallK.pure (c_r_check l nl hn hnl hl) rfl rfl (by simp [-List.map_take]) ?_
 simp (decide := true) only [TF, ↓reduceIte, Int.reduceToNat]
 refine hK _ _ ?_; clear hK K
 refine WP.cond (b := _) rfl (fun q1 => ?_) (fun q1 => ?_)
 ·
  have hs : sgK l now = zeroK := by simp [sgK, q1]
  refine WP.sr [4, 5] (by kernel_rfl) fun K hK => ?_
  simp (decide := true) only [TF, q1, hs, ↓reduceIte, Int.reduceToNat]
  refine hK _ _ ?_; clear hK K
  refine WP.ret ?_
  exact Ends.pure (d := .tup [_, _]) (.inr rfl) rfl (Le.of_eq (by simp [St.get, lk, W, Pr_prog, zK, q1, hs, zeroK, eqK])) (by simp)
 ·
  have hs : sgK l now = sgL now zeroK l := by simp [sgK, q1]
  have hcw := checkK_word (by simpa using q1)
  refine WP.skip ?_
  show WP _ _ _ _ _ _
  refine WP.seq ?_
  refine WP.sr [0, 1, 4, 6, 7] (by kernel_rfl) fun K hK => ?_
  simp (decide := true) only [TF, q1, ↓reduceIte, Int.reduceToNat]
  refine hK _ _ ?_; clear hK K
  refine WP.block ?_
  refine WP.lp [0, 1, 4] (X := {x : (Nat) × (Int) × (Key) // match x with | (k, b, sb) => k ≤ l.length ∧ sgL now zeroK l = sgL now sb (l.drop k) ∧ ((b = -1 ∧ sb = zeroK) ∨ ∃ i, i < l.length ∧ b = (i : Int) ∧ l[i]? = some sb)}) (fun x => match x with | ⟨(k, b, sb), _⟩ => [(6, .int .i64 b), (7, .int .i64 k)]) (fun x => match x with | ⟨(k, b, sb), _⟩ => [(0, .box 31 [.str [], .str [], .int .i64 0, .int .i64 0, .int .i64 0, .int .i64 0])]) (fun x => match x with | ⟨(k, b, sb), _⟩ => l.length - k) (by simp (decide := true) only [W, ↓reduceIte, Int.reduceToNat]; rfl) ?_ ⟨(0, -1, zeroK), ⟨Nat.zero_le _, by simp, .inl ⟨rfl, rfl⟩⟩⟩ ?_
  rotate_left
  · exact Weak.store (by simp [St.get, lk, W, Le.refl, q1, zeroK]) (by simp [lk, W, q1, zeroK]) (by simp [lk, W]) (by simp [BClo, lk]) (by simp [lk])
  rintro ⟨⟨k, b, sb⟩, hk, hI, hb⟩
  dsimp only
  simp only [List.cons_append, List.nil_append]
  rcases hb with ⟨hb1, hb2⟩ | ⟨i, hi, hb1, hsb⟩
  ·
   have heq : eqK sb zeroK = true := by rw [hb2]; rfl
   refine WP.seq ?_
   refine WP.sr [0, 1, 4, 6, 7, 15] (by kernel_rfl) fun K hK => ?_
   simp (decide := true) only [TF, q1, hk, hb1, heq, ↓reduceIte, Int.reduceToNat]
   refine hK _ _ ?_; clear hK K
   refine WP.cond (b := _) rfl (fun q2 => ?_) (fun q2 => ?_)
   ·
    have hlt := lt_of_q q2
    have hg : (l.map Key.cs)[k]? = some [.str l[k].id, .str l[k].sec, .int .i64 l[k].sf, .int .i64 l[k].su, .int .i64 l[k].af, .int .i64 l[k].au] := getM hlt
    have hnf := nl_false hnl hlt
    rw [dropE hlt] at hI
    simp only [sgL_cons] at hI
    refine WP.skip ?_
    show WP _ _ _ _ _ _
    refine WP.seq ?_
    refine WP.block ?_
    refine WP.seq ?_
    refine WP.sr [0, 1, 4, 6, 7, 25] (by kernel_rfl) fun K hK => ?_
    simp (decide := true) only [TF, q1, hk, hb1, heq, q2, hg, hnf, ↓reduceIte, Int.reduceToNat]
    refine CallK.pure (c_r_in _ _ _) rfl rfl (by simp [-List.map_take]) ?_
    simp (decide := true) only [TF, q1, hk, hb1, heq, q2, hg, hnf, ↓reduceIte, Int.reduceToNat]
    refine hK _ _ ?_; clear hK K
    refine WP.cond (b := _) rfl (fun q3 => ?_) (fun q3 => ?_)
    ·
     simp only [Bool.not_eq_true', Bool.not_eq_false'] at q3
     have hni : inB l[k].sf l[k].su now = false := by simpa using q3
     simp only [hni, Bool.false_and, Bool.false_eq_true, if_false] at hI
     refine WP.exit ?_
     show WP _ _ _ _ _ _
     refine WP.region (by kernel_rfl) fun K hK => ?_
     simp (decide := true) only [TF, q1, hk, hb1, heq, q2, hg, hnf, q3, ↓reduceIte, Int.reduceToNat]
     refine hK _ _ ?_; clear hK K
     show ∃ y, _ ∧ Weak _ _ _
     refine ⟨⟨(k + 1, b, sb), ?_⟩, ?_, ?_⟩
     · exact ⟨by omega, hI, .inl ⟨hb1, hb2⟩⟩
     · dsimp only; omega
     · exact Weak.store (by simp [St.get, lk, W, Le.refl, q1, hk, hb1, heq, q2, hg, hnf, q3, wrapS hlt (show l.length ≤ 140737488355328 by omega)]) (by simp [lk, W, q1, hk, hb1, heq, q2, hg, hnf, q3, wrapS hlt (show l.length ≤ 140737488355328 by omega)]) (by simp [lk, W]) (by simp [BClo, lk]) (by simp [lk])
    ·
     simp only [Bool.not_eq_true', Bool.not_eq_false'] at q3
     have hni : inB l[k].sf l[k].su now = true := by simpa using q3
     simp only [hni, Bool.true_and] at hI
     refine WP.skip ?_
     show WP _ _ _ _ _ _
     refine WP.smd [0, 1, 4, 6, 7] 70 (.bool (bestB sb l[k])) (by kernel_rfl) (by kernel_rfl) (fun K hK => ?_) ?_
     ·
      simp (decide := true) only [TF, q1, hk, hb1, heq, q2, hg, hnf, q3, ↓reduceIte, Int.reduceToNat]
      exact hK _ _ (by kernel_rfl) (by simp [St.get, lk, W]) rfl (Le.of_eq (by simp [St.get, lk, W, bne, bestB, gtB, q1, hk, hb1, heq, q2, hg, hnf, q3]))
     ·
      refine WP.cond (b := _) rfl (fun q4 => ?_) (fun q4 => ?_)
      ·
       have hbt := q4
       simp only [hbt, if_true] at hI
       refine WP.region (by kernel_rfl) fun K hK => ?_
       simp (decide := true) only [TF, q1, hk, hb1, heq, q2, hg, hnf, q3, q4, hbt, ↓reduceIte, Int.reduceToNat]
       refine hK _ _ ?_; clear hK K
       show WP _ _ _ _ _ _
       refine WP.region (by kernel_rfl) fun K hK => ?_
       simp (decide := true) only [TF, q1, hk, hb1, heq, q2, hg, hnf, q3, q4, hbt, ↓reduceIte, Int.reduceToNat]
       refine hK _ _ ?_; clear hK K
       show ∃ y, _ ∧ Weak _ _ _
       refine ⟨⟨(k + 1, (k : Int), l[k]), ?_⟩, ?_, ?_⟩
       · exact ⟨by omega, hI, .inr ⟨k, hlt, rfl, List.getElem?_eq_getElem hlt⟩⟩
       · dsimp only; omega
       · exact Weak.store (by simp [St.get, lk, W, Le.refl, q1, hk, hb1, heq, q2, hg, hnf, q3, q4, hbt, wrapS hlt (show l.length ≤ 140737488355328 by omega)]) (by simp [lk, W, q1, hk, hb1, heq, q2, hg, hnf, q3, q4, hbt, wrapS hlt (show l.length ≤ 140737488355328 by omega)]) (by simp [lk, W]) (by simp [BClo, lk]) (by simp [lk])
      ·
       simp only [q4, Bool.false_eq_true, if_false] at hI
       refine WP.skip ?_
       show WP _ _ _ _ _ _
       refine WP.region (by kernel_rfl) fun K hK => ?_
       simp (decide := true) only [TF, q1, hk, hb1, heq, q2, hg, hnf, q3, q4, ↓reduceIte, Int.reduceToNat]
       refine hK _ _ ?_; clear hK K
       show ∃ y, _ ∧ Weak _ _ _
       refine ⟨⟨(k + 1, b, sb), ?_⟩, ?_, ?_⟩
       · exact ⟨by omega, hI, .inl ⟨hb1, hb2⟩⟩
       · dsimp only; omega
       · exact Weak.store (by simp [St.get, lk, W, Le.refl, q1, hk, hb1, heq, q2, hg, hnf, q3, q4, wrapS hlt (show l.length ≤ 140737488355328 by omega)]) (by simp [lk, W, q1, hk, hb1, heq, q2, hg, hnf, q3, q4, wrapS hlt (show l.length ≤ 140737488355328 by omega)]) (by simp [lk, W]) (by simp [BClo, lk]) (by simp [lk])
   ·
    have hge := ge_of_q q2
    rw [dropN hge] at hI
    simp only [sgL_nil] at hI
    rw [hI] at hs
    refine WP.exit ?_
    show WP _ _ _ _ _ _
    refine WP.seq ?_
    refine WP.sr [0, 4, 6, 73] (by kernel_rfl) fun K hK => ?_
    simp (decide := true) only [TF, q1, hk, hb1, heq, q2, ↓reduceIte, Int.reduceToNat]
    refine hK _ _ ?_; clear hK K
    refine WP.cond (b := true) (by rfl) (fun _ => ?_) nofun
    refine WP.sr [4, 5] (by kernel_rfl) fun K hK => ?_
    simp (decide := true) only [TF, q1, hk, hb1, heq, q2, ↓reduceIte, Int.reduceToNat]
    refine hK _ _ ?_; clear hK K
    refine WP.ret ?_
    exact Ends.pure (d := .tup [_, _]) (.inr rfl) rfl (Le.of_eq (by simp [St.get, lk, W, Pr_prog, zK, hs, hb2, zeroK, eqK])) (by simp)
  ·
   have hmem : sb ∈ l := List.mem_of_getElem? hsb
   have heq : eqK sb zeroK = false := eqK_zero (hcw sb hmem).2
   have hgi : (l.map Key.cs)[i]? = some [.str sb.id, .str sb.sec, .int .i64 sb.sf, .int .i64 sb.su, .int .i64 sb.af, .int .i64 sb.au] := by rw [List.getElem?_map, hsb]; rfl
   have hn0 : decide ((i : Int) < 0) = false := by simp
   have hnf2 := nl_false hnl hi
   have hb0 := hb1
   refine WP.seq ?_
   refine WP.sr [0, 1, 4, 6, 7, 15] (by kernel_rfl) fun K hK => ?_
   simp (decide := true) only [TF, q1, hk, hb1, heq, hgi, hn0, hnf2, ↓reduceIte, Int.reduceToNat]
   refine hK _ _ ?_; clear hK K
   refine WP.cond (b := _) rfl (fun q5 => ?_) (fun q5 => ?_)
   ·
    have hlt := lt_of_q q5
    have hg : (l.map Key.cs)[k]? = some [.str l[k].id, .str l[k].sec, .int .i64 l[k].sf, .int .i64 l[k].su, .int .i64 l[k].af, .int .i64 l[k].au] := getM hlt
    have hnf := nl_false hnl hlt
    rw [dropE hlt] at hI
    simp only [sgL_cons] at hI
    refine WP.skip ?_
    show WP _ _ _ _ _ _
    refine WP.seq ?_
    refine WP.block ?_
    refine WP.seq ?_
    refine WP.sr [0, 1, 4, 6, 7, 25] (by kernel_rfl) fun K hK => ?_
    simp (decide := true) only [TF, q1, hk, hb1, heq, hgi, hn0, hnf2, q5, hg, hnf, ↓reduceIte, Int.reduceToNat]
    refine CallK.pure (c_r_in _ _ _) rfl rfl (by simp [-List.map_take]) ?_
    simp (decide := true) only [TF, q1, hk, hb1, heq, hgi, hn0, hnf2, q5, hg, hnf, ↓reduceIte, Int.reduceToNat]
    refine hK _ _ ?_; clear hK K
    refine WP.cond (b := _) rfl (fun q6 => ?_) (fun q6 => ?_)
    ·
     simp only [Bool.not_eq_true', Bool.not_eq_false'] at q6
     have hni : inB l[k].sf l[k].su now = false := by simpa using q6
     simp only [hni, Bool.false_and, Bool.false_eq_true, if_false] at hI
     refine WP.exit ?_
     show WP _ _ _ _ _ _
     refine WP.region (by kernel_rfl) fun K hK => ?_
     simp (decide := true) only [TF, q1, hk, hb1, heq, hgi, hn0, hnf2, q5, hg, hnf, q6, ↓reduceIte, Int.reduceToNat]
     refine hK _ _ ?_; clear hK K
     show ∃ y, _ ∧ Weak _ _ _
     refine ⟨⟨(k + 1, b, sb), ?_⟩, ?_, ?_⟩
     · exact ⟨by omega, hI, .inr ⟨i, hi, hb1, hsb⟩⟩
     · dsimp only; omega
     · exact Weak.store (by simp [St.get, lk, W, Le.refl, q1, hk, hb1, heq, hgi, hn0, hnf2, q5, hg, hnf, q6, wrapS hlt (show l.length ≤ 140737488355328 by omega)]) (by simp [lk, W, q1, hk, hb1, heq, hgi, hn0, hnf2, q5, hg, hnf, q6, wrapS hlt (show l.length ≤ 140737488355328 by omega)]) (by simp [lk, W]) (by simp [BClo, lk]) (by simp [lk])
    ·
     simp only [Bool.not_eq_true', Bool.not_eq_false'] at q6
     have hni : inB l[k].sf l[k].su now = true := by simpa using q6
     simp only [hni, Bool.true_and] at hI
     refine WP.skip ?_
     show WP _ _ _ _ _ _
     refine WP.smd [0, 1, 4, 6, 7] 70 (.bool (bestB sb l[k])) (by kernel_rfl) (by kernel_rfl) (fun K hK => ?_) ?_
     ·
      refine runOps.take 18 fun J hJ => ?_
      simp (decide := true) only [TF, q1, hk, hb1, heq, hgi, hn0, hnf2, q5, hg, hnf, q6, ↓reduceIte, Int.reduceToNat]
      refine hJ _ _ ?_; clear hJ J
      refine runOps.part 43 rfl (fun q7 => ?_) (fun q7 => ?_)
      ·
       simp (decide := true) only [TF, q1, hk, hb1, heq, hgi, hn0, hnf2, q5, hg, hnf, q6, q7, ↓reduceIte, Int.reduceToNat]
       exact hK _ _ (by kernel_rfl) (by simp [St.get, lk, W]) rfl (Le.of_eq (by simp [St.get, lk, W, bne, bestB, gtB, q1, hk, hb1, heq, hgi, hn0, hnf2, q5, hg, hnf, q6, q7]))
      ·
       refine runOps.take 14 fun J hJ => ?_
       simp (decide := true) only [TF, q1, hk, hb1, heq, hgi, hn0, hnf2, q5, hg, hnf, q6, q7, ↓reduceIte, Int.reduceToNat]
       refine hJ _ _ ?_; clear hJ J
       refine runOps.part 57 rfl (fun q8 => ?_) (fun q8 => ?_)
       ·
        simp (decide := true) only [TF, q1, hk, hb1, heq, hgi, hn0, hnf2, q5, hg, hnf, q6, q7, q8, ↓reduceIte, Int.reduceToNat]
        exact hK _ _ (by kernel_rfl) (by simp [St.get, lk, W]) rfl (Le.of_eq (by simp [St.get, lk, W, bne, bestB, gtB, q1, hk, hb1, heq, hgi, hn0, hnf2, q5, hg, hnf, q6, q7, q8]))
       ·
        simp (decide := true) only [TF, q1, hk, hb1, heq, hgi, hn0, hnf2, q5, hg, hnf, q6, q7, q8, ↓reduceIte, Int.reduceToNat]
        exact hK _ _ (by kernel_rfl) (by simp [St.get, lk, W]) rfl (Le.of_eq (by simp [St.get, lk, W, bne, bestB, gtB, q1, hk, hb1, heq, hgi, hn0, hnf2, q5, hg, hnf, q6, q7, q8]))
     ·
      refine WP.cond (b := _) rfl (fun q9 => ?_) (fun q9 => ?_)
      ·
       have hbt := q9
       simp only [hbt, if_true] at hI
       refine WP.region (by kernel_rfl) fun K hK => ?_
       simp (decide := true) only [TF, q1, hk, hb1, heq, hgi, hn0, hnf2, q5, hg, hnf, q6, q9, hbt, ↓reduceIte, Int.reduceToNat]
       refine hK _ _ ?_; clear hK K
       show WP _ _ _ _ _ _
       refine WP.region (by kernel_rfl) fun K hK => ?_
       simp (decide := true) only [TF, q1, hk, hb1, heq, hgi, hn0, hnf2, q5, hg, hnf, q6, q9, hbt, ↓reduceIte, Int.reduceToNat]
       refine hK _ _ ?_; clear hK K
       show ∃ y, _ ∧ Weak _ _ _
       refine ⟨⟨(k + 1, (k : Int), l[k]), ?_⟩, ?_, ?_⟩
       · exact ⟨by omega, hI, .inr ⟨k, hlt, rfl, List.getElem?_eq_getElem hlt⟩⟩
       · dsimp only; omega
       · exact Weak.store (by simp [St.get, lk, W, Le.refl, q1, hk, hb1, heq, hgi, hn0, hnf2, q5, hg, hnf, q6, q9, hbt, wrapS hlt (show l.length ≤ 140737488355328 by omega)]) (by simp [lk, W, q1, hk, hb1, heq, hgi, hn0, hnf2, q5, hg, hnf, q6, q9, hbt, wrapS hlt (show l.length ≤ 140737488355328 by omega)]) (by simp [lk, W]) (by simp [BClo, lk]) (by simp [lk])
      ·
       simp only [q9, Bool.false_eq_true, if_false] at hI
       refine WP.skip ?_
       show WP _ _ _ _ _ _
       refine WP.region (by kernel_rfl) fun K hK => ?_
       simp (decide := true) only [TF, q1, hk, hb1, heq, hgi, hn0, hnf2, q5, hg, hnf, q6, q9, ↓reduceIte, Int.reduceToNat]
       refine hK _ _ ?_; clear hK K
       show ∃ y, _ ∧ Weak _ _ _
       refine ⟨⟨(k + 1, b, sb), ?_⟩, ?_, ?_⟩
       · exact ⟨by omega, hI, .inr ⟨i, hi, hb1, hsb⟩⟩
       · dsimp only; omega
       · exact Weak.store (by simp [St.get, lk, W, Le.refl, q1, hk, hb1, heq, hgi, hn0, hnf2, q5, hg, hnf, q6, q9, wrapS hlt (show l.length ≤ 140737488355328 by omega)]) (by simp [lk, W, q1, hk, hb1, heq, hgi, hn0, hnf2, q5, hg, hnf, q6, q9, wrapS hlt (show l.length ≤ 140737488355328 by omega)]) (by simp [lk, W]) (by simp [BClo, lk]) (by simp [lk])
   ·
    have hge := ge_of_q q5
    rw [dropN hge] at hI
    simp only [sgL_nil] at hI
    rw [hI] at hs
    refine WP.exit ?_
    show WP _ _ _ _ _ _
    refine WP.seq ?_
    refine WP.sr [0, 4, 6, 73] (by kernel_rfl) fun K hK => ?_
    simp (decide := true) only [TF, q1, hk, hb1, heq, hgi, hn0, hnf2, q5, ↓reduceIte, Int.reduceToNat]
    refine hK _ _ ?_; clear hK K
    refine WP.cond (b := false) (by rfl) nofun (fun _ => ?_)
    refine WP.skip ?_
    show WP _ _ _ _ _ _
    refine WP.sr [4, 5] (by kernel_rfl) fun K hK => ?_
    simp (decide := true) only [TF, q1, hk, hb1, heq, hgi, hn0, hnf2, q5, ↓reduceIte, Int.reduceToNat]
    refine hK _ _ ?_; clear hK K
    refine WP.ret ?_
    exact Ends.pure (d := .tup [_, _]) (.inr rfl) rfl (Le.of_eq (by simp [St.get, lk, W, Pr_prog, zK, hs, heq])) (by simp)
end Go.Proofs

/-
  Plain: rows of keys as cells. Conditions: as each theorem says.
-/
set_option linter.unusedSimpArgs false
set_option linter.unusedVariables false
namespace Go.Proofs
open Go Go.Id
def flatK (l : List Key) : List D := (l.map Key.cs).flatten
theorem key_len (l : List Key) : ∀ x ∈ l.map Key.cs, x.length = 6 := by
  intro x hx
  obtain ⟨k, _, rfl⟩ := List.mem_map.1 hx
  rfl
theorem key_fr (t : Nat) (l : List Key) : ∀ x ∈ l.map Key.cs, ∀ d ∈ x, Fr t d := by
  intro x hx d hd
  obtain ⟨k, _, rfl⟩ := List.mem_map.1 hx
  simp only [Key.cs, List.mem_cons, List.not_mem_nil, or_false] at hd
  rcases hd with rfl | rfl | rfl | rfl | rfl | rfl <;> simp
theorem flatK_cons (k : Key) (l : List Key) : flatK (k :: l) = k.cs ++ flatK l := by simp [flatK]
theorem flatK_len (l : List Key) : (flatK l).length = l.length * 6 := by
  have := flat_len (l.map Key.cs) (key_len l)
  simpa [flatK] using this
theorem flatK_app (a b : List Key) : flatK (a ++ b) = flatK a ++ flatK b := by simp [flatK]
theorem flatK_drop (l : List Key) (k : Nat) (h : k ≤ l.length) : (flatK l).drop (k * 6) = flatK (l.drop k) := by
  conv => lhs; rw [← List.take_append_drop k l, flatK_app]
  rw [List.drop_append_of_le_length (by rw [flatK_len, List.length_take]; omega), List.drop_eq_nil_of_le (by rw [flatK_len, List.length_take]; omega)]
  rfl
theorem flatK_take (l : List Key) (k : Nat) (h : k ≤ l.length) : (flatK l).take (k * 6) = flatK (l.take k) := by
  conv => lhs; rw [← List.take_append_drop k l, flatK_app]
  rw [List.take_append_of_le_length (by rw [flatK_len, List.length_take]; omega), List.take_of_length_le (by rw [flatK_len, List.length_take]; omega)]
theorem flatK_get (l : List Key) (k : Nat) (h : k < l.length) : ((flatK l).drop (k * 6)).take 6 = [.str l[k].id, .str l[k].sec, .int .i64 l[k].sf, .int .i64 l[k].su, .int .i64 l[k].af, .int .i64 l[k].au] := by
  rw [flatK_drop l k (by omega), dropE h, flatK_cons]
  rfl
theorem flatK_room (l : List Key) (k : Nat) (h : k < l.length) : 6 ≤ ((flatK l).drop (k * 6)).length := by
  rw [List.length_drop, flatK_len]; omega
theorem flatK_put (l : List Key) (k : Nat) (h : k < l.length) (x : Key) : (flatK l).take (k * 6) ++ [.str x.id, .str x.sec, .int .i64 x.sf, .int .i64 x.su, .int .i64 x.af, .int .i64 x.au] ++ (flatK l).drop (k * 6 + 6) = flatK (l.set k x) := by
  rw [flatK_take l k (by omega), show k * 6 + 6 = (k + 1) * 6 by omega, flatK_drop l (k + 1) (by omega), List.set_eq_take_append_cons_drop, if_pos h, flatK_app, flatK_cons, List.append_assoc]
  rfl
theorem clo_flatK {S : Nat → Prop} (l : List Key) : ∀ d ∈ flatK l, Clo S d := by
  intro d hd
  obtain ⟨x, hx, hd⟩ := List.mem_flatten.1 hd
  exact (clo_key l).2 trivial x hx d hd
@[simp] theorem clo_flatK_iff {S : Nat → Prop} (l : List Key) : (∀ d ∈ flatK l, Clo S d) ↔ True := ⟨fun _ => trivial, fun _ => clo_flatK l⟩
@[simp] theorem bclo_flatK {S : Nat → Prop} (e : TypeId) (l : List Key) : BClo S (.arr e (flatK l)) ↔ True := ⟨fun _ => trivial, fun _ => clo_flatK l⟩
/-! What is deleted. -/
theorem del_start {p : Key → Bool} : ∀ (l : List Key) (c : Int), 0 ≤ c → (ixP p l c = -1 ∧ l.filter (fun k => !p k) = l) ∨ ∃ (i : Nat) (h : i < l.length), ixP p l c = c + i ∧ (l.take (i + 1)).filter (fun k => !p k) = l.take i
  | [], c, _ => .inl ⟨rfl, rfl⟩
  | k :: t, c, hc => by
    cases h : p k with
    | true => exact .inr ⟨0, by simp, by simp [ixP, h], by simp [h]⟩
    | false =>
      rcases del_start t (c + 1) (by omega) with ⟨h1, h2⟩ | ⟨i, hi, h1, h2⟩
      · exact .inl ⟨by simp only [ixP, h]; exact h1, by simp [h, h2]⟩
      · refine .inr ⟨i + 1, by simpa using hi, ?_, ?_⟩
        · simp only [ixP, h, Bool.false_eq_true, if_false]; rw [h1]; omega
        · simp only [List.take_succ_cons, List.filter_cons, h, Bool.not_false, if_true, h2]
theorem del_cases (p : Key → Bool) (l : List Key) : (ixP p l 0 = -1 ∧ l.filter (fun k => !p k) = l) ∨ ∃ (i : Nat) (h : i < l.length), ixP p l 0 = i ∧ (l.take (i + 1)).filter (fun k => !p k) = l.take i := by
  rcases del_start (p := p) l 0 (Int.le_refl 0) with h | ⟨i, h, h1, h2⟩
  · exact .inl h
  · exact .inr ⟨i, h, by simpa using h1, h2⟩
/-- Where deleting stands: what is kept of the first j keys lies ahead; from j on nothing has turned. -/
structure Del (p : Key → Bool) (l m : List Key) (i j : Nat) : Prop where
  len : m.length = l.length
  ij : i < j
  jl : j ≤ l.length
  pre : m.take i = (l.take j).filter (fun k => !p k)
  il : ((l.take j).filter (fun k => !p k)).length = i
  post : m.drop j = l.drop j
theorem Del.start {p : Key → Bool} {l : List Key} {i : Nat} (hi : i < l.length) (h : (l.take (i + 1)).filter (fun k => !p k) = l.take i) : Del p l l i (i + 1) :=
  ⟨rfl, by omega, hi, h.symm, by rw [h, List.length_take]; omega, rfl⟩
theorem Del.at {p : Key → Bool} {l m : List Key} {i j : Nat} (h : Del p l m i j) (hj : j < l.length) : m[j]'(by rw [h.len]; exact hj) = l[j] := by
  have h1 := dropE (l := m) (k := j) (by rw [h.len]; exact hj)
  have h2 := dropE hj
  rw [h.post, h2] at h1
  exact (List.cons.inj h1).1.symm
theorem filt_next (p : Key → Bool) (l : List Key) (j : Nat) (hj : j < l.length) : (l.take (j + 1)).filter (fun k => !p k) = (l.take j).filter (fun k => !p k) ++ (if p l[j] then [] else [l[j]]) := by
  rw [List.take_succ_eq_append_getElem hj, List.filter_append]
  cases h : p l[j] <;> simp [h]
theorem Del.skip {p : Key → Bool} {l m : List Key} {i j : Nat} (h : Del p l m i j) (hj : j < l.length) (hp : p l[j] = true) : Del p l m i (j + 1) := by
  have hf := filt_next p l j hj
  rw [hp, if_pos rfl, List.append_nil] at hf
  exact ⟨h.len, by have := h.ij; omega, hj, by rw [hf]; exact h.pre, by rw [hf]; exact h.il, by rw [← List.drop_drop, h.post, List.drop_drop]⟩
theorem Del.keep {p : Key → Bool} {l m : List Key} {i j : Nat} (h : Del p l m i j) (hj : j < l.length) (hp : p l[j] = false) : Del p l (m.set i l[j]) (i + 1) (j + 1) := by
  have hf := filt_next p l j hj
  rw [hp, if_neg (by simp)] at hf
  have hij := h.ij
  have hlen := h.len
  refine ⟨by simp [h.len], by omega, hj, ?_, by rw [hf, List.length_append, h.il]; rfl, ?_⟩
  · rw [hf, ← h.pre, List.take_succ_eq_append_getElem (by simp; omega), List.take_set_of_le (Nat.le_refl i), List.getElem_set_self]
  · rw [List.drop_set_of_lt (by omega), ← List.drop_drop, h.post, List.drop_drop]
theorem Del.fin {p : Key → Bool} {l m : List Key} {i j : Nat} (h : Del p l m i j) (hj : l.length ≤ j) : m.take i = l.filter (fun k => !p k) ∧ (l.filter (fun k => !p k)).length = i := by
  have := h.jl
  have e : l.take j = l := List.take_of_length_le hj
  exact ⟨by rw [h.pre, e], by rw [← h.il, e]⟩
end Go.Proofs

set_option linter.unusedSimpArgs false
set_option linter.unusedVariables false
set_option maxRecDepth 10000
namespace Go.Proofs
open Go Go.Id
set_option maxHeartbeats 4000000
theorem c_clone (l : List Key) (hne : l ≠ []) (hn : l.length ≤ 1099511627776) : CallE Pr 45 [.slice 6 false (l.map Key.cs) none] [] (.arr 0 6 l.length) [(0, .arr 31 (flatK l))] := by
 have hie : l.isEmpty = false := by cases l <;> simp_all
 refine CallE.of_wp Tryz.func45 rfl (by kernel_rfl) Tryz.ntmps45 (by simp) ?_
 simp only [frameOf, Nat.reduceAdd, Nat.zero_add, List.map_cons, List.map_nil]
 refine WP.sr [0] (by kernel_rfl) fun K hK => ?_
 simp (decide := true) only [TF, hie, ↓reduceIte, Int.reduceToNat]
 refine hK _ _ ?_; clear hK K
 refine WP.seq ?_
 refine WP.sr [0, 4] (by kernel_rfl) fun K hK => ?_
 simp (decide := true) only [TF, hie, ↓reduceIte, Int.reduceToNat]
 refine hK _ _ ?_; clear hK K
 refine WP.cond (b := false) (by rfl) nofun (fun _ => ?_)
 refine WP.skip ?_
 show WP _ _ _ _ _ _
 refine WP.meet ⟨[(2, .arr 0 6 (l.map Key.cs).length)], [(0, .arr 31 (flatK l))]⟩ ?_ ?_
 ·
  refine WP.region (by kernel_rfl) fun K hK => ?_
  simp (decide := true) only [TF, hie, ↓reduceIte, Int.reduceToNat]
  refine ⟨⟨by omega, by omega⟩, ?_⟩
  refine hK _ _ ?_; clear hK K
  show Weak _ _ _
  exact Weak.tipArr 0 31 6 (l.map Key.cs) 2 (by simp [St.get, lk, W, hie]) (by simp [lk, W, hie]) (key_fr 0 l) (by intro b hb; simp [lk, hb]) (by simp)
 ·
  refine WP.ret ?_
  refine Ends.imp (.inr rfl) rfl (Le.of_eq (by simp (decide := true) only [St.get, lk, W, hie, ↓reduceIte])) ?_ ?_ ?_
  · simp [lk]
  · simp [St.get, lk, W, BClo, hie]
  · simp [lk, W]
theorem c_clone_e (nl : Bool) : CallP Pr 45 [.slice 6 nl [] none] (.slice 6 nl [] none) := by
 refine CallP.of_wp Tryz.func45 rfl (by kernel_rfl) Tryz.ntmps45 (by simp) ?_
 simp only [frameOf, Nat.reduceAdd, Nat.zero_add]
 rcases nl with _ | _
 ·
  refine WP.sr [0] (by kernel_rfl) fun K hK => ?_
  simp (decide := true) only [TF, ↓reduceIte, Int.reduceToNat]
  refine hK _ _ ?_; clear hK K
  refine WP.seq ?_
  refine WP.sr [0, 4] (by kernel_rfl) fun K hK => ?_
  simp (decide := true) only [TF, ↓reduceIte, Int.reduceToNat]
  refine hK _ _ ?_; clear hK K
  refine WP.cond (b := false) (by rfl) nofun (fun _ => ?_)
  refine WP.skip ?_
  show WP _ _ _ _ _ _
  refine WP.sr [2] (by kernel_rfl) fun K hK => ?_
  simp (decide := true) only [TF, ↓reduceIte, Int.reduceToNat]
  refine hK _ _ ?_; clear hK K
  refine WP.ret ?_
  exact Ends.pure (.inr rfl) rfl (by simp only [St.get, lk, W]; exact Le.fg _) (by simp)
 ·
  refine WP.sr [0] (by kernel_rfl) fun K hK => ?_
  simp (decide := true) only [TF, ↓reduceIte, Int.reduceToNat]
  refine hK _ _ ?_; clear hK K
  refine WP.seq ?_
  refine WP.sr [0, 4] (by kernel_rfl) fun K hK => ?_
  simp (decide := true) only [TF, ↓reduceIte, Int.reduceToNat]
  refine hK _ _ ?_; clear hK K
  refine WP.cond (b := true) (by rfl) (fun _ => ?_) nofun
  refine WP.sr [2] (by kernel_rfl) fun K hK => ?_
  simp (decide := true) only [TF, ↓reduceIte, Int.reduceToNat]
  refine hK _ _ ?_; clear hK K
  refine WP.ret ?_
  exact Ends.pure (.inr rfl) rfl (by simp [St.get, lk, W]; exact Le.nil _ _ _) (by simp)
theorem c_prune1 (k : Key) (t : Int) : CallE Pr 48 [.agg [.str k.id, .str k.sec, .int .i64 k.sf, .int .i64 k.su, .int .i64 k.af, .int .i64 k.au], .ref 1 0] [(1, .box 3 [.int .i64 t])] (.bool (decide (k.au ≤ t))) [(1, .box 3 [.int .i64 t])] := by
 refine CallE.of_wp Tryz.func48 rfl (by kernel_rfl) Tryz.ntmps48 (by simp) ?_
 simp only [frameOf, Nat.reduceAdd, Nat.zero_add, List.map_cons, List.map_nil]
 refine WP.sr [1, 2] (by kernel_rfl) fun K hK => ?_
 simp (decide := true) only [TF, ↓reduceIte, Int.reduceToNat]
 refine hK _ _ ?_; clear hK K
 refine WP.sr [3] (by kernel_rfl) fun K hK => ?_
 simp (decide := true) only [TF, ↓reduceIte, Int.reduceToNat]
 refine hK _ _ ?_; clear hK K
 refine WP.ret ?_
 refine Ends.imp (.inr rfl) rfl (Le.of_eq (by simp (decide := true) only [St.get, lk, W, ↓reduceIte])) ?_ ?_ ?_
 · simp
 · simp [St.get, lk, W, BClo, W]
 · simp [lk]
theorem c_indexfunc_prune (l : List Key) (t : Int) (hn : l.length ≤ 1099511627776) : CallE Pr 60 [.arr 0 6 l.length, .fn (.func 48) [] [.ref 1 0]] [(0, .arr 31 (flatK l)), (1, .box 3 [.int .i64 t])] (.int .i64 (ixP (fun k => decide (k.au ≤ t)) l 0)) [(0, .arr 31 (flatK l)), (1, .box 3 [.int .i64 t])] := by
 refine CallE.of_wp Tryz.func60 rfl (by kernel_rfl) Tryz.ntmps60 (by simp) ?_
 simp only [frameOf, Nat.reduceAdd, Nat.zero_add, List.map_cons, List.map_nil]
 refine WP.sr [0, 1] (by kernel_rfl) fun K hK => ?_
 simp (decide := true) only [TF, ↓reduceIte, Int.reduceToNat]
 refine hK _ _ ?_; clear hK K
 refine WP.seq ?_
 refine WP.sr [0, 1, 7, 8] (by kernel_rfl) fun K hK => ?_
 simp (decide := true) only [TF, ↓reduceIte, Int.reduceToNat]
 refine hK _ _ ?_; clear hK K
 refine WP.block ?_
 refine WP.lp [0, 1, 7] (X := {k : Nat // k ≤ l.length ∧ ixP (fun k => decide (k.au ≤ t)) l 0 = ixP (fun k => decide (k.au ≤ t)) (l.drop k) k}) (fun x => match x with | ⟨(k), _⟩ => [(8, .int .i64 k)]) (fun x => match x with | ⟨(k), _⟩ => [(0, .arr 31 (flatK l)), (1, .box 3 [.int .i64 t])]) (fun x => match x with | ⟨(k), _⟩ => l.length - k) (by simp (decide := true) only [W, ↓reduceIte, Int.reduceToNat]; rfl) ?_ ⟨(0), ⟨Nat.zero_le _, by simp⟩⟩ ?_
 rotate_left
 · exact Weak.store (by simp [St.get, lk, W, Le.refl, W]) (by simp [lk, W, W]) (by simp [lk, W]) (by simp [BClo, lk]) (by simp [lk])
 rintro ⟨k, hk, hI⟩
 dsimp only
 simp only [List.cons_append, List.nil_append]
 refine WP.sr [0, 1, 7, 8, 9] (by kernel_rfl) fun K hK => ?_
 simp (decide := true) only [TF, hk, ↓reduceIte, Int.reduceToNat]
 refine hK _ _ ?_; clear hK K
 refine WP.seq ?_
 refine WP.cond (b := _) rfl (fun q1 => ?_) (fun q1 => ?_)
 ·
  have hlt := lt_of_q q1
  have hg := flatK_get l k hlt
  have hgr := flatK_room l k hlt
  rw [dropE hlt] at hI
  simp only [ixP] at hI
  refine WP.skip ?_
  show WP _ _ _ _ _ _
  refine WP.seq ?_
  refine WP.block ?_
  refine WP.sr [0, 1, 5, 7, 8] (by kernel_rfl) fun K hK => ?_
  simp (decide := true) only [TF, hk, q1, hg, hgr, hlt, ↓reduceIte, Int.reduceToNat]
  refine hK _ _ ?_; clear hK K
  refine WP.sr [0, 1, 5, 7, 8, 16] (by kernel_rfl) fun K hK => ?_
  simp (decide := true) only [TF, hk, q1, hg, hgr, hlt, ↓reduceIte, Int.reduceToNat]
  refine CallK.imp (c_prune1 l[k] t) rfl rfl (by simp [lk, BClo]) (by simp [lk]) (by simp [lk]) ?_
  simp (decide := true) only [TF, hk, q1, hg, hgr, hlt, ↓reduceIte, Int.reduceToNat]
  refine hK _ _ ?_; clear hK K
  refine WP.cond (b := _) rfl (fun q2 => ?_) (fun q2 => ?_)
  ·
   refine WP.sr [4] (by kernel_rfl) fun K hK => ?_
   simp (decide := true) only [TF, hk, q1, hg, hgr, hlt, q2, ↓reduceIte, Int.reduceToNat]
   refine hK _ _ ?_; clear hK K
   refine WP.ret ?_
   refine Ends.imp (.inr rfl) rfl (Le.of_eq (by simp (decide := true) only [St.get, lk, W, hk, q1, hg, hgr, hlt, q2, hI, ↓reduceIte])) ?_ ?_ ?_
   · simp
   · simp [St.get, lk, W, BClo, hk, q1, hg, hgr, hlt, q2]
   · simp [lk]
  ·
   refine WP.skip ?_
   show WP _ _ _ _ _ _
   refine WP.region (by kernel_rfl) fun K hK => ?_
   simp (decide := true) only [TF, hk, q1, hg, hgr, hlt, q2, ↓reduceIte, Int.reduceToNat]
   refine hK _ _ ?_; clear hK K
   show ∃ y, _ ∧ Weak _ _ _
   refine ⟨⟨k + 1, ?_⟩, ?_, ?_⟩
   · exact ⟨by omega, by first | (simpa [hk, q1, hg, hgr, hlt, q2] using hI) | (simp_all; done)⟩
   · dsimp only; omega
   · exact Weak.store (by simp [St.get, lk, W, Le.refl, hk, q1, hg, hgr, hlt, q2, wrapS hlt (show l.length ≤ 140737488355328 by omega)]) (by simp [lk, W, hk, q1, hg, hgr, hlt, q2, wrapS hlt (show l.length ≤ 140737488355328 by omega)]) (by simp [lk, W]) (by simp [BClo, lk]) (by simp [lk])
 ·
  have hge := ge_of_q q1
  rw [dropN hge] at hI
  simp only [ixP] at hI
  refine WP.exit ?_
  show WP _ _ _ _ _ _
  refine WP.sr [4] (by kernel_rfl) fun K hK => ?_
  simp (decide := true) only [TF, hk, q1, ↓reduceIte, Int.reduceToNat]
  refine hK _ _ ?_; clear hK K
  refine WP.ret ?_
  refine Ends.imp (.inr rfl) rfl (Le.of_eq (by simp (decide := true) only [St.get, lk, W, hk, q1, hI, ↓reduceIte])) ?_ ?_ ?_
  · simp
  · simp [St.get, lk, W, BClo, hk, q1]
  · simp [lk]
end Go.Proofs

set_option linter.unusedSimpArgs false
set_option linter.unusedVariables false
set_option maxRecDepth 10000
namespace Go.Proofs
open Go Go.Id
set_option maxHeartbeats 4000000
theorem mx12 : max 1 2 = 2 := rfl
theorem mx21 : max 2 1 = 2 := rfl
theorem c_delfunc_prune (l : List Key) (t : Int) (hn : l.length ≤ 1099511627776) : CallE Pr 47 [.arr 0 6 l.length, .fn (.func 48) [] [.ref 1 0]] [(0, .arr 31 (flatK l)), (1, .box 3 [.int .i64 t])] (.arr 0 6 (l.filter fun k => !(decide (k.au ≤ t))).length) [(0, .arr 31 (flatK (l.filter fun k => !(decide (k.au ≤ t))))), (1, .box 3 [.int .i64 t])] := by
 refine CallE.of_wp Tryz.func47 rfl (by kernel_rfl) Tryz.ntmps47 (by simp) ?_
 simp only [frameOf, Nat.reduceAdd, Nat.zero_add, List.map_cons, List.map_nil]
 rcases del_cases (fun k => decide (k.au ≤ t)) l with ⟨hx, hr⟩ | ⟨i, hi, hx, hr⟩
 ·
  refine WP.sr [0, 1] (by kernel_rfl) fun K hK => ?_
  simp (decide := true) only [TF, hx, hr, Nat.reduceAdd, mx12, ↓reduceIte, Int.reduceToNat]
  refine hK _ _ ?_; clear hK K
  refine WP.sr [0, 1, 5] (by kernel_rfl) fun K hK => ?_
  simp (decide := true) only [TF, hx, hr, Nat.reduceAdd, mx12, ↓reduceIte, Int.reduceToNat]
  refine CallK.imp (c_indexfunc_prune l t hn) rfl rfl (by simp [lk, BClo]) (by simp [lk]) (by simp [lk]) ?_
  simp (decide := true) only [TF, hx, hr, Nat.reduceAdd, mx12, ↓reduceIte, Int.reduceToNat]
  refine hK _ _ ?_; clear hK K
  refine WP.seq ?_
  refine WP.sr [0, 1, 5, 12] (by kernel_rfl) fun K hK => ?_
  simp (decide := true) only [TF, hx, hr, Nat.reduceAdd, mx12, ↓reduceIte, Int.reduceToNat]
  refine hK _ _ ?_; clear hK K
  refine WP.cond (b := true) (by rfl) (fun _ => ?_) nofun
  refine WP.sr [4] (by kernel_rfl) fun K hK => ?_
  simp (decide := true) only [TF, hx, hr, Nat.reduceAdd, mx12, ↓reduceIte, Int.reduceToNat]
  refine hK _ _ ?_; clear hK K
  refine WP.ret ?_
  refine Ends.imp (.inr rfl) rfl (Le.of_eq (by simp (decide := true) only [St.get, lk, W, hx, hr, ↓reduceIte])) ?_ ?_ ?_
  · simp [lk]
  · simp [St.get, lk, W, BClo, hx, hr]
  · simp [lk]
 ·
  have hD := Del.start (p := (fun k => decide (k.au ≤ t))) hi hr
  have hn1 : ((i : Int) == -1) = false := by simp
  have hw0 := wrapS hi (show l.length ≤ 140737488355328 by omega)
  refine WP.sr [0, 1] (by kernel_rfl) fun K hK => ?_
  simp (decide := true) only [TF, hx, hn1, hw0, Nat.reduceAdd, mx12, ↓reduceIte, Int.reduceToNat]
  refine hK _ _ ?_; clear hK K
  refine WP.sr [0, 1, 5] (by kernel_rfl) fun K hK => ?_
  simp (decide := true) only [TF, hx, hn1, hw0, Nat.reduceAdd, mx12, ↓reduceIte, Int.reduceToNat]
  refine CallK.imp (c_indexfunc_prune l t hn) rfl rfl (by simp [lk, BClo]) (by simp [lk]) (by simp [lk]) ?_
  simp (decide := true) only [TF, hx, hn1, hw0, Nat.reduceAdd, mx12, ↓reduceIte, Int.reduceToNat]
  refine hK _ _ ?_; clear hK K
  refine WP.seq ?_
  refine WP.sr [0, 1, 5, 12] (by kernel_rfl) fun K hK => ?_
  simp (decide := true) only [TF, hx, hn1, hw0, Nat.reduceAdd, mx12, ↓reduceIte, Int.reduceToNat]
  refine hK _ _ ?_; clear hK K
  refine WP.cond (b := false) (by rfl) nofun (fun _ => ?_)
  refine WP.skip ?_
  show WP _ _ _ _ _ _
  refine WP.seq ?_
  refine WP.sr [0, 1, 5, 6] (by kernel_rfl) fun K hK => ?_
  simp (decide := true) only [TF, hx, hn1, hw0, Nat.reduceAdd, mx12, ↓reduceIte, Int.reduceToNat]
  refine hK _ _ ?_; clear hK K
  refine WP.block ?_
  refine WP.lp [0, 1] (X := {x : (List Key) × (Nat) × (Nat) // match x with | (m, i, j) => Del (fun k => decide (k.au ≤ t)) l m i j}) (fun x => match x with | ⟨(m, i, j), _⟩ => [(5, .int .i64 i), (6, .int .i64 j)]) (fun x => match x with | ⟨(m, i, j), _⟩ => [(0, .arr 31 (flatK m)), (1, .box 3 [.int .i64 t])]) (fun x => match x with | ⟨(m, i, j), _⟩ => l.length - j) (by simp (decide := true) only [W, ↓reduceIte, Int.reduceToNat]; rfl) ?_ ⟨(l, i, i + 1), by first | exact hD | simpa using hD⟩ ?_
  rotate_left
  · exact Weak.store (by simp [St.get, lk, W, Le.refl, hx, hn1, hw0]) (by simp [lk, W, hx, hn1, hw0]) (by simp [lk, W]) (by simp [BClo, lk]) (by simp [lk])
  rintro ⟨⟨m, i, j⟩, hE⟩
  dsimp only
  simp only [List.cons_append, List.nil_append]
  dsimp only at hE
  have hlen := hE.len
  have hij := hE.ij
  have hjl := hE.jl
  refine WP.seq ?_
  refine WP.sr [0, 1, 5, 6, 19] (by kernel_rfl) fun K hK => ?_
  simp (decide := true) only [TF, hx, hn1, hw0, Nat.reduceAdd, mx12, ↓reduceIte, Int.reduceToNat]
  refine hK _ _ ?_; clear hK K
  refine WP.cond (b := _) rfl (fun q1 => ?_) (fun q1 => ?_)
  ·
   have hjlt : j < l.length := by have := of_decide_eq_true q1; omega
   have hjm : j < m.length := by omega
   have hg := flatK_get m j hjm
   have hgr := flatK_room m j hjm
   have hat := hE.at hjlt
   have hjl2 : j < l.length := hjlt
   refine WP.skip ?_
   show WP _ _ _ _ _ _
   refine WP.seq ?_
   refine WP.block ?_
   refine WP.sr [0, 1, 5, 6, 7] (by kernel_rfl) fun K hK => ?_
   simp (decide := true) only [TF, hx, hn1, hw0, q1, hg, hgr, hat, hjl2, Nat.reduceAdd, mx12, ↓reduceIte, Int.reduceToNat]
   refine hK _ _ ?_; clear hK K
   refine WP.sr [0, 1, 5, 6, 7, 29] (by kernel_rfl) fun K hK => ?_
   simp (decide := true) only [TF, hx, hn1, hw0, q1, hg, hgr, hat, hjl2, Nat.reduceAdd, mx12, ↓reduceIte, Int.reduceToNat]
   refine CallK.imp (c_prune1 l[j] t) rfl rfl (by simp [lk, BClo]) (by simp [lk]) (by simp [lk]) ?_
   simp (decide := true) only [TF, hx, hn1, hw0, q1, hg, hgr, hat, hjl2, Nat.reduceAdd, mx12, ↓reduceIte, Int.reduceToNat]
   refine hK _ _ ?_; clear hK K
   refine WP.cond (b := _) rfl (fun q2 => ?_) (fun q2 => ?_)
   ·
    simp only [Bool.not_eq_true', Bool.not_eq_false'] at q2
    have hp0 : (fun k => decide (k.au ≤ t)) l[j] = false := by simpa using q2
    have hput := flatK_put m i (by omega) l[j]
    have hilt : i < l.length := by omega
    have hrm : i * 6 + 6 ≤ (flatK m).length := by rw [flatK_len]; omega
    have hkp := hput
    refine WP.sr [0, 1, 5, 6] (by kernel_rfl) fun K hK => ?_
    simp (decide := true) only [TF, hx, hn1, hw0, q1, hg, hgr, hat, hjl2, q2, hkp, hilt, hrm, Nat.reduceAdd, mx12, ↓reduceIte, Int.reduceToNat]
    refine hK _ _ ?_; clear hK K
    refine WP.region (by kernel_rfl) fun K hK => ?_
    simp (decide := true) only [TF, hx, hn1, hw0, q1, hg, hgr, hat, hjl2, q2, hkp, hilt, hrm, Nat.reduceAdd, mx12, ↓reduceIte, Int.reduceToNat]
    refine hK _ _ ?_; clear hK K
    show WP _ _ _ _ _ _
    refine WP.region (by kernel_rfl) fun K hK => ?_
    simp (decide := true) only [TF, hx, hn1, hw0, q1, hg, hgr, hat, hjl2, q2, hkp, hilt, hrm, Nat.reduceAdd, mx12, ↓reduceIte, Int.reduceToNat]
    refine hK _ _ ?_; clear hK K
    show ∃ y, _ ∧ Weak _ _ _
    refine ⟨⟨(m.set i l[j], i + 1, j + 1), ?_⟩, ?_, ?_⟩
    · exact hE.keep hjlt hp0
    · dsimp only; omega
    · exact Weak.store (by simp [St.get, lk, W, Le.refl, hx, hn1, hw0, q1, hg, hgr, hat, hjl2, q2, hkp, hilt, hrm, wrapS hjlt (show l.length ≤ 140737488355328 by omega), wrapS (show i < l.length by omega) (show l.length ≤ 140737488355328 by omega)]) (by simp [lk, W, hx, hn1, hw0, q1, hg, hgr, hat, hjl2, q2, hkp, hilt, hrm, wrapS hjlt (show l.length ≤ 140737488355328 by omega), wrapS (show i < l.length by omega) (show l.length ≤ 140737488355328 by omega)]) (by simp [lk, W]) (by simp [BClo, lk]) (by simp [lk])
   ·
    simp only [Bool.not_eq_true', Bool.not_eq_false'] at q2
    have hp0 : (fun k => decide (k.au ≤ t)) l[j] = true := by simpa using q2
    refine WP.skip ?_
    show WP _ _ _ _ _ _
    refine WP.region (by kernel_rfl) fun K hK => ?_
    simp (decide := true) only [TF, hx, hn1, hw0, q1, hg, hgr, hat, hjl2, q2, Nat.reduceAdd, mx12, ↓reduceIte, Int.reduceToNat]
    refine hK _ _ ?_; clear hK K
    show ∃ y, _ ∧ Weak _ _ _
    refine ⟨⟨(m, i, j + 1), ?_⟩, ?_, ?_⟩
    · exact hE.skip hjlt hp0
    · dsimp only; omega
    · exact Weak.store (by simp [St.get, lk, W, Le.refl, hx, hn1, hw0, q1, hg, hgr, hat, hjl2, q2, wrapS hjlt (show l.length ≤ 140737488355328 by omega), wrapS (show i < l.length by omega) (show l.length ≤ 140737488355328 by omega)]) (by simp [lk, W, hx, hn1, hw0, q1, hg, hgr, hat, hjl2, q2, wrapS hjlt (show l.length ≤ 140737488355328 by omega), wrapS (show i < l.length by omega) (show l.length ≤ 140737488355328 by omega)]) (by simp [lk, W]) (by simp [BClo, lk]) (by simp [lk])
  ·
   have hjge : l.length ≤ j := by have := of_decide_eq_false q1; omega
   obtain ⟨hf1, hf2⟩ := hE.fin hjge
   have hil : i ≤ l.length := by omega
   have hcut := flatK_take m i (by omega)
   rw [hf1] at hcut
   refine WP.exit ?_
   show WP _ _ _ _ _ _
   rcases Nat.eq_zero_or_pos i with h0 | h0
   ·
    subst h0
    have hnil : flatK (l.filter fun k => !(decide (k.au ≤ t))) = [] := by rw [← hcut]; simp
    refine WP.sr [0, 5] (by kernel_rfl) fun K hK => ?_
    simp (decide := true) only [TF, hx, hn1, hw0, q1, hf2, hil, hcut, hnil, Nat.reduceAdd, mx12, ↓reduceIte, Int.reduceToNat]
    refine hK _ _ ?_; clear hK K
    refine WP.sr [4] (by kernel_rfl) fun K hK => ?_
    simp (decide := true) only [TF, hx, hn1, hw0, q1, hf2, hil, hcut, hnil, Nat.reduceAdd, mx12, ↓reduceIte, Int.reduceToNat]
    refine hK _ _ ?_; clear hK K
    refine WP.ret ?_
    refine Ends.imp (.inr rfl) rfl (Le.of_eq (by simp (decide := true) only [St.get, lk, W, hx, hn1, hw0, q1, hf2, hil, hcut, hnil, ↓reduceIte])) ?_ ?_ ?_
    · simp [lk]
    · simp [St.get, lk, W, BClo, hx, hn1, hw0, q1, hf2, hil, hcut, hnil]
    · simp [lk]
   ·
    have hi0 : (i = 0) = False := by simp; omega
    refine WP.sr [0, 5] (by kernel_rfl) fun K hK => ?_
    simp (decide := true) only [TF, hx, hn1, hw0, q1, hf2, hil, hcut, hi0, Nat.reduceAdd, mx12, ↓reduceIte, Int.reduceToNat]
    refine hK _ _ ?_; clear hK K
    refine WP.sr [4] (by kernel_rfl) fun K hK => ?_
    simp (decide := true) only [TF, hx, hn1, hw0, q1, hf2, hil, hcut, hi0, Nat.reduceAdd, mx12, ↓reduceIte, Int.reduceToNat]
    refine hK _ _ ?_; clear hK K
    refine WP.ret ?_
    refine Ends.imp (.inr rfl) rfl (Le.of_eq (by simp (decide := true) only [St.get, lk, W, hx, hn1, hw0, q1, hf2, hil, hcut, hi0, ↓reduceIte])) ?_ ?_ ?_
    · simp [lk]
    · simp [St.get, lk, W, BClo, hx, hn1, hw0, q1, hf2, hil, hcut, hi0]
    · simp [lk]
end Go.Proofs

/-
  Plain: names of rows at will. Conditions: as each theorem says.
-/
set_option linter.unusedSimpArgs false
set_option linter.unusedVariables false
namespace Go.Proofs
open Go Go.Id
theorem ren_keys (f : Nat → Nat) (l : List Key) : renLL f (l.map Key.cs) = l.map Key.cs := by
  rw [renLL_map]; simp [renD, Key.cs]
theorem ren_flatK (f : Nat → Nat) (l : List Key) : renL f (flatK l) = flatK l := by
  rw [renL_map, flatK]
  induction l with
  | nil => rfl
  | cons k t ih => simp only [List.map_cons, List.flatten_cons, List.map_append, ih]; simp [renD, Key.cs]
theorem c_clone_at (a : Nat) (l : List Key) (hne : l ≠ []) (hn : l.length ≤ 1099511627776) :
    CallE Pr 45 [.slice 6 false (l.map Key.cs) none] [] (.arr a 6 l.length) [(a, .arr 31 (flatK l))] := by
  obtain ⟨f, g, h1, h2⟩ := ren_ex [a] (by simp)
  have := CallE.rename h1 (c_clone l hne hn)
  have f0 : f 0 = a := h2 0 a rfl
  simpa [renS, renB, renD, renL, ren_keys, ren_flatK, f0] using this
theorem c_del_at (a b : Nat) (hab : a ≠ b) (l : List Key) (t : Int) (hn : l.length ≤ 1099511627776) :
    CallE Pr 47 [.arr a 6 l.length, .fn (.func 48) [] [.ref b 0]] [(a, .arr 31 (flatK l)), (b, .box 3 [.int .i64 t])] (.arr a 6 (l.filter fun k => !(decide (k.au ≤ t))).length)
      [(a, .arr 31 (flatK (l.filter fun k => !(decide (k.au ≤ t))))), (b, .box 3 [.int .i64 t])] := by
  obtain ⟨f, g, h1, h2⟩ := ren_ex [a, b] (by simp [hab])
  have := CallE.rename h1 (c_delfunc_prune l t hn)
  have f0 : f 0 = a := h2 0 a rfl
  have f1 : f 1 = b := h2 1 b rfl
  simpa [renS, renB, renD, renL, ren_flatK, f0, f1] using this
end Go.Proofs

set_option linter.unusedSimpArgs false
set_option linter.unusedVariables false
set_option maxRecDepth 10000
namespace Go.Proofs
open Go Go.Id
set_option maxHeartbeats 4000000
theorem c_indexfunc_pe (nl : Bool) (t : Int) : CallE Pr 60 [.slice 6 nl [] none, .fn (.func 48) [] [.ref 0 0]] [(0, .box 3 [.int .i64 t])] (.int .i64 (-1)) [(0, .box 3 [.int .i64 t])] := by
 refine CallE.of_wp Tryz.func60 rfl (by kernel_rfl) Tryz.ntmps60 (by simp) ?_
 simp only [frameOf, Nat.reduceAdd, Nat.zero_add, List.map_cons, List.map_nil]
 refine WP.sr [0, 1] (by kernel_rfl) fun K hK => ?_
 simp (decide := true) only [TF, ↓reduceIte, Int.reduceToNat]
 refine hK _ _ ?_; clear hK K
 refine WP.seq ?_
 refine WP.sr [0, 1, 7, 8] (by kernel_rfl) fun K hK => ?_
 simp (decide := true) only [TF, ↓reduceIte, Int.reduceToNat]
 refine hK _ _ ?_; clear hK K
 refine WP.block ?_
 refine WP.lp [0, 1, 7] (X := {k : Nat // k = 0}) (fun x => match x with | ⟨(k), _⟩ => [(8, .int .i64 k)]) (fun x => match x with | ⟨(k), _⟩ => [(0, .box 3 [.int .i64 t])]) (fun x => match x with | ⟨(k), _⟩ => 1) (by simp (decide := true) only [W, ↓reduceIte, Int.reduceToNat]; rfl) ?_ ⟨(0), rfl⟩ ?_
 rotate_left
 · exact Weak.store (by simp [St.get, lk, W, Le.refl, W]) (by simp [lk, W, W]) (by simp [lk, W]) (by simp [BClo, lk]) (by simp [lk])
 rintro ⟨k, hk⟩
 dsimp only
 simp only [List.cons_append, List.nil_append]
 subst hk
 refine WP.sr [0, 1, 7, 8, 9] (by kernel_rfl) fun K hK => ?_
 simp (decide := true) only [TF, ↓reduceIte, Int.reduceToNat]
 refine hK _ _ ?_; clear hK K
 refine WP.seq ?_
 refine WP.cond (b := _) rfl (fun q1 => ?_) (fun q1 => ?_)
 ·
  exact absurd q1 (by simp)
 ·
  refine WP.exit ?_
  show WP _ _ _ _ _ _
  refine WP.sr [4] (by kernel_rfl) fun K hK => ?_
  simp (decide := true) only [TF, q1, ↓reduceIte, Int.reduceToNat]
  refine hK _ _ ?_; clear hK K
  refine WP.ret ?_
  refine Ends.imp (.inr rfl) rfl (Le.of_eq (by simp (decide := true) only [St.get, lk, W, q1, ↓reduceIte])) ?_ ?_ ?_
  · simp
  · simp [St.get, lk, W, BClo, q1]
  · simp [lk]
theorem c_delfunc_e (nl : Bool) (t : Int) : CallE Pr 47 [.slice 6 nl [] none, .fn (.func 48) [] [.ref 0 0]] [(0, .box 3 [.int .i64 t])] (.slice 6 nl [] none) [(0, .box 3 [.int .i64 t])] := by
 refine CallE.of_wp Tryz.func47 rfl (by kernel_rfl) Tryz.ntmps47 (by simp) ?_
 simp only [frameOf, Nat.reduceAdd, Nat.zero_add, List.map_cons, List.map_nil]
 refine WP.sr [0, 1] (by kernel_rfl) fun K hK => ?_
 simp (decide := true) only [TF, EV, ↓reduceIte, Int.reduceToNat]
 refine hK _ _ ?_; clear hK K
 refine WP.sr [0, 1, 5] (by kernel_rfl) fun K hK => ?_
 simp (decide := true) only [TF, EV, ↓reduceIte, Int.reduceToNat]
 refine CallK.imp (c_indexfunc_pe nl t) rfl rfl (by simp [lk, BClo]) (by simp [lk]) (by simp [lk]) ?_
 simp (decide := true) only [TF, EV, ↓reduceIte, Int.reduceToNat]
 refine hK _ _ ?_; clear hK K
 refine WP.seq ?_
 refine WP.sr [0, 1, 5, 12] (by kernel_rfl) fun K hK => ?_
 simp (decide := true) only [TF, EV, ↓reduceIte, Int.reduceToNat]
 refine hK _ _ ?_; clear hK K
 refine WP.cond (b := true) (by rfl) (fun _ => ?_) nofun
 refine WP.sr [4] (by kernel_rfl) fun K hK => ?_
 simp (decide := true) only [TF, EV, ↓reduceIte, Int.reduceToNat]
 refine hK _ _ ?_; clear hK K
 refine WP.ret ?_
 refine Ends.imp (.inr rfl) rfl (Le.of_eq (by simp (decide := true) only [St.get, lk, W, ↓reduceIte])) ?_ ?_ ?_
 · simp
 · simp [St.get, lk, W, BClo, W]
 · simp [lk]
theorem c_prune (l : List Key) (nl : Bool) (now : Int) (hn : l.length ≤ 1099511627776) (hnl : nl = true → l = []) : CallP Pr 24 [.slice 6 nl (l.map Key.cs) none, .int .i64 now] (.slice 6 (if l.isEmpty then nl else false) ((l.filter fun k => !(decide (k.au ≤ limB now))).map Key.cs) none) := by
 refine CallP.of_wp Tryz.func24 rfl (by kernel_rfl) Tryz.ntmps24 (by simp) ?_
 simp only [frameOf, Nat.reduceAdd, Nat.zero_add]
 rcases Classical.em (l = []) with rfl | hne
 ·
  simp only [List.map_nil, List.filter_nil, List.isEmpty_nil, if_true]
  refine WP.sr [0, 3] (by kernel_rfl) fun K hK => ?_
  simp (decide := true) only [TF, Nat.reduceAdd, mx12, mx21, ↓reduceIte, Int.reduceToNat]
  refine hK _ _ ?_; clear hK K
  refine WP.sr [0, 3] (by kernel_rfl) fun K hK => ?_
  simp (decide := true) only [TF, Nat.reduceAdd, mx12, mx21, ↓reduceIte, Int.reduceToNat]
  refine CallK.pure (c_k_limited _) rfl rfl (by simp [-List.map_take]) ?_
  simp (decide := true) only [TF, Nat.reduceAdd, mx12, mx21, ↓reduceIte, Int.reduceToNat]
  refine hK _ _ ?_; clear hK K
  refine WP.sr [4] (by kernel_rfl) fun K hK => ?_
  simp (decide := true) only [TF, Nat.reduceAdd, mx12, mx21, ↓reduceIte, Int.reduceToNat]
  refine CallK.pure (c_clone_e nl) rfl rfl (by simp [-List.map_take]) ?_
  simp (decide := true) only [TF, Nat.reduceAdd, mx12, mx21, ↓reduceIte, Int.reduceToNat]
  refine CallK.imp (c_delfunc_e nl (limB now)) rfl rfl (by simp [lk, BClo]) (by simp [lk]) (by simp [lk]) ?_
  simp (decide := true) only [TF, Nat.reduceAdd, mx12, mx21, ↓reduceIte, Int.reduceToNat]
  refine hK _ _ ?_; clear hK K
  refine WP.ret ?_
  exact Ends.pure (.inr rfl) rfl (by simp (decide := true) only [St.get, lk, W, Pr_prog, W, ↓reduceIte, Int.reduceToNat]; first | exact Le.fg _ | exact Le.nil _ _ _) (by simp only [clo_slice]; first | exact ⟨fun x hx => (clo_key _).2 trivial x hx, by simp⟩ | simp)
 ·
  have hnf : nl = false := by cases nl with | false => rfl | true => exact absurd (hnl rfl) hne
  have hie : l.isEmpty = false := by cases l <;> simp_all
  subst hnf
  have hnf : (false : Bool) = false := rfl
  simp only [hie, Bool.false_eq_true, if_false]
  refine WP.sr [0, 3] (by kernel_rfl) fun K hK => ?_
  simp (decide := true) only [TF, hie, Nat.reduceAdd, mx12, mx21, ↓reduceIte, Int.reduceToNat]
  refine hK _ _ ?_; clear hK K
  refine WP.sr [0, 3] (by kernel_rfl) fun K hK => ?_
  simp (decide := true) only [TF, hie, Nat.reduceAdd, mx12, mx21, ↓reduceIte, Int.reduceToNat]
  refine CallK.pure (c_k_limited _) rfl rfl (by simp [-List.map_take]) ?_
  simp (decide := true) only [TF, hie, Nat.reduceAdd, mx12, mx21, ↓reduceIte, Int.reduceToNat]
  refine hK _ _ ?_; clear hK K
  refine WP.sr [4] (by kernel_rfl) fun K hK => ?_
  simp (decide := true) only [TF, hie, Nat.reduceAdd, mx12, mx21, ↓reduceIte, Int.reduceToNat]
  refine CallK.imp (c_clone_at 1 l hne hn) rfl rfl (by simp [lk, BClo]) (by simp [lk]) (by simp [lk]) ?_
  simp (decide := true) only [TF, hie, Nat.reduceAdd, mx12, mx21, ↓reduceIte, Int.reduceToNat]
  refine CallK.imp (c_del_at 1 0 (by decide) l (limB now) hn) rfl rfl (by simp [lk, BClo]) (by simp [lk]) (by simp [lk]) ?_
  simp (decide := true) only [TF, hie, Nat.reduceAdd, mx12, mx21, ↓reduceIte, Int.reduceToNat]
  refine hK _ _ ?_; clear hK K
  refine WP.weak (st' := ⟨[(4, .slice 6 false ((l.filter fun k => !(decide (k.au ≤ limB now))).map Key.cs) (some 1))], [(0, .box 3 [.int .i64 (limB now)]), (1, .tip 31 6 ((l.filter fun k => !(decide (k.au ≤ limB now))).map Key.cs).length)]⟩) ?_ ?_
  ·
   refine Weak.trans (Weak.keep [4]) ?_
   simp only [keep, ins, W, ↓reduceIte, Nat.reduceEqDiff]
   exact Weak.arrTip 1 31 6 ((l.filter fun k => !(decide (k.au ≤ limB now))).map Key.cs) 4 (by simp [St.get, lk, W]) (by simp [lk, W, flatK]) (key_len _) (by simp) (by simp (decide := true) [ArF, ArD, hie]) (fun x hx => (clo_key _).2 trivial x hx) (by intro i hi; by_cases h0 : i = 0 <;> simp_all [lk]) (by simp [lk]) (by simp [BClo])
  refine WP.ret ?_
  exact Ends.pure (.inr rfl) rfl (by simp (decide := true) only [St.get, lk, W, Pr_prog, hie, ↓reduceIte, Int.reduceToNat]; first | exact Le.fg _ | exact Le.nil _ _ _) (by simp only [clo_slice]; first | exact ⟨fun x hx => (clo_key _).2 trivial x hx, by simp⟩ | simp)
end Go.Proofs

/-
  Plain: pruning and rotating key rings. Conditions: as each theorem says.
-/
set_option linter.unusedSimpArgs false
set_option linter.unusedVariables false
namespace Go.Proofs
open Go Go.Id
theorem lim_add0 (n : Int) : limB (limB n + limB 0) = limB n := by
  have : limB 0 = 0 := by decide
  rw [this, Int.add_zero, lim_lim]
def pruneK (now : Int) (l : List Key) : List Key := l.filter fun k => !(decide (k.au ≤ limB now))
theorem pruneK_nil (now : Int) : pruneK now [] = [] := rfl
theorem pruneK_cons (now : Int) (k : Key) (t : List Key) : pruneK now (k :: t) = if decide (k.au > limB now) = true then k :: pruneK now t else pruneK now t := by
  simp only [pruneK, List.filter_cons]
  by_cases h : k.au ≤ limB now
  · have : ¬ k.au > limB now := by omega
    simp [h, this]
  · have : k.au > limB now := by omega
    simp [h, this]
theorem isE2 {α : Type} (l : List α) (x : α) : (l ++ [x]).isEmpty = false := by simp
/-- The end of the signing of an old key. -/
def cutI (at_ f u : Int) : Int := if (if at_ < u then at_ else u) > f then (if at_ < u then at_ else u) else f
def cutK (t : Int) (k : Key) : Key := { k with su := cutI t k.sf k.su }
def newK (id sec : List UInt8) (now life grace : Int) : Key := ⟨id, sec, limB now, limB (limB now + limB life), limB now, limB (limB (limB now + limB life) + limB grace)⟩
def rotE (l : List Key) (id sec : List UInt8) (now life : Int) : Int :=
  if (checkK l != 0) = true then checkK l else if (!wordB id) = true then 5 else if (!cleanB sec) = true then 4 else if l.any (fun k => k.id == id) = true then 7
  else if decide (limB (limB now + limB life) ≤ limB now) = true then 2 else if decide ((l.length : Int) ≥ 16) = true then 3 else 0
def rotK (l : List Key) (id sec : List UInt8) (now life grace : Int) : List Key :=
  if rotE l id sec now life = 0 then l.map (cutK (limB now)) ++ [newK id sec now life grace] else []
/-- The ring and the error of Rotate. -/
def rotD (l : List Key) (id sec : List UInt8) (now life grace : Int) : D :=
  if rotE l id sec now life = 0 then .tup [.slice 6 false ((l.map (cutK (limB now)) ++ [newK id sec now life grace]).map Key.cs) none, .int .i64 0] else .tup [.slice 6 true [] none, .int .i64 (rotE l id sec now life)]
theorem clo_key3 {S : Nat → Prop} (rs : List Key) (x : Key) : ∀ (e : List D), (∃ a, a ∈ rs ∧ a.cs = e) ∨ e = x.cs → ∀ d ∈ e, Clo S d := by
  rintro e (⟨a, _, rfl⟩ | rfl) d hd
  all_goals
    simp only [Key.cs, List.mem_cons, List.mem_nil_iff, or_false] at hd
    rcases hd with rfl | rfl | rfl | rfl | rfl | rfl <;> simp
theorem Le.nil2 {z z' : Nat} {t : Option Nat} {a : D} : Le (.tup [.slice z true [] t, a]) (.tup [.slice z' true [] none, a]) := by
  intro M γ w v hr
  cases hr with
  | @tup _ vs hl hr =>
    refine .tup (by simpa using hl) fun i d v hd hv => ?_
    match i with
    | 0 =>
      simp at hd; subst hd
      exact Le.nil z z' none M γ w v (rep_fg (hr 0 _ v rfl hv))
    | 1 => simp at hd; subst hd; exact hr 1 _ v rfl hv
    | i + 2 => simp at hd
theorem rotD_ok {l : List Key} {id sec : List UInt8} {now life : Int} (grace : Int) (h : rotE l id sec now life = 0) : rotD l id sec now life grace = .tup [.slice 6 false ((l.map (cutK (limB now)) ++ [newK id sec now life grace]).map Key.cs) none, .int .i64 0] := by
  simp [rotD, h]
theorem rotD_no {l : List Key} {id sec : List UInt8} {now life : Int} (grace e : Int) (h : rotE l id sec now life = e) (he : e ≠ 0) : rotD l id sec now life grace = .tup [.slice 6 true [] none, .int .i64 e] := by
  simp [rotD, h, he]
theorem mapN (rs : List Key) (id sec : List UInt8) (now life grace : Int) : (rs ++ [newK id sec now life grace]).map Key.cs = rs.map Key.cs ++ [[.str id, .str sec, .int .i64 (limB now), .int .i64 (limB (limB now + limB life)), .int .i64 (limB now), .int .i64 (limB (limB (limB now + limB life) + limB grace))]] := by
  rw [List.map_append]; rfl
@[simp] theorem clo_rotD {S : Nat → Prop} (l : List Key) (id sec : List UInt8) (now life grace : Int) : Clo S (rotD l id sec now life grace) ↔ True := by
  simp only [iff_true]
  unfold rotD
  split
  · simp only [clo_tup, List.mem_cons, List.mem_nil_iff, or_false]
    rintro d (rfl | rfl)
    · rw [clo_slice]; exact ⟨(clo_key _).2 trivial, by simp⟩
    · simp
  · simp
/-- Half way through the rotation of the old keys. -/
def rtM (t : Int) (l : List Key) (k : Nat) : List Key := (l.take k).map (cutK t) ++ l.drop k
theorem rt_len (t : Int) (l : List Key) (k : Nat) (h : k ≤ l.length) : (rtM t l k).length = l.length := by
  simp [rtM, List.length_take]; omega
theorem rt_0 (t : Int) (l : List Key) : rtM t l 0 = l := by simp [rtM]
theorem rt_n (t : Int) (l : List Key) (k : Nat) (h : l.length ≤ k) : rtM t l k = l.map (cutK t) := by
  simp [rtM, List.take_of_length_le h, List.drop_eq_nil_of_le h]
theorem flatK_at (t : Int) (l : List Key) (k : Nat) (h : k < l.length) : (flatK (rtM t l k)).drop (k * 6) = l[k].cs ++ flatK (l.drop (k + 1)) := by
  rw [flatK_drop _ _ (by rw [rt_len t l k (by omega)]; omega), ← flatK_cons]
  congr 1
  unfold rtM
  rw [List.drop_append_of_le_length (by simp [List.length_take]; omega), List.drop_eq_nil_of_le (by simp [List.length_take]; omega), List.nil_append, dropE h]
theorem rt_g2 (t : Int) (l : List Key) (k : Nat) (h : k < l.length) : ((flatK (rtM t l k)).drop (k * 6 + 2)).head? = some (.int .i64 l[k].sf) := by
  rw [← List.drop_drop, flatK_at t l k h]; rfl
theorem rt_g3 (t : Int) (l : List Key) (k : Nat) (h : k < l.length) : ((flatK (rtM t l k)).drop (k * 6 + 3)).head? = some (.int .i64 l[k].su) := by
  rw [← List.drop_drop, flatK_at t l k h]; rfl
theorem rt_room (t : Int) (l : List Key) (k : Nat) (h : k < l.length) : k * 6 + 4 ≤ (flatK (rtM t l k)).length := by
  rw [flatK_len, rt_len t l k (by omega)]; omega
theorem rt_put (t : Int) (l : List Key) (k : Nat) (h : k < l.length) : (flatK (rtM t l k)).take (k * 6 + 3) ++ [.int .i64 (cutI t l[k].sf l[k].su)] ++ (flatK (rtM t l k)).drop (k * 6 + 4) = flatK (rtM t l (k + 1)) := by
  have hA : flatK (rtM t l k) = flatK ((l.take k).map (cutK t)) ++ (l[k].cs ++ flatK (l.drop (k + 1))) := by
    rw [← flatK_cons, ← flatK_app, ← dropE h]; rfl
  have hB : flatK (rtM t l (k + 1)) = flatK ((l.take k).map (cutK t)) ++ ((cutK t l[k]).cs ++ flatK (l.drop (k + 1))) := by
    rw [← flatK_cons, ← flatK_app]; unfold rtM; rw [List.take_succ_eq_append_getElem h, List.map_append]; simp only [List.map_cons, List.map_nil, List.append_assoc, List.cons_append, List.nil_append]
  have hn : (flatK ((l.take k).map (cutK t))).length = k * 6 := by rw [flatK_len]; simp; omega
  rw [hA, hB, List.take_append, List.drop_append, hn, List.take_of_length_le (by omega), show (flatK ((l.take k).map (cutK t))).drop (k * 6 + 4) = [] from List.drop_eq_nil_of_le (by omega), show k * 6 + 3 - k * 6 = 3 by omega, show k * 6 + 4 - k * 6 = 4 by omega]
  simp [Key.cs, cutK]
theorem rt_put2 (t : Int) (l : List Key) (k : Nat) (h : k < l.length) : (flatK (rtM t l k)).take (k * 6 + 2 + 1) ++ D.int .i64 (if l[k].sf < (if t < l[k].su then t else l[k].su) then (if t < l[k].su then t else l[k].su) else l[k].sf) :: (flatK (rtM t l k)).drop (k * 6 + 2 + 1 + 1) = flatK (rtM t l (k + 1)) := by
  have := rt_put t l k h
  rw [← this, List.append_assoc]
  rfl
end Go.Proofs

set_option linter.unusedSimpArgs false
set_option linter.unusedVariables false
set_option maxRecDepth 10000
namespace Go.Proofs
open Go Go.Id
set_option maxHeartbeats 4000000
theorem c_r_prune (l : List Key) (nl : Bool) (now : Int) (hn : l.length ≤ 1099511627776) (hnl : nl = true → l = []) : CallP Pr 25 [.slice 6 nl (l.map Key.cs) none, .int .i64 now] (.slice 6 (pruneK now l).isEmpty ((pruneK now l).map Key.cs) none) := by
 refine CallP.of_wp Tryz.func25 rfl (by kernel_rfl) Tryz.ntmps25 (by simp) ?_
 simp only [frameOf, Nat.reduceAdd, Nat.zero_add]
 refine WP.sr [0, 1] (by kernel_rfl) fun K hK => ?_
 simp (decide := true) only [TF, lim_add0, ↓reduceIte, Int.reduceToNat]
 refine hK _ _ ?_; clear hK K
 refine WP.sr [0, 1, 5] (by kernel_rfl) fun K hK => ?_
 simp (decide := true) only [TF, lim_add0, ↓reduceIte, Int.reduceToNat]
 refine hK _ _ ?_; clear hK K
 refine WP.seq ?_
 refine WP.sr [0, 1, 5, 6] (by kernel_rfl) fun K hK => ?_
 simp (decide := true) only [TF, lim_add0, ↓reduceIte, Int.reduceToNat]
 refine hK _ _ ?_; clear hK K
 refine WP.block ?_
 refine WP.lp [0, 1] (X := {x : (Nat) × (List Key) // match x with | (k, rs) => k ≤ l.length ∧ rs.length ≤ k ∧ pruneK now l = rs ++ pruneK now (l.drop k)}) (fun x => match x with | ⟨(k, rs), _⟩ => [(5, .slice 6 rs.isEmpty (rs.map Key.cs) (some 0)), (6, .int .i64 k)]) (fun x => match x with | ⟨(k, rs), _⟩ => [(0, .tip 31 6 rs.length)]) (fun x => match x with | ⟨(k, rs), _⟩ => l.length - k) (by simp (decide := true) only [W, ↓reduceIte, Int.reduceToNat]; rfl) ?_ ⟨(0, []), ⟨Nat.zero_le _, Nat.le_refl _, by simp⟩⟩ ?_
 rotate_left
 · refine Weak.trans (Weak.ghost 0 31 6 (F' := [(6, .int .i64 0), (5, .slice 6 true [] (some 0)), (0, .slice 6 nl (l.map Key.cs) none), (1, .int .i64 now)]) (σ' := []) (by simp [lk, W]) (by simp [W, keep, ins, UpF, UpD]) (by simp [UpS])) ?_; exact Weak.store (by simp [St.get, lk, W, Le.refl, W]) (by simp [lk, W]) (by simp [lk]) (by simp [BClo, lk]) (by simp [lk])
 rintro ⟨⟨k, rs⟩, hk, hr, hI⟩
 dsimp only
 simp only [List.cons_append, List.nil_append]
 refine WP.seq ?_
 refine WP.sr [0, 1, 5, 6, 10] (by kernel_rfl) fun K hK => ?_
 simp (decide := true) only [TF, hk, lim_add0, ↓reduceIte, Int.reduceToNat]
 refine hK _ _ ?_; clear hK K
 refine WP.cond (b := _) rfl (fun q1 => ?_) (fun q1 => ?_)
 ·
  have hlt := lt_of_q q1
  have hg : (l.map Key.cs)[k]? = some [.str l[k].id, .str l[k].sec, .int .i64 l[k].sf, .int .i64 l[k].su, .int .i64 l[k].af, .int .i64 l[k].au] := getM hlt
  have hnf := nl_false hnl hlt
  rw [dropE hlt] at hI
  simp only [pruneK_cons] at hI
  refine WP.skip ?_
  show WP _ _ _ _ _ _
  refine WP.seq ?_
  refine WP.block ?_
  refine WP.sd [0, 1, 5, 6, 21] (by kernel_rfl) (by kernel_rfl) fun K hK => ?_
  simp (decide := true) only [TF, hk, q1, hg, hnf, lim_add0, ↓reduceIte, Int.reduceToNat]
  refine CallK.pure (c_r_add _ _) rfl rfl (by simp [-List.map_take]) ?_
  simp (decide := true) only [TF, hk, q1, hg, hnf, lim_add0, ↓reduceIte, Int.reduceToNat]
  refine hK _ _ (by kernel_rfl) ?_
  clear hK K
  refine WP.cond (b := _) rfl (fun q2 => ?_) (fun q2 => ?_)
  ·
   simp only [q2, if_true] at hI
   have hkp := q2
   refine WP.region (by kernel_rfl) fun K hK => ?_
   simp (decide := true) only [TF, hk, q1, hg, hnf, q2, hkp, lim_add0, ↓reduceIte, Int.reduceToNat]
   refine ⟨⟨by simp only [List.length_append, List.length_map, List.length_cons, List.length_nil]; omega, by simp only [List.length_append, List.length_map, List.length_cons, List.length_nil]; omega⟩, ?_⟩
   refine hK _ _ ?_; clear hK K
   show WP _ _ _ _ _ _
   refine WP.region (by kernel_rfl) fun K hK => ?_
   simp (decide := true) only [TF, hk, q1, hg, hnf, q2, hkp, lim_add0, ↓reduceIte, Int.reduceToNat]
   refine hK _ _ ?_; clear hK K
   show ∃ y, _ ∧ Weak _ _ _
   refine ⟨⟨(k + 1, rs ++ [l[k]]), ?_⟩, ?_, ?_⟩
   · exact ⟨by dsimp only; omega, by simp; omega, by simpa using hI⟩
   · dsimp only; omega
   · exact Weak.store (by simp [St.get, lk, W, Le.refl, Key.cs, hk, q1, hg, hnf, q2, hkp, isE2, wrapS hlt (show l.length ≤ 140737488355328 by omega)]) (by simp [lk, W, hk, q1, hg, hnf, q2, hkp, isE2, wrapS hlt (show l.length ≤ 140737488355328 by omega)]) (by simp [lk, W]; exact clo_key3 _ _) (by simp [BClo, lk]) (by simp [lk])
  ·
   simp only [q2, Bool.false_eq_true, if_false] at hI
   have hkn := q2
   refine WP.skip ?_
   show WP _ _ _ _ _ _
   refine WP.region (by kernel_rfl) fun K hK => ?_
   simp (decide := true) only [TF, hk, q1, hg, hnf, q2, lim_add0, ↓reduceIte, Int.reduceToNat]
   refine hK _ _ ?_; clear hK K
   show ∃ y, _ ∧ Weak _ _ _
   refine ⟨⟨(k + 1, rs), ?_⟩, ?_, ?_⟩
   · exact ⟨by dsimp only; omega, by dsimp only; omega, hI⟩
   · dsimp only; omega
   · exact Weak.store (by simp [St.get, lk, W, Le.refl, hk, q1, hg, hnf, q2, wrapS hlt (show l.length ≤ 140737488355328 by omega)]) (by simp [lk, W, hk, q1, hg, hnf, q2, wrapS hlt (show l.length ≤ 140737488355328 by omega)]) (by simp [lk, W]) (by simp [BClo, lk]) (by simp [lk])
 ·
  have hge := ge_of_q q1
  rw [dropN hge] at hI
  simp only [pruneK_nil, List.append_nil] at hI
  refine WP.exit ?_
  show WP _ _ _ _ _ _
  refine WP.sr [4] (by kernel_rfl) fun K hK => ?_
  simp (decide := true) only [TF, hk, q1, lim_add0, ↓reduceIte, Int.reduceToNat]
  refine hK _ _ ?_; clear hK K
  refine WP.ret ?_
  exact Ends.pure (.inr rfl) rfl ((by rw [hI]; simp (decide := true) only [St.get, lk, W, Pr_prog, hk, q1, ↓reduceIte, Int.reduceToNat]; exact Le.fg _)) (by simp)
end Go.Proofs

set_option linter.unusedSimpArgs false
set_option linter.unusedVariables false
set_option maxRecDepth 10000
namespace Go.Proofs
open Go Go.Id
set_option maxHeartbeats 4000000
theorem zK2 (h : 31 < Tryz.prog.types.size) : (Tryz.prog.types[31]'h).size = 6 := by kernel_rfl
theorem c_r_rotate (l : List Key) (nl : Bool) (id sec : List UInt8) (now life grace : Int) (hn : l.length ≤ 1099511627776) (hnl : nl = true → l = []) (hl : ∀ k ∈ l, k.ok) (hid : id.length ≤ 1099511627776) (hsec : sec.length ≤ 1099511627776) : CallP Pr 20 [.slice 6 nl (l.map Key.cs) none, .str id, .str sec, .int .i64 now, .int .i64 life, .int .i64 grace] ((rotD l id sec now life grace)) := by
 have hid47 : id.length ≤ 140737488355328 := by omega
 have hsec47 : sec.length ≤ 140737488355328 := by omega
 refine CallP.of_wp Tryz.func20 rfl (by kernel_rfl) Tryz.ntmps20 (by simp) ?_
 simp only [frameOf, Nat.reduceAdd, Nat.zero_add]
 refine WP.sr [0, 1, 2, 3, 4, 5] (by kernel_rfl) fun K hK => ?_
 simp (decide := true) only [TF, lim_add0, lim_lim, ↓reduceIte, Int.reduceToNat]
 refine hK _ _ ?_; clear hK K
 refine WP.sr [0, 1, 2, 3, 4, 5, 14] (by kernel_rfl) fun K hK => ?_
 simp (decide := true) only [TF, lim_add0, lim_lim, ↓reduceIte, Int.reduceToNat]
 refine CallK.pure (c_r_check l nl hn hnl hl) rfl rfl (by simp [-List.map_take]) ?_
 simp (decide := true) only [TF, lim_add0, lim_lim, ↓reduceIte, Int.reduceToNat]
 refine hK _ _ ?_; clear hK K
 refine WP.seq ?_
 refine WP.sr [0, 1, 2, 3, 4, 5, 14, 24] (by kernel_rfl) fun K hK => ?_
 simp (decide := true) only [TF, lim_add0, lim_lim, ↓reduceIte, Int.reduceToNat]
 refine hK _ _ ?_; clear hK K
 refine WP.cond (b := _) rfl (fun q1 => ?_) (fun q1 => ?_)
 ·
  have hz := q1
  have hR := rotD_no grace _ (show rotE l id sec now life = checkK l by simp only [rotE, hz, if_true]) (by simpa using hz)
  refine WP.sr [12, 13] (by kernel_rfl) fun K hK => ?_
  simp (decide := true) only [TF, q1, hR, lim_add0, lim_lim, ↓reduceIte, Int.reduceToNat]
  refine hK _ _ ?_; clear hK K
  refine WP.ret ?_
  exact Ends.pure (d := .tup [_, _]) (.inr rfl) rfl ((by rw [hR]; simp (decide := true) only [mapN, List.isEmpty_cons, Bool.and_false, St.get, lk, W, Pr_prog, q1, hR, ↓reduceIte, Int.reduceToNat]; first | exact Le.nil2 | exact Le.fg _)) (by simp)
 ·
  have h0 := q1
  refine WP.skip ?_
  show WP _ _ _ _ _ _
  refine WP.seq ?_
  refine WP.sr [0, 1, 2, 3, 4, 5, 28] (by kernel_rfl) fun K hK => ?_
  simp (decide := true) only [TF, q1, lim_add0, lim_lim, ↓reduceIte, Int.reduceToNat]
  refine CallK.pure (c_r_word _ (by assumption)) rfl rfl (by simp [-List.map_take]) ?_
  simp (decide := true) only [TF, q1, lim_add0, lim_lim, ↓reduceIte, Int.reduceToNat]
  refine hK _ _ ?_; clear hK K
  refine WP.cond (b := _) rfl (fun q2 => ?_) (fun q2 => ?_)
  ·
   simp only [Bool.not_eq_true', Bool.not_eq_false'] at q2
   have hz := q2
   have hR := rotD_no grace 5 (show rotE l id sec now life = 5 by simp [rotE, h0, hz]) (by decide)
   refine WP.sr [12, 13] (by kernel_rfl) fun K hK => ?_
   simp (decide := true) only [TF, q1, q2, hR, lim_add0, lim_lim, ↓reduceIte, Int.reduceToNat]
   refine hK _ _ ?_; clear hK K
   refine WP.ret ?_
   exact Ends.pure (d := .tup [_, _]) (.inr rfl) rfl ((by rw [hR]; simp (decide := true) only [mapN, List.isEmpty_cons, Bool.and_false, St.get, lk, W, Pr_prog, q1, q2, hR, ↓reduceIte, Int.reduceToNat]; first | exact Le.nil2 | exact Le.fg _)) (by simp)
  ·
   simp only [Bool.not_eq_true', Bool.not_eq_false'] at q2
   have h1 := q2
   refine WP.skip ?_
   show WP _ _ _ _ _ _
   refine WP.seq ?_
   refine WP.sr [0, 1, 2, 3, 4, 5, 31] (by kernel_rfl) fun K hK => ?_
   simp (decide := true) only [TF, q1, q2, lim_add0, lim_lim, ↓reduceIte, Int.reduceToNat]
   refine CallK.pure (c_r_clean _ (by assumption)) rfl rfl (by simp [-List.map_take]) ?_
   simp (decide := true) only [TF, q1, q2, lim_add0, lim_lim, ↓reduceIte, Int.reduceToNat]
   refine hK _ _ ?_; clear hK K
   refine WP.cond (b := _) rfl (fun q3 => ?_) (fun q3 => ?_)
   ·
    simp only [Bool.not_eq_true', Bool.not_eq_false'] at q3
    have hz := q3
    have hR := rotD_no grace 4 (show rotE l id sec now life = 4 by simp [rotE, h0, h1, hz]) (by decide)
    refine WP.sr [12, 13] (by kernel_rfl) fun K hK => ?_
    simp (decide := true) only [TF, q1, q2, q3, hR, lim_add0, lim_lim, ↓reduceIte, Int.reduceToNat]
    refine hK _ _ ?_; clear hK K
    refine WP.ret ?_
    exact Ends.pure (d := .tup [_, _]) (.inr rfl) rfl ((by rw [hR]; simp (decide := true) only [mapN, List.isEmpty_cons, Bool.and_false, St.get, lk, W, Pr_prog, q1, q2, q3, hR, ↓reduceIte, Int.reduceToNat]; first | exact Le.nil2 | exact Le.fg _)) (by simp)
   ·
    simp only [Bool.not_eq_true', Bool.not_eq_false'] at q3
    have h2 := q3
    refine WP.skip ?_
    show WP _ _ _ _ _ _
    refine WP.sr [0, 1, 2, 3, 4, 5, 15] (by kernel_rfl) fun K hK => ?_
    simp (decide := true) only [TF, q1, q2, q3, lim_add0, lim_lim, ↓reduceIte, Int.reduceToNat]
    refine CallK.pure (c_r_add _ _) rfl rfl (by simp [-List.map_take]) ?_
    simp (decide := true) only [TF, q1, q2, q3, lim_add0, lim_lim, ↓reduceIte, Int.reduceToNat]
    refine hK _ _ ?_; clear hK K
    refine WP.sr [0, 1, 2, 5, 15, 16] (by kernel_rfl) fun K hK => ?_
    simp (decide := true) only [TF, q1, q2, q3, lim_add0, lim_lim, ↓reduceIte, Int.reduceToNat]
    refine CallK.pure (c_r_add _ _) rfl rfl (by simp [-List.map_take]) ?_
    simp (decide := true) only [TF, q1, q2, q3, lim_add0, lim_lim, ↓reduceIte, Int.reduceToNat]
    refine hK _ _ ?_; clear hK K
    refine WP.sr [0, 1, 2, 5, 15, 16, 17] (by kernel_rfl) fun K hK => ?_
    simp (decide := true) only [TF, q1, q2, q3, lim_add0, lim_lim, ↓reduceIte, Int.reduceToNat]
    refine hK _ _ ?_; clear hK K
    refine WP.seq ?_
    refine WP.sr [0, 1, 2, 5, 15, 16, 17, 18] (by kernel_rfl) fun K hK => ?_
    simp (decide := true) only [TF, q1, q2, q3, lim_add0, lim_lim, ↓reduceIte, Int.reduceToNat]
    refine hK _ _ ?_; clear hK K
    refine WP.block ?_
    refine WP.lp [0, 1, 2, 5, 15, 16] (X := {x : (Nat) × (List Key) // match x with | (k, rs) => k ≤ l.length ∧ rs.length ≤ k ∧ l.map (cutK (limB now)) = rs ++ (l.drop k).map (cutK (limB now)) ∧ l.any (fun k => k.id == id) = (l.drop k).any fun k => k.id == id}) (fun x => match x with | ⟨(k, rs), _⟩ => [(17, .slice 6 rs.isEmpty (rs.map Key.cs) (some 0)), (18, .int .i64 k)]) (fun x => match x with | ⟨(k, rs), _⟩ => [(0, .tip 31 6 rs.length)]) (fun x => match x with | ⟨(k, rs), _⟩ => l.length - k) (by simp (decide := true) only [W, ↓reduceIte, Int.reduceToNat]; rfl) ?_ ⟨(0, []), ⟨Nat.zero_le _, Nat.le_refl _, by simp, by simp⟩⟩ ?_
    rotate_left
    · refine Weak.trans (Weak.ghost 0 31 6 (F' := [(18, .int .i64 0), (17, .slice 6 true [] (some 0)), (16, .int .i64 (limB (limB now + limB life))), (15, .int .i64 (limB now)), (0, .slice 6 nl (l.map Key.cs) none), (1, .str id), (2, .str sec), (5, .int .i64 grace)]) (σ' := []) (by simp [lk, W]) (by simp [W, keep, ins, UpF, UpD]) (by simp [UpS])) ?_; exact Weak.store (by simp [St.get, lk, W, Le.refl, q1, q2, q3]) (by simp [lk, W]) (by simp [lk]) (by simp [BClo, lk]) (by simp [lk])
    rintro ⟨⟨k, rs⟩, hk, hr, hI, hJ⟩
    dsimp only
    simp only [List.cons_append, List.nil_append]
    refine WP.seq ?_
    refine WP.sr [0, 1, 2, 5, 15, 16, 17, 18, 40] (by kernel_rfl) fun K hK => ?_
    simp (decide := true) only [TF, q1, q2, q3, hk, lim_add0, lim_lim, ↓reduceIte, Int.reduceToNat]
    refine hK _ _ ?_; clear hK K
    refine WP.cond (b := _) rfl (fun q4 => ?_) (fun q4 => ?_)
    ·
     have hlt := lt_of_q q4
     have hg : (l.map Key.cs)[k]? = some [.str l[k].id, .str l[k].sec, .int .i64 l[k].sf, .int .i64 l[k].su, .int .i64 l[k].af, .int .i64 l[k].au] := getM hlt
     have hnf := nl_false hnl hlt
     rw [dropE hlt] at hI hJ
     simp only [List.map_cons] at hI
     simp only [List.any_cons] at hJ
     refine WP.skip ?_
     show WP _ _ _ _ _ _
     refine WP.seq ?_
     refine WP.block ?_
     refine WP.seq ?_
     refine WP.sr [0, 1, 2, 5, 15, 16, 17, 18, 49] (by kernel_rfl) fun K hK => ?_
     simp (decide := true) only [TF, q1, q2, q3, hk, q4, hg, hnf, lim_add0, lim_lim, ↓reduceIte, Int.reduceToNat]
     refine hK _ _ ?_; clear hK K
     refine WP.cond (b := _) rfl (fun q5 => ?_) (fun q5 => ?_)
     ·
      have hz := q5
      simp only [hz, Bool.true_or] at hJ
      have hR := rotD_no grace 7 (show rotE l id sec now life = 7 by simp [rotE, h0, h1, h2, hJ]) (by decide)
      refine WP.sr [12, 13] (by kernel_rfl) fun K hK => ?_
      simp (decide := true) only [TF, q1, q2, q3, hk, q4, hg, hnf, q5, hR, lim_add0, lim_lim, ↓reduceIte, Int.reduceToNat]
      refine hK _ _ ?_; clear hK K
      refine WP.ret ?_
      exact Ends.pure (d := .tup [_, _]) (.inr rfl) rfl ((by rw [hR]; simp (decide := true) only [mapN, List.isEmpty_cons, Bool.and_false, St.get, lk, W, Pr_prog, q1, q2, q3, hk, q4, hg, hnf, q5, hR, ↓reduceIte, Int.reduceToNat]; first | exact Le.nil2 | exact Le.fg _)) (by simp)
     ·
      have hz := q5
      simp only [hz, Bool.false_or] at hJ
      refine WP.skip ?_
      show WP _ _ _ _ _ _
      refine WP.sr [0, 1, 2, 5, 15, 16, 17, 18, 19] (by kernel_rfl) fun K hK => ?_
      simp (decide := true) only [TF, q1, q2, q3, hk, q4, hg, hnf, q5, lim_add0, lim_lim, ↓reduceIte, Int.reduceToNat]
      refine hK _ _ ?_; clear hK K
      refine WP.seq ?_
      refine WP.sr [0, 1, 2, 5, 15, 16, 17, 18, 19, 58] (by kernel_rfl) fun K hK => ?_
      simp (decide := true) only [TF, q1, q2, q3, hk, q4, hg, hnf, q5, lim_add0, lim_lim, ↓reduceIte, Int.reduceToNat]
      refine hK _ _ ?_; clear hK K
      refine WP.cond (b := _) rfl (fun q6 => ?_) (fun q6 => ?_)
      ·
       have h58 := q6
       simp only [decide_eq_true_eq] at h58
       refine WP.region (by kernel_rfl) fun K hK => ?_
       simp (decide := true) only [TF, q1, q2, q3, hk, q4, hg, hnf, q5, q6, lim_add0, lim_lim, ↓reduceIte, Int.reduceToNat]
       refine hK _ _ ?_; clear hK K
       show WP _ _ _ _ _ _
       refine WP.seq ?_
       refine WP.sr [0, 1, 2, 5, 15, 16, 17, 18, 19, 68] (by kernel_rfl) fun K hK => ?_
       simp (decide := true) only [TF, q1, q2, q3, hk, q4, hg, hnf, q5, q6, lim_add0, lim_lim, ↓reduceIte, Int.reduceToNat]
       refine hK _ _ ?_; clear hK K
       refine WP.cond (b := _) rfl (fun q7 => ?_) (fun q7 => ?_)
       ·
        have hcut : cutI (limB now) l[k].sf l[k].su = l[k].sf := by have := q7; simp only [decide_eq_true_eq, decide_eq_false_iff_not] at this; unfold cutI; repeat' split <;> omega
        refine WP.region (by kernel_rfl) fun K hK => ?_
        simp (decide := true) only [TF, q1, q2, q3, hk, q4, hg, hnf, q5, q6, q7, hcut, lim_add0, lim_lim, ↓reduceIte, Int.reduceToNat]
        refine hK _ _ ?_; clear hK K
        show WP _ _ _ _ _ _
        refine WP.region (by kernel_rfl) fun K hK => ?_
        simp (decide := true) only [TF, q1, q2, q3, hk, q4, hg, hnf, q5, q6, q7, hcut, lim_add0, lim_lim, ↓reduceIte, Int.reduceToNat]
        refine ⟨⟨by simp only [List.length_append, List.length_map, List.length_cons, List.length_nil]; omega, by simp only [List.length_append, List.length_map, List.length_cons, List.length_nil]; omega⟩, ?_⟩
        refine hK _ _ ?_; clear hK K
        show WP _ _ _ _ _ _
        refine WP.region (by kernel_rfl) fun K hK => ?_
        simp (decide := true) only [TF, q1, q2, q3, hk, q4, hg, hnf, q5, q6, q7, hcut, lim_add0, lim_lim, ↓reduceIte, Int.reduceToNat]
        refine hK _ _ ?_; clear hK K
        show ∃ y, _ ∧ Weak _ _ _
        refine ⟨⟨(k + 1, rs ++ [cutK (limB now) l[k]]), ?_⟩, ?_, ?_⟩
        · exact ⟨by dsimp only; omega, by simp; omega, by simpa using hI, hJ⟩
        · dsimp only; omega
        · exact Weak.store (by simp [St.get, lk, W, Le.refl, Key.cs, cutK, q1, q2, q3, hk, q4, hg, hnf, q5, q6, q7, hcut, isE2, wrapS hlt (show l.length ≤ 140737488355328 by omega)]) (by simp [lk, W, q1, q2, q3, hk, q4, hg, hnf, q5, q6, q7, hcut]) (by simp [lk, W]; exact clo_key3 _ _) (by simp [BClo, lk]) (by simp [lk])
       ·
        have hcut : cutI (limB now) l[k].sf l[k].su = limB now := by have := q7; simp only [decide_eq_true_eq, decide_eq_false_iff_not] at this; unfold cutI; repeat' split <;> omega
        refine WP.skip ?_
        show WP _ _ _ _ _ _
        refine WP.region (by kernel_rfl) fun K hK => ?_
        simp (decide := true) only [TF, q1, q2, q3, hk, q4, hg, hnf, q5, q6, q7, hcut, lim_add0, lim_lim, ↓reduceIte, Int.reduceToNat]
        refine ⟨⟨by simp only [List.length_append, List.length_map, List.length_cons, List.length_nil]; omega, by simp only [List.length_append, List.length_map, List.length_cons, List.length_nil]; omega⟩, ?_⟩
        refine hK _ _ ?_; clear hK K
        show WP _ _ _ _ _ _
        refine WP.region (by kernel_rfl) fun K hK => ?_
        simp (decide := true) only [TF, q1, q2, q3, hk, q4, hg, hnf, q5, q6, q7, hcut, lim_add0, lim_lim, ↓reduceIte, Int.reduceToNat]
        refine hK _ _ ?_; clear hK K
        show ∃ y, _ ∧ Weak _ _ _
        refine ⟨⟨(k + 1, rs ++ [cutK (limB now) l[k]]), ?_⟩, ?_, ?_⟩
        · exact ⟨by dsimp only; omega, by simp; omega, by simpa using hI, hJ⟩
        · dsimp only; omega
        · exact Weak.store (by simp [St.get, lk, W, Le.refl, Key.cs, cutK, q1, q2, q3, hk, q4, hg, hnf, q5, q6, q7, hcut, isE2, wrapS hlt (show l.length ≤ 140737488355328 by omega)]) (by simp [lk, W, q1, q2, q3, hk, q4, hg, hnf, q5, q6, q7, hcut]) (by simp [lk, W]; exact clo_key3 _ _) (by simp [BClo, lk]) (by simp [lk])
      ·
       have h58 := q6
       simp only [decide_eq_false_iff_not] at h58
       refine WP.skip ?_
       show WP _ _ _ _ _ _
       refine WP.seq ?_
       refine WP.sr [0, 1, 2, 5, 15, 16, 17, 18, 19, 68] (by kernel_rfl) fun K hK => ?_
       simp (decide := true) only [TF, q1, q2, q3, hk, q4, hg, hnf, q5, q6, lim_add0, lim_lim, ↓reduceIte, Int.reduceToNat]
       refine hK _ _ ?_; clear hK K
       refine WP.cond (b := _) rfl (fun q8 => ?_) (fun q8 => ?_)
       ·
        have hcut : cutI (limB now) l[k].sf l[k].su = l[k].sf := by have := q8; simp only [decide_eq_true_eq, decide_eq_false_iff_not] at this; unfold cutI; repeat' split <;> omega
        refine WP.region (by kernel_rfl) fun K hK => ?_
        simp (decide := true) only [TF, q1, q2, q3, hk, q4, hg, hnf, q5, q6, q8, hcut, lim_add0, lim_lim, ↓reduceIte, Int.reduceToNat]
        refine hK _ _ ?_; clear hK K
        show WP _ _ _ _ _ _
        refine WP.region (by kernel_rfl) fun K hK => ?_
        simp (decide := true) only [TF, q1, q2, q3, hk, q4, hg, hnf, q5, q6, q8, hcut, lim_add0, lim_lim, ↓reduceIte, Int.reduceToNat]
        refine ⟨⟨by simp only [List.length_append, List.length_map, List.length_cons, List.length_nil]; omega, by simp only [List.length_append, List.length_map, List.length_cons, List.length_nil]; omega⟩, ?_⟩
        refine hK _ _ ?_; clear hK K
        show WP _ _ _ _ _ _
        refine WP.region (by kernel_rfl) fun K hK => ?_
        simp (decide := true) only [TF, q1, q2, q3, hk, q4, hg, hnf, q5, q6, q8, hcut, lim_add0, lim_lim, ↓reduceIte, Int.reduceToNat]
        refine hK _ _ ?_; clear hK K
        show ∃ y, _ ∧ Weak _ _ _
        refine ⟨⟨(k + 1, rs ++ [cutK (limB now) l[k]]), ?_⟩, ?_, ?_⟩
        · exact ⟨by dsimp only; omega, by simp; omega, by simpa using hI, hJ⟩
        · dsimp only; omega
        · exact Weak.store (by simp [St.get, lk, W, Le.refl, Key.cs, cutK, q1, q2, q3, hk, q4, hg, hnf, q5, q6, q8, hcut, isE2, wrapS hlt (show l.length ≤ 140737488355328 by omega)]) (by simp [lk, W, q1, q2, q3, hk, q4, hg, hnf, q5, q6, q8, hcut]) (by simp [lk, W]; exact clo_key3 _ _) (by simp [BClo, lk]) (by simp [lk])
       ·
        have hcut : cutI (limB now) l[k].sf l[k].su = l[k].su := by have := q8; simp only [decide_eq_true_eq, decide_eq_false_iff_not] at this; unfold cutI; repeat' split <;> omega
        refine WP.skip ?_
        show WP _ _ _ _ _ _
        refine WP.region (by kernel_rfl) fun K hK => ?_
        simp (decide := true) only [TF, q1, q2, q3, hk, q4, hg, hnf, q5, q6, q8, hcut, lim_add0, lim_lim, ↓reduceIte, Int.reduceToNat]
        refine ⟨⟨by simp only [List.length_append, List.length_map, List.length_cons, List.length_nil]; omega, by simp only [List.length_append, List.length_map, List.length_cons, List.length_nil]; omega⟩, ?_⟩
        refine hK _ _ ?_; clear hK K
        show WP _ _ _ _ _ _
        refine WP.region (by kernel_rfl) fun K hK => ?_
        simp (decide := true) only [TF, q1, q2, q3, hk, q4, hg, hnf, q5, q6, q8, hcut, lim_add0, lim_lim, ↓reduceIte, Int.reduceToNat]
        refine hK _ _ ?_; clear hK K
        show ∃ y, _ ∧ Weak _ _ _
        refine ⟨⟨(k + 1, rs ++ [cutK (limB now) l[k]]), ?_⟩, ?_, ?_⟩
        · exact ⟨by dsimp only; omega, by simp; omega, by simpa using hI, hJ⟩
        · dsimp only; omega
        · exact Weak.store (by simp [St.get, lk, W, Le.refl, Key.cs, cutK, q1, q2, q3, hk, q4, hg, hnf, q5, q6, q8, hcut, isE2, wrapS hlt (show l.length ≤ 140737488355328 by omega)]) (by simp [lk, W, q1, q2, q3, hk, q4, hg, hnf, q5, q6, q8, hcut]) (by simp [lk, W]; exact clo_key3 _ _) (by simp [BClo, lk]) (by simp [lk])
    ·
     have hge := ge_of_q q4
     rw [dropN hge] at hI hJ
     simp only [List.map_nil, List.append_nil] at hI
     simp only [List.any_nil] at hJ
     refine WP.exit ?_
     show WP _ _ _ _ _ _
     refine WP.seq ?_
     refine WP.sr [0, 1, 2, 5, 15, 16, 17, 80] (by kernel_rfl) fun K hK => ?_
     simp (decide := true) only [TF, q1, q2, q3, hk, q4, lim_add0, lim_lim, ↓reduceIte, Int.reduceToNat]
     refine hK _ _ ?_; clear hK K
     refine WP.cond (b := _) rfl (fun q9 => ?_) (fun q9 => ?_)
     ·
      have hz := q9
      have hR := rotD_no grace 2 (show rotE l id sec now life = 2 by simp [rotE, h0, h1, h2, hJ, hz]) (by decide)
      refine WP.sr [12, 13] (by kernel_rfl) fun K hK => ?_
      simp (decide := true) only [TF, q1, q2, q3, hk, q4, q9, hR, lim_add0, lim_lim, ↓reduceIte, Int.reduceToNat]
      refine hK _ _ ?_; clear hK K
      refine WP.ret ?_
      exact Ends.pure (d := .tup [_, _]) (.inr rfl) rfl ((by rw [hR]; simp (decide := true) only [mapN, List.isEmpty_cons, Bool.and_false, St.get, lk, W, Pr_prog, q1, q2, q3, hk, q4, q9, hR, ↓reduceIte, Int.reduceToNat]; first | exact Le.nil2 | exact Le.fg _)) (by simp)
     ·
      have h3 := q9
      refine WP.skip ?_
      show WP _ _ _ _ _ _
      refine WP.seq ?_
      refine WP.sr [1, 2, 5, 15, 16, 17, 83] (by kernel_rfl) fun K hK => ?_
      simp (decide := true) only [TF, q1, q2, q3, hk, q4, q9, lim_add0, lim_lim, ↓reduceIte, Int.reduceToNat]
      refine hK _ _ ?_; clear hK K
      refine WP.cond (b := _) rfl (fun q10 => ?_) (fun q10 => ?_)
      ·
       have hz := q10
       have hR := rotD_no grace 3 (show rotE l id sec now life = 3 by simp [rotE, h0, h1, h2, hJ, h3, hz]) (by decide)
       refine WP.sr [12, 13] (by kernel_rfl) fun K hK => ?_
       simp (decide := true) only [TF, q1, q2, q3, hk, q4, q9, q10, hR, lim_add0, lim_lim, ↓reduceIte, Int.reduceToNat]
       refine hK _ _ ?_; clear hK K
       refine WP.ret ?_
       exact Ends.pure (d := .tup [_, _]) (.inr rfl) rfl ((by rw [hR]; simp (decide := true) only [mapN, List.isEmpty_cons, Bool.and_false, St.get, lk, W, Pr_prog, q1, q2, q3, hk, q4, q9, q10, hR, ↓reduceIte, Int.reduceToNat]; first | exact Le.nil2 | exact Le.fg _)) (by simp)
      ·
       have hz := q10
       have hR := rotD_ok grace (show rotE l id sec now life = 0 by simp [rotE, h0, h1, h2, hJ, h3, hz])
       rw [hI] at hR
       refine WP.skip ?_
       show WP _ _ _ _ _ _
       refine WP.sr [17, 20] (by kernel_rfl) fun K hK => ?_
       simp (decide := true) only [TF, q1, q2, q3, hk, q4, q9, q10, hR, lim_add0, lim_lim, ↓reduceIte, Int.reduceToNat]
       refine CallK.pure (c_r_add _ _) rfl rfl (by simp [-List.map_take]) ?_
       simp (decide := true) only [TF, q1, q2, q3, hk, q4, q9, q10, hR, lim_add0, lim_lim, ↓reduceIte, Int.reduceToNat]
       refine hK _ _ ?_; clear hK K
       refine WP.sr [12, 13] (by kernel_rfl) fun K hK => ?_
       simp (decide := true) only [TF, q1, q2, q3, hk, q4, q9, q10, hR, lim_add0, lim_lim, ↓reduceIte, Int.reduceToNat]
       refine ⟨⟨by simp only [List.length_append, List.length_map, List.length_cons, List.length_nil]; omega, by simp only [List.length_append, List.length_map, List.length_cons, List.length_nil]; omega⟩, ?_⟩
       refine hK _ _ ?_; clear hK K
       refine WP.ret ?_
       exact Ends.pure (d := .tup [_, _]) (.inr rfl) rfl ((by rw [hR]; simp (decide := true) only [mapN, List.isEmpty_cons, Bool.and_false, St.get, lk, W, Pr_prog, q1, q2, q3, hk, q4, q9, q10, hR, ↓reduceIte, Int.reduceToNat]; first | exact Le.nil2 | exact Le.fg _)) (by simp)
end Go.Proofs
