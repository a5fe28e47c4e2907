import Derived.Test.YtabkoicelflhcaaGreatDoorG08
import Derived.Test.YtabkoicelflhcaaGreatDoorG02
import Derived.Test.YtabkoicelflhcaaGreatDoorG03
set_option linter.unusedVariables false
set_option linter.unusedSimpArgs false
/-
  Plain: the last window of a row of windows. Conditions: none.
-/
set_option linter.unusedSimpArgs false
set_option linter.unusedVariables false
namespace Go.Proofs
open Go Go.Id
section
variable (p : List Win) (a b : D)
theorem fw_drop : (flatW p ++ [a, b]).drop (p.length * 2 + 1) = [b] := by
  rw [List.drop_append, List.drop_eq_nil_of_le (by rw [flatW_len]; omega), flatW_len, show p.length * 2 + 1 - p.length * 2 = 1 by omega]; rfl
theorem fw_drop2 : (flatW p ++ [a, b]).drop (p.length * 2 + 1 + 1) = [] := List.drop_eq_nil_of_le (by simp [flatW_len])
theorem fw_take : (flatW p ++ [a, b]).take (p.length * 2 + 1) = flatW p ++ [a] := by
  rw [List.take_append, List.take_of_length_le (by rw [flatW_len]; omega), flatW_len, show p.length * 2 + 1 - p.length * 2 = 1 by omega]; rfl
theorem fw_len : (flatW p ++ [a, b]).length = p.length * 2 + 2 := by simp [flatW_len]
end
theorem flatW_snoc (p : List Win) (x : Win) : flatW (p ++ [x]) = flatW p ++ [.int .i64 x.f, .int .i64 x.u] := by simp [flatW, Win.cs]
theorem wins_snoc (p : List Win) (x : Win) : ((p ++ [x]).map Win.cs)[p.length]? = some [.int .i64 x.f, .int .i64 x.u] := by simp [Win.cs]
theorem fr_win (t : Nat) (l : List Win) : ∀ x ∈ l.map Win.cs, ∀ d ∈ x, Fr t d := win_fr t l
theorem fr_flatW (t : Nat) (l : List Win) : ∀ d ∈ flatW l, Fr t d := by
  intro d hd
  obtain ⟨x, hx, hd⟩ := List.mem_flatten.1 hd
  exact win_fr t l x hx d hd
theorem ustep_in {p : List Win} {x w : Win} (h : w.f ≤ x.u) : ustep (p ++ [x]) w = p ++ [⟨x.f, if w.u > x.u then w.u else x.u⟩] := by rw [ustep_app, if_pos h]
theorem ustep_out {p : List Win} {x w : Win} (h : ¬ w.f ≤ x.u) : ustep (p ++ [x]) w = p ++ [x] ++ [w] := by rw [ustep_app, if_neg h]
theorem enM_f (u : Int) : (if 1099511627776 < u then (1099511627776 : Int) else u) = enM u := rfl
theorem atZ_f (f : Int) : (if 0 > f then (0 : Int) else f) = atZ f := rfl
theorem mapW (o : List Win) (w : Win) : o.map Win.cs ++ [[D.int .i64 w.f, D.int .i64 w.u]] = (o ++ [w]).map Win.cs := by simp [Win.cs]
theorem mapW2 (o : List Win) (f u : Int) : o.map Win.cs ++ [[D.int .i64 f, D.int .i64 u]] = (o ++ [Win.mk f u]).map Win.cs := by simp [Win.cs]
end Go.Proofs

set_option linter.unusedSimpArgs false
set_option linter.unusedVariables false
set_option maxRecDepth 10000
namespace Go.Proofs
open Go Go.Id
set_option maxHeartbeats 4000000
theorem c_wis0 : CallP Pr 127 [.slice 2 true [] none, .int .i64 0, .int .i64 0, .fn (.func 84) [] []] (.tup []) := by
 refine CallP.of_wp Tryz.func127 rfl (by kernel_rfl) Tryz.ntmps127 (by simp) ?_
 simp only [frameOf, Nat.reduceAdd, Nat.zero_add]
 refine WP.sr [0, 1, 2, 3, 8] (by kernel_rfl) fun K hK => ?_
 simp (decide := true) only [TF, ↓reduceIte, Int.reduceToNat]
 refine hK _ _ ?_; clear hK K
 refine WP.block ?_
 refine WP.lp [0, 1, 2, 3] (X := {z : Nat // z = 0}) (fun x => match x with | ⟨(z), _⟩ => [(8, .int .i64 1)]) (fun x => match x with | ⟨(z), _⟩ => []) (fun x => match x with | ⟨(z), _⟩ => 1) (by simp (decide := true) only [W, ↓reduceIte, Int.reduceToNat]; rfl) ?_ ⟨(0), rfl⟩ ?_
 rotate_left
 · exact Weak.nil (by simp [St.get, lk, W, Le.refl, Le.nil, show IntKind.wrap .i64 1 = 1 from by decide, W]) (by simp [W])
 rintro ⟨z, hz⟩
 dsimp only
 simp only [List.cons_append, List.nil_append]
 subst hz
 refine WP.seq ?_
 refine WP.sr [0, 1, 2, 3, 8, 14] (by kernel_rfl) fun K hK => ?_
 simp (decide := true) only [TF, ↓reduceIte, Int.reduceToNat]
 refine hK _ _ ?_; clear hK K
 refine WP.cond (b := false) (by rfl) nofun (fun _ => ?_)
 refine WP.exit ?_
 exact Ends.pure (.inl rfl) rfl (Le.of_eq (by simp (decide := true) only [St.get, lk, W, ↓reduceIte])) (by simp)
theorem c_wpdq0 : CallP Pr 104 [.slice 2 true [] none, .int .i64 0, .int .i64 0, .int .i64 0, .fn (.func 84) [] []] (.tup []) := by
 refine CallP.of_wp Tryz.func104 rfl (by kernel_rfl) Tryz.ntmps104 (by simp) ?_
 simp only [frameOf, Nat.reduceAdd, Nat.zero_add]
 refine WP.sr [0, 1, 2, 3, 4, 10] (by kernel_rfl) fun K hK => ?_
 simp (decide := true) only [TF, ↓reduceIte, Int.reduceToNat]
 refine hK _ _ ?_; clear hK K
 refine WP.sr [0, 1, 2, 3, 4, 10, 11] (by kernel_rfl) fun K hK => ?_
 simp (decide := true) only [TF, ↓reduceIte, Int.reduceToNat]
 refine hK _ _ ?_; clear hK K
 refine WP.block ?_
 refine WP.lp [0, 4] (X := {z : Nat // z = 0}) (fun x => match x with | ⟨(z), _⟩ => [(1, .int .i64 0), (2, .int .i64 0), (3, .int .i64 0), (10, .bool true), (11, .bool true)]) (fun x => match x with | ⟨(z), _⟩ => []) (fun x => match x with | ⟨(z), _⟩ => 1) (by simp (decide := true) only [W, ↓reduceIte, Int.reduceToNat]; rfl) ?_ ⟨(0), rfl⟩ ?_
 rotate_left
 · exact Weak.nil (by simp [St.get, lk, W, Le.refl, Le.nil, show IntKind.wrap .i64 1 = 1 from by decide, W]) (by simp [W])
 rintro ⟨z, hz⟩
 dsimp only
 simp only [List.cons_append, List.nil_append]
 subst hz
 refine WP.block ?_
 refine WP.sr [0, 1, 2, 3, 4, 10, 11, 12] (by kernel_rfl) fun K hK => ?_
 simp (decide := true) only [TF, ↓reduceIte, Int.reduceToNat]
 refine hK _ _ ?_; clear hK K
 refine WP.seq ?_
 refine WP.sr [0, 1, 2, 3, 4, 10, 11, 12, 25] (by kernel_rfl) fun K hK => ?_
 simp (decide := true) only [TF, ↓reduceIte, Int.reduceToNat]
 refine hK _ _ ?_; clear hK K
 refine WP.cond (b := true) (by rfl) (fun _ => ?_) nofun
 refine WP.sr [] (by kernel_rfl) fun K hK => ?_
 simp (decide := true) only [TF, ↓reduceIte, Int.reduceToNat]
 refine CallK.pure (c_wis0) rfl rfl (by simp [-List.map_take]) ?_
 simp (decide := true) only [TF, ↓reduceIte, Int.reduceToNat]
 refine hK _ _ ?_; clear hK K
 refine WP.ret ?_
 exact Ends.pure (.inr rfl) rfl (Le.of_eq (by simp (decide := true) only [St.get, lk, W, ↓reduceIte])) (by simp)
theorem c_wsort0 : CallP Pr 83 [.slice 2 true [] none, .fn (.func 84) [] []] (.tup []) := by
 refine CallP.of_wp Tryz.func83 rfl (by kernel_rfl) Tryz.ntmps83 (by simp) ?_
 simp only [frameOf, Nat.reduceAdd, Nat.zero_add]
 refine WP.sr [0, 1, 4] (by kernel_rfl) fun K hK => ?_
 simp (decide := true) only [TF, ↓reduceIte, Int.reduceToNat]
 refine hK _ _ ?_; clear hK K
 refine WP.region (by kernel_rfl) fun K hK => ?_
 simp (decide := true) only [TF, ↓reduceIte, Int.reduceToNat]
 refine CallK.pure (lib_len0) rfl rfl (by simp [-List.map_take]) ?_
 simp (decide := true) only [TF, ↓reduceIte, Int.reduceToNat]
 refine CallK.pure (c_wpdq0) rfl rfl (by simp [-List.map_take]) ?_
 simp (decide := true) only [TF, ↓reduceIte, Int.reduceToNat]
 refine hK _ _ ?_; clear hK K
 exact Ends.pure (.inl rfl) rfl (Le.of_eq (by simp (decide := true) only [St.get, lk, W, ↓reduceIte])) (by simp)
theorem c_wclone0 : CallP Pr 81 [.slice 2 true [] none] (.slice 2 true [] none) := by
 refine CallP.of_wp Tryz.func81 rfl (by kernel_rfl) Tryz.ntmps81 (by simp) ?_
 simp only [frameOf, Nat.reduceAdd, Nat.zero_add]
 refine WP.sr [0] (by kernel_rfl) fun K hK => ?_
 simp (decide := true) only [TF, ↓reduceIte, Int.reduceToNat]
 refine hK _ _ ?_; clear hK K
 refine WP.seq ?_
 refine WP.sr [0, 4] (by kernel_rfl) fun K hK => ?_
 simp (decide := true) only [TF, ↓reduceIte, Int.reduceToNat]
 refine hK _ _ ?_; clear hK K
 refine WP.cond (b := true) (by rfl) (fun _ => ?_) nofun
 refine WP.sr [2] (by kernel_rfl) fun K hK => ?_
 simp (decide := true) only [TF, ↓reduceIte, Int.reduceToNat]
 refine hK _ _ ?_; clear hK K
 refine WP.ret ?_
 exact Ends.pure (.inr rfl) rfl (by simp (decide := true) only [St.get, lk, W, Pr_prog, ↓reduceIte, Int.reduceToNat]; first | exact Le.refl _ | exact Le.nil _ _ _ | exact Le.fg _) (by simp)
theorem c_windex0 : CallP Pr 103 [.slice 2 true [] none, .fn (.func 82) [] []] (.int .i64 (-1)) := by
 refine CallP.of_wp Tryz.func103 rfl (by kernel_rfl) Tryz.ntmps103 (by simp) ?_
 simp only [frameOf, Nat.reduceAdd, Nat.zero_add]
 refine WP.sr [0, 1] (by kernel_rfl) fun K hK => ?_
 simp (decide := true) only [TF, ↓reduceIte, Int.reduceToNat]
 refine hK _ _ ?_; clear hK K
 refine WP.seq ?_
 refine WP.sr [0, 1, 7, 8] (by kernel_rfl) fun K hK => ?_
 simp (decide := true) only [TF, ↓reduceIte, Int.reduceToNat]
 refine hK _ _ ?_; clear hK K
 refine WP.block ?_
 refine WP.lp [0, 1, 7] (X := {z : Nat // z = 0}) (fun x => match x with | ⟨(z), _⟩ => [(8, .int .i64 0)]) (fun x => match x with | ⟨(z), _⟩ => []) (fun x => match x with | ⟨(z), _⟩ => 1) (by simp (decide := true) only [W, ↓reduceIte, Int.reduceToNat]; rfl) ?_ ⟨(0), rfl⟩ ?_
 rotate_left
 · exact Weak.nil (by simp [St.get, lk, W, Le.refl, Le.nil, show IntKind.wrap .i64 1 = 1 from by decide, W]) (by simp [W])
 rintro ⟨z, hz⟩
 dsimp only
 simp only [List.cons_append, List.nil_append]
 subst hz
 refine WP.sr [0, 1, 7, 8, 9] (by kernel_rfl) fun K hK => ?_
 simp (decide := true) only [TF, ↓reduceIte, Int.reduceToNat]
 refine hK _ _ ?_; clear hK K
 refine WP.seq ?_
 refine WP.cond (b := false) (by rfl) nofun (fun _ => ?_)
 refine WP.exit ?_
 show WP _ _ _ _ _ _
 refine WP.sr [4] (by kernel_rfl) fun K hK => ?_
 simp (decide := true) only [TF, ↓reduceIte, Int.reduceToNat]
 refine hK _ _ ?_; clear hK K
 refine WP.ret ?_
 exact Ends.pure (.inr rfl) rfl (Le.of_eq (by simp (decide := true) only [St.get, lk, W, ↓reduceIte])) (by simp)
theorem c_wdel0 : CallP Pr 80 [.slice 2 true [] none, .fn (.func 82) [] []] (.slice 2 true [] none) := by
 refine CallP.of_wp Tryz.func80 rfl (by kernel_rfl) Tryz.ntmps80 (by simp) ?_
 simp only [frameOf, Nat.reduceAdd, Nat.zero_add]
 refine WP.sr [0, 1] (by kernel_rfl) fun K hK => ?_
 simp (decide := true) only [TF, ↓reduceIte, Int.reduceToNat]
 refine hK _ _ ?_; clear hK K
 refine WP.sr [0, 1, 5] (by kernel_rfl) fun K hK => ?_
 simp (decide := true) only [TF, ↓reduceIte, Int.reduceToNat]
 refine CallK.pure (c_windex0) rfl rfl (by simp [-List.map_take]) ?_
 simp (decide := true) only [TF, ↓reduceIte, Int.reduceToNat]
 refine hK _ _ ?_; clear hK K
 refine WP.seq ?_
 refine WP.sr [0, 1, 5, 12] (by kernel_rfl) fun K hK => ?_
 simp (decide := true) only [TF, ↓reduceIte, Int.reduceToNat]
 refine hK _ _ ?_; clear hK K
 refine WP.cond (b := true) (by rfl) (fun _ => ?_) nofun
 refine WP.sr [4] (by kernel_rfl) fun K hK => ?_
 simp (decide := true) only [TF, ↓reduceIte, Int.reduceToNat]
 refine hK _ _ ?_; clear hK K
 refine WP.ret ?_
 exact Ends.pure (.inr rfl) rfl (Le.of_eq (by simp (decide := true) only [St.get, lk, W, ↓reduceIte])) (by simp)
theorem c_union0 : CallP Pr 55 [.slice 2 true [] none] (.slice 2 true [] none) := by
 refine CallP.of_wp Tryz.func55 rfl (by kernel_rfl) Tryz.ntmps55 (by simp) ?_
 simp only [frameOf, Nat.reduceAdd, Nat.zero_add]
 refine WP.sr [0] (by kernel_rfl) fun K hK => ?_
 simp (decide := true) only [TF, ↓reduceIte, Int.reduceToNat]
 refine hK _ _ ?_; clear hK K
 refine WP.sr [3] (by kernel_rfl) fun K hK => ?_
 simp (decide := true) only [TF, ↓reduceIte, Int.reduceToNat]
 refine CallK.pure (c_wclone0) rfl rfl (by simp [-List.map_take]) ?_
 simp (decide := true) only [TF, ↓reduceIte, Int.reduceToNat]
 refine CallK.pure (c_wdel0) rfl rfl (by simp [-List.map_take]) ?_
 simp (decide := true) only [TF, ↓reduceIte, Int.reduceToNat]
 refine hK _ _ ?_; clear hK K
 refine WP.sr [3] (by kernel_rfl) fun K hK => ?_
 simp (decide := true) only [TF, ↓reduceIte, Int.reduceToNat]
 refine CallK.pure (c_wsort0) rfl rfl (by simp [-List.map_take]) ?_
 simp (decide := true) only [TF, ↓reduceIte, Int.reduceToNat]
 refine hK _ _ ?_; clear hK K
 refine WP.sr [3, 4] (by kernel_rfl) fun K hK => ?_
 simp (decide := true) only [TF, ↓reduceIte, Int.reduceToNat]
 refine hK _ _ ?_; clear hK K
 refine WP.seq ?_
 refine WP.sr [4, 13, 14, 15] (by kernel_rfl) fun K hK => ?_
 simp (decide := true) only [TF, ↓reduceIte, Int.reduceToNat]
 refine hK _ _ ?_; clear hK K
 refine WP.block ?_
 refine WP.lp [13, 14] (X := {z : Nat // z = 0}) (fun x => match x with | ⟨(z), _⟩ => [(4, .slice 2 true [] none), (15, .int .i64 0)]) (fun x => match x with | ⟨(z), _⟩ => []) (fun x => match x with | ⟨(z), _⟩ => 1) (by simp (decide := true) only [W, ↓reduceIte, Int.reduceToNat]; rfl) ?_ ⟨(0), rfl⟩ ?_
 rotate_left
 · exact Weak.nil (by simp [St.get, lk, W, Le.refl, Le.nil, show IntKind.wrap .i64 1 = 1 from by decide, W]) (by simp [W])
 rintro ⟨z, hz⟩
 dsimp only
 simp only [List.cons_append, List.nil_append]
 subst hz
 refine WP.sr [4, 13, 14, 15, 16] (by kernel_rfl) fun K hK => ?_
 simp (decide := true) only [TF, ↓reduceIte, Int.reduceToNat]
 refine hK _ _ ?_; clear hK K
 refine WP.seq ?_
 refine WP.cond (b := false) (by rfl) nofun (fun _ => ?_)
 refine WP.exit ?_
 show WP _ _ _ _ _ _
 refine WP.sr [2] (by kernel_rfl) fun K hK => ?_
 simp (decide := true) only [TF, ↓reduceIte, Int.reduceToNat]
 refine hK _ _ ?_; clear hK K
 refine WP.ret ?_
 exact Ends.pure (.inr rfl) rfl (by simp (decide := true) only [St.get, lk, W, Pr_prog, ↓reduceIte, Int.reduceToNat]; first | exact Le.refl _ | exact Le.nil _ _ _ | exact Le.fg _) (by simp)
end Go.Proofs

set_option linter.unusedSimpArgs false
set_option linter.unusedVariables false
set_option maxRecDepth 10000
namespace Go.Proofs
open Go Go.Id
set_option maxHeartbeats 4000000
theorem c_unionN (l : List Win) (hne : l ≠ []) (hr : ∀ w ∈ l, w.f < w.u) (hn : l.length ≤ 1099511627776) : CallP Pr 55 [.slice 2 false (l.map Win.cs) none] (.slice 2 (uniW l).isEmpty ((uniW l).map Win.cs) none) := by
 have hsl := sortW_len l
 refine CallP.of_wp Tryz.func55 rfl (by kernel_rfl) Tryz.ntmps55 (by simp) ?_
 simp only [frameOf, Nat.reduceAdd, Nat.zero_add]
 refine WP.sr [0] (by kernel_rfl) fun K hK => ?_
 simp (decide := true) only [TF, Nat.reduceAdd, mx12, mx21, List.isEmpty_nil, List.isEmpty_cons, Bool.and_false, mapW, fw_drop, fw_drop2, fw_take, fw_len, List.head?_cons, ↓reduceIte, Int.reduceToNat]
 refine hK _ _ ?_; clear hK K
 refine WP.sr [3] (by kernel_rfl) fun K hK => ?_
 simp (decide := true) only [TF, Nat.reduceAdd, mx12, mx21, List.isEmpty_nil, List.isEmpty_cons, Bool.and_false, mapW, fw_drop, fw_drop2, fw_take, fw_len, List.head?_cons, ↓reduceIte, Int.reduceToNat]
 refine CallK.imp (c_wclone l hne hn) rfl rfl (by simp [lk, BClo]) (by simp [lk]) (by simp [lk]) ?_
 simp (decide := true) only [TF, Nat.reduceAdd, mx12, mx21, List.isEmpty_nil, List.isEmpty_cons, Bool.and_false, mapW, fw_drop, fw_drop2, fw_take, fw_len, List.head?_cons, ↓reduceIte, Int.reduceToNat]
 refine CallK.imp (c_wdel l hr hn) rfl rfl (by simp [lk, BClo]) (by simp [lk]) (by simp [lk]) ?_
 simp (decide := true) only [TF, Nat.reduceAdd, mx12, mx21, List.isEmpty_nil, List.isEmpty_cons, Bool.and_false, mapW, fw_drop, fw_drop2, fw_take, fw_len, List.head?_cons, ↓reduceIte, Int.reduceToNat]
 refine hK _ _ ?_; clear hK K
 refine WP.sr [3] (by kernel_rfl) fun K hK => ?_
 simp (decide := true) only [TF, Nat.reduceAdd, mx12, mx21, List.isEmpty_nil, List.isEmpty_cons, Bool.and_false, mapW, fw_drop, fw_drop2, fw_take, fw_len, List.head?_cons, ↓reduceIte, Int.reduceToNat]
 refine CallK.imp (c_wsort l hn) rfl rfl (by simp [lk, BClo]) (by simp [lk]) (by simp [lk]) ?_
 simp (decide := true) only [TF, Nat.reduceAdd, mx12, mx21, List.isEmpty_nil, List.isEmpty_cons, Bool.and_false, mapW, fw_drop, fw_drop2, fw_take, fw_len, List.head?_cons, ↓reduceIte, Int.reduceToNat]
 refine hK _ _ ?_; clear hK K
 refine WP.sr [3, 4] (by kernel_rfl) fun K hK => ?_
 simp (decide := true) only [TF, Nat.reduceAdd, mx12, mx21, List.isEmpty_nil, List.isEmpty_cons, Bool.and_false, mapW, fw_drop, fw_drop2, fw_take, fw_len, List.head?_cons, ↓reduceIte, Int.reduceToNat]
 refine hK _ _ ?_; clear hK K
 refine WP.seq ?_
 refine WP.sr [4, 13, 14, 15] (by kernel_rfl) fun K hK => ?_
 simp (decide := true) only [TF, Nat.reduceAdd, mx12, mx21, List.isEmpty_nil, List.isEmpty_cons, Bool.and_false, mapW, fw_drop, fw_drop2, fw_take, fw_len, List.head?_cons, ↓reduceIte, Int.reduceToNat]
 refine hK _ _ ?_; clear hK K
 refine WP.block ?_
 refine WP.lp [13, 14] (X := {x : (Nat) × (List Win) // match x with | (k, o) => k ≤ l.length ∧ o.length ≤ k ∧ uniW l = ((sortW l).drop k).foldl ustep o}) (fun x => match x with | ⟨(k, o), _⟩ => [(4, .slice 2 o.isEmpty (o.map Win.cs) (some 1)), (15, .int .i64 k)]) (fun x => match x with | ⟨(k, o), _⟩ => [(0, .arr 29 (flatW (sortW l))), (1, .tip 29 2 o.length)]) (fun x => match x with | ⟨(k, o), _⟩ => l.length - k) (by simp (decide := true) only [W, ↓reduceIte, Int.reduceToNat]; rfl) ?_ ⟨(0, []), ⟨Nat.zero_le _, Nat.le_refl _, by simp [uniW, unionL]⟩⟩ ?_
 rotate_left
 · refine Weak.trans (Weak.ghost 1 29 2 (F' := [(15, .int .i64 0), (14, .int .i64 l.length), (13, .arr 0 2 l.length), (4, .slice 2 true [] (some 1))]) (σ' := [(0, .arr 29 (flatW (sortW l)))]) (by simp [lk, W]) (by simp [W, keep, ins, UpF, UpD]) (by simp [UpS, UpB, UpL, UpD])) ?_; exact Weak.store (by simp [St.get, lk, W, Le.refl, W]) (by simp [lk, W]) (by simp [lk]) (by simp [BClo, lk]) (by simp [lk])
 rintro ⟨⟨k, o⟩, hk, hol, hI⟩
 dsimp only
 simp only [List.cons_append, List.nil_append]
 rcases last_cases o with rfl | ⟨p, x, rfl⟩
 ·
  have hw0 : IntKind.wrap .i64 (((0 : Nat) : Int) - 1) = -1 := by decide
  have he : ([] : List Win) = [] := rfl
  refine WP.sr [4, 13, 14, 15, 16] (by kernel_rfl) fun K hK => ?_
  simp (decide := true) only [TF, hk, he, hw0, Nat.reduceAdd, mx12, mx21, List.isEmpty_nil, List.isEmpty_cons, Bool.and_false, mapW, fw_drop, fw_drop2, fw_take, fw_len, List.head?_cons, ↓reduceIte, Int.reduceToNat]
  refine hK _ _ ?_; clear hK K
  refine WP.seq ?_
  refine WP.cond (b := _) rfl (fun q1 => ?_) (fun q1 => ?_)
  ·
   have hlt := lt_of_q q1
   have hlt2 : k < (sortW l).length := by omega
   have hg := flatW_get (sortW l) k hlt2
   have hgr := flatW_room (sortW l) k hlt2
   rw [dropE hlt2, List.foldl_cons] at hI
   refine WP.skip ?_
   show WP _ _ _ _ _ _
   refine WP.seq ?_
   refine WP.block ?_
   refine WP.sr [4, 6, 13, 14, 15] (by kernel_rfl) fun K hK => ?_
   simp (decide := true) only [TF, hk, he, hw0, q1, hg, hgr, hlt, Nat.reduceAdd, mx12, mx21, List.isEmpty_nil, List.isEmpty_cons, Bool.and_false, mapW, fw_drop, fw_drop2, fw_take, fw_len, List.head?_cons, ↓reduceIte, Int.reduceToNat]
   refine hK _ _ ?_; clear hK K
   refine WP.sr [4, 6, 7, 13, 14, 15] (by kernel_rfl) fun K hK => ?_
   simp (decide := true) only [TF, hk, he, hw0, q1, hg, hgr, hlt, Nat.reduceAdd, mx12, mx21, List.isEmpty_nil, List.isEmpty_cons, Bool.and_false, mapW, fw_drop, fw_drop2, fw_take, fw_len, List.head?_cons, ↓reduceIte, Int.reduceToNat]
   refine hK _ _ ?_; clear hK K
   refine WP.seq ?_
   refine WP.sd [4, 6, 7, 13, 14, 15, 33] (by kernel_rfl) (by kernel_rfl) fun K hK => ?_
   simp (decide := true) only [TF, hk, he, hw0, q1, hg, hgr, hlt, Nat.reduceAdd, mx12, mx21, List.isEmpty_nil, List.isEmpty_cons, Bool.and_false, mapW, fw_drop, fw_drop2, fw_take, fw_len, List.head?_cons, ↓reduceIte, Int.reduceToNat]
   refine hK _ _ (by kernel_rfl) ?_
   clear hK K
   refine WP.cond (b := false) (by rfl) nofun (fun _ => ?_)
   refine WP.skip ?_
   show WP _ _ _ _ _ _
   refine WP.region (by kernel_rfl) fun K hK => ?_
   simp (decide := true) only [TF, hk, he, hw0, q1, hg, hgr, hlt, Nat.reduceAdd, mx12, mx21, List.isEmpty_nil, List.isEmpty_cons, Bool.and_false, mapW, fw_drop, fw_drop2, fw_take, fw_len, List.head?_cons, ↓reduceIte, Int.reduceToNat]
   try (refine ⟨⟨by simp only [List.length_append, List.length_map, List.length_cons, List.length_nil]; omega, by simp only [List.length_append, List.length_map, List.length_cons, List.length_nil]; omega⟩, ?_⟩)
   refine hK _ _ ?_; clear hK K
   show WP _ _ _ _ _ _
   refine WP.region (by kernel_rfl) fun K hK => ?_
   simp (decide := true) only [TF, hk, he, hw0, q1, hg, hgr, hlt, Nat.reduceAdd, mx12, mx21, List.isEmpty_nil, List.isEmpty_cons, Bool.and_false, mapW, fw_drop, fw_drop2, fw_take, fw_len, List.head?_cons, ↓reduceIte, Int.reduceToNat]
   refine hK _ _ ?_; clear hK K
   show ∃ y, _ ∧ Weak _ _ _
   refine ⟨⟨(k + 1, ([] : List Win) ++ [(sortW l)[k]]), ?_⟩, ?_, ?_⟩
   · exact ⟨by omega, by simp only [List.length_append, List.length_cons, List.length_nil] at hol ⊢; omega, by first | (rw [ustep_out hux] at hI; exact hI) | exact hI⟩
   · dsimp only; omega
   · exact Weak.store (by simp [St.get, lk, W, Le.refl, hk, he, hw0, q1, hg, hgr, hlt, Win.cs, wrapS hlt (show l.length ≤ 140737488355328 by omega)]) (by simp [lk, W, hk, he, hw0, q1, hg, hgr, hlt, Win.cs, wrapS hlt (show l.length ≤ 140737488355328 by omega)]) (by simp [lk, W, Win.cs]) (by simp [BClo, lk]) (by simp [lk])
  ·
   have hge := ge_of_q q1
   rw [dropN (show (sortW l).length ≤ k by omega)] at hI
   simp only [List.foldl_nil] at hI
   have hE := hI
   refine WP.exit ?_
   show WP _ _ _ _ _ _
   refine WP.sr [2] (by kernel_rfl) fun K hK => ?_
   simp (decide := true) only [TF, hk, he, hw0, q1, hE, Nat.reduceAdd, mx12, mx21, List.isEmpty_nil, List.isEmpty_cons, Bool.and_false, mapW, fw_drop, fw_drop2, fw_take, fw_len, List.head?_cons, ↓reduceIte, Int.reduceToNat]
   refine hK _ _ ?_; clear hK K
   refine WP.ret ?_
   exact Ends.pure (.inr rfl) rfl (by simp (decide := true) only [St.get, lk, W, Pr_prog, hk, he, hw0, q1, hE, ↓reduceIte, Int.reduceToNat]; first | exact Le.fg _ | exact Le.refl _) (by simp)
 ·
  have hol2 : p.length + 1 ≤ k := by simpa using hol
  have hlen : ((p ++ [x]).map Win.cs).length = p.length + 1 := by simp
  have hlen2 : (p ++ [x]).length = p.length + 1 := by simp
  have hpl : p.length < p.length + 1 := Nat.lt_succ_self _
  have hw1 : IntKind.wrap .i64 (((p.length + 1 : Nat) : Int) - 1) = (p.length : Int) := by rw [wrap_i64 (by omega) (by omega)]; omega
  have hge0 : decide ((p.length : Int) ≥ 0) = true := decide_eq_true (by omega)
  have hgx := wins_snoc p x
  have hie : (p ++ [x]).isEmpty = false := by simp
  refine WP.sr [4, 13, 14, 15, 16] (by kernel_rfl) fun K hK => ?_
  simp (decide := true) only [TF, hk, hlen, hlen2, hpl, hw1, hge0, hgx, hie, Nat.reduceAdd, mx12, mx21, List.isEmpty_nil, List.isEmpty_cons, Bool.and_false, mapW, fw_drop, fw_drop2, fw_take, fw_len, List.head?_cons, ↓reduceIte, Int.reduceToNat]
  refine hK _ _ ?_; clear hK K
  refine WP.seq ?_
  refine WP.cond (b := _) rfl (fun q2 => ?_) (fun q2 => ?_)
  ·
   have hlt := lt_of_q q2
   have hlt2 : k < (sortW l).length := by omega
   have hg := flatW_get (sortW l) k hlt2
   have hgr := flatW_room (sortW l) k hlt2
   rw [dropE hlt2, List.foldl_cons] at hI
   refine WP.skip ?_
   show WP _ _ _ _ _ _
   refine WP.seq ?_
   refine WP.block ?_
   refine WP.sr [4, 6, 13, 14, 15] (by kernel_rfl) fun K hK => ?_
   simp (decide := true) only [TF, hk, hlen, hlen2, hpl, hw1, hge0, hgx, hie, q2, hg, hgr, hlt, Nat.reduceAdd, mx12, mx21, List.isEmpty_nil, List.isEmpty_cons, Bool.and_false, mapW, fw_drop, fw_drop2, fw_take, fw_len, List.head?_cons, ↓reduceIte, Int.reduceToNat]
   refine hK _ _ ?_; clear hK K
   refine WP.sr [4, 6, 7, 13, 14, 15] (by kernel_rfl) fun K hK => ?_
   simp (decide := true) only [TF, hk, hlen, hlen2, hpl, hw1, hge0, hgx, hie, q2, hg, hgr, hlt, Nat.reduceAdd, mx12, mx21, List.isEmpty_nil, List.isEmpty_cons, Bool.and_false, mapW, fw_drop, fw_drop2, fw_take, fw_len, List.head?_cons, ↓reduceIte, Int.reduceToNat]
   refine hK _ _ ?_; clear hK K
   refine WP.seq ?_
   refine WP.sd [4, 6, 7, 13, 14, 15, 33] (by kernel_rfl) (by kernel_rfl) fun K hK => ?_
   simp (decide := true) only [TF, hk, hlen, hlen2, hpl, hw1, hge0, hgx, hie, q2, hg, hgr, hlt, Nat.reduceAdd, mx12, mx21, List.isEmpty_nil, List.isEmpty_cons, Bool.and_false, mapW, fw_drop, fw_drop2, fw_take, fw_len, List.head?_cons, ↓reduceIte, Int.reduceToNat]
   refine hK _ _ (by kernel_rfl) ?_
   clear hK K
   refine WP.cond (b := _) rfl (fun q3 => ?_) (fun q3 => ?_)
   ·
    have hux : (sortW l)[k].f ≤ x.u := by simpa using q3
    have hin : True := trivial
    refine WP.weak (st' := ⟨[(4, .arr 1 2 ((p ++ [x]).map Win.cs).length), (6, .ref 2 0), (7, .int .i64 (p.length : Int)), (13, .arr 0 2 l.length), (14, .int .i64 l.length), (15, .int .i64 k)], [(0, .arr 29 (flatW (sortW l))), (1, .arr 29 (flatW p ++ [.int .i64 x.f, .int .i64 x.u])), (2, .box 29 [.int .i64 (sortW l)[k].f, .int .i64 (sortW l)[k].u])]⟩) ?_ ?_
    · exact Weak.tipArr' 1 29 2 ((p ++ [x]).map Win.cs) 4 (by simp [St.get, lk, W, hie]) (by simp [lk, W]) (fr_win 1 _) (by simp [lk, flatW, Win.cs]) (by intro b hb; by_cases h0 : b = 0 <;> by_cases h2 : b = 2 <;> simp_all [lk, W]) (by simp [BFr, W]; exact fr_flatW 1 _) (by simp [St.get, lk, W, hg, hlen])
    refine WP.sd [4, 13, 14, 15] (by kernel_rfl) (by kernel_rfl) fun K hK => ?_
    simp (decide := true) only [TF, hk, hlen, hlen2, hpl, hw1, hge0, hgx, hie, q2, hg, hgr, hlt, q3, hin, Nat.reduceAdd, mx12, mx21, List.isEmpty_nil, List.isEmpty_cons, Bool.and_false, mapW, fw_drop, fw_drop2, fw_take, fw_len, List.head?_cons, ↓reduceIte, Int.reduceToNat]
    refine hK _ _ (by kernel_rfl) ?_
    clear hK K
    refine WP.exit ?_
    show WP _ _ _ _ _ _
    refine WP.region (by kernel_rfl) fun K hK => ?_
    simp (decide := true) only [TF, hk, hlen, hlen2, hpl, hw1, hge0, hgx, hie, q2, hg, hgr, hlt, q3, hin, Nat.reduceAdd, mx12, mx21, List.isEmpty_nil, List.isEmpty_cons, Bool.and_false, mapW, fw_drop, fw_drop2, fw_take, fw_len, List.head?_cons, ↓reduceIte, Int.reduceToNat]
    refine hK _ _ ?_; clear hK K
    show ∃ y, _ ∧ Weak _ _ _
    refine ⟨⟨(k + 1, p ++ [⟨x.f, if (sortW l)[k].u > x.u then (sortW l)[k].u else x.u⟩]), ?_⟩, ?_, ?_⟩
    · exact ⟨by omega, by simp only [List.length_append, List.length_cons, List.length_nil] at hol ⊢; omega, by rw [ustep_in hux] at hI; exact hI⟩
    · dsimp only; omega
    ·
     refine Weak.trans (Weak.keep [4, 13, 14, 15]) ?_
     simp only [keep, ins, W, ↓reduceIte, Nat.reduceEqDiff]
     refine Weak.trans (Weak.arrTip 1 29 2 ((p ++ [Win.mk x.f (if (sortW l)[k].u > x.u then (sortW l)[k].u else x.u)]).map Win.cs) 4 (F' := [(15, .int .i64 (IntKind.wrap .i64 ((k : Int) + 1))), (4, .slice 2 false ((p ++ [Win.mk x.f (if (sortW l)[k].u > x.u then (sortW l)[k].u else x.u)]).map Win.cs) (some 1)), (13, .arr 0 2 l.length), (14, .int .i64 l.length)]) (σ' := [(0, .arr 29 (flatW (sortW l))), (1, .tip 29 2 (p.length + 1)), (2, .box 29 [.int .i64 (sortW l)[k].f, .int .i64 (sortW l)[k].u])]) (by simp [St.get, lk, W]) (by simp [lk, W, flatW, Win.cs]) (win_len _) (by simp) (by simp [ArF, ArD, Win.cs, hk, hlen, hlen2, hpl, hw1, hge0, hgx, hie, q2, hg, hgr, hlt, q3, hin]) (fun x hx => (clo_win _).2 trivial x hx) (by intro i hi; by_cases h0 : i = 0 <;> by_cases h2 : i = 2 <;> simp_all [lk]) (by simp [lk]) (by simp [BClo])) ?_
     exact Weak.store (by simp [St.get, lk, W, Le.refl, isE2, hk, hlen, hlen2, hpl, hw1, hge0, hgx, hie, q2, hg, hgr, hlt, q3, hin, -List.map_append, -List.append_assoc, wrapS hlt (show l.length ≤ 140737488355328 by omega)]) (by simp [lk, W, isE2, hk, hlen, hlen2, hpl, hw1, hge0, hgx, hie, q2, hg, hgr, hlt, q3, hin, -List.map_append, -List.append_assoc, wrapS hlt (show l.length ≤ 140737488355328 by omega)]) (by simp [lk, -List.map_append, -List.append_assoc, -List.mem_append]) (by simp [BClo, lk]) (by simp [lk])
   ·
    have hux : ¬ (sortW l)[k].f ≤ x.u := by simpa using q3
    refine WP.skip ?_
    show WP _ _ _ _ _ _
    refine WP.region (by kernel_rfl) fun K hK => ?_
    simp (decide := true) only [TF, hk, hlen, hlen2, hpl, hw1, hge0, hgx, hie, q2, hg, hgr, hlt, q3, Nat.reduceAdd, mx12, mx21, List.isEmpty_nil, List.isEmpty_cons, Bool.and_false, mapW, fw_drop, fw_drop2, fw_take, fw_len, List.head?_cons, ↓reduceIte, Int.reduceToNat]
    try (refine ⟨⟨by simp only [List.length_append, List.length_map, List.length_cons, List.length_nil]; omega, by simp only [List.length_append, List.length_map, List.length_cons, List.length_nil]; omega⟩, ?_⟩)
    refine hK _ _ ?_; clear hK K
    show WP _ _ _ _ _ _
    refine WP.region (by kernel_rfl) fun K hK => ?_
    simp (decide := true) only [TF, hk, hlen, hlen2, hpl, hw1, hge0, hgx, hie, q2, hg, hgr, hlt, q3, Nat.reduceAdd, mx12, mx21, List.isEmpty_nil, List.isEmpty_cons, Bool.and_false, mapW, fw_drop, fw_drop2, fw_take, fw_len, List.head?_cons, ↓reduceIte, Int.reduceToNat]
    refine hK _ _ ?_; clear hK K
    show ∃ y, _ ∧ Weak _ _ _
    refine ⟨⟨(k + 1, (p ++ [x]) ++ [(sortW l)[k]]), ?_⟩, ?_, ?_⟩
    · exact ⟨by omega, by simp only [List.length_append, List.length_cons, List.length_nil] at hol ⊢; omega, by first | (rw [ustep_out hux] at hI; exact hI) | exact hI⟩
    · dsimp only; omega
    · exact Weak.store (by simp [St.get, lk, W, Le.refl, isE2, hk, hlen, hlen2, hpl, hw1, hge0, hgx, hie, q2, hg, hgr, hlt, q3, -List.map_append, -List.append_assoc, wrapS hlt (show l.length ≤ 140737488355328 by omega)]) (by simp [lk, W, isE2, hk, hlen, hlen2, hpl, hw1, hge0, hgx, hie, q2, hg, hgr, hlt, q3, -List.map_append, -List.append_assoc, wrapS hlt (show l.length ≤ 140737488355328 by omega)]) (by simp [lk, -List.map_append, -List.append_assoc, -List.mem_append]) (by simp [BClo, lk]) (by simp [lk])
  ·
   have hge := ge_of_q q2
   rw [dropN (show (sortW l).length ≤ k by omega)] at hI
   simp only [List.foldl_nil] at hI
   have hE := hI
   refine WP.exit ?_
   show WP _ _ _ _ _ _
   refine WP.sr [2] (by kernel_rfl) fun K hK => ?_
   simp (decide := true) only [TF, hk, hlen, hlen2, hpl, hw1, hge0, hgx, hie, q2, hE, Nat.reduceAdd, mx12, mx21, List.isEmpty_nil, List.isEmpty_cons, Bool.and_false, mapW, fw_drop, fw_drop2, fw_take, fw_len, List.head?_cons, ↓reduceIte, Int.reduceToNat]
   refine hK _ _ ?_; clear hK K
   refine WP.ret ?_
   exact Ends.pure (.inr rfl) rfl (by simp (decide := true) only [St.get, lk, W, Pr_prog, hk, hlen, hlen2, hpl, hw1, hge0, hgx, hie, q2, hE, ↓reduceIte, Int.reduceToNat]; first | exact Le.fg _ | exact Le.refl _) (by simp)
end Go.Proofs

set_option linter.unusedSimpArgs false
set_option linter.unusedVariables false
set_option maxRecDepth 10000
namespace Go.Proofs
open Go Go.Id
set_option maxHeartbeats 4000000
theorem c_union (S : List Win) (hr : ∀ w ∈ S, w.f < w.u) (hn : S.length ≤ 1099511627776) : CallP Pr 55 [.slice 2 S.isEmpty (S.map Win.cs) none] (.slice 2 (uniW S).isEmpty ((uniW S).map Win.cs) none) := by
 by_cases h : S = []
 ·
  subst h
  have e : uniW [] = [] := List.eq_nil_of_length_eq_zero (Nat.le_zero.1 (uniW_len []))
  rw [e]; exact c_union0
 ·
  have e : S.isEmpty = false := isE3 S h
  rw [e]; exact c_unionN S h hr hn
theorem c_gaps (l : List Key) (nl : Bool) (f u : Int) (hn : l.length ≤ 1099511627776) (hnl : nl = true → l = []) : CallP Pr 30 [.slice 6 nl (l.map Key.cs) none, .agg [.int .i64 f, .int .i64 u]] (.slice 2 (gapsK l f u).isEmpty ((gapsK l f u).map Win.cs) none) := by
 refine CallP.of_wp Tryz.func30 rfl (by kernel_rfl) Tryz.ntmps30 (by simp) ?_
 simp only [frameOf, Nat.reduceAdd, Nat.zero_add]
 refine WP.sr [0, 3] (by kernel_rfl) fun K hK => ?_
 simp (decide := true) only [TF, List.isEmpty_cons, Bool.and_false, mapW2, enM_f, atZ_f, ↓reduceIte, Int.reduceToNat]
 refine hK _ _ ?_; clear hK K
 refine WP.sr [0, 3, 5] (by kernel_rfl) fun K hK => ?_
 simp (decide := true) only [TF, List.isEmpty_cons, Bool.and_false, mapW2, enM_f, atZ_f, ↓reduceIte, Int.reduceToNat]
 refine hK _ _ ?_; clear hK K
 refine WP.seq ?_
 refine WP.sr [3, 5, 13, 14, 15] (by kernel_rfl) fun K hK => ?_
 simp (decide := true) only [TF, List.isEmpty_cons, Bool.and_false, mapW2, enM_f, atZ_f, ↓reduceIte, Int.reduceToNat]
 refine hK _ _ ?_; clear hK K
 refine WP.block ?_
 refine WP.lp [3, 13, 14] (X := {x : (Nat) × (List Win) // match x with | (k, S) => k ≤ l.length ∧ S.length ≤ k ∧ sigW l = S ++ sigW (l.drop k)}) (fun x => match x with | ⟨(k, S), _⟩ => [(5, .slice 2 S.isEmpty (S.map Win.cs) (some 1)), (15, .int .i64 k)]) (fun x => match x with | ⟨(k, S), _⟩ => [(0, .box 29 [.int .i64 f, .int .i64 u]), (1, .tip 29 2 S.length)]) (fun x => match x with | ⟨(k, S), _⟩ => l.length - k) (by simp (decide := true) only [W, ↓reduceIte, Int.reduceToNat]; rfl) ?_ ⟨(0, []), ⟨Nat.zero_le _, Nat.le_refl _, by simp⟩⟩ ?_
 rotate_left
 · refine Weak.trans (Weak.ghost 1 29 2 (F' := [(15, .int .i64 0), (14, .int .i64 l.length), (13, .slice 6 nl (l.map Key.cs) none), (5, .slice 2 true [] (some 1)), (3, .ref 0 0)]) (σ' := [(0, .box 29 [.int .i64 f, .int .i64 u])]) (by simp [lk, W]) (by simp [W, keep, ins, UpF, UpD]) (by simp [UpS, UpB, UpL, UpD])) ?_; exact Weak.store (by simp [St.get, lk, W, Le.refl, W]) (by simp [lk, W]) (by simp [lk]) (by simp [BClo, lk]) (by simp [lk])
 rintro ⟨⟨k, S⟩, hk, hSl, hS⟩
 dsimp only
 simp only [List.cons_append, List.nil_append]
 refine WP.sr [3, 5, 13, 14, 15, 16] (by kernel_rfl) fun K hK => ?_
 simp (decide := true) only [TF, hk, List.isEmpty_cons, Bool.and_false, mapW2, enM_f, atZ_f, ↓reduceIte, Int.reduceToNat]
 refine hK _ _ ?_; clear hK K
 refine WP.seq ?_
 refine WP.cond (b := _) rfl (fun q1 => ?_) (fun q1 => ?_)
 ·
  have hlt := lt_of_q q1
  have hg : (l.map Key.cs)[k]? = some [.str l[k].id, .str l[k].sec, .int .i64 l[k].sf, .int .i64 l[k].su, .int .i64 l[k].af, .int .i64 l[k].au] := getM hlt
  have hnf := nl_false hnl hlt
  rw [dropE hlt, sigW_cons] at hS
  refine WP.skip ?_
  show WP _ _ _ _ _ _
  refine WP.seq ?_
  refine WP.block ?_
  refine WP.sr [3, 5, 7, 13, 14, 15] (by kernel_rfl) fun K hK => ?_
  simp (decide := true) only [TF, hk, q1, hg, hnf, List.isEmpty_cons, Bool.and_false, mapW2, enM_f, atZ_f, ↓reduceIte, Int.reduceToNat]
  refine hK _ _ ?_; clear hK K
  refine WP.sr [3, 5, 7, 13, 14, 15, 25] (by kernel_rfl) fun K hK => ?_
  simp (decide := true) only [TF, hk, q1, hg, hnf, List.isEmpty_cons, Bool.and_false, mapW2, enM_f, atZ_f, ↓reduceIte, Int.reduceToNat]
  refine hK _ _ ?_; clear hK K
  refine WP.cond (b := _) rfl (fun q2 => ?_) (fun q2 => ?_)
  ·
   have hr := q2
   simp only [hr, if_true] at hS
   refine WP.region (by kernel_rfl) fun K hK => ?_
   simp (decide := true) only [TF, hk, q1, hg, hnf, q2, hr, List.isEmpty_cons, Bool.and_false, mapW2, enM_f, atZ_f, ↓reduceIte, Int.reduceToNat]
   refine ⟨⟨by simp only [List.length_append, List.length_map, List.length_cons, List.length_nil]; omega, by simp only [List.length_append, List.length_map, List.length_cons, List.length_nil]; omega⟩, ?_⟩
   refine hK _ _ ?_; clear hK K
   show WP _ _ _ _ _ _
   refine WP.region (by kernel_rfl) fun K hK => ?_
   simp (decide := true) only [TF, hk, q1, hg, hnf, q2, hr, List.isEmpty_cons, Bool.and_false, mapW2, enM_f, atZ_f, ↓reduceIte, Int.reduceToNat]
   refine hK _ _ ?_; clear hK K
   show ∃ y, _ ∧ Weak _ _ _
   refine ⟨⟨(k + 1, S ++ [Win.mk l[k].sf l[k].su]), ?_⟩, ?_, ?_⟩
   · exact ⟨by omega, by (try simp only [List.length_append, List.length_cons, List.length_nil]); omega, by first | exact hS | (rw [List.append_assoc]; exact hS)⟩
   · dsimp only; omega
   · exact Weak.store (by simp [St.get, lk, W, Le.refl, isE2, hk, q1, hg, hnf, q2, hr, -List.map_append, -List.append_assoc, wrapS hlt (show l.length ≤ 140737488355328 by omega)]) (by simp [lk, W, isE2, hk, q1, hg, hnf, q2, hr, -List.map_append, -List.append_assoc, wrapS hlt (show l.length ≤ 140737488355328 by omega)]) (by simp [lk, -List.map_append, -List.append_assoc, -List.mem_append]) (by simp [BClo, lk]) (by simp [lk])
  ·
   simp only [q2, Bool.false_eq_true, if_false] at hS
   refine WP.skip ?_
   show WP _ _ _ _ _ _
   refine WP.region (by kernel_rfl) fun K hK => ?_
   simp (decide := true) only [TF, hk, q1, hg, hnf, q2, List.isEmpty_cons, Bool.and_false, mapW2, enM_f, atZ_f, ↓reduceIte, Int.reduceToNat]
   refine hK _ _ ?_; clear hK K
   show ∃ y, _ ∧ Weak _ _ _
   refine ⟨⟨(k + 1, S), ?_⟩, ?_, ?_⟩
   · exact ⟨by omega, by (try simp only [List.length_append, List.length_cons, List.length_nil]); omega, by first | exact hS | (rw [List.append_assoc]; exact hS)⟩
   · dsimp only; omega
   · exact Weak.store (by simp [St.get, lk, W, Le.refl, isE2, hk, q1, hg, hnf, q2, -List.map_append, -List.append_assoc, wrapS hlt (show l.length ≤ 140737488355328 by omega)]) (by simp [lk, W, isE2, hk, q1, hg, hnf, q2, -List.map_append, -List.append_assoc, wrapS hlt (show l.length ≤ 140737488355328 by omega)]) (by simp [lk, -List.map_append, -List.append_assoc, -List.mem_append]) (by simp [BClo, lk]) (by simp [lk])
 ·
  have hge := ge_of_q q1
  rw [dropN hge, sigW_nil, List.append_nil] at hS
  refine WP.exit ?_
  show WP _ _ _ _ _ _
  refine WP.sd [5, 8, 9] (by kernel_rfl) (by kernel_rfl) fun K hK => ?_
  simp (decide := true) only [TF, hk, q1, List.isEmpty_cons, Bool.and_false, mapW2, enM_f, atZ_f, ↓reduceIte, Int.reduceToNat]
  refine hK _ _ (by kernel_rfl) ?_
  clear hK K
  have hSr : S.length ≤ 1099511627776 := by omega
  have hUl := uniW_len S
  refine WP.sr [5, 8, 9, 10] (by kernel_rfl) fun K hK => ?_
  simp (decide := true) only [TF, hk, q1, List.isEmpty_cons, Bool.and_false, mapW2, enM_f, atZ_f, ↓reduceIte, Int.reduceToNat]
  refine hK _ _ ?_; clear hK K
  refine WP.seq ?_
  refine WP.sr [8, 9, 10, 39, 40, 41] (by kernel_rfl) fun K hK => ?_
  simp (decide := true) only [TF, hk, q1, List.isEmpty_cons, Bool.and_false, mapW2, enM_f, atZ_f, ↓reduceIte, Int.reduceToNat]
  refine CallK.pure (c_union S (by rw [← hS]; exact sigW_real l) (by omega)) rfl rfl (by simp [-List.map_take]) ?_
  simp (decide := true) only [TF, hk, q1, List.isEmpty_cons, Bool.and_false, mapW2, enM_f, atZ_f, ↓reduceIte, Int.reduceToNat]
  refine hK _ _ ?_; clear hK K
  refine WP.block ?_
  refine WP.lp [9, 39, 40] (X := {x : (Nat) × (Int) × (List Win) // match x with | (k, a, o) => k ≤ (uniW S).length ∧ o.length ≤ k ∧ gapsK l f u = o ++ gapsU ((uniW S).drop k) a (enM u)}) (fun x => match x with | ⟨(k, a, o), _⟩ => [(8, .int .i64 a), (10, .slice 2 o.isEmpty (o.map Win.cs) (some 2)), (41, .int .i64 k)]) (fun x => match x with | ⟨(k, a, o), _⟩ => [(2, .tip 29 2 o.length)]) (fun x => match x with | ⟨(k, a, o), _⟩ => (uniW S).length - k) (by simp (decide := true) only [W, ↓reduceIte, Int.reduceToNat]; rfl) ?_ ⟨(0, atZ f, []), ⟨Nat.zero_le _, Nat.le_refl _, by simp [gapsK, hS]⟩⟩ ?_
  rotate_left
  · refine Weak.trans (Weak.ghost 2 29 2 (F' := [(41, .int .i64 0), (40, .int .i64 (uniW S).length), (39, .slice 2 (uniW S).isEmpty ((uniW S).map Win.cs) none), (10, .slice 2 true [] (some 2)), (9, .int .i64 (enM u)), (8, .int .i64 (atZ f))]) (σ' := [(0, .box 29 [.int .i64 f, .int .i64 u]), (1, .tip 29 2 S.length)]) (by simp [lk, W]) (by simp [W, keep, ins, UpF, UpD]) (by simp [UpS, UpB, UpL, UpD])) ?_; exact Weak.store (by simp [St.get, lk, W, Le.refl, hk, q1]) (by simp [lk, W]) (by simp [lk]) (by simp [BClo, lk]) (by simp [lk])
  rintro ⟨⟨k, a, o⟩, hk, hol, hI⟩
  dsimp only
  simp only [List.cons_append, List.nil_append]
  refine WP.sr [8, 9, 10, 39, 40, 41, 42] (by kernel_rfl) fun K hK => ?_
  simp (decide := true) only [TF, hk, q1, List.isEmpty_cons, Bool.and_false, mapW2, enM_f, atZ_f, ↓reduceIte, Int.reduceToNat]
  refine hK _ _ ?_; clear hK K
  refine WP.seq ?_
  refine WP.cond (b := _) rfl (fun q3 => ?_) (fun q3 => ?_)
  ·
   have hlt := lt_of_q q3
   have hg : ((uniW S).map Win.cs)[k]? = some [.int .i64 (uniW S)[k].f, .int .i64 (uniW S)[k].u] := getM hlt
   have hnf : (uniW S).isEmpty = false := isE3 _ (by intro e; rw [e] at hlt; simp at hlt)
   rw [dropE hlt] at hI
   simp only [gapsU] at hI
   refine WP.skip ?_
   show WP _ _ _ _ _ _
   refine WP.seq ?_
   refine WP.block ?_
   refine WP.sr [8, 9, 10, 12, 39, 40, 41] (by kernel_rfl) fun K hK => ?_
   simp (decide := true) only [TF, hk, q1, q3, hg, hnf, List.isEmpty_cons, Bool.and_false, mapW2, enM_f, atZ_f, ↓reduceIte, Int.reduceToNat]
   refine hK _ _ ?_; clear hK K
   refine WP.seq ?_
   refine WP.sr [8, 9, 10, 12, 39, 40, 41, 48] (by kernel_rfl) fun K hK => ?_
   simp (decide := true) only [TF, hk, q1, q3, hg, hnf, List.isEmpty_cons, Bool.and_false, mapW2, enM_f, atZ_f, ↓reduceIte, Int.reduceToNat]
   refine hK _ _ ?_; clear hK K
   refine WP.cond (b := _) rfl (fun q4 => ?_) (fun q4 => ?_)
   ·
    have hc : (uniW S)[k].f ≥ enM u := by simpa using q4
    rw [if_pos hc] at hI
    have hE := hI
    refine WP.exit ?_
    show WP _ _ _ _ _ _
    refine WP.seq ?_
    refine WP.sr [8, 9, 10, 67] (by kernel_rfl) fun K hK => ?_
    simp (decide := true) only [TF, hk, q1, q3, hg, hnf, q4, List.isEmpty_cons, Bool.and_false, mapW2, enM_f, atZ_f, ↓reduceIte, Int.reduceToNat]
    refine hK _ _ ?_; clear hK K
    refine WP.cond (b := _) rfl (fun q5 => ?_) (fun q5 => ?_)
    ·
     have hz : a < enM u := by simpa using q5
     rw [gapE, if_pos hz] at hE
     refine WP.region (by kernel_rfl) fun K hK => ?_
     simp (decide := true) only [TF, hk, q1, q3, hg, hnf, q4, q5, hE, List.isEmpty_cons, Bool.and_false, mapW2, enM_f, atZ_f, ↓reduceIte, Int.reduceToNat]
     refine ⟨⟨by simp only [List.length_append, List.length_map, List.length_cons, List.length_nil]; omega, by simp only [List.length_append, List.length_map, List.length_cons, List.length_nil]; omega⟩, ?_⟩
     refine hK _ _ ?_; clear hK K
     show WP _ _ _ _ _ _
     refine WP.sr [4] (by kernel_rfl) fun K hK => ?_
     simp (decide := true) only [TF, hk, q1, q3, hg, hnf, q4, q5, hE, List.isEmpty_cons, Bool.and_false, mapW2, enM_f, atZ_f, ↓reduceIte, Int.reduceToNat]
     refine hK _ _ ?_; clear hK K
     refine WP.ret ?_
     exact Ends.pure (.inr rfl) rfl (by simp (decide := true) only [St.get, lk, W, Pr_prog, hk, q1, hk, q3, hg, hnf, q4, q5, hE, ↓reduceIte, Int.reduceToNat]; first | exact Le.fg _ | exact Le.refl _ | (rw [isE2]; exact Le.fg _)) (by simp)
    ·
     have hz : ¬ a < enM u := by simpa using q5
     rw [gapE, if_neg hz, List.append_nil] at hE
     refine WP.skip ?_
     show WP _ _ _ _ _ _
     refine WP.sr [4] (by kernel_rfl) fun K hK => ?_
     simp (decide := true) only [TF, hk, q1, q3, hg, hnf, q4, q5, hE, List.isEmpty_cons, Bool.and_false, mapW2, enM_f, atZ_f, ↓reduceIte, Int.reduceToNat]
     refine hK _ _ ?_; clear hK K
     refine WP.ret ?_
     exact Ends.pure (.inr rfl) rfl (by simp (decide := true) only [St.get, lk, W, Pr_prog, hk, q1, hk, q3, hg, hnf, q4, q5, hE, ↓reduceIte, Int.reduceToNat]; first | exact Le.fg _ | exact Le.refl _ | (rw [isE2]; exact Le.fg _)) (by simp)
   ·
    have hc : ¬ (uniW S)[k].f ≥ enM u := by simpa using q4
    rw [if_neg hc] at hI
    refine WP.skip ?_
    show WP _ _ _ _ _ _
    refine WP.seq ?_
    refine WP.sr [8, 9, 10, 12, 39, 40, 41, 52] (by kernel_rfl) fun K hK => ?_
    simp (decide := true) only [TF, hk, q1, q3, hg, hnf, q4, List.isEmpty_cons, Bool.and_false, mapW2, enM_f, atZ_f, ↓reduceIte, Int.reduceToNat]
    refine hK _ _ ?_; clear hK K
    refine WP.cond (b := _) rfl (fun q6 => ?_) (fun q6 => ?_)
    ·
     have hgt : (uniW S)[k].f > a := by simpa using q6
     rw [if_pos hgt] at hI
     refine WP.region (by kernel_rfl) fun K hK => ?_
     simp (decide := true) only [TF, hk, q1, q3, hg, hnf, q4, q6, hgt, List.isEmpty_cons, Bool.and_false, mapW2, enM_f, atZ_f, ↓reduceIte, Int.reduceToNat]
     refine ⟨⟨by simp only [List.length_append, List.length_map, List.length_cons, List.length_nil]; omega, by simp only [List.length_append, List.length_map, List.length_cons, List.length_nil]; omega⟩, ?_⟩
     refine hK _ _ ?_; clear hK K
     show WP _ _ _ _ _ _
     refine WP.region (by kernel_rfl) fun K hK => ?_
     simp (decide := true) only [TF, hk, q1, q3, hg, hnf, q4, q6, hgt, List.isEmpty_cons, Bool.and_false, mapW2, enM_f, atZ_f, ↓reduceIte, Int.reduceToNat]
     refine hK _ _ ?_; clear hK K
     show WP _ _ _ _ _ _
     refine WP.region (by kernel_rfl) fun K hK => ?_
     simp (decide := true) only [TF, hk, q1, q3, hg, hnf, q4, q6, hgt, List.isEmpty_cons, Bool.and_false, mapW2, enM_f, atZ_f, ↓reduceIte, Int.reduceToNat]
     refine hK _ _ ?_; clear hK K
     show ∃ y, _ ∧ Weak _ _ _
     refine ⟨⟨(k + 1, (if (uniW S)[k].u > a then (uniW S)[k].u else a), o ++ [Win.mk a (uniW S)[k].f]), ?_⟩, ?_, ?_⟩
     · exact ⟨by omega, by (try simp only [List.length_append, List.length_cons, List.length_nil]); omega, by first | exact hI | (rw [List.append_assoc]; exact hI)⟩
     · dsimp only; omega
     · exact Weak.store (by simp [St.get, lk, W, Le.refl, isE2, hk, q1, hk, q3, hg, hnf, q4, q6, hgt, -List.map_append, -List.append_assoc, wrapS hlt (show (uniW S).length ≤ 140737488355328 by omega)]) (by simp [lk, W, isE2, hk, q1, hk, q3, hg, hnf, q4, q6, hgt, -List.map_append, -List.append_assoc, wrapS hlt (show (uniW S).length ≤ 140737488355328 by omega)]) (by simp [lk, -List.map_append, -List.append_assoc, -List.mem_append]) (by simp [BClo, lk]) (by simp [lk])
    ·
     have hgn : ¬ (uniW S)[k].f > a := by simpa using q6
     rw [if_neg hgn, List.nil_append] at hI
     refine WP.skip ?_
     show WP _ _ _ _ _ _
     refine WP.region (by kernel_rfl) fun K hK => ?_
     simp (decide := true) only [TF, hk, q1, q3, hg, hnf, q4, q6, List.isEmpty_cons, Bool.and_false, mapW2, enM_f, atZ_f, ↓reduceIte, Int.reduceToNat]
     refine hK _ _ ?_; clear hK K
     show WP _ _ _ _ _ _
     refine WP.region (by kernel_rfl) fun K hK => ?_
     simp (decide := true) only [TF, hk, q1, q3, hg, hnf, q4, q6, List.isEmpty_cons, Bool.and_false, mapW2, enM_f, atZ_f, ↓reduceIte, Int.reduceToNat]
     refine hK _ _ ?_; clear hK K
     show ∃ y, _ ∧ Weak _ _ _
     refine ⟨⟨(k + 1, (if (uniW S)[k].u > a then (uniW S)[k].u else a), o), ?_⟩, ?_, ?_⟩
     · exact ⟨by omega, by (try simp only [List.length_append, List.length_cons, List.length_nil]); omega, by first | exact hI | (rw [List.append_assoc]; exact hI)⟩
     · dsimp only; omega
     · exact Weak.store (by simp [St.get, lk, W, Le.refl, isE2, hk, q1, hk, q3, hg, hnf, q4, q6, -List.map_append, -List.append_assoc, wrapS hlt (show (uniW S).length ≤ 140737488355328 by omega)]) (by simp [lk, W, isE2, hk, q1, hk, q3, hg, hnf, q4, q6, -List.map_append, -List.append_assoc, wrapS hlt (show (uniW S).length ≤ 140737488355328 by omega)]) (by simp [lk, -List.map_append, -List.append_assoc, -List.mem_append]) (by simp [BClo, lk]) (by simp [lk])
  ·
   have hge := ge_of_q q3
   rw [dropN hge] at hI
   simp only [gapsU] at hI
   have hE := hI
   refine WP.exit ?_
   show WP _ _ _ _ _ _
   refine WP.seq ?_
   refine WP.sr [8, 9, 10, 67] (by kernel_rfl) fun K hK => ?_
   simp (decide := true) only [TF, hk, q1, q3, List.isEmpty_cons, Bool.and_false, mapW2, enM_f, atZ_f, ↓reduceIte, Int.reduceToNat]
   refine hK _ _ ?_; clear hK K
   refine WP.cond (b := _) rfl (fun q7 => ?_) (fun q7 => ?_)
   ·
    have hz : a < enM u := by simpa using q7
    rw [gapE, if_pos hz] at hE
    refine WP.region (by kernel_rfl) fun K hK => ?_
    simp (decide := true) only [TF, hk, q1, q3, q7, hE, List.isEmpty_cons, Bool.and_false, mapW2, enM_f, atZ_f, ↓reduceIte, Int.reduceToNat]
    refine ⟨⟨by simp only [List.length_append, List.length_map, List.length_cons, List.length_nil]; omega, by simp only [List.length_append, List.length_map, List.length_cons, List.length_nil]; omega⟩, ?_⟩
    refine hK _ _ ?_; clear hK K
    show WP _ _ _ _ _ _
    refine WP.sr [4] (by kernel_rfl) fun K hK => ?_
    simp (decide := true) only [TF, hk, q1, q3, q7, hE, List.isEmpty_cons, Bool.and_false, mapW2, enM_f, atZ_f, ↓reduceIte, Int.reduceToNat]
    refine hK _ _ ?_; clear hK K
    refine WP.ret ?_
    exact Ends.pure (.inr rfl) rfl (by simp (decide := true) only [St.get, lk, W, Pr_prog, hk, q1, hk, q3, q7, hE, ↓reduceIte, Int.reduceToNat]; first | exact Le.fg _ | exact Le.refl _ | (rw [isE2]; exact Le.fg _)) (by simp)
   ·
    have hz : ¬ a < enM u := by simpa using q7
    rw [gapE, if_neg hz, List.append_nil] at hE
    refine WP.skip ?_
    show WP _ _ _ _ _ _
    refine WP.sr [4] (by kernel_rfl) fun K hK => ?_
    simp (decide := true) only [TF, hk, q1, q3, q7, hE, List.isEmpty_cons, Bool.and_false, mapW2, enM_f, atZ_f, ↓reduceIte, Int.reduceToNat]
    refine hK _ _ ?_; clear hK K
    refine WP.ret ?_
    exact Ends.pure (.inr rfl) rfl (by simp (decide := true) only [St.get, lk, W, Pr_prog, hk, q1, hk, q3, q7, hE, ↓reduceIte, Int.reduceToNat]; first | exact Le.fg _ | exact Le.refl _ | (rw [isE2]; exact Le.fg _)) (by simp)
end Go.Proofs

set_option linter.unusedSimpArgs false
set_option linter.unusedVariables false
set_option maxRecDepth 10000
namespace Go.Proofs
open Go Go.Id
set_option maxHeartbeats 4000000
theorem c_r_gaps (l : List Key) (nl : Bool) (f u : Int) (hn : l.length ≤ 1099511627776) (hnl : nl = true → l = []) : CallP Pr 31 [.slice 6 nl (l.map Key.cs) none, .agg [.int .i64 f, .int .i64 u]] (.slice 2 (gapsK l f u).isEmpty ((gapsK l f u).map Win.cs) none) := by
 refine CallP.of_wp Tryz.func31 rfl (by kernel_rfl) Tryz.ntmps31 (by simp) ?_
 simp only [frameOf, Nat.reduceAdd, Nat.zero_add]
 refine WP.sr [0, 3] (by kernel_rfl) fun K hK => ?_
 simp (decide := true) only [TF, List.isEmpty_cons, Bool.and_false, mapW2, ↓reduceIte, Int.reduceToNat]
 refine hK _ _ ?_; clear hK K
 refine WP.sd [0, 5, 6] (by kernel_rfl) (by kernel_rfl) fun K hK => ?_
 simp (decide := true) only [TF, List.isEmpty_cons, Bool.and_false, mapW2, ↓reduceIte, Int.reduceToNat]
 refine hK _ _ (by kernel_rfl) ?_
 clear hK K
 refine WP.seq ?_
 refine WP.sr [0, 5, 6, 17] (by kernel_rfl) fun K hK => ?_
 simp (decide := true) only [TF, List.isEmpty_cons, Bool.and_false, mapW2, ↓reduceIte, Int.reduceToNat]
 refine hK _ _ ?_; clear hK K
 refine WP.meetQ ⟨[(0, .slice 6 nl (l.map Key.cs) none), (5, .int .i64 (atZ f)), (6, .int .i64 u)], []⟩ ?_ ?_
 ·
  refine WP.cond (b := _) rfl (fun q1 => ?_) (fun q1 => ?_)
  ·
   have hz : atZ f = 0 := by unfold atZ; rw [if_pos (by simpa using q1)]
   refine WP.region (by kernel_rfl) fun K hK => ?_
   simp (decide := true) only [TF, q1, hz, List.isEmpty_cons, Bool.and_false, mapW2, ↓reduceIte, Int.reduceToNat]
   refine hK _ _ ?_; clear hK K
   show Weak _ _ _
   exact Weak.nil (by simp [St.get, lk, W, Le.refl, q1, hz]) (by simp [W])
  ·
   have hz : atZ f = f := by unfold atZ; rw [if_neg (by simpa using q1)]
   refine WP.skip ?_
   show Weak _ _ _
   exact Weak.nil (by simp [St.get, lk, W, Le.refl, q1, hz]) (by simp [W])
 ·
  refine WP.seq ?_
  refine WP.sr [0, 5, 6, 19] (by kernel_rfl) fun K hK => ?_
  simp (decide := true) only [TF, List.isEmpty_cons, Bool.and_false, mapW2, ↓reduceIte, Int.reduceToNat]
  refine hK _ _ ?_; clear hK K
  refine WP.meetQ ⟨[(0, .slice 6 nl (l.map Key.cs) none), (5, .int .i64 (atZ f)), (6, .int .i64 (enM u))], []⟩ ?_ ?_
  ·
   refine WP.cond (b := _) rfl (fun q2 => ?_) (fun q2 => ?_)
   ·
    have hz2 : enM u = 1099511627776 := by unfold enM; rw [if_pos (by simpa using q2)]
    refine WP.region (by kernel_rfl) fun K hK => ?_
    simp (decide := true) only [TF, q2, hz2, List.isEmpty_cons, Bool.and_false, mapW2, ↓reduceIte, Int.reduceToNat]
    refine hK _ _ ?_; clear hK K
    show Weak _ _ _
    exact Weak.nil (by simp [St.get, lk, W, Le.refl, q2, hz2]) (by simp [W])
   ·
    have hz2 : enM u = u := by unfold enM; rw [if_neg (by simpa using q2)]
    refine WP.skip ?_
    show Weak _ _ _
    exact Weak.nil (by simp [St.get, lk, W, Le.refl, q2, hz2]) (by simp [W])
  ·
   refine WP.sr [0, 5, 6, 7] (by kernel_rfl) fun K hK => ?_
   simp (decide := true) only [TF, List.isEmpty_cons, Bool.and_false, mapW2, ↓reduceIte, Int.reduceToNat]
   refine hK _ _ ?_; clear hK K
   refine WP.seq ?_
   refine WP.block ?_
   refine WP.lp [0, 6] (X := {x : (Int) × (List Win) // match x with | (t, o) => GI l (atZ f) (enM u) t o}) (fun x => match x with | ⟨(t, o), _⟩ => [(5, .int .i64 t), (7, .slice 2 o.isEmpty (o.map Win.cs) (some 1))]) (fun x => match x with | ⟨(t, o), _⟩ => [(1, .tip 29 2 o.length)]) (fun x => match x with | ⟨(t, o), _⟩ => (enM u - t).toNat) (by simp (decide := true) only [W, ↓reduceIte, Int.reduceToNat]; rfl) ?_ ⟨(atZ f, []), gi_start l _ _⟩ ?_
   rotate_left
   · refine Weak.trans (Weak.ghost 1 29 2 (F' := [(7, .slice 2 true [] (some 1)), (0, .slice 6 nl (l.map Key.cs) none), (5, .int .i64 (atZ f)), (6, .int .i64 (enM u))]) (σ' := []) (by simp [lk, W]) (by simp [W, keep, ins, UpF, UpD]) (by simp [UpS, UpB, UpL, UpD])) ?_; exact Weak.store (by simp [St.get, lk, W, Le.refl, W]) (by simp [lk, W]) (by simp [lk]) (by simp [BClo, lk]) (by simp [lk])
   rintro ⟨⟨t, o⟩, hI⟩
   dsimp only
   simp only [List.cons_append, List.nil_append]
   dsimp only at hI
   refine WP.seq ?_
   refine WP.sr [0, 5, 6, 7, 22] (by kernel_rfl) fun K hK => ?_
   simp (decide := true) only [TF, List.isEmpty_cons, Bool.and_false, mapW2, ↓reduceIte, Int.reduceToNat]
   refine hK _ _ ?_; clear hK K
   refine WP.cond (b := _) rfl (fun q3 => ?_) (fun q3 => ?_)
   ·
    have hte : t < enM u := by simpa using q3
    have hol := gi_len hI
    refine WP.skip ?_
    show WP _ _ _ _ _ _
    refine WP.block ?_
    refine WP.sr [0, 5, 6, 7, 8, 9] (by kernel_rfl) fun K hK => ?_
    simp (decide := true) only [TF, q3, List.isEmpty_cons, Bool.and_false, mapW2, ↓reduceIte, Int.reduceToNat]
    refine hK _ _ ?_; clear hK K
    refine WP.seq ?_
    refine WP.sr [0, 5, 6, 7, 8, 9, 10] (by kernel_rfl) fun K hK => ?_
    simp (decide := true) only [TF, q3, List.isEmpty_cons, Bool.and_false, mapW2, ↓reduceIte, Int.reduceToNat]
    refine hK _ _ ?_; clear hK K
    refine WP.block ?_
    refine WP.lp [0, 5, 6, 7] (X := {x : (Nat) × (Int) × (Int) // match x with | (k, v, m) => k ≤ l.length ∧ UN (l.take k) t (enM u) v m}) (fun x => match x with | ⟨(k, v, m), _⟩ => [(8, .int .i64 v), (9, .int .i64 m), (10, .int .i64 k)]) (fun x => match x with | ⟨(k, v, m), _⟩ => [(1, .tip 29 2 o.length)]) (fun x => match x with | ⟨(k, v, m), _⟩ => l.length - k) (by simp (decide := true) only [W, ↓reduceIte, Int.reduceToNat]; rfl) ?_ ⟨(0, t, enM u), ⟨Nat.zero_le _, by simpa using un_start t (enM u) hte⟩⟩ ?_
    rotate_left
    · exact Weak.store (by simp [St.get, lk, W, Le.refl, q3]) (by simp [lk, W, q3]) (by simp [lk, W]) (by simp [BClo, lk]) (by simp [lk])
    rintro ⟨⟨k, v, m⟩, hk, hU⟩
    dsimp only
    simp only [List.cons_append, List.nil_append]
    refine WP.seq ?_
    refine WP.sr [0, 5, 6, 7, 8, 9, 10, 28] (by kernel_rfl) fun K hK => ?_
    simp (decide := true) only [TF, q3, hk, List.isEmpty_cons, Bool.and_false, mapW2, ↓reduceIte, Int.reduceToNat]
    refine hK _ _ ?_; clear hK K
    refine WP.cond (b := _) rfl (fun q4 => ?_) (fun q4 => ?_)
    ·
     have hlt := lt_of_q q4
     have hg : (l.map Key.cs)[k]? = some [.str l[k].id, .str l[k].sec, .int .i64 l[k].sf, .int .i64 l[k].su, .int .i64 l[k].af, .int .i64 l[k].au] := getM hlt
     have hnf := nl_false hnl hlt
     have hst := un_step l[k] hU
     rw [← takeS hlt] at hst
     refine WP.skip ?_
     show WP _ _ _ _ _ _
     refine WP.seq ?_
     refine WP.block ?_
     refine WP.sr [0, 5, 6, 7, 8, 9, 10, 11] (by kernel_rfl) fun K hK => ?_
     simp (decide := true) only [TF, q3, hk, q4, hg, hnf, List.isEmpty_cons, Bool.and_false, mapW2, ↓reduceIte, Int.reduceToNat]
     refine hK _ _ ?_; clear hK K
     refine WP.seq ?_
     refine WP.sm [0, 5, 6, 7, 8, 9, 10, 11] 45 (.bool (decide (l[k].sf ≤ t) && decide (l[k].su > v))) (by kernel_rfl) (fun K hK => ?_) ?_
     ·
      refine runOps.take 5 fun J hJ => ?_
      simp (decide := true) only [TF, q3, hk, q4, hg, hnf, List.isEmpty_cons, Bool.and_false, mapW2, ↓reduceIte, Int.reduceToNat]
      refine hJ _ _ ?_; clear hJ J
      refine runOps.part 40 rfl (fun q5 => ?_) (fun q5 => ?_)
      ·
       simp (decide := true) only [TF, q3, hk, q4, hg, hnf, q5, List.isEmpty_cons, Bool.and_false, mapW2, ↓reduceIte, Int.reduceToNat]
       exact hK _ _ (by simp [St.get, lk, W]) rfl (Le.of_eq (by simp [St.get, lk, W, bne, q3, hk, q4, hg, hnf, q5]))
      ·
       simp (decide := true) only [TF, q3, hk, q4, hg, hnf, q5, List.isEmpty_cons, Bool.and_false, mapW2, ↓reduceIte, Int.reduceToNat]
       exact hK _ _ (by simp [St.get, lk, W]) rfl (Le.of_eq (by simp [St.get, lk, W, bne, q3, hk, q4, hg, hnf, q5]))
     ·
      refine WP.cond (b := _) rfl (fun q6 => ?_) (fun q6 => ?_)
      ·
       have hc45 := q6
       simp only [hc45, if_true] at hst
       refine WP.region (by kernel_rfl) fun K hK => ?_
       simp (decide := true) only [TF, q3, hk, q4, hg, hnf, q6, hc45, List.isEmpty_cons, Bool.and_false, mapW2, ↓reduceIte, Int.reduceToNat]
       refine hK _ _ ?_; clear hK K
       show WP _ _ _ _ _ _
       refine WP.sm [0, 5, 6, 7, 8, 9, 10, 11] 64 (.bool (decide (l[k].sf > t) && decide (l[k].sf < l[k].su) && decide (l[k].sf < m))) (by kernel_rfl) (fun K hK => ?_) ?_
       ·
        refine runOps.take 5 fun J hJ => ?_
        simp (decide := true) only [TF, q3, hk, q4, hg, hnf, q6, hc45, List.isEmpty_cons, Bool.and_false, mapW2, ↓reduceIte, Int.reduceToNat]
        refine hJ _ _ ?_; clear hJ J
        refine runOps.part 52 rfl (fun q7 => ?_) (fun q7 => ?_)
        ·
         refine runOps.take 7 fun J hJ => ?_
         simp (decide := true) only [TF, q3, hk, q4, hg, hnf, q6, hc45, q7, List.isEmpty_cons, Bool.and_false, mapW2, ↓reduceIte, Int.reduceToNat]
         refine hJ _ _ ?_; clear hJ J
         refine runOps.part 59 rfl (fun q8 => ?_) (fun q8 => ?_)
         ·
          simp (decide := true) only [TF, q3, hk, q4, hg, hnf, q6, hc45, q7, q8, List.isEmpty_cons, Bool.and_false, mapW2, ↓reduceIte, Int.reduceToNat]
          exact hK _ _ (by simp [St.get, lk, W]) rfl (Le.of_eq (by simp [St.get, lk, W, bne, q3, hk, q4, hg, hnf, q6, hc45, q7, q8]))
         ·
          simp (decide := true) only [TF, q3, hk, q4, hg, hnf, q6, hc45, q7, q8, List.isEmpty_cons, Bool.and_false, mapW2, ↓reduceIte, Int.reduceToNat]
          exact hK _ _ (by simp [St.get, lk, W]) rfl (Le.of_eq (by simp [St.get, lk, W, bne, q3, hk, q4, hg, hnf, q6, hc45, q7, q8]))
        ·
         simp (decide := true) only [TF, q3, hk, q4, hg, hnf, q6, hc45, q7, List.isEmpty_cons, Bool.and_false, mapW2, ↓reduceIte, Int.reduceToNat]
         exact hK _ _ (by simp [St.get, lk, W]) rfl (Le.of_eq (by simp [St.get, lk, W, bne, q3, hk, q4, hg, hnf, q6, hc45, q7]))
       ·
        refine WP.cond (b := _) rfl (fun q9 => ?_) (fun q9 => ?_)
        ·
         have hc64 := q9
         simp only [hc64, if_true] at hst
         refine WP.region (by kernel_rfl) fun K hK => ?_
         simp (decide := true) only [TF, q3, hk, q4, hg, hnf, q6, hc45, q9, hc64, List.isEmpty_cons, Bool.and_false, mapW2, ↓reduceIte, Int.reduceToNat]
         refine hK _ _ ?_; clear hK K
         show WP _ _ _ _ _ _
         refine WP.region (by kernel_rfl) fun K hK => ?_
         simp (decide := true) only [TF, q3, hk, q4, hg, hnf, q6, hc45, q9, hc64, List.isEmpty_cons, Bool.and_false, mapW2, ↓reduceIte, Int.reduceToNat]
         refine hK _ _ ?_; clear hK K
         show ∃ y, _ ∧ Weak _ _ _
         refine ⟨⟨(k + 1, l[k].su, l[k].sf), ?_⟩, ?_, ?_⟩
         · exact ⟨by omega, hst⟩
         · dsimp only; omega
         · exact Weak.store (by simp [St.get, lk, W, Le.refl, q3, hk, q4, hg, hnf, q6, hc45, q9, hc64, wrapS hlt (show l.length ≤ 140737488355328 by omega)]) (by simp [lk, W, q3, hk, q4, hg, hnf, q6, hc45, q9, hc64, wrapS hlt (show l.length ≤ 140737488355328 by omega)]) (by simp [lk, W]) (by simp [BClo, lk]) (by simp [lk])
        ·
         simp only [q9, Bool.false_eq_true, if_false] at hst
         refine WP.skip ?_
         show WP _ _ _ _ _ _
         refine WP.region (by kernel_rfl) fun K hK => ?_
         simp (decide := true) only [TF, q3, hk, q4, hg, hnf, q6, hc45, q9, List.isEmpty_cons, Bool.and_false, mapW2, ↓reduceIte, Int.reduceToNat]
         refine hK _ _ ?_; clear hK K
         show ∃ y, _ ∧ Weak _ _ _
         refine ⟨⟨(k + 1, l[k].su, m), ?_⟩, ?_, ?_⟩
         · exact ⟨by omega, hst⟩
         · dsimp only; omega
         · exact Weak.store (by simp [St.get, lk, W, Le.refl, q3, hk, q4, hg, hnf, q6, hc45, q9, wrapS hlt (show l.length ≤ 140737488355328 by omega)]) (by simp [lk, W, q3, hk, q4, hg, hnf, q6, hc45, q9, wrapS hlt (show l.length ≤ 140737488355328 by omega)]) (by simp [lk, W]) (by simp [BClo, lk]) (by simp [lk])
      ·
       simp only [q6, Bool.false_eq_true, if_false] at hst
       refine WP.skip ?_
       show WP _ _ _ _ _ _
       refine WP.sm [0, 5, 6, 7, 8, 9, 10, 11] 64 (.bool (decide (l[k].sf > t) && decide (l[k].sf < l[k].su) && decide (l[k].sf < m))) (by kernel_rfl) (fun K hK => ?_) ?_
       ·
        refine runOps.take 5 fun J hJ => ?_
        simp (decide := true) only [TF, q3, hk, q4, hg, hnf, q6, List.isEmpty_cons, Bool.and_false, mapW2, ↓reduceIte, Int.reduceToNat]
        refine hJ _ _ ?_; clear hJ J
        refine runOps.part 52 rfl (fun q10 => ?_) (fun q10 => ?_)
        ·
         refine runOps.take 7 fun J hJ => ?_
         simp (decide := true) only [TF, q3, hk, q4, hg, hnf, q6, q10, List.isEmpty_cons, Bool.and_false, mapW2, ↓reduceIte, Int.reduceToNat]
         refine hJ _ _ ?_; clear hJ J
         refine runOps.part 59 rfl (fun q11 => ?_) (fun q11 => ?_)
         ·
          simp (decide := true) only [TF, q3, hk, q4, hg, hnf, q6, q10, q11, List.isEmpty_cons, Bool.and_false, mapW2, ↓reduceIte, Int.reduceToNat]
          exact hK _ _ (by simp [St.get, lk, W]) rfl (Le.of_eq (by simp [St.get, lk, W, bne, q3, hk, q4, hg, hnf, q6, q10, q11]))
         ·
          simp (decide := true) only [TF, q3, hk, q4, hg, hnf, q6, q10, q11, List.isEmpty_cons, Bool.and_false, mapW2, ↓reduceIte, Int.reduceToNat]
          exact hK _ _ (by simp [St.get, lk, W]) rfl (Le.of_eq (by simp [St.get, lk, W, bne, q3, hk, q4, hg, hnf, q6, q10, q11]))
        ·
         simp (decide := true) only [TF, q3, hk, q4, hg, hnf, q6, q10, List.isEmpty_cons, Bool.and_false, mapW2, ↓reduceIte, Int.reduceToNat]
         exact hK _ _ (by simp [St.get, lk, W]) rfl (Le.of_eq (by simp [St.get, lk, W, bne, q3, hk, q4, hg, hnf, q6, q10]))
       ·
        refine WP.cond (b := _) rfl (fun q12 => ?_) (fun q12 => ?_)
        ·
         have hc64 := q12
         simp only [hc64, if_true] at hst
         refine WP.region (by kernel_rfl) fun K hK => ?_
         simp (decide := true) only [TF, q3, hk, q4, hg, hnf, q6, q12, hc64, List.isEmpty_cons, Bool.and_false, mapW2, ↓reduceIte, Int.reduceToNat]
         refine hK _ _ ?_; clear hK K
         show WP _ _ _ _ _ _
         refine WP.region (by kernel_rfl) fun K hK => ?_
         simp (decide := true) only [TF, q3, hk, q4, hg, hnf, q6, q12, hc64, List.isEmpty_cons, Bool.and_false, mapW2, ↓reduceIte, Int.reduceToNat]
         refine hK _ _ ?_; clear hK K
         show ∃ y, _ ∧ Weak _ _ _
         refine ⟨⟨(k + 1, v, l[k].sf), ?_⟩, ?_, ?_⟩
         · exact ⟨by omega, hst⟩
         · dsimp only; omega
         · exact Weak.store (by simp [St.get, lk, W, Le.refl, q3, hk, q4, hg, hnf, q6, q12, hc64, wrapS hlt (show l.length ≤ 140737488355328 by omega)]) (by simp [lk, W, q3, hk, q4, hg, hnf, q6, q12, hc64, wrapS hlt (show l.length ≤ 140737488355328 by omega)]) (by simp [lk, W]) (by simp [BClo, lk]) (by simp [lk])
        ·
         simp only [q12, Bool.false_eq_true, if_false] at hst
         refine WP.skip ?_
         show WP _ _ _ _ _ _
         refine WP.region (by kernel_rfl) fun K hK => ?_
         simp (decide := true) only [TF, q3, hk, q4, hg, hnf, q6, q12, List.isEmpty_cons, Bool.and_false, mapW2, ↓reduceIte, Int.reduceToNat]
         refine hK _ _ ?_; clear hK K
         show ∃ y, _ ∧ Weak _ _ _
         refine ⟨⟨(k + 1, v, m), ?_⟩, ?_, ?_⟩
         · exact ⟨by omega, hst⟩
         · dsimp only; omega
         · exact Weak.store (by simp [St.get, lk, W, Le.refl, q3, hk, q4, hg, hnf, q6, q12, wrapS hlt (show l.length ≤ 140737488355328 by omega)]) (by simp [lk, W, q3, hk, q4, hg, hnf, q6, q12, wrapS hlt (show l.length ≤ 140737488355328 by omega)]) (by simp [lk, W]) (by simp [BClo, lk]) (by simp [lk])
    ·
     have hge := ge_of_q q4
     rw [List.take_of_length_le hge] at hU
     refine WP.exit ?_
     show WP _ _ _ _ _ _
     refine WP.sr [0, 5, 6, 7, 8, 9, 69] (by kernel_rfl) fun K hK => ?_
     simp (decide := true) only [TF, q3, hk, q4, List.isEmpty_cons, Bool.and_false, mapW2, ↓reduceIte, Int.reduceToNat]
     refine hK _ _ ?_; clear hK K
     refine WP.cond (b := _) rfl (fun q13 => ?_) (fun q13 => ?_)
     ·
      have hgt : v > t := by simpa using q13
      refine WP.region (by kernel_rfl) fun K hK => ?_
      simp (decide := true) only [TF, q3, hk, q4, q13, hgt, List.isEmpty_cons, Bool.and_false, mapW2, ↓reduceIte, Int.reduceToNat]
      refine hK _ _ ?_; clear hK K
      show ∃ y, _ ∧ Weak _ _ _
      refine ⟨⟨(v, o), ?_⟩, ?_, ?_⟩
      · exact gi_on hI hU hgt
      · dsimp only; omega
      · exact Weak.store (by simp [St.get, lk, W, Le.refl, q3, hk, q4, q13, hgt]) (by simp [lk, W, q3, hk, q4, q13, hgt]) (by simp [lk, W]) (by simp [BClo, lk]) (by simp [lk])
     ·
      have hgn : ¬ v > t := by simpa using q13
      refine WP.sr [0, 6, 7, 9] (by kernel_rfl) fun K hK => ?_
      simp (decide := true) only [TF, q3, hk, q4, q13, List.isEmpty_cons, Bool.and_false, mapW2, ↓reduceIte, Int.reduceToNat]
      refine ⟨⟨by simp only [List.length_append, List.length_map, List.length_cons, List.length_nil]; omega, by simp only [List.length_append, List.length_map, List.length_cons, List.length_nil]; omega⟩, ?_⟩
      refine hK _ _ ?_; clear hK K
      refine WP.region (by kernel_rfl) fun K hK => ?_
      simp (decide := true) only [TF, q3, hk, q4, q13, List.isEmpty_cons, Bool.and_false, mapW2, ↓reduceIte, Int.reduceToNat]
      refine hK _ _ ?_; clear hK K
      show ∃ y, _ ∧ Weak _ _ _
      refine ⟨⟨(m, o ++ [Win.mk t m]), ?_⟩, ?_, ?_⟩
      · exact gi_gap hI hte hU hgn
      · have := hU.2.2.2.2.1; dsimp only; omega
      · exact Weak.store (by simp [St.get, lk, W, Le.refl, isE2, q3, hk, q4, q13, -List.map_append, -List.append_assoc]) (by simp [lk, W, isE2, q3, hk, q4, q13, -List.map_append, -List.append_assoc]) (by simp [lk, -List.map_append, -List.append_assoc, -List.mem_append]) (by simp [BClo, lk]) (by simp [lk])
   ·
    have hE := gi_end hI (by simpa using q3)
    refine WP.exit ?_
    show WP _ _ _ _ _ _
    refine WP.sr [4] (by kernel_rfl) fun K hK => ?_
    simp (decide := true) only [TF, q3, hE, List.isEmpty_cons, Bool.and_false, mapW2, ↓reduceIte, Int.reduceToNat]
    refine hK _ _ ?_; clear hK K
    refine WP.ret ?_
    exact Ends.pure (.inr rfl) rfl (by simp (decide := true) only [St.get, lk, W, Pr_prog, q3, hE, ↓reduceIte, Int.reduceToNat]; first | exact Le.fg _ | exact Le.refl _ | (rw [isE2]; exact Le.fg _)) (by simp)
end Go.Proofs

/-
  Closed facts: the chapter's examples. Conditions: none.
-/
set_option linter.unusedSimpArgs false
set_option linter.unusedVariables false
set_option maxRecDepth 10000
namespace Go.Proofs
open Go Go.Id
def K1 : Key := ⟨[107, 49], [97, 32, 98], 1, 5, 0, 9⟩
def T1 : List UInt8 := [107, 49, 32, 97, 37, 50, 48, 98, 32, 49, 32, 53, 32, 48, 32, 57, 10]
def N1 : Key := ⟨[110], [115], 100, 150, 100, 160⟩
theorem f_rot : rotD [] [110] [115] 100 50 10 = .tup [.slice 6 false [[.str [110], .str [115], .int .i64 100, .int .i64 150, .int .i64 100, .int .i64 160]] none, .int .i64 0] := by kernel_rfl
theorem f_s4 : sgK [K1] 4 = K1 := by kernel_rfl
theorem f_s5 : sgK [K1] 5 = zeroK := by kernel_rfl
theorem f_a1 : accD [K1] [107, 49] 8 0 = (K1, 0) := by kernel_rfl
theorem f_a2 : accD [K1] [107, 50] 8 0 = (zeroK, 26) := by kernel_rfl
theorem f_t : textK [K1] = (T1, 0) := by kernel_rfl
theorem f_p : pK T1 = ([K1], 0, 0) := by kernel_rfl
theorem f_r9 : pruneK 9 [K1] = [] := by kernel_rfl
theorem f_r8 : pruneK 8 [K1] = [K1] := by kernel_rfl
theorem f_c1 : checkK [K1] = 0 := by kernel_rfl
theorem f_c2 : checkK [K1, K1] = 7 := by kernel_rfl
theorem f_sm : sameK [K1] [K1] = true := by kernel_rfl
def G1 : List Key := [⟨[], [], 0, 5, 0, 0⟩, ⟨[], [], 8, 9, 0, 0⟩]
theorem f_g : gapsK G1 3 12 = [⟨5, 8⟩, ⟨9, 12⟩] := by
  obtain ⟨h1, h2⟩ := gapsK_spec G1 3 12
  have e : sigW G1 = [⟨0, 5⟩, ⟨8, 9⟩] := by simp [sigW, G1, Key.sw]
  have e1 : atZ 3 = 3 := by decide
  have e2 : enM 12 = 12 := by decide
  refine sep_uniq _ _ h1 ⟨by simp, by simp⟩ fun t => ?_
  rw [h2, e, e1, e2]
  simp only [cov_cons, cov_nil, or_false]
  omega
theorem ok_K1 : ∀ k ∈ [K1], k.ok := by intro k hk; rw [List.mem_singleton.1 hk]; simp [K1, Key.ok]
theorem ok_KK : ∀ k ∈ [K1, K1], k.ok := by intro k hk; rcases List.mem_cons.1 hk with rfl | hk; simp [K1, Key.ok]; rw [List.mem_singleton.1 hk]; simp [K1, Key.ok]
theorem a_rot : CallP Pr 19 [.slice 0 true [] none, .str [110], .str [115], .int .i64 100, .int .i64 50, .int .i64 10] (.tup [.slice 6 false [[.str [110], .str [115], .int .i64 100, .int .i64 150, .int .i64 100, .int .i64 160]] none, .int .i64 0]) := by
  have h := c_rotate [] true [110] [115] 100 50 10 (by simp) (fun _ => rfl) (by simp) (by simp) (by simp)
  rw [f_rot] at h
  exact CallE.weak h ⟨Le.nil _ _ _, Le.refl _, Le.refl _, Le.refl _, Le.refl _, Le.refl _, trivial⟩ (Le.refl _)
theorem a_s4 : CallP Pr 14 [.slice 6 false [K1.cs] none, .int .i64 4] (.tup [.agg K1.cs, .bool true]) := by
  have h := c_signing [K1] false 4 (by simp) nofun ok_K1
  rw [f_s4] at h
  exact h
theorem a_s5 : CallP Pr 14 [.slice 6 false [K1.cs] none, .int .i64 5] (.tup [.agg zeroK.cs, .bool false]) := by
  have h := c_signing [K1] false 5 (by simp) nofun ok_K1
  rw [f_s5] at h
  exact h
theorem a_a1 : CallP Pr 16 [.slice 6 false [K1.cs] none, .str [107, 49], .int .i64 8, .int .i64 0] (.tup [.agg K1.cs, .int .i64 0]) := by
  have h := c_accepting [K1] false [107, 49] 8 0 (by simp) nofun
  rw [f_a1] at h
  exact h
theorem a_a2 : CallP Pr 16 [.slice 6 false [K1.cs] none, .str [107, 50], .int .i64 8, .int .i64 0] (.tup [.agg zeroK.cs, .int .i64 26]) := by
  have h := c_accepting [K1] false [107, 50] 8 0 (by simp) nofun
  rw [f_a2] at h
  exact h
theorem a_t : CallP Pr 26 [.slice 6 false [K1.cs] none] (.tup [.str T1, .int .i64 0]) := by
  have h := c_text [K1] false (by simp) nofun ok_K1
  rw [f_t] at h
  exact h
theorem a_p : CallP Pr 28 [.str T1] (.tup [.slice 6 false [K1.cs] none, .int .i64 0, .int .i64 0]) := by
  have h := c_parse T1 (by simp [T1])
  rw [f_p] at h
  exact h
theorem a_g : CallP Pr 30 [.slice 6 false (G1.map Key.cs) none, .agg [.int .i64 3, .int .i64 12]] (.slice 2 false [[.int .i64 5, .int .i64 8], [.int .i64 9, .int .i64 12]] none) := by
  have h := c_gaps G1 false 3 12 (by simp [G1]) nofun
  rw [f_g] at h
  exact h
theorem a_sm : CallP Pr 21 [.slice 6 false [K1.cs] none, .slice 6 false [K1.cs] none] (.bool true) := by
  have h := c_r_same [K1] false [K1] false (by simp) nofun (by simp) nofun
  rw [f_sm] at h
  exact h
theorem a_r9 : CallP Pr 24 [.slice 6 false [K1.cs] none, .int .i64 9] (.slice 6 false [] none) := by
  have h := c_prune [K1] false 9 (by simp) nofun
  rw [show ([K1].filter fun k => !(decide (k.au ≤ limB 9))) = [] from f_r9] at h
  exact h
theorem a_r8 : CallP Pr 24 [.slice 6 false [K1.cs] none, .int .i64 8] (.slice 6 false [K1.cs] none) := by
  have h := c_prune [K1] false 8 (by simp) nofun
  rw [show ([K1].filter fun k => !(decide (k.au ≤ limB 8))) = [K1] from f_r8] at h
  exact h
theorem a_c1 : CallP Pr 12 [.slice 6 false [K1.cs] none] (.int .i64 0) := by
  have h := c_k_check [K1] false (by simp) nofun ok_K1
  rw [f_c1] at h
  exact h
theorem a_c2 : CallP Pr 12 [.slice 6 false [K1.cs, K1.cs] none] (.int .i64 7) := by
  have h := c_k_check [K1, K1] false (by simp) nofun ok_KK
  rw [f_c2] at h
  exact h
end Go.Proofs

set_option linter.unusedSimpArgs false
set_option linter.unusedVariables false
set_option maxRecDepth 10000
namespace Go.Proofs
open Go Go.Id
set_option maxHeartbeats 4000000
theorem c_ring : CallP Pr 32 [] (.slice 6 false [[.str [107, 49], .str [97, 32, 98], .int .i64 1, .int .i64 5, .int .i64 0, .int .i64 9]] none) := by
 refine CallP.of_wp Tryz.func32 rfl (by kernel_rfl) Tryz.ntmps32 (by simp) ?_
 simp only [frameOf, Nat.reduceAdd, Nat.zero_add]
 refine WP.sr [] (by kernel_rfl) fun K hK => ?_
 simp (decide := true) only [TF, EV, ↓reduceIte, Int.reduceToNat]
 refine hK _ _ ?_; clear hK K
 refine WP.sr [0] (by kernel_rfl) fun K hK => ?_
 simp (decide := true) only [TF, EV, ↓reduceIte, Int.reduceToNat]
 refine hK _ _ ?_; clear hK K
 refine WP.weak (st' := ⟨[(0, .slice 6 false [[.str [107, 49], .str [97, 32, 98], .int .i64 1, .int .i64 5, .int .i64 0, .int .i64 9]] (some 0))], [(0, .tip 31 6 1)]⟩) ?_ ?_
 ·
  refine Weak.trans (Weak.keep [0]) ?_
  simp only [keep, ins, W, ↓reduceIte, Nat.reduceEqDiff]
  exact Weak.arrTip 0 31 6 [[.str [107, 49], .str [97, 32, 98], .int .i64 1, .int .i64 5, .int .i64 0, .int .i64 9]] 0 (by simp [St.get, lk, W]) (by simp [lk, W]) (by simp) (by simp) (by simp (decide := true) [ArF, ArD]) (by simp) (by intro i hi; simp_all [lk]) (by simp [lk]) (by simp [BClo])
 refine WP.ret ?_
 exact Ends.pure (.inr rfl) rfl (by simp (decide := true) only [St.get, lk, W, Pr_prog, ↓reduceIte, Int.reduceToNat]; exact Le.fg _) (by simp)
theorem c_ringT0 : CallE Pr 32 [] [] (.slice 6 false [[.str [107, 49], .str [97, 32, 98], .int .i64 1, .int .i64 5, .int .i64 0, .int .i64 9]] (some 0)) [(0, .tip 31 6 1)] := by
 refine CallE.of_wp Tryz.func32 rfl (by kernel_rfl) Tryz.ntmps32 (by simp) ?_
 simp only [frameOf, Nat.reduceAdd, Nat.zero_add, List.map_cons, List.map_nil]
 refine WP.sr [] (by kernel_rfl) fun K hK => ?_
 simp (decide := true) only [TF, EV, ↓reduceIte, Int.reduceToNat]
 refine hK _ _ ?_; clear hK K
 refine WP.sr [0] (by kernel_rfl) fun K hK => ?_
 simp (decide := true) only [TF, EV, ↓reduceIte, Int.reduceToNat]
 refine hK _ _ ?_; clear hK K
 refine WP.weak (st' := ⟨[(0, .slice 6 false [[.str [107, 49], .str [97, 32, 98], .int .i64 1, .int .i64 5, .int .i64 0, .int .i64 9]] (some 0))], [(0, .tip 31 6 1)]⟩) ?_ ?_
 ·
  refine Weak.trans (Weak.keep [0]) ?_
  simp only [keep, ins, W, ↓reduceIte, Nat.reduceEqDiff]
  exact Weak.arrTip 0 31 6 [[.str [107, 49], .str [97, 32, 98], .int .i64 1, .int .i64 5, .int .i64 0, .int .i64 9]] 0 (by simp [St.get, lk, W]) (by simp [lk, W]) (by simp) (by simp) (by simp (decide := true) [ArF, ArD]) (by simp) (by intro i hi; simp_all [lk]) (by simp [lk]) (by simp [BClo])
 refine WP.ret ?_
 refine Ends.imp (.inr rfl) rfl (Le.of_eq (by simp (decide := true) only [St.get, lk, W, ↓reduceIte])) ?_ ?_ ?_
 · simp [lk]
 · simp [St.get, lk, W, BClo]
 · simp [lk]
theorem c_ringT (a : Nat) : CallE Pr 32 [] [] (.slice 6 false [[.str [107, 49], .str [97, 32, 98], .int .i64 1, .int .i64 5, .int .i64 0, .int .i64 9]] (some a)) [(a, .tip 31 6 1)] := by
 obtain ⟨f, g, h1, h2⟩ := ren_ex [a] (by simp)
 have := CallE.rename h1 c_ringT0
 have f0 : f 0 = a := h2 0 a rfl
 simpa [renS, renB, renD, renL, renLL, f0] using this
end Go.Proofs

set_option linter.unusedSimpArgs false
set_option linter.unusedVariables false
set_option maxRecDepth 10000
namespace Go.Proofs
open Go Go.Id
set_option maxHeartbeats 4000000
theorem c_live : CallP Pr 11 [] (.bool true) := by
 refine CallP.of_wp Tryz.func11 rfl (by kernel_rfl) Tryz.ntmps11 (by simp) ?_
 simp only [frameOf, Nat.reduceAdd, Nat.zero_add]
 refine WP.sr [] (by kernel_rfl) fun K hK => ?_
 simp (decide := true) only [TF, EV, Nat.reduceAdd, Int.cast_ofNat_Int, Key.cs, K1, zeroK, T1, ↓reduceIte, Int.reduceToNat]
 refine hK _ _ ?_; clear hK K
 refine WP.sr [1, 2] (by kernel_rfl) fun K hK => ?_
 simp (decide := true) only [TF, EV, Nat.reduceAdd, Int.cast_ofNat_Int, Key.cs, K1, zeroK, T1, ↓reduceIte, Int.reduceToNat]
 refine CallK.pure (a_rot) rfl rfl (by simp [-List.map_take]) ?_
 simp (decide := true) only [TF, EV, Nat.reduceAdd, Int.cast_ofNat_Int, Key.cs, K1, zeroK, T1, ↓reduceIte, Int.reduceToNat]
 refine hK _ _ ?_; clear hK K
 refine WP.sr [1, 2, 3, 4] (by kernel_rfl) fun K hK => ?_
 simp (decide := true) only [TF, EV, Nat.reduceAdd, Int.cast_ofNat_Int, Key.cs, K1, zeroK, T1, ↓reduceIte, Int.reduceToNat]
 refine CallK.pure (c_ring) rfl rfl (by simp [-List.map_take]) ?_
 simp (decide := true) only [TF, EV, Nat.reduceAdd, Int.cast_ofNat_Int, Key.cs, K1, zeroK, T1, ↓reduceIte, Int.reduceToNat]
 refine CallK.pure (a_s4) rfl rfl (by simp [-List.map_take, Key.cs, K1, G1]) ?_
 simp (decide := true) only [TF, EV, Nat.reduceAdd, Int.cast_ofNat_Int, Key.cs, K1, zeroK, T1, ↓reduceIte, Int.reduceToNat]
 refine hK _ _ ?_; clear hK K
 refine WP.sr [1, 2, 3, 4, 6] (by kernel_rfl) fun K hK => ?_
 simp (decide := true) only [TF, EV, Nat.reduceAdd, Int.cast_ofNat_Int, Key.cs, K1, zeroK, T1, ↓reduceIte, Int.reduceToNat]
 refine CallK.pure (c_ring) rfl rfl (by simp [-List.map_take]) ?_
 simp (decide := true) only [TF, EV, Nat.reduceAdd, Int.cast_ofNat_Int, Key.cs, K1, zeroK, T1, ↓reduceIte, Int.reduceToNat]
 refine CallK.pure (a_s5) rfl rfl (by simp [-List.map_take, Key.cs, K1, G1]) ?_
 simp (decide := true) only [TF, EV, Nat.reduceAdd, Int.cast_ofNat_Int, Key.cs, K1, zeroK, T1, ↓reduceIte, Int.reduceToNat]
 refine hK _ _ ?_; clear hK K
 refine WP.sr [1, 2, 3, 4, 6, 7, 8] (by kernel_rfl) fun K hK => ?_
 simp (decide := true) only [TF, EV, Nat.reduceAdd, Int.cast_ofNat_Int, Key.cs, K1, zeroK, T1, ↓reduceIte, Int.reduceToNat]
 refine CallK.pure (c_ring) rfl rfl (by simp [-List.map_take]) ?_
 simp (decide := true) only [TF, EV, Nat.reduceAdd, Int.cast_ofNat_Int, Key.cs, K1, zeroK, T1, ↓reduceIte, Int.reduceToNat]
 refine CallK.pure (a_a1) rfl rfl (by simp [-List.map_take, Key.cs, K1, G1]) ?_
 simp (decide := true) only [TF, EV, Nat.reduceAdd, Int.cast_ofNat_Int, Key.cs, K1, zeroK, T1, ↓reduceIte, Int.reduceToNat]
 refine hK _ _ ?_; clear hK K
 refine WP.sr [1, 2, 3, 4, 6, 7, 8, 10] (by kernel_rfl) fun K hK => ?_
 simp (decide := true) only [TF, EV, Nat.reduceAdd, Int.cast_ofNat_Int, Key.cs, K1, zeroK, T1, ↓reduceIte, Int.reduceToNat]
 refine CallK.pure (c_ring) rfl rfl (by simp [-List.map_take]) ?_
 simp (decide := true) only [TF, EV, Nat.reduceAdd, Int.cast_ofNat_Int, Key.cs, K1, zeroK, T1, ↓reduceIte, Int.reduceToNat]
 refine CallK.pure (a_a2) rfl rfl (by simp [-List.map_take, Key.cs, K1, G1]) ?_
 simp (decide := true) only [TF, EV, Nat.reduceAdd, Int.cast_ofNat_Int, Key.cs, K1, zeroK, T1, ↓reduceIte, Int.reduceToNat]
 refine hK _ _ ?_; clear hK K
 refine WP.sr [1, 2, 3, 4, 6, 7, 8, 10, 11, 12] (by kernel_rfl) fun K hK => ?_
 simp (decide := true) only [TF, EV, Nat.reduceAdd, Int.cast_ofNat_Int, Key.cs, K1, zeroK, T1, ↓reduceIte, Int.reduceToNat]
 refine CallK.pure (c_ring) rfl rfl (by simp [-List.map_take]) ?_
 simp (decide := true) only [TF, EV, Nat.reduceAdd, Int.cast_ofNat_Int, Key.cs, K1, zeroK, T1, ↓reduceIte, Int.reduceToNat]
 refine CallK.pure (a_t) rfl rfl (by simp [-List.map_take, Key.cs, K1, G1]) ?_
 simp (decide := true) only [TF, EV, Nat.reduceAdd, Int.cast_ofNat_Int, Key.cs, K1, zeroK, T1, ↓reduceIte, Int.reduceToNat]
 refine hK _ _ ?_; clear hK K
 refine WP.sr [1, 2, 3, 4, 6, 7, 8, 10, 11, 12, 13, 14, 15] (by kernel_rfl) fun K hK => ?_
 simp (decide := true) only [TF, EV, Nat.reduceAdd, Int.cast_ofNat_Int, Key.cs, K1, zeroK, T1, ↓reduceIte, Int.reduceToNat]
 refine CallK.pure (a_p) rfl rfl (by simp [-List.map_take]) ?_
 simp (decide := true) only [TF, EV, Nat.reduceAdd, Int.cast_ofNat_Int, Key.cs, K1, zeroK, T1, ↓reduceIte, Int.reduceToNat]
 refine hK _ _ ?_; clear hK K
 refine WP.sr [1, 2, 3, 4, 6, 7, 8, 10, 11, 12, 13, 14, 15, 16] (by kernel_rfl) fun K hK => ?_
 simp (decide := true) only [TF, EV, Nat.reduceAdd, Int.cast_ofNat_Int, Key.cs, K1, zeroK, T1, ↓reduceIte, Int.reduceToNat]
 refine CallK.pure (a_g) rfl rfl (by simp [-List.map_take, Key.cs, K1, G1]) ?_
 simp (decide := true) only [TF, EV, Nat.reduceAdd, Int.cast_ofNat_Int, Key.cs, K1, zeroK, T1, ↓reduceIte, Int.reduceToNat]
 refine hK _ _ ?_; clear hK K
 refine WP.sr [0] (by kernel_rfl) fun K hK => ?_
 simp (decide := true) only [TF, EV, Nat.reduceAdd, Int.cast_ofNat_Int, Key.cs, K1, zeroK, T1, ↓reduceIte, Int.reduceToNat]
 refine CallK.pure (c_ring) rfl rfl (by simp [-List.map_take]) ?_
 simp (decide := true) only [TF, EV, Nat.reduceAdd, Int.cast_ofNat_Int, Key.cs, K1, zeroK, T1, ↓reduceIte, Int.reduceToNat]
 refine CallK.pure (a_sm) rfl rfl (by simp [-List.map_take, Key.cs, K1, G1]) ?_
 simp (decide := true) only [TF, EV, Nat.reduceAdd, Int.cast_ofNat_Int, Key.cs, K1, zeroK, T1, ↓reduceIte, Int.reduceToNat]
 refine CallK.pure (c_ring) rfl rfl (by simp [-List.map_take]) ?_
 simp (decide := true) only [TF, EV, Nat.reduceAdd, Int.cast_ofNat_Int, Key.cs, K1, zeroK, T1, ↓reduceIte, Int.reduceToNat]
 refine CallK.pure (a_r9) rfl rfl (by simp [-List.map_take, Key.cs, K1, G1]) ?_
 simp (decide := true) only [TF, EV, Nat.reduceAdd, Int.cast_ofNat_Int, Key.cs, K1, zeroK, T1, ↓reduceIte, Int.reduceToNat]
 refine CallK.pure (c_ring) rfl rfl (by simp [-List.map_take]) ?_
 simp (decide := true) only [TF, EV, Nat.reduceAdd, Int.cast_ofNat_Int, Key.cs, K1, zeroK, T1, ↓reduceIte, Int.reduceToNat]
 refine CallK.pure (a_r8) rfl rfl (by simp [-List.map_take, Key.cs, K1, G1]) ?_
 simp (decide := true) only [TF, EV, Nat.reduceAdd, Int.cast_ofNat_Int, Key.cs, K1, zeroK, T1, ↓reduceIte, Int.reduceToNat]
 refine CallK.pure (c_ring) rfl rfl (by simp [-List.map_take]) ?_
 simp (decide := true) only [TF, EV, Nat.reduceAdd, Int.cast_ofNat_Int, Key.cs, K1, zeroK, T1, ↓reduceIte, Int.reduceToNat]
 refine CallK.pure (a_c1) rfl rfl (by simp [-List.map_take, Key.cs, K1, G1]) ?_
 simp (decide := true) only [TF, EV, Nat.reduceAdd, Int.cast_ofNat_Int, Key.cs, K1, zeroK, T1, ↓reduceIte, Int.reduceToNat]
 refine CallK.imp (c_ringT 7) rfl rfl (by simp [lk, BClo]) (by simp [lk]) (by simp [lk]) ?_
 simp (decide := true) only [TF, EV, Nat.reduceAdd, Int.cast_ofNat_Int, Key.cs, K1, zeroK, T1, ↓reduceIte, Int.reduceToNat]
 refine CallK.pure (c_ring) rfl rfl (by simp [-List.map_take]) ?_
 simp (decide := true) only [TF, EV, Nat.reduceAdd, Int.cast_ofNat_Int, Key.cs, K1, zeroK, T1, ↓reduceIte, Int.reduceToNat]
 refine CallK.pure (a_c2) rfl rfl (by simp [-List.map_take, Key.cs, K1, G1]) ?_
 simp (decide := true) only [TF, EV, Nat.reduceAdd, Int.cast_ofNat_Int, Key.cs, K1, zeroK, T1, ↓reduceIte, Int.reduceToNat]
 refine hK _ _ ?_; clear hK K
 refine WP.ret ?_
 exact Ends.pure (.inr rfl) rfl (Le.of_eq (by simp (decide := true) only [St.get, lk, W, ↓reduceIte])) (by simp)
end Go.Proofs
