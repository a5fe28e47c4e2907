import Derived.Test.YtahpinmifmdpgaaGreatDoorG05
import Derived.Test.YtahpinmifmdpgaaGreatDoorG09
set_option linter.unusedVariables false
set_option linter.unusedSimpArgs false
set_option linter.unnecessarySimpa false
set_option linter.unusedSimpArgs false
set_option linter.unusedVariables false
set_option maxRecDepth 10000
namespace Go.Proofs
open Go Go.Id
set_option maxHeartbeats 4000000
def pM : Rule := ⟨[109], false, [], true, [[109, 97, 105, 108]], false, 2, 0⟩
def pN : Rule := ⟨[110], true, [⟨[117, 115, 101, 114], [105, 115], [117]⟩], false, [], true, 0, 0⟩
def rU : Req := ⟨[117], [99], [116], [], true, [[109, 97, 105, 108, 46, 114, 101, 97, 100]], false, 0, false, 1, 0, 10⟩
theorem ok_M : pM.ok := by simp [pM, Rule.ok, Rule.ok0]
theorem ok_N : pN.ok := by simp [pN, Rule.ok, Rule.ok0, Cond.ok]
theorem ok_U : rU.ok := by simp [rU, Req.ok]
theorem hrs_U : ∀ s ∈ rU.scopes, s.length ≤ 1099511627776 := by simp [rU]
theorem les_M : Les ([.str [109], .bool false, .slice 0 true [] none, .slice 1 false [[.str [109, 97, 105, 108]]] none, .int .i64 2, .int .i64 0]) pM.cs := ⟨Le.refl _, Le.refl _, Le.nil _ _ _, Le.refl _, Le.refl _, Le.refl _, trivial⟩
theorem les_N : Les ([.str [110], .bool true, .slice 3 false [[.str [117, 115, 101, 114], .str [105, 115], .str [117]]] none, .slice 0 true [] none, .int .i64 0, .int .i64 0]) pN.cs := ⟨Le.refl _, Le.refl _, Le.refl _, Le.nil _ _ _, Le.refl _, Le.refl _, trivial⟩
theorem le_1 : Le (.slice 6 false [[.str [109], .bool false, .slice 0 true [] none, .slice 1 false [[.str [109, 97, 105, 108]]] none, .int .i64 2, .int .i64 0]] none) (.slice 6 false ([pM].map Rule.cs) none) := Le.slice rfl (by simp [Rule.cs]) fun i e e' h1 h2 => by
 match i with
 | 0 => simp at h1 h2; subst h1; subst h2; exact les_M
 | i + 1 => simp at h1
theorem le_2 : Le (.slice 6 false [[.str [109], .bool false, .slice 0 true [] none, .slice 1 false [[.str [109, 97, 105, 108]]] none, .int .i64 2, .int .i64 0], [.str [110], .bool true, .slice 3 false [[.str [117, 115, 101, 114], .str [105, 115], .str [117]]] none, .slice 0 true [] none, .int .i64 0, .int .i64 0]] none) (.slice 6 false ([pM, pN].map Rule.cs) none) := Le.slice rfl (by simp [Rule.cs]) fun i e e' h1 h2 => by
 match i with
 | 0 => simp at h1 h2; subst h1; subst h2; exact les_M
 | 1 => simp at h1 h2; subst h1; subst h2; exact les_N
 | i + 2 => simp at h1
theorem x_1 : (runD [pM] rU) = ⟨3, [], true, 2, 0, [⟨0, -1, [], true⟩], false⟩ := by kernel_rfl
theorem x_2 : (runD [pM] (aftR rU 2)) = ⟨1, [[109, 97, 105, 108, 46, 114, 101, 97, 100]], false, 2, 0, [⟨0, -1, [[109, 97, 105, 108, 46, 114, 101, 97, 100]], false⟩], false⟩ := by kernel_rfl
theorem x_3 : (runD [pM, pN] rU) = ⟨2, [], true, 0, 0, [⟨0, -1, [], true⟩, ⟨1, -1, [], true⟩], false⟩ := by kernel_rfl
theorem x_4 : chgR [pM, pN] rU = [[117, 115, 101, 114]] := by kernel_rfl
theorem x_5 : explX [pM] ⟨3, [], true, 2, 0, [⟨0, -1, [], true⟩], false⟩ = [[109, 32, 97, 112, 112, 108, 105, 101, 115], [115, 116, 101, 112, 32, 117, 112, 32, 108, 101, 118, 101, 108, 32, 50, 32, 97, 103, 101, 32, 48]] := by kernel_rfl
theorem x_6 : srtR (rU.scopes.filter (fun s => !(covB s []))) = [[109, 97, 105, 108, 46, 114, 101, 97, 100]] := by kernel_rfl
theorem a_run1 : CallP Pr 12 [.slice 6 false [[.str [109], .bool false, .slice 0 true [] none, .slice 1 false [[.str [109, 97, 105, 108]]] none, .int .i64 2, .int .i64 0]] none, .agg [.str [117], .str [99], .str [116], .slice 0 true [] none, .slice 1 false [[.str [109, 97, 105, 108, 46, 114, 101, 97, 100]]] none, .int .i64 0, .bool false, .int .i64 1, .int .i64 0, .int .i64 10]] (.agg [.int .i64 3, .slice 1 true [] none, .int .i64 2, .int .i64 0, .slice 3 false [[.int .i64 0, .int .i64 (-1), .slice 1 true [] none]] none]) := by
 have h := c_run [pM] false rU (by simp) nofun (by intro p hp; rw [List.mem_singleton.1 hp]; exact ok_M) ok_U hrs_U
 rw [x_1] at h
 exact CallE.weak h ⟨le_1, Le.agg ⟨Le.refl _, Le.refl _, Le.refl _, Le.nil _ _ _, Le.refl _, Le.refl _, Le.refl _, Le.refl _, Le.refl _, Le.refl _, trivial⟩, trivial⟩ (Le.refl _)
theorem a_run3 : CallP Pr 12 [.slice 6 false [[.str [109], .bool false, .slice 0 true [] none, .slice 1 false [[.str [109, 97, 105, 108]]] none, .int .i64 2, .int .i64 0], [.str [110], .bool true, .slice 3 false [[.str [117, 115, 101, 114], .str [105, 115], .str [117]]] none, .slice 0 true [] none, .int .i64 0, .int .i64 0]] none, .agg [.str [117], .str [99], .str [116], .slice 0 true [] none, .slice 1 false [[.str [109, 97, 105, 108, 46, 114, 101, 97, 100]]] none, .int .i64 0, .bool false, .int .i64 1, .int .i64 0, .int .i64 10]] (.agg [.int .i64 2, .slice 1 true [] none, .int .i64 0, .int .i64 0, .slice 3 false [[.int .i64 0, .int .i64 (-1), .slice 1 true [] none], [.int .i64 1, .int .i64 (-1), .slice 1 true [] none]] none]) := by
 have h := c_run [pM, pN] false rU (by simp) nofun (by intro p hp; rcases List.mem_cons.1 hp with rfl | hp; exact ok_M; rw [List.mem_singleton.1 hp]; exact ok_N) ok_U hrs_U
 rw [x_3] at h
 exact CallE.weak h ⟨le_2, Le.agg ⟨Le.refl _, Le.refl _, Le.refl _, Le.nil _ _ _, Le.refl _, Le.refl _, Le.refl _, Le.refl _, Le.refl _, Le.refl _, trivial⟩, trivial⟩ (Le.refl _)
theorem a_run0 : CallP Pr 12 [.slice 0 true [] none, .agg [.str [117], .str [99], .str [116], .slice 0 true [] none, .slice 1 false [[.str [109, 97, 105, 108, 46, 114, 101, 97, 100]]] none, .int .i64 0, .bool false, .int .i64 1, .int .i64 0, .int .i64 10]] (.agg [.int .i64 4, .slice 1 true [] none, .int .i64 0, .int .i64 0, .slice 3 true [] none]) := by
 have h := c_run [] true rU (by simp) (fun _ => rfl) (by simp) ok_U hrs_U
 rw [runD_nil] at h
 exact CallE.weak h ⟨Le.nil _ _ _, Le.agg ⟨Le.refl _, Le.refl _, Le.refl _, Le.nil _ _ _, Le.refl _, Le.refl _, Le.refl _, Le.refl _, Le.refl _, Le.refl _, trivial⟩, trivial⟩ (Le.refl _)
theorem a_after : CallP Pr 20 [.slice 6 false [[.str [109], .bool false, .slice 0 true [] none, .slice 1 false [[.str [109, 97, 105, 108]]] none, .int .i64 2, .int .i64 0]] none, .agg [.str [117], .str [99], .str [116], .slice 0 true [] none, .slice 1 false [[.str [109, 97, 105, 108, 46, 114, 101, 97, 100]]] none, .int .i64 0, .bool false, .int .i64 1, .int .i64 0, .int .i64 10], .int .i64 2] (.agg [.int .i64 1, .slice 1 false [[.str [109, 97, 105, 108, 46, 114, 101, 97, 100]]] none, .int .i64 2, .int .i64 0, .slice 3 false [[.int .i64 0, .int .i64 (-1), .slice 1 false [[.str [109, 97, 105, 108, 46, 114, 101, 97, 100]]] none]] none]) := by
 have h := c_after [pM] false rU (by simp) nofun (by intro p hp; rw [List.mem_singleton.1 hp]; exact ok_M) ok_U hrs_U 2
 rw [x_2] at h
 exact CallE.weak h ⟨le_1, Le.agg ⟨Le.refl _, Le.refl _, Le.refl _, Le.nil _ _ _, Le.refl _, Le.refl _, Le.refl _, Le.refl _, Le.refl _, Le.refl _, trivial⟩, Le.refl _, trivial⟩ (Le.refl _)
theorem a_expl : CallP Pr 15 [.slice 6 false [[.str [109], .bool false, .slice 0 true [] none, .slice 1 false [[.str [109, 97, 105, 108]]] none, .int .i64 2, .int .i64 0]] none, .agg [.int .i64 3, .slice 1 true [] none, .int .i64 2, .int .i64 0, .slice 3 false [[.int .i64 0, .int .i64 (-1), .slice 1 true [] none]] none]] (.slice 1 false [[.str [109, 32, 97, 112, 112, 108, 105, 101, 115]], [.str [115, 116, 101, 112, 32, 117, 112, 32, 108, 101, 118, 101, 108, 32, 50, 32, 97, 103, 101, 32, 48]]] none) := by
 have h := c_explain [pM] false ⟨3, [], true, 2, 0, [⟨0, -1, [], true⟩], false⟩ nofun (by intro p hp; rw [List.mem_singleton.1 hp]; exact ok_M) (by simp [Dec.ok, Reas.ok])
 rw [x_5] at h
 exact CallE.weak h ⟨le_1, Le.refl _, trivial⟩ (Le.refl _)
theorem a_chg : CallP Pr 22 [.slice 6 false [[.str [109], .bool false, .slice 0 true [] none, .slice 1 false [[.str [109, 97, 105, 108]]] none, .int .i64 2, .int .i64 0], [.str [110], .bool true, .slice 3 false [[.str [117, 115, 101, 114], .str [105, 115], .str [117]]] none, .slice 0 true [] none, .int .i64 0, .int .i64 0]] none, .agg [.str [117], .str [99], .str [116], .slice 0 true [] none, .slice 1 false [[.str [109, 97, 105, 108, 46, 114, 101, 97, 100]]] none, .int .i64 0, .bool false, .int .i64 1, .int .i64 0, .int .i64 10]] (.slice 1 false [[.str [117, 115, 101, 114]]] none) := by
 have h := c_changed [pM, pN] false rU (by simp) nofun (by intro p hp; rcases List.mem_cons.1 hp with rfl | hp; exact ok_M; rw [List.mem_singleton.1 hp]; exact ok_N) ok_U hrs_U
 rw [x_4] at h
 exact CallE.weak h ⟨le_2, Le.agg ⟨Le.refl _, Le.refl _, Le.refl _, Le.nil _ _ _, Le.refl _, Le.refl _, Le.refl _, Le.refl _, Le.refl _, Le.refl _, trivial⟩, trivial⟩ (Le.refl _)
theorem a_miss : CallP Pr 18 [.agg [.int .i64 3, .slice 1 true [] none, .int .i64 2, .int .i64 0, .slice 3 false [[.int .i64 0, .int .i64 (-1), .slice 1 true [] none]] none], .agg [.str [117], .str [99], .str [116], .slice 0 true [] none, .slice 1 false [[.str [109, 97, 105, 108, 46, 114, 101, 97, 100]]] none, .int .i64 0, .bool false, .int .i64 1, .int .i64 0, .int .i64 10]] (.slice 1 false [[.str [109, 97, 105, 108, 46, 114, 101, 97, 100]]] none) := by
 have h := c_missing ⟨3, [], true, 2, 0, [⟨0, -1, [], true⟩], false⟩ rU (by simp [Dec.ok, Reas.ok]) ok_U hrs_U
 rw [x_6] at h
 exact CallE.weak h ⟨Le.refl _, Le.agg ⟨Le.refl _, Le.refl _, Le.refl _, Le.nil _ _ _, Le.refl _, Le.refl _, Le.refl _, Le.refl _, Le.refl _, Le.refl _, trivial⟩, trivial⟩ (Le.refl _)
theorem a_s1 : CallP Pr 16 [.slice 1 false [[.str [109, 97, 105, 108, 46, 114, 101, 97, 100]]] none, .slice 1 false [[.str [109, 97, 105, 108, 46, 114, 101, 97, 100]]] none] (.bool true) := c_same2 [[109, 97, 105, 108, 46, 114, 101, 97, 100]] [[109, 97, 105, 108, 46, 114, 101, 97, 100]] false false (by simp) nofun nofun
theorem a_s2 : CallP Pr 16 [.slice 1 false [[.str [117, 115, 101, 114]]] none, .slice 1 false [[.str [117, 115, 101, 114]]] none] (.bool true) := c_same2 [[117, 115, 101, 114]] [[117, 115, 101, 114]] false false (by simp) nofun nofun

theorem c_mail : CallE Pr 28 [] [] (.slice 6 false [[.str [109], .bool false, .slice 0 true [] none, .slice 1 false [[.str [109, 97, 105, 108]]] none, .int .i64 2, .int .i64 0]] (some 0)) [(0, .tip 44 6 1)] := by
 refine CallE.of_wp Tryz.func28 rfl (by kernel_rfl) Tryz.ntmps28 (by simp) ?_
 simp only [frameOf, Nat.reduceAdd, Nat.zero_add, List.map_cons, List.map_nil]
 refine WP.sr [] (by kernel_rfl) fun K hK => ?_
 simp (decide := true) only [TF, ↓reduceIte, Int.reduceToNat]
 refine hK _ _ ?_; clear hK K
 refine WP.sr [0] (by kernel_rfl) fun K hK => ?_
 simp (decide := true) only [TF, ↓reduceIte, Int.reduceToNat]
 refine hK _ _ ?_; clear hK K
 refine WP.ret ?_
 refine Ends.imp (.inr rfl) rfl (Le.of_eq (by simp (decide := true) only [St.get, lk, W, ↓reduceIte])) ?_ ?_ ?_
 · simp [lk]
 · simp [St.get, lk, W, BClo]
 · simp [lk]
theorem c_mail_at (t : Nat) : CallE Pr 28 [] [] (.slice 6 false [[.str [109], .bool false, .slice 0 true [] none, .slice 1 false [[.str [109, 97, 105, 108]]] none, .int .i64 2, .int .i64 0]] (some t)) [(t, .tip 44 6 1)] := by
 obtain ⟨f, g, h1, h2⟩ := ren_ex [t] (by simp)
 have := CallE.rename h1 c_mail
 have f1 : f 0 = t := h2 0 t rfl
 simpa only [List.map_cons, List.map_nil, renS, renB, renL, renLL, renD, Option.map_some, Option.map_none, f1] using this
/-- A permit rule that applies at the request's level and covers the scope. -/
def grC (r : Req) (s : List UInt8) (p : Rule) : Bool := !p.deny && decide (p.lvl ≤ r.level) && okM p r && withinB [s] p.scopes
end Go.Proofs

set_option linter.unusedSimpArgs false
set_option linter.unusedVariables false
set_option maxRecDepth 10000
namespace Go.Proofs
open Go Go.Id
set_option maxHeartbeats 4000000
theorem cz0 : ((((0 : Nat) : Int) == 0) = true) := rfl
theorem cz1 : ((((1 : Nat) : Int) == 1) = true) := rfl
theorem cz2 : ((((2 : Nat) : Int) == 2) = true) := rfl
theorem c_live : CallP Pr 10 [] (.bool true) := by
 refine CallP.of_wp Tryz.func10 rfl (by kernel_rfl) Tryz.ntmps10 (by simp) ?_
 simp only [frameOf, Nat.reduceAdd, Nat.zero_add]
 refine WP.sr [] (by kernel_rfl) fun K hK => ?_
 simp (decide := true) only [TF, EV, Nat.reduceAdd, cz0, cz1, cz2, ↓reduceIte, Int.reduceToNat]
 refine hK _ _ ?_; clear hK K
 refine WP.sr [1] (by kernel_rfl) fun K hK => ?_
 simp (decide := true) only [TF, EV, Nat.reduceAdd, cz0, cz1, cz2, ↓reduceIte, Int.reduceToNat]
 refine hK _ _ ?_; clear hK K
 refine WP.sd [1, 2] (by kernel_rfl) (by kernel_rfl) fun K hK => ?_
 simp (decide := true) only [TF, EV, Nat.reduceAdd, cz0, cz1, cz2, ↓reduceIte, Int.reduceToNat]
 refine CallK.imp (c_mail_at 1) rfl rfl (by simp) (by simp [lk]) (by simp [lk]) ?_
 simp (decide := true) only [TF, EV, Nat.reduceAdd, cz0, cz1, cz2, ↓reduceIte, Int.reduceToNat]
 refine CallK.pure (a_run1) rfl rfl (by simp [-List.map_take]) ?_
 simp (decide := true) only [TF, EV, Nat.reduceAdd, cz0, cz1, cz2, ↓reduceIte, Int.reduceToNat]
 refine hK _ _ (by kernel_rfl) ?_
 clear hK K
 refine WP.sd [1, 2, 3] (by kernel_rfl) (by kernel_rfl) fun K hK => ?_
 simp (decide := true) only [TF, EV, Nat.reduceAdd, cz0, cz1, cz2, ↓reduceIte, Int.reduceToNat]
 refine CallK.imp (c_mail_at 3) rfl rfl (by simp) (by simp [lk]) (by simp [lk]) ?_
 simp (decide := true) only [TF, EV, Nat.reduceAdd, cz0, cz1, cz2, ↓reduceIte, Int.reduceToNat]
 refine CallK.pure (a_expl) rfl rfl (by simp [-List.map_take]) ?_
 simp (decide := true) only [TF, EV, Nat.reduceAdd, cz0, cz1, cz2, ↓reduceIte, Int.reduceToNat]
 refine hK _ _ (by kernel_rfl) ?_
 clear hK K
 refine WP.sd [1, 2, 3, 4] (by kernel_rfl) (by kernel_rfl) fun K hK => ?_
 simp (decide := true) only [TF, EV, Nat.reduceAdd, cz0, cz1, cz2, ↓reduceIte, Int.reduceToNat]
 refine CallK.imp (c_mail_at 4) rfl rfl (by simp) (by simp [lk]) (by simp [lk]) ?_
 simp (decide := true) only [TF, EV, Nat.reduceAdd, cz0, cz1, cz2, ↓reduceIte, Int.reduceToNat]
 refine CallK.pure (a_after) rfl rfl (by simp [-List.map_take]) ?_
 simp (decide := true) only [TF, EV, Nat.reduceAdd, cz0, cz1, cz2, ↓reduceIte, Int.reduceToNat]
 refine hK _ _ (by kernel_rfl) ?_
 clear hK K
 refine WP.sr [1, 2, 3, 4, 5] (by kernel_rfl) fun K hK => ?_
 simp (decide := true) only [TF, EV, Nat.reduceAdd, cz0, cz1, cz2, ↓reduceIte, Int.reduceToNat]
 refine CallK.pure (a_run0) rfl rfl (by simp [-List.map_take]) ?_
 simp (decide := true) only [TF, EV, Nat.reduceAdd, cz0, cz1, cz2, ↓reduceIte, Int.reduceToNat]
 refine hK _ _ ?_; clear hK K
 refine WP.sr [1, 2, 3, 4, 5, 6] (by kernel_rfl) fun K hK => ?_
 simp (decide := true) only [TF, EV, Nat.reduceAdd, cz0, cz1, cz2, ↓reduceIte, Int.reduceToNat]
 refine CallK.imp (c_mail_at 7) rfl rfl (by simp) (by simp [lk]) (by simp [lk]) ?_
 simp (decide := true) only [TF, EV, Nat.reduceAdd, cz0, cz1, cz2, ↓reduceIte, Int.reduceToNat]
 refine hK _ _ ?_; clear hK K
 refine WP.sr [1, 2, 3, 4, 5, 6, 7] (by kernel_rfl) fun K hK => ?_
 simp (decide := true) only [TF, EV, Nat.reduceAdd, cz0, cz1, cz2, ↓reduceIte, Int.reduceToNat]
 refine CallK.pure (a_run3) rfl rfl (by simp [-List.map_take]) ?_
 simp (decide := true) only [TF, EV, Nat.reduceAdd, cz0, cz1, cz2, ↓reduceIte, Int.reduceToNat]
 refine hK _ _ ?_; clear hK K
 refine WP.sr [1, 2, 3, 4, 5, 7, 8] (by kernel_rfl) fun K hK => ?_
 simp (decide := true) only [TF, EV, Nat.reduceAdd, cz0, cz1, cz2, ↓reduceIte, Int.reduceToNat]
 refine CallK.pure (a_chg) rfl rfl (by simp [-List.map_take]) ?_
 simp (decide := true) only [TF, EV, Nat.reduceAdd, cz0, cz1, cz2, ↓reduceIte, Int.reduceToNat]
 refine hK _ _ ?_; clear hK K
 refine WP.sr [0] (by kernel_rfl) fun K hK => ?_
 simp (decide := true) only [TF, EV, Nat.reduceAdd, cz0, cz1, cz2, ↓reduceIte, Int.reduceToNat]
 refine CallK.pure (a_s1) rfl rfl (by simp [-List.map_take]) ?_
 simp (decide := true) only [TF, EV, Nat.reduceAdd, cz0, cz1, cz2, ↓reduceIte, Int.reduceToNat]
 refine CallK.pure (a_s2) rfl rfl (by simp [-List.map_take]) ?_
 simp (decide := true) only [TF, EV, Nat.reduceAdd, cz0, cz1, cz2, ↓reduceIte, Int.reduceToNat]
 refine CallK.pure (a_miss) rfl rfl (by simp [-List.map_take]) ?_
 simp (decide := true) only [TF, EV, Nat.reduceAdd, cz0, cz1, cz2, ↓reduceIte, Int.reduceToNat]
 refine CallK.pure (a_s1) rfl rfl (by simp [-List.map_take]) ?_
 simp (decide := true) only [TF, EV, Nat.reduceAdd, cz0, cz1, cz2, ↓reduceIte, Int.reduceToNat]
 refine hK _ _ ?_; clear hK K
 refine WP.ret ?_
 exact Ends.pure (.inr rfl) rfl (Le.of_eq (by simp (decide := true) only [St.get, lk, W, ↓reduceIte])) (by simp)
end Go.Proofs
