/- Changed is as specified, and the decision does not turn where it names no field. Conditions: none, the given statement. -/
import Derived.Test.YtahpinmifmdpgaaGreatDoorG11
import Derived.Test.YtahpinmifmdpgaaGreatDoorG10
import Derived.Test.YtahpinmifmdpgaaGreatDoorG12
import Derived.Test.YtahpinmifmdpgaaGreatDoorG05
import Derived.ChangeMaps5
set_option linter.unusedSimpArgs false
set_option linter.unusedVariables false
set_option maxRecDepth 10000
namespace Go.Proofs
open Go Go.Id
set_option maxHeartbeats 4000000
theorem c_l_changes (l : List Rule) (nl : Bool) (hn : l.length ≤ 9223372036854775807) (hnl : nl = true → l = []) (hl : ∀ p ∈ l, p.big) (hg : ∀ p ∈ l, p.rng) (r q : Req) (hr : r.big) (hq : q.big) : CallP Pr 6 [.slice 6 nl (l.map Rule.cs) none, .agg [.str r.user, .str r.client, .str r.tenant, .slice 1 r.ng (r.groups.map fun x => [.str x]) none, .slice 1 r.ns (r.scopes.map fun x => [.str x]) none, .int .i64 r.risk, .bool r.trusted, .int .i64 r.level, .int .i64 r.auth, .int .i64 r.now], .agg [.str q.user, .str q.client, .str q.tenant, .slice 1 q.ng (q.groups.map fun x => [.str x]) none, .slice 1 q.ns (q.scopes.map fun x => [.str x]) none, .int .i64 q.risk, .bool q.trusted, .int .i64 q.level, .int .i64 q.auth, .int .i64 q.now]] (.bool true) := by
 refine CallP.of_wp Tryz.func6 rfl (by kernel_rfl) Tryz.ntmps6 (by simp) ?_
 simp only [frameOf, Nat.reduceAdd, Nat.zero_add]
 refine WP.sr [0, 4, 5] (by kernel_rfl) fun K hK => ?_
 simp (decide := true) only [TF, EV, ↓reduceIte, Int.reduceToNat]
 refine hK _ _ ?_; clear hK K
 refine WP.seq ?_
 refine WP.sr [0, 4, 5, 16] (by kernel_rfl) fun K hK => ?_
 simp (decide := true) only [TF, EV, ↓reduceIte, Int.reduceToNat]
 refine CallK.pure (c_great l nl r hn hnl hl hr) rfl rfl (by simp [-List.map_take]) ?_
 refine runOps.take 1 fun J hJ => ?_
 simp (decide := true) only [TF, EV, ↓reduceIte, Int.reduceToNat]
 refine hJ _ _ ?_; clear hJ J
 refine runOps.part 12 rfl (fun q1 => ?_) (fun q1 => ?_)
 ·
  simp (decide := true) only [TF, EV, q1, ↓reduceIte, Int.reduceToNat]
  refine hK _ _ ?_; clear hK K
  refine WP.cond (b := true) (by rfl) (fun _ => ?_) nofun
  refine WP.sr [6] (by kernel_rfl) fun K hK => ?_
  simp (decide := true) only [TF, EV, q1, ↓reduceIte, Int.reduceToNat]
  refine CallK.pure (c_live) rfl rfl (by simp [-List.map_take]) ?_
  simp (decide := true) only [TF, EV, q1, ↓reduceIte, Int.reduceToNat]
  refine hK _ _ ?_; clear hK K
  refine WP.ret ?_
  exact Ends.pure (.inr rfl) rfl (Le.of_eq (by simp (decide := true) only [St.get, lk, W, q1, ↓reduceIte])) (by simp)
 ·
  have hN := great_no q1 hl hr
  have hrk := run_ok hN hg
  have hsm := sameD_refl (runD l r)
  simp (decide := true) only [TF, EV, q1, ↓reduceIte, Int.reduceToNat]
  refine CallK.pure (c_great l nl q hn hnl hl hq) rfl rfl (by simp [-List.map_take]) ?_
  simp (decide := true) only [TF, EV, q1, ↓reduceIte, Int.reduceToNat]
  refine hK _ _ ?_; clear hK K
  refine WP.cond (b := _) rfl (fun q2 => ?_) (fun q2 => ?_)
  ·
   refine WP.sr [6] (by kernel_rfl) fun K hK => ?_
   simp (decide := true) only [TF, EV, q1, q2, ↓reduceIte, Int.reduceToNat]
   refine CallK.pure (c_live) rfl rfl (by simp [-List.map_take]) ?_
   simp (decide := true) only [TF, EV, q1, q2, ↓reduceIte, Int.reduceToNat]
   refine hK _ _ ?_; clear hK K
   refine WP.ret ?_
   exact Ends.pure (.inr rfl) rfl (Le.of_eq (by simp (decide := true) only [St.get, lk, W, q1, q2, ↓reduceIte])) (by simp)
  ·
   have hN2 := great_no q2 hl hq
   have hcl : (chgR l r).length ≤ 1099511627776 := by have := chgR_len l r; omega
   have hN3 := ng_chq (C := chgR l r) hN hN2
   have hsm3 : sameD (runD l (chq (chgR l r) r q)) (runD l r) = true := by rw [run_changed]; exact sameD_refl _
   have hrk3 := run_ok hN3 hg
   refine WP.skip ?_
   show WP _ _ _ _ _ _
   refine WP.sr [0, 4, 5, 7] (by kernel_rfl) fun K hK => ?_
   simp (decide := true) only [TF, EV, q1, q2, hsm3, ↓reduceIte, Int.reduceToNat]
   refine CallK.pure (c_changed l nl r (by have := hN.few; omega) hnl hN.ok hN.rok hN.hrs) rfl rfl (by simp [-List.map_take]) ?_
   simp (decide := true) only [TF, EV, q1, q2, hsm3, ↓reduceIte, Int.reduceToNat]
   refine hK _ _ ?_; clear hK K
   refine WP.seq ?_
   refine WP.sr [0, 4, 5, 7, 30] (by kernel_rfl) fun K hK => ?_
   simp (decide := true) only [TF, EV, q1, q2, hsm3, ↓reduceIte, Int.reduceToNat]
   refine CallK.pure (c_r_changed l nl r (by have := hN.few; omega) hnl hN.ok hN.rok hN.hrs) rfl rfl (by simp [-List.map_take]) ?_
   simp (decide := true) only [TF, EV, q1, q2, hsm3, ↓reduceIte, Int.reduceToNat]
   refine CallK.pure (c_same2 (chgR l r) (chgR l r) (chgR l r).isEmpty (chgR l r).isEmpty hcl (fun h => isE_nil h) (fun h => isE_nil h)) rfl rfl (by simp [-List.map_take]) ?_
   simp (decide := true) only [TF, EV, q1, q2, hsm3, ↓reduceIte, Int.reduceToNat]
   refine CallK.pure (c_live) rfl rfl (by simp [-List.map_take]) ?_
   simp (decide := true) only [TF, EV, q1, q2, hsm3, ↓reduceIte, Int.reduceToNat]
   refine hK _ _ ?_; clear hK K
   refine WP.cond (b := false) (by rfl) nofun (fun _ => ?_)
   refine WP.skip ?_
   show WP _ _ _ _ _ _
   refine WP.sr [0, 4, 5, 7, 8] (by kernel_rfl) fun K hK => ?_
   simp (decide := true) only [TF, EV, q1, q2, hsm3, ↓reduceIte, Int.reduceToNat]
   refine hK _ _ ?_; clear hK K
   refine WP.seq ?_
   refine WP.sr [0, 4, 5, 7, 8, 34] (by kernel_rfl) fun K hK => ?_
   simp (decide := true) only [TF, EV, q1, q2, hsm3, ↓reduceIte, Int.reduceToNat]
   refine CallK.pure (c_hasF (chgR l r) [117, 115, 101, 114] hcl) rfl rfl (by simp [-List.map_take]) ?_
   simp (decide := true) only [TF, EV, q1, q2, hsm3, ↓reduceIte, Int.reduceToNat]
   refine hK _ _ ?_; clear hK K
   refine WP.meetQ ⟨[(0, .slice 6 nl (l.map Rule.cs) none), (4, .ref 0 0), (5, .ref 1 0), (7, .slice 1 (chgR l r).isEmpty ((chgR l r).map (fun x => [D.str x])) none), (8, .ref 2 0)], [(2, .box 25 [.str (if hasF (chgR l r) [117, 115, 101, 114] = true then r.user else q.user), .str r.client, .str r.tenant, .slice 1 r.ng (r.groups.map fun x => [.str x]) none, .slice 1 r.ns (r.scopes.map fun x => [.str x]) none, .int .i64 r.risk, .bool r.trusted, .int .i64 r.level, .int .i64 r.auth, .int .i64 r.now]), (1, .box 25 [.str q.user, .str q.client, .str q.tenant, .slice 1 q.ng (q.groups.map fun x => [.str x]) none, .slice 1 q.ns (q.scopes.map fun x => [.str x]) none, .int .i64 q.risk, .bool q.trusted, .int .i64 q.level, .int .i64 q.auth, .int .i64 q.now]), (0, .box 25 [.str r.user, .str r.client, .str r.tenant, .slice 1 r.ng (r.groups.map fun x => [.str x]) none, .slice 1 r.ns (r.scopes.map fun x => [.str x]) none, .int .i64 r.risk, .bool r.trusted, .int .i64 r.level, .int .i64 r.auth, .int .i64 r.now])]⟩ ?_ ?_
   ·
    refine WP.cond (b := _) rfl (fun q3 => ?_) (fun q3 => ?_)
    ·
     simp only [Bool.not_eq_true', Bool.not_eq_false'] at q3
     refine WP.region (by kernel_rfl) fun K hK => ?_
     simp (decide := true) only [TF, EV, q1, q2, hsm3, q3, ↓reduceIte, Int.reduceToNat]
     refine hK _ _ ?_; clear hK K
     show Weak _ _ _
     exact Weak.store (by simp [St.get, lk, W, Le.refl, q1, q2, hsm3, q3]) (by simp [lk, W, q1, q2, hsm3, q3]) (by simp [lk, W]) (by simp [BClo, lk]) (by simp [lk])
    ·
     simp only [Bool.not_eq_true', Bool.not_eq_false'] at q3
     refine WP.skip ?_
     show Weak _ _ _
     exact Weak.store (by simp [St.get, lk, W, Le.refl, q1, q2, hsm3, q3]) (by simp [lk, W, q1, q2, hsm3, q3]) (by simp [lk, W]) (by simp [BClo, lk]) (by simp [lk])
   ·
    refine WP.seq ?_
    refine WP.sr [0, 4, 5, 7, 8, 40] (by kernel_rfl) fun K hK => ?_
    simp (decide := true) only [TF, EV, q1, q2, hsm3, ↓reduceIte, Int.reduceToNat]
    refine CallK.pure (c_hasF (chgR l r) [99, 108, 105, 101, 110, 116] hcl) rfl rfl (by simp [-List.map_take]) ?_
    simp (decide := true) only [TF, EV, q1, q2, hsm3, ↓reduceIte, Int.reduceToNat]
    refine hK _ _ ?_; clear hK K
    refine WP.meetQ ⟨[(0, .slice 6 nl (l.map Rule.cs) none), (4, .ref 0 0), (5, .ref 1 0), (7, .slice 1 (chgR l r).isEmpty ((chgR l r).map (fun x => [D.str x])) none), (8, .ref 2 0)], [(2, .box 25 [.str (if hasF (chgR l r) [117, 115, 101, 114] = true then r.user else q.user), .str (if hasF (chgR l r) [99, 108, 105, 101, 110, 116] = true then r.client else q.client), .str r.tenant, .slice 1 r.ng (r.groups.map fun x => [.str x]) none, .slice 1 r.ns (r.scopes.map fun x => [.str x]) none, .int .i64 r.risk, .bool r.trusted, .int .i64 r.level, .int .i64 r.auth, .int .i64 r.now]), (1, .box 25 [.str q.user, .str q.client, .str q.tenant, .slice 1 q.ng (q.groups.map fun x => [.str x]) none, .slice 1 q.ns (q.scopes.map fun x => [.str x]) none, .int .i64 q.risk, .bool q.trusted, .int .i64 q.level, .int .i64 q.auth, .int .i64 q.now]), (0, .box 25 [.str r.user, .str r.client, .str r.tenant, .slice 1 r.ng (r.groups.map fun x => [.str x]) none, .slice 1 r.ns (r.scopes.map fun x => [.str x]) none, .int .i64 r.risk, .bool r.trusted, .int .i64 r.level, .int .i64 r.auth, .int .i64 r.now])]⟩ ?_ ?_
    ·
     refine WP.cond (b := _) rfl (fun q4 => ?_) (fun q4 => ?_)
     ·
      simp only [Bool.not_eq_true', Bool.not_eq_false'] at q4
      refine WP.region (by kernel_rfl) fun K hK => ?_
      simp (decide := true) only [TF, EV, q1, q2, hsm3, q4, ↓reduceIte, Int.reduceToNat]
      refine hK _ _ ?_; clear hK K
      show Weak _ _ _
      exact Weak.store (by simp [St.get, lk, W, Le.refl, q1, q2, hsm3, q4]) (by simp [lk, W, q1, q2, hsm3, q4]) (by simp [lk, W]) (by simp [BClo, lk]) (by simp [lk])
     ·
      simp only [Bool.not_eq_true', Bool.not_eq_false'] at q4
      refine WP.skip ?_
      show Weak _ _ _
      exact Weak.store (by simp [St.get, lk, W, Le.refl, q1, q2, hsm3, q4]) (by simp [lk, W, q1, q2, hsm3, q4]) (by simp [lk, W]) (by simp [BClo, lk]) (by simp [lk])
    ·
     refine WP.seq ?_
     refine WP.sr [0, 4, 5, 7, 8, 46] (by kernel_rfl) fun K hK => ?_
     simp (decide := true) only [TF, EV, q1, q2, hsm3, ↓reduceIte, Int.reduceToNat]
     refine CallK.pure (c_hasF (chgR l r) [116, 101, 110, 97, 110, 116] hcl) rfl rfl (by simp [-List.map_take]) ?_
     simp (decide := true) only [TF, EV, q1, q2, hsm3, ↓reduceIte, Int.reduceToNat]
     refine hK _ _ ?_; clear hK K
     refine WP.meetQ ⟨[(0, .slice 6 nl (l.map Rule.cs) none), (4, .ref 0 0), (5, .ref 1 0), (7, .slice 1 (chgR l r).isEmpty ((chgR l r).map (fun x => [D.str x])) none), (8, .ref 2 0)], [(2, .box 25 [.str (if hasF (chgR l r) [117, 115, 101, 114] = true then r.user else q.user), .str (if hasF (chgR l r) [99, 108, 105, 101, 110, 116] = true then r.client else q.client), .str (if hasF (chgR l r) [116, 101, 110, 97, 110, 116] = true then r.tenant else q.tenant), .slice 1 r.ng (r.groups.map fun x => [.str x]) none, .slice 1 r.ns (r.scopes.map fun x => [.str x]) none, .int .i64 r.risk, .bool r.trusted, .int .i64 r.level, .int .i64 r.auth, .int .i64 r.now]), (1, .box 25 [.str q.user, .str q.client, .str q.tenant, .slice 1 q.ng (q.groups.map fun x => [.str x]) none, .slice 1 q.ns (q.scopes.map fun x => [.str x]) none, .int .i64 q.risk, .bool q.trusted, .int .i64 q.level, .int .i64 q.auth, .int .i64 q.now]), (0, .box 25 [.str r.user, .str r.client, .str r.tenant, .slice 1 r.ng (r.groups.map fun x => [.str x]) none, .slice 1 r.ns (r.scopes.map fun x => [.str x]) none, .int .i64 r.risk, .bool r.trusted, .int .i64 r.level, .int .i64 r.auth, .int .i64 r.now])]⟩ ?_ ?_
     ·
      refine WP.cond (b := _) rfl (fun q5 => ?_) (fun q5 => ?_)
      ·
       simp only [Bool.not_eq_true', Bool.not_eq_false'] at q5
       refine WP.region (by kernel_rfl) fun K hK => ?_
       simp (decide := true) only [TF, EV, q1, q2, hsm3, q5, ↓reduceIte, Int.reduceToNat]
       refine hK _ _ ?_; clear hK K
       show Weak _ _ _
       exact Weak.store (by simp [St.get, lk, W, Le.refl, q1, q2, hsm3, q5]) (by simp [lk, W, q1, q2, hsm3, q5]) (by simp [lk, W]) (by simp [BClo, lk]) (by simp [lk])
      ·
       simp only [Bool.not_eq_true', Bool.not_eq_false'] at q5
       refine WP.skip ?_
       show Weak _ _ _
       exact Weak.store (by simp [St.get, lk, W, Le.refl, q1, q2, hsm3, q5]) (by simp [lk, W, q1, q2, hsm3, q5]) (by simp [lk, W]) (by simp [BClo, lk]) (by simp [lk])
     ·
      refine WP.seq ?_
      refine WP.sr [0, 4, 5, 7, 8, 52] (by kernel_rfl) fun K hK => ?_
      simp (decide := true) only [TF, EV, q1, q2, hsm3, ↓reduceIte, Int.reduceToNat]
      refine CallK.pure (c_hasF (chgR l r) [103, 114, 111, 117, 112] hcl) rfl rfl (by simp [-List.map_take]) ?_
      simp (decide := true) only [TF, EV, q1, q2, hsm3, ↓reduceIte, Int.reduceToNat]
      refine hK _ _ ?_; clear hK K
      refine WP.meetQ ⟨[(0, .slice 6 nl (l.map Rule.cs) none), (4, .ref 0 0), (5, .ref 1 0), (7, .slice 1 (chgR l r).isEmpty ((chgR l r).map (fun x => [D.str x])) none), (8, .ref 2 0)], [(2, .box 25 [.str (if hasF (chgR l r) [117, 115, 101, 114] = true then r.user else q.user), .str (if hasF (chgR l r) [99, 108, 105, 101, 110, 116] = true then r.client else q.client), .str (if hasF (chgR l r) [116, 101, 110, 97, 110, 116] = true then r.tenant else q.tenant), .slice 1 (if hasF (chgR l r) [103, 114, 111, 117, 112] = true then r.ng else q.ng) ((if hasF (chgR l r) [103, 114, 111, 117, 112] = true then r.groups else q.groups).map fun x => [.str x]) none, .slice 1 r.ns (r.scopes.map fun x => [.str x]) none, .int .i64 r.risk, .bool r.trusted, .int .i64 r.level, .int .i64 r.auth, .int .i64 r.now]), (1, .box 25 [.str q.user, .str q.client, .str q.tenant, .slice 1 q.ng (q.groups.map fun x => [.str x]) none, .slice 1 q.ns (q.scopes.map fun x => [.str x]) none, .int .i64 q.risk, .bool q.trusted, .int .i64 q.level, .int .i64 q.auth, .int .i64 q.now]), (0, .box 25 [.str r.user, .str r.client, .str r.tenant, .slice 1 r.ng (r.groups.map fun x => [.str x]) none, .slice 1 r.ns (r.scopes.map fun x => [.str x]) none, .int .i64 r.risk, .bool r.trusted, .int .i64 r.level, .int .i64 r.auth, .int .i64 r.now])]⟩ ?_ ?_
      ·
       refine WP.cond (b := _) rfl (fun q6 => ?_) (fun q6 => ?_)
       ·
        simp only [Bool.not_eq_true', Bool.not_eq_false'] at q6
        refine WP.region (by kernel_rfl) fun K hK => ?_
        simp (decide := true) only [TF, EV, q1, q2, hsm3, q6, ↓reduceIte, Int.reduceToNat]
        refine hK _ _ ?_; clear hK K
        show Weak _ _ _
        exact Weak.store (by simp [St.get, lk, W, Le.refl, q1, q2, hsm3, q6]) (by simp [lk, W, q1, q2, hsm3, q6]) (by simp [lk, W]) (by simp [BClo, lk]) (by simp [lk])
       ·
        simp only [Bool.not_eq_true', Bool.not_eq_false'] at q6
        refine WP.skip ?_
        show Weak _ _ _
        exact Weak.store (by simp [St.get, lk, W, Le.refl, q1, q2, hsm3, q6]) (by simp [lk, W, q1, q2, hsm3, q6]) (by simp [lk, W]) (by simp [BClo, lk]) (by simp [lk])
      ·
       refine WP.seq ?_
       refine WP.sr [0, 4, 5, 7, 8, 58] (by kernel_rfl) fun K hK => ?_
       simp (decide := true) only [TF, EV, q1, q2, hsm3, ↓reduceIte, Int.reduceToNat]
       refine CallK.pure (c_hasF (chgR l r) [114, 105, 115, 107] hcl) rfl rfl (by simp [-List.map_take]) ?_
       simp (decide := true) only [TF, EV, q1, q2, hsm3, ↓reduceIte, Int.reduceToNat]
       refine hK _ _ ?_; clear hK K
       refine WP.meetQ ⟨[(0, .slice 6 nl (l.map Rule.cs) none), (4, .ref 0 0), (5, .ref 1 0), (7, .slice 1 (chgR l r).isEmpty ((chgR l r).map (fun x => [D.str x])) none), (8, .ref 2 0)], [(2, .box 25 [.str (if hasF (chgR l r) [117, 115, 101, 114] = true then r.user else q.user), .str (if hasF (chgR l r) [99, 108, 105, 101, 110, 116] = true then r.client else q.client), .str (if hasF (chgR l r) [116, 101, 110, 97, 110, 116] = true then r.tenant else q.tenant), .slice 1 (if hasF (chgR l r) [103, 114, 111, 117, 112] = true then r.ng else q.ng) ((if hasF (chgR l r) [103, 114, 111, 117, 112] = true then r.groups else q.groups).map fun x => [.str x]) none, .slice 1 r.ns (r.scopes.map fun x => [.str x]) none, .int .i64 (if hasF (chgR l r) [114, 105, 115, 107] = true then r.risk else q.risk), .bool r.trusted, .int .i64 r.level, .int .i64 r.auth, .int .i64 r.now]), (1, .box 25 [.str q.user, .str q.client, .str q.tenant, .slice 1 q.ng (q.groups.map fun x => [.str x]) none, .slice 1 q.ns (q.scopes.map fun x => [.str x]) none, .int .i64 q.risk, .bool q.trusted, .int .i64 q.level, .int .i64 q.auth, .int .i64 q.now]), (0, .box 25 [.str r.user, .str r.client, .str r.tenant, .slice 1 r.ng (r.groups.map fun x => [.str x]) none, .slice 1 r.ns (r.scopes.map fun x => [.str x]) none, .int .i64 r.risk, .bool r.trusted, .int .i64 r.level, .int .i64 r.auth, .int .i64 r.now])]⟩ ?_ ?_
       ·
        refine WP.cond (b := _) rfl (fun q7 => ?_) (fun q7 => ?_)
        ·
         simp only [Bool.not_eq_true', Bool.not_eq_false'] at q7
         refine WP.region (by kernel_rfl) fun K hK => ?_
         simp (decide := true) only [TF, EV, q1, q2, hsm3, q7, ↓reduceIte, Int.reduceToNat]
         refine hK _ _ ?_; clear hK K
         show Weak _ _ _
         exact Weak.store (by simp [St.get, lk, W, Le.refl, q1, q2, hsm3, q7]) (by simp [lk, W, q1, q2, hsm3, q7]) (by simp [lk, W]) (by simp [BClo, lk]) (by simp [lk])
        ·
         simp only [Bool.not_eq_true', Bool.not_eq_false'] at q7
         refine WP.skip ?_
         show Weak _ _ _
         exact Weak.store (by simp [St.get, lk, W, Le.refl, q1, q2, hsm3, q7]) (by simp [lk, W, q1, q2, hsm3, q7]) (by simp [lk, W]) (by simp [BClo, lk]) (by simp [lk])
       ·
        refine WP.seq ?_
        refine WP.sr [0, 4, 5, 8, 64] (by kernel_rfl) fun K hK => ?_
        simp (decide := true) only [TF, EV, q1, q2, hsm3, ↓reduceIte, Int.reduceToNat]
        refine CallK.pure (c_hasF (chgR l r) [116, 114, 117, 115, 116, 101, 100] hcl) rfl rfl (by simp [-List.map_take]) ?_
        simp (decide := true) only [TF, EV, q1, q2, hsm3, ↓reduceIte, Int.reduceToNat]
        refine hK _ _ ?_; clear hK K
        refine WP.meetQ ⟨[(0, .slice 6 nl (l.map Rule.cs) none), (4, .ref 0 0), (8, .ref 2 0)], [(2, .box 25 [.str (if hasF (chgR l r) [117, 115, 101, 114] = true then r.user else q.user), .str (if hasF (chgR l r) [99, 108, 105, 101, 110, 116] = true then r.client else q.client), .str (if hasF (chgR l r) [116, 101, 110, 97, 110, 116] = true then r.tenant else q.tenant), .slice 1 (if hasF (chgR l r) [103, 114, 111, 117, 112] = true then r.ng else q.ng) ((if hasF (chgR l r) [103, 114, 111, 117, 112] = true then r.groups else q.groups).map fun x => [.str x]) none, .slice 1 r.ns (r.scopes.map fun x => [.str x]) none, .int .i64 (if hasF (chgR l r) [114, 105, 115, 107] = true then r.risk else q.risk), .bool (if hasF (chgR l r) [116, 114, 117, 115, 116, 101, 100] = true then r.trusted else q.trusted), .int .i64 r.level, .int .i64 r.auth, .int .i64 r.now]), (1, .box 25 [.str q.user, .str q.client, .str q.tenant, .slice 1 q.ng (q.groups.map fun x => [.str x]) none, .slice 1 q.ns (q.scopes.map fun x => [.str x]) none, .int .i64 q.risk, .bool q.trusted, .int .i64 q.level, .int .i64 q.auth, .int .i64 q.now]), (0, .box 25 [.str r.user, .str r.client, .str r.tenant, .slice 1 r.ng (r.groups.map fun x => [.str x]) none, .slice 1 r.ns (r.scopes.map fun x => [.str x]) none, .int .i64 r.risk, .bool r.trusted, .int .i64 r.level, .int .i64 r.auth, .int .i64 r.now])]⟩ ?_ ?_
        ·
         refine WP.cond (b := _) rfl (fun q8 => ?_) (fun q8 => ?_)
         ·
          simp only [Bool.not_eq_true', Bool.not_eq_false'] at q8
          refine WP.region (by kernel_rfl) fun K hK => ?_
          simp (decide := true) only [TF, EV, q1, q2, hsm3, q8, ↓reduceIte, Int.reduceToNat]
          refine hK _ _ ?_; clear hK K
          show Weak _ _ _
          exact Weak.store (by simp [St.get, lk, W, Le.refl, q1, q2, hsm3, q8]) (by simp [lk, W, q1, q2, hsm3, q8]) (by simp [lk, W]) (by simp [BClo, lk]) (by simp [lk])
         ·
          simp only [Bool.not_eq_true', Bool.not_eq_false'] at q8
          refine WP.skip ?_
          show Weak _ _ _
          exact Weak.store (by simp [St.get, lk, W, Le.refl, q1, q2, hsm3, q8]) (by simp [lk, W, q1, q2, hsm3, q8]) (by simp [lk, W]) (by simp [BClo, lk]) (by simp [lk])
        ·
         refine WP.sd [6] (by kernel_rfl) (by kernel_rfl) fun K hK => ?_
         simp (decide := true) only [TF, EV, q1, q2, hsm3, ↓reduceIte, Int.reduceToNat]
         refine CallK.pure (c_run l nl (chq (chgR l r) r q) (by have := hN.few; omega) hnl hN3.ok hN3.rok hN3.hrs) rfl rfl (by simp [-List.map_take]) ?_
         simp (decide := true) only [TF, EV, q1, q2, hsm3, ↓reduceIte, Int.reduceToNat]
         refine CallK.pure (c_run l nl r (by have := hN.few; omega) hnl hN.ok hN.rok hN.hrs) rfl rfl (by simp [-List.map_take]) ?_
         simp (decide := true) only [TF, EV, q1, q2, hsm3, ↓reduceIte, Int.reduceToNat]
         refine CallK.pure (c_same31 (runD l (chq (chgR l r) r q)) (runD l r) hrk3 hrk) rfl rfl (by simp [-List.map_take]) ?_
         simp (decide := true) only [TF, EV, q1, q2, hsm3, ↓reduceIte, Int.reduceToNat]
         refine hK _ _ (by kernel_rfl) ?_
         clear hK K
         refine WP.ret ?_
         exact Ends.pure (.inr rfl) rfl (Le.of_eq (by simp (decide := true) only [St.get, lk, W, q1, q2, hsm3, ↓reduceIte])) (by simp)
end Go.Proofs
set_option linter.unusedVariables false
set_option maxRecDepth 100000
namespace Go.Proofs.YtahpinmifmdpgaaGreatDoor.RwChanges
open Go Go.Id Go.Proofs Go.ChangeShapes Go.ChangeMaps Go.WideShapes Go.ChangeAt Go.RowKit Go.Proofs.YtahpinmifmdpgaaGreatDoor.Rw
theorem contract (H : Type) (enc : TypeId × Value → H) (W : World) (base : Nat) (args : Array Value) (ds gs : List (DataW H)) (before : List MemPlace)
    (hval : ∀ (j : Nat) t v, Tryz.f6.params[j]? = some t → args[j]? = some v → Value.okWide Tryz.prog W .any base t v)
    (hW : DataW.Whole enc Tryz.prog Tryz.f6.params.toList Rows.decideChangesSpec.vars false W args.toList ds gs before) (hL : laidMetH Tryz.prog laidL W) (hS : W.ShapedOpen Tryz.prog) :
    Calls Tryz.prog 6 args W fun e W' => ∃ v, e = .returned v ∧ Rows.decideChangesSpec.post enc Tryz.prog Tryz.f6 false true false false W args v W' := by
  have hW' := hW
  obtain ⟨p, q, hA0, hV, rfl, hfz, hnd⟩ := hW
  have hA : DataW.TrodAll enc Tryz.prog W 0 (fun _ => true) true Tryz.f6.params.toList args.toList ds p := hA0
  rw [Tryz.params6] at hA hval
  obtain ⟨al⟩ := args
  dsimp only at hA
  obtain ⟨v0, _, d0, _, p_0, _, rfl, rfl, rfl, h0, hA⟩ := trodAll_cons hA
  obtain ⟨v1, _, d1, _, p_1, _, rfl, rfl, rfl, h1, hA⟩ := trodAll_cons hA
  obtain ⟨v2, _, d2, _, p_2, _, rfl, rfl, rfl, h2, hA⟩ := trodAll_cons hA
  obtain ⟨rfl, rfl, rfl⟩ := trodAll_nil hA
  obtain ⟨rfl, rfl⟩ := trodVars_none hV
  obtain ⟨l0, nl0, hn0, hnl0, hb0, hr0, r0⟩ := arg_rules (hval 0 22 v0 rfl rfl) h0
  obtain ⟨q1, hb1, r1⟩ := arg_req (hval 1 25 v1 rfl rfl) h1
  obtain ⟨q2, hb2, r2⟩ := arg_req (hval 2 25 v2 rfl rfl) h2
  refine (CallP.run (c_l_changes l0 nl0 hn0 hnl0 hb0 hr0 q1 q2 hb1 hb2) W (polI_of hL hS) (heap_of hS) [v0, v1, v2] rfl (Rw.consR r0 (Rw.consR r1 (Rw.one r2)))).mono ?_
  rintro e W' ⟨v, rfl, hr, hb⟩
  cases hr
  exact ⟨_, rfl, post_all hW' rfl hb (of_decide_eq_true (by kernel_rfl)) (by kernel_rfl) rfl rfl rfl⟩
abbrev wit : Array Value := #[.slice none 0 0, .agg #[.string ⟨#[]⟩, .string ⟨#[]⟩, .string ⟨#[]⟩, .slice none 0 0, .slice none 0 0, .int .i64 0, .bool false, .int .i64 0, .int .i64 0, .int .i64 0], .agg #[.string ⟨#[]⟩, .string ⟨#[]⟩, .string ⟨#[]⟩, .slice none 0 0, .slice none 0 0, .int .i64 0, .bool false, .int .i64 0, .int .i64 0, .int .i64 0]]
theorem reads (os : Os) {H : Type} (enc : TypeId × Value → H) : (DataW.whole enc Tryz.prog (memW os wit) Tryz.f6.params.toList Rows.decideChangesSpec.vars false wit.toList 8).map (fun x => (x.1, x.2.1)) = some ([.nil, .agg [.lit (.string []), .lit (.string []), .lit (.string []), .nil, .nil, .lit (.int .i64 0), .lit (.bool false), .lit (.int .i64 0), .lit (.int .i64 0), .lit (.int .i64 0)], .agg [.lit (.string []), .lit (.string []), .lit (.string []), .nil, .nil, .lit (.int .i64 0), .lit (.bool false), .lit (.int .i64 0), .lit (.int .i64 0), .lit (.int .i64 0)]], []) := by kernel_rfl
theorem lifted (os : Os) (started : os.Started) (H : Type) (enc : TypeId × Value → H) (F : Stop.Interp) :
    ReturnsInHanded {} Tryz.checked os 6 .any ((OpenSpec.ofChange Rows.decideChangesSpec).preRow enc Tryz.prog Tryz.f6 Rows.decideChangesRow.domain false Rows.decideChangesRow.laid) (((OpenSpec.ofChange Rows.decideChangesSpec).at F).post enc Tryz.prog Tryz.f6 false true false false) := by
  obtain ⟨⟨x1, x2, x3⟩, hx, hx1⟩ := Option.map_eq_some_iff.1 (reads os enc)
  simp only [Prod.mk.injEq] at hx1
  obtain ⟨rfl, rfl⟩ := hx1
  refine returnsInHanded_of_row (C := Tryz.checked) (s := OpenSpec.ofChange Rows.decideChangesSpec) own started (by kernel_rfl) Tryz.func6
    (witness_row_atRef (enc := enc) (C := Tryz.checked) false (laidWorld os) wit rfl (by kernel_rfl) (by kernel_rfl) (by kernel_rfl)
      (OpenSpec.preRow_of_cond 8 hx (by kernel_rfl) (fun k hk => by cases hk) (by kernel_rfl) (laid_met os _))) ?_
  intro W base args ds gs before hval hW _ _ _ hL hS _
  exact contract H enc W base args ds gs before hval hW hL hS
theorem said : Rows.DecideChangesSaid :=
  OpenClaim.holds_of_cond 6 Tryz.f6 rfl rfl rfl rfl rfl rfl rfl ⟨rfl, rfl, rfl, rfl, rfl⟩ rfl rfl rfl rfl rfl (by kernel_rfl) Tryz.func6 (by kernel_rfl)
    (of_decide_eq_true (by kernel_rfl)) (by unfold Func.isWrapper; first | (rw [if_pos (by decide +kernel)]; kernel_rfl) | (rw [if_neg (by decide +kernel)]; exact ⟨rfl, rfl⟩))
    (fun os started H enc _ F => by rw [OpenClaim.pre_eq_preRow]; exact lifted os started H enc F)
theorem plain (f : FuncId) (fn : Func) (hf : Tryz.pinned.checked.prog.funcNamed Rows.decideChangesRow.func = some f) (hfn : Tryz.pinned.checked.prog.funcs[f]? = some fn) :
    true = Tryz.pinned.checked.prog.looks [] ∧ ∀ (j : Nat) t, fn.params[j]? = some t → Tryz.pinned.checked.prog.wantsStandIn t = false := by
  obtain rfl : f = 6 := Option.some.inj ((show Tryz.prog.funcNamed Rows.decideChangesRow.func = some 6 by kernel_rfl).symm.trans hf) |>.symm
  obtain rfl : fn = Tryz.f6 := (Option.some.inj (Tryz.func6.symm.trans hfn)).symm
  refine ⟨by kernel_rfl, fun j t ht => ?_⟩
  have hall : (Tryz.f6.params.toList.all fun t => Tryz.prog.wantsStandIn t == false) = true := by kernel_rfl
  exact eq_of_beq (List.all_eq_true.1 hall t (by simpa using Array.mem_of_getElem? ht))
theorem card : Rows.DecideChangesCardSaid :=
  Claim7.holds_tied_plain_at .later [] _ _ _ _ said (fun _ h => by cases h) (by kernel_rfl) (fun _ h => by cases h) decideChanges_row_tie rfl ⟨rfl, rfl⟩ (by kernel_rfl) rfl plain (by kernel_rfl)
end Go.Proofs.YtahpinmifmdpgaaGreatDoor.RwChanges
#print axioms Go.Proofs.YtahpinmifmdpgaaGreatDoor.RwChanges.card
