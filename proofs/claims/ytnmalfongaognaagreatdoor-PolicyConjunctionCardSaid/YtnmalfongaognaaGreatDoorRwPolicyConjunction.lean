/- First is -1 exactly if all conditions hold, and a field that no condition mentions does not matter. Conditions: none, the given statement. -/
import Derived.Test.YtnmalfongaognaaGreatDoorG09
import Derived.Test.YtnmalfongaognaaGreatDoorG07
import Derived.Test.YtnmalfongaognaaGreatDoorG08
import Derived.ChangeMaps5
set_option linter.unusedSimpArgs false
set_option linter.unusedVariables false
set_option maxRecDepth 10000
namespace Go.Proofs
open Go Go.Id
set_option maxHeartbeats 4000000
theorem mx21 : max 2 1 = 2 := rfl
theorem mx32 : max 3 2 = 3 := rfl

theorem c_l_conj (p : Rule) (r q : Req) (hpb : p.big) (hrb : r.big) (hqb : q.big) : CallP Pr 9 [.agg [.str p.name, .bool p.deny, .slice 3 p.nc (p.conds.map Cond.cs) none, .slice 1 p.ns (p.scopes.map fun x => [.str x]) none, .int .i64 p.lvl, .int .i64 p.age], .agg [.str r.user, .str r.client, .str r.tenant, .slice 1 r.ng (r.groups.map fun x => [.str x]) none, .slice 1 r.ns (r.scopes.map fun x => [.str x]) none, .int .i64 r.risk, .bool r.trusted, .int .i64 r.level, .int .i64 r.auth, .int .i64 r.now], .agg [.str q.user, .str q.client, .str q.tenant, .slice 1 q.ng (q.groups.map fun x => [.str x]) none, .slice 1 q.ns (q.scopes.map fun x => [.str x]) none, .int .i64 q.risk, .bool q.trusted, .int .i64 q.level, .int .i64 q.auth, .int .i64 q.now]] (.bool true) := by
 have hg1 := firstL_rg r p.conds 0
 have hk2 : decide (firstL r p.conds 0 < -1) = false := by simp; omega
 have hk3 : decide (firstL r p.conds 0 ≥ (p.conds.length : Int)) = false := by simp; omega
 refine CallP.of_wp Tryz.func9 rfl (by kernel_rfl) Tryz.ntmps9 (by simp) ?_
 simp only [frameOf, Nat.reduceAdd, Nat.zero_add]
 refine WP.sr [3, 4, 5] (by kernel_rfl) fun K hK => ?_
 simp (decide := true) only [TF, EV, hk2, hk3, Nat.reduceAdd, mx21, mx32, ↓reduceIte, Int.reduceToNat]
 refine hK _ _ ?_; clear hK K
 refine WP.seq ?_
 refine WP.sr [3, 4, 5, 23] (by kernel_rfl) fun K hK => ?_
 simp (decide := true) only [TF, EV, hk2, hk3, Nat.reduceAdd, mx21, mx32, ↓reduceIte, Int.reduceToNat]
 refine CallK.pure (c_lrule p hpb) rfl rfl (by simp [-List.map_take]) ?_
 refine runOps.take 2 fun J hJ => ?_
 simp (decide := true) only [TF, EV, hk2, hk3, Nat.reduceAdd, mx21, mx32, ↓reduceIte, Int.reduceToNat]
 refine hJ _ _ ?_; clear hJ J
 refine runOps.part 14 rfl (fun q1 => ?_) (fun q1 => ?_)
 ·
  simp only [Bool.not_eq_true', Bool.not_eq_false'] at q1
  simp (decide := true) only [TF, EV, hk2, hk3, q1, Nat.reduceAdd, mx21, mx32, ↓reduceIte, Int.reduceToNat]
  refine hK _ _ ?_; clear hK K
  refine WP.cond (b := true) (by rfl) (fun _ => ?_) nofun
  refine WP.sr [6] (by kernel_rfl) fun K hK => ?_
  simp (decide := true) only [TF, EV, hk2, hk3, q1, Nat.reduceAdd, mx21, mx32, ↓reduceIte, Int.reduceToNat]
  refine CallK.pure (c_alive) rfl rfl (by simp [-List.map_take]) ?_
  simp (decide := true) only [TF, EV, hk2, hk3, q1, Nat.reduceAdd, mx21, mx32, ↓reduceIte, Int.reduceToNat]
  refine hK _ _ ?_; clear hK K
  refine WP.ret ?_
  exact Ends.pure (.inr rfl) rfl (Le.of_eq (by simp (decide := true) only [St.get, lk, W, hk2, hk3, q1, ↓reduceIte])) (by simp)
 ·
  simp only [Bool.not_eq_true', Bool.not_eq_false'] at q1
  have hp : p.ok := rule_ok (by simpa using q1) hpb
  have hp1 := hp.1.1
  simp (decide := true) only [TF, EV, hk2, hk3, q1, Nat.reduceAdd, mx21, mx32, ↓reduceIte, Int.reduceToNat]
  refine CallK.pure (c_asked r hrb) rfl rfl (by simp [-List.map_take]) ?_
  refine runOps.take 3 fun J hJ => ?_
  simp (decide := true) only [TF, EV, hk2, hk3, q1, Nat.reduceAdd, mx21, mx32, ↓reduceIte, Int.reduceToNat]
  refine hJ _ _ ?_; clear hJ J
  refine runOps.part 19 rfl (fun q2 => ?_) (fun q2 => ?_)
  ·
   simp (decide := true) only [TF, EV, hk2, hk3, q1, q2, Nat.reduceAdd, mx21, mx32, ↓reduceIte, Int.reduceToNat]
   refine hK _ _ ?_; clear hK K
   refine WP.cond (b := true) (by rfl) (fun _ => ?_) nofun
   refine WP.sr [6] (by kernel_rfl) fun K hK => ?_
   simp (decide := true) only [TF, EV, hk2, hk3, q1, q2, Nat.reduceAdd, mx21, mx32, ↓reduceIte, Int.reduceToNat]
   refine CallK.pure (c_alive) rfl rfl (by simp [-List.map_take]) ?_
   simp (decide := true) only [TF, EV, hk2, hk3, q1, q2, Nat.reduceAdd, mx21, mx32, ↓reduceIte, Int.reduceToNat]
   refine hK _ _ ?_; clear hK K
   refine WP.ret ?_
   exact Ends.pure (.inr rfl) rfl (Le.of_eq (by simp (decide := true) only [St.get, lk, W, hk2, hk3, q1, q2, ↓reduceIte])) (by simp)
  ·
   have hr : r.ok := asked_ok (by simpa using q2) hrb
   simp (decide := true) only [TF, EV, hk2, hk3, q1, q2, Nat.reduceAdd, mx21, mx32, ↓reduceIte, Int.reduceToNat]
   refine CallK.pure (c_asked q hqb) rfl rfl (by simp [-List.map_take]) ?_
   simp (decide := true) only [TF, EV, hk2, hk3, q1, q2, Nat.reduceAdd, mx21, mx32, ↓reduceIte, Int.reduceToNat]
   refine hK _ _ ?_; clear hK K
   refine WP.cond (b := _) rfl (fun q3 => ?_) (fun q3 => ?_)
   ·
    refine WP.sr [6] (by kernel_rfl) fun K hK => ?_
    simp (decide := true) only [TF, EV, hk2, hk3, q1, q2, q3, Nat.reduceAdd, mx21, mx32, ↓reduceIte, Int.reduceToNat]
    refine CallK.pure (c_alive) rfl rfl (by simp [-List.map_take]) ?_
    simp (decide := true) only [TF, EV, hk2, hk3, q1, q2, q3, Nat.reduceAdd, mx21, mx32, ↓reduceIte, Int.reduceToNat]
    refine hK _ _ ?_; clear hK K
    refine WP.ret ?_
    exact Ends.pure (.inr rfl) rfl (Le.of_eq (by simp (decide := true) only [St.get, lk, W, hk2, hk3, q1, q2, q3, ↓reduceIte])) (by simp)
   ·
    have hq : q.ok := asked_ok (by simpa using q3) hqb
    refine WP.skip ?_
    show WP _ _ _ _ _ _
    refine WP.sr [3, 4, 5, 7] (by kernel_rfl) fun K hK => ?_
    simp (decide := true) only [TF, EV, hk2, hk3, q1, q2, q3, Nat.reduceAdd, mx21, mx32, ↓reduceIte, Int.reduceToNat]
    refine CallK.pure (c_first p r hp hr) rfl rfl (by simp [-List.map_take]) ?_
    simp (decide := true) only [TF, EV, hk2, hk3, q1, q2, q3, Nat.reduceAdd, mx21, mx32, ↓reduceIte, Int.reduceToNat]
    refine hK _ _ ?_; clear hK K
    refine WP.seq ?_
    refine WP.sr [3, 4, 5, 7, 36] (by kernel_rfl) fun K hK => ?_
    simp (decide := true) only [TF, EV, hk2, hk3, q1, q2, q3, Nat.reduceAdd, mx21, mx32, ↓reduceIte, Int.reduceToNat]
    refine hK _ _ ?_; clear hK K
    refine WP.cond (b := false) (by rfl) nofun (fun _ => ?_)
    refine WP.skip ?_
    show WP _ _ _ _ _ _
    refine WP.seq ?_
    refine WP.sr [3, 4, 5, 7, 8] (by kernel_rfl) fun K hK => ?_
    simp (decide := true) only [TF, EV, hk2, hk3, q1, q2, q3, Nat.reduceAdd, mx21, mx32, ↓reduceIte, Int.reduceToNat]
    refine hK _ _ ?_; clear hK K
    refine WP.block ?_
    refine WP.lp [3, 4, 5, 7] (X := {k : Nat // k ≤ p.conds.length ∧ True}) (fun x => match x with | ⟨(k), _⟩ => [(8, .int .i64 k)]) (fun x => match x with | ⟨(k), _⟩ => [(0, .box 36 [.str p.name, .bool p.deny, .slice 3 p.nc (p.conds.map Cond.cs) none, .slice 1 p.ns (p.scopes.map fun x => [.str x]) none, .int .i64 p.lvl, .int .i64 p.age]), (1, .box 38 [.str r.user, .str r.client, .str r.tenant, .slice 1 r.ng (r.groups.map fun x => [.str x]) none, .slice 1 r.ns (r.scopes.map fun x => [.str x]) none, .int .i64 r.risk, .bool r.trusted, .int .i64 r.level, .int .i64 r.auth, .int .i64 r.now]), (2, .box 38 [.str q.user, .str q.client, .str q.tenant, .slice 1 q.ng (q.groups.map fun x => [.str x]) none, .slice 1 q.ns (q.scopes.map fun x => [.str x]) none, .int .i64 q.risk, .bool q.trusted, .int .i64 q.level, .int .i64 q.auth, .int .i64 q.now])]) (fun x => match x with | ⟨(k), _⟩ => p.conds.length - k) (by simp (decide := true) only [W, ↓reduceIte, Int.reduceToNat]; rfl) ?_ ⟨(0), ⟨Nat.zero_le _, by simp⟩⟩ ?_
    rotate_left
    · exact Weak.store (by simp [St.get, lk, W, Le.refl, hk2, hk3, q1, q2, q3]) (by simp [lk, W, hk2, hk3, q1, q2, q3]) (by simp [lk, W]) (by simp [BClo, lk]) (by simp [lk])
    rintro ⟨k, hk, hI⟩
    dsimp only
    simp only [List.cons_append, List.nil_append]
    refine WP.seq ?_
    refine WP.sr [3, 4, 5, 7, 8, 41] (by kernel_rfl) fun K hK => ?_
    simp (decide := true) only [TF, EV, hk2, hk3, q1, q2, q3, hk, Nat.reduceAdd, mx21, mx32, ↓reduceIte, Int.reduceToNat]
    refine hK _ _ ?_; clear hK K
    refine WP.cond (b := _) rfl (fun q4 => ?_) (fun q4 => ?_)
    ·
     have hlt := lt_of_q q4
     have hg : (p.conds.map Cond.cs)[k]? = some [.str p.conds[k].f, .str p.conds[k].op, .str p.conds[k].v] := getM hlt
     have hnf := nl_false hp.1.2.1 hlt
     have hF := firstL_at r p.conds 0 k hlt (Int.le_refl 0)
     refine WP.skip ?_
     show WP _ _ _ _ _ _
     refine WP.seq ?_
     refine WP.block ?_
     refine WP.sd [3, 4, 5, 7, 8, 9] (by kernel_rfl) (by kernel_rfl) fun K hK => ?_
     simp (decide := true) only [TF, EV, hk2, hk3, q1, q2, q3, hk, q4, hg, hnf, Nat.reduceAdd, mx21, mx32, ↓reduceIte, Int.reduceToNat]
     refine CallK.pure (c_holds p.conds[k] r (hp.2.2.1 _ (List.getElem_mem hlt)) hr) rfl rfl (by simp [-List.map_take]) ?_
     simp (decide := true) only [TF, EV, hk2, hk3, q1, q2, q3, hk, q4, hg, hnf, Nat.reduceAdd, mx21, mx32, ↓reduceIte, Int.reduceToNat]
     refine hK _ _ (by kernel_rfl) ?_
     clear hK K
     refine WP.sr [3, 4, 5, 7, 8, 69] (by kernel_rfl) fun K hK => ?_
     refine runOps.take 3 fun J hJ => ?_
     simp (decide := true) only [TF, EV, hk2, hk3, q1, q2, q3, hk, q4, hg, hnf, Nat.reduceAdd, mx21, mx32, ↓reduceIte, Int.reduceToNat]
     refine hJ _ _ ?_; clear hJ J
     refine runOps.part 53 rfl (fun q5 => ?_) (fun q5 => ?_)
     ·
      have hh : holdsB p.conds[k] r = true := hF.1 (.inl (by simpa using q5))
      have hh2 : ((k : Int) == firstL r p.conds 0) = false := by have := of_decide_eq_true q5; simp; omega
      simp (decide := true) only [TF, EV, hk2, hk3, q1, q2, q3, hk, q4, hg, hnf, q5, hh, hh2, Nat.reduceAdd, mx21, mx32, ↓reduceIte, Int.reduceToNat]
      refine hK _ _ ?_; clear hK K
      refine WP.cond (b := false) (by rfl) nofun (fun _ => ?_)
      refine WP.skip ?_
      show WP _ _ _ _ _ _
      refine WP.region (by kernel_rfl) fun K hK => ?_
      simp (decide := true) only [TF, EV, hk2, hk3, q1, q2, q3, hk, q4, hg, hnf, q5, hh, hh2, Nat.reduceAdd, mx21, mx32, ↓reduceIte, Int.reduceToNat]
      refine hK _ _ ?_; clear hK K
      show ∃ y, _ ∧ Weak _ _ _
      refine ⟨⟨k + 1, ?_⟩, ?_, ?_⟩
      · exact ⟨by omega, True.intro⟩
      · dsimp only; omega
      · exact Weak.store (by simp [St.get, lk, W, Le.refl, hk2, hk3, q1, q2, q3, hk, q4, hg, hnf, q5, hh, hh2, wrapS hlt (show p.conds.length ≤ 140737488355328 by omega)]) (by simp [lk, W, hk2, hk3, q1, q2, q3, hk, q4, hg, hnf, q5, hh, hh2, wrapS hlt (show p.conds.length ≤ 140737488355328 by omega)]) (by simp [lk, W]) (by simp [BClo, lk]) (by simp [lk])
     ·
      refine runOps.take 5 fun J hJ => ?_
      simp (decide := true) only [TF, EV, hk2, hk3, q1, q2, q3, hk, q4, hg, hnf, q5, Nat.reduceAdd, mx21, mx32, ↓reduceIte, Int.reduceToNat]
      refine hJ _ _ ?_; clear hJ J
      refine runOps.part 58 rfl (fun q6 => ?_) (fun q6 => ?_)
      ·
       have hh : holdsB p.conds[k] r = true := hF.1 (.inr (by have := of_decide_eq_true q6; omega))
       have hh2 : ((k : Int) == firstL r p.conds 0) = false := by have := of_decide_eq_true q6; simp; omega
       simp (decide := true) only [TF, EV, hk2, hk3, q1, q2, q3, hk, q4, hg, hnf, q5, q6, hh, hh2, Nat.reduceAdd, mx21, mx32, ↓reduceIte, Int.reduceToNat]
       refine hK _ _ ?_; clear hK K
       refine WP.cond (b := false) (by rfl) nofun (fun _ => ?_)
       refine WP.skip ?_
       show WP _ _ _ _ _ _
       refine WP.region (by kernel_rfl) fun K hK => ?_
       simp (decide := true) only [TF, EV, hk2, hk3, q1, q2, q3, hk, q4, hg, hnf, q5, q6, hh, hh2, Nat.reduceAdd, mx21, mx32, ↓reduceIte, Int.reduceToNat]
       refine hK _ _ ?_; clear hK K
       show ∃ y, _ ∧ Weak _ _ _
       refine ⟨⟨k + 1, ?_⟩, ?_, ?_⟩
       · exact ⟨by omega, True.intro⟩
       · dsimp only; omega
       · exact Weak.store (by simp [St.get, lk, W, Le.refl, hk2, hk3, q1, q2, q3, hk, q4, hg, hnf, q5, q6, hh, hh2, wrapS hlt (show p.conds.length ≤ 140737488355328 by omega)]) (by simp [lk, W, hk2, hk3, q1, q2, q3, hk, q4, hg, hnf, q5, q6, hh, hh2, wrapS hlt (show p.conds.length ≤ 140737488355328 by omega)]) (by simp [lk, W]) (by simp [BClo, lk]) (by simp [lk])
      ·
       refine runOps.take 8 fun J hJ => ?_
       simp (decide := true) only [TF, EV, hk2, hk3, q1, q2, q3, hk, q4, hg, hnf, q5, q6, Nat.reduceAdd, mx21, mx32, ↓reduceIte, Int.reduceToNat]
       refine hJ _ _ ?_; clear hJ J
       refine runOps.part 66 rfl (fun q7 => ?_) (fun q7 => ?_)
       ·
        have hh : holdsB p.conds[k] r = false := hF.2 (by have hkk := eq_of_beq q7; omega)
        simp (decide := true) only [TF, EV, hk2, hk3, q1, q2, q3, hk, q4, hg, hnf, q5, q6, q7, hh, Nat.reduceAdd, mx21, mx32, ↓reduceIte, Int.reduceToNat]
        refine hK _ _ ?_; clear hK K
        refine WP.cond (b := false) (by rfl) nofun (fun _ => ?_)
        refine WP.skip ?_
        show WP _ _ _ _ _ _
        refine WP.region (by kernel_rfl) fun K hK => ?_
        simp (decide := true) only [TF, EV, hk2, hk3, q1, q2, q3, hk, q4, hg, hnf, q5, q6, q7, hh, Nat.reduceAdd, mx21, mx32, ↓reduceIte, Int.reduceToNat]
        refine hK _ _ ?_; clear hK K
        show ∃ y, _ ∧ Weak _ _ _
        refine ⟨⟨k + 1, ?_⟩, ?_, ?_⟩
        · exact ⟨by omega, True.intro⟩
        · dsimp only; omega
        · exact Weak.store (by simp [St.get, lk, W, Le.refl, hk2, hk3, q1, q2, q3, hk, q4, hg, hnf, q5, q6, q7, hh, wrapS hlt (show p.conds.length ≤ 140737488355328 by omega)]) (by simp [lk, W, hk2, hk3, q1, q2, q3, hk, q4, hg, hnf, q5, q6, q7, hh, wrapS hlt (show p.conds.length ≤ 140737488355328 by omega)]) (by simp [lk, W]) (by simp [BClo, lk]) (by simp [lk])
       ·
        simp (decide := true) only [TF, EV, hk2, hk3, q1, q2, q3, hk, q4, hg, hnf, q5, q6, q7, Nat.reduceAdd, mx21, mx32, ↓reduceIte, Int.reduceToNat]
        refine hK _ _ ?_; clear hK K
        refine WP.cond (b := false) (by rfl) nofun (fun _ => ?_)
        refine WP.skip ?_
        show WP _ _ _ _ _ _
        refine WP.region (by kernel_rfl) fun K hK => ?_
        simp (decide := true) only [TF, EV, hk2, hk3, q1, q2, q3, hk, q4, hg, hnf, q5, q6, q7, Nat.reduceAdd, mx21, mx32, ↓reduceIte, Int.reduceToNat]
        refine hK _ _ ?_; clear hK K
        show ∃ y, _ ∧ Weak _ _ _
        refine ⟨⟨k + 1, ?_⟩, ?_, ?_⟩
        · exact ⟨by omega, True.intro⟩
        · dsimp only; omega
        · exact Weak.store (by simp [St.get, lk, W, Le.refl, hk2, hk3, q1, q2, q3, hk, q4, hg, hnf, q5, q6, q7, wrapS hlt (show p.conds.length ≤ 140737488355328 by omega)]) (by simp [lk, W, hk2, hk3, q1, q2, q3, hk, q4, hg, hnf, q5, q6, q7, wrapS hlt (show p.conds.length ≤ 140737488355328 by omega)]) (by simp [lk, W]) (by simp [BClo, lk]) (by simp [lk])
    ·
     have hge := ge_of_q q4
     refine WP.exit ?_
     show WP _ _ _ _ _ _
     refine WP.sr [3, 5, 7, 10] (by kernel_rfl) fun K hK => ?_
     simp (decide := true) only [TF, EV, hk2, hk3, q1, q2, q3, hk, q4, Nat.reduceAdd, mx21, mx32, ↓reduceIte, Int.reduceToNat]
     refine hK _ _ ?_; clear hK K
     refine WP.seq ?_
     refine WP.sr [3, 5, 7, 10, 73] (by kernel_rfl) fun K hK => ?_
     simp (decide := true) only [TF, EV, hk2, hk3, q1, q2, q3, hk, q4, Nat.reduceAdd, mx21, mx32, ↓reduceIte, Int.reduceToNat]
     refine CallK.pure (c_mentions p [117, 115, 101, 114] [117, 115, 101, 114] hp.1) rfl rfl (by simp [-List.map_take]) ?_
     simp (decide := true) only [TF, EV, hk2, hk3, q1, q2, q3, hk, q4, Nat.reduceAdd, mx21, mx32, ↓reduceIte, Int.reduceToNat]
     refine hK _ _ ?_; clear hK K
     refine WP.meetQ ⟨[(3, .ref 0 0), (5, .ref 2 0), (7, .int .i64 (firstL r p.conds 0)), (10, .ref 3 0)], [(0, .box 36 [.str p.name, .bool p.deny, .slice 3 p.nc (p.conds.map Cond.cs) none, .slice 1 p.ns (p.scopes.map fun x => [.str x]) none, .int .i64 p.lvl, .int .i64 p.age]), (1, .box 38 [.str r.user, .str r.client, .str r.tenant, .slice 1 r.ng (r.groups.map fun x => [.str x]) none, .slice 1 r.ns (r.scopes.map fun x => [.str x]) none, .int .i64 r.risk, .bool r.trusted, .int .i64 r.level, .int .i64 r.auth, .int .i64 r.now]), (2, .box 38 [.str q.user, .str q.client, .str q.tenant, .slice 1 q.ng (q.groups.map fun x => [.str x]) none, .slice 1 q.ns (q.scopes.map fun x => [.str x]) none, .int .i64 q.risk, .bool q.trusted, .int .i64 q.level, .int .i64 q.auth, .int .i64 q.now]), (3, .box 38 [.str (if mentB [117, 115, 101, 114] [117, 115, 101, 114] p.conds then r.user else q.user), .str r.client, .str r.tenant, .slice 1 r.ng (r.groups.map fun x => [.str x]) none, .slice 1 r.ns (r.scopes.map fun x => [.str x]) none, .int .i64 r.risk, .bool r.trusted, .int .i64 r.level, .int .i64 r.auth, .int .i64 r.now])]⟩ ?_ ?_
     ·
      refine WP.cond (b := _) rfl (fun q8 => ?_) (fun q8 => ?_)
      ·
       simp only [Bool.not_eq_true', Bool.not_eq_false'] at q8
       refine WP.region (by kernel_rfl) fun K hK => ?_
       simp (decide := true) only [TF, EV, hk2, hk3, q1, q2, q3, hk, q4, q8, Nat.reduceAdd, mx21, mx32, ↓reduceIte, Int.reduceToNat]
       refine hK _ _ ?_; clear hK K
       show Weak _ _ _
       exact Weak.store (by simp [St.get, lk, W, Le.refl, hk2, hk3, q1, q2, q3, hk, q4, q8]) (by simp [lk, W, hk2, hk3, q1, q2, q3, hk, q4, q8]) (by simp [lk, W]) (by simp [BClo, lk]) (by simp [lk])
      ·
       simp only [Bool.not_eq_true', Bool.not_eq_false'] at q8
       refine WP.skip ?_
       show Weak _ _ _
       exact Weak.store (by simp [St.get, lk, W, Le.refl, hk2, hk3, q1, q2, q3, hk, q4, q8]) (by simp [lk, W, hk2, hk3, q1, q2, q3, hk, q4, q8]) (by simp [lk, W]) (by simp [BClo, lk]) (by simp [lk])
     ·
      refine WP.seq ?_
      refine WP.sr [3, 5, 7, 10, 79] (by kernel_rfl) fun K hK => ?_
      simp (decide := true) only [TF, EV, hk2, hk3, q1, q2, q3, hk, q4, Nat.reduceAdd, mx21, mx32, ↓reduceIte, Int.reduceToNat]
      refine CallK.pure (c_mentions p [103, 114, 111, 117, 112] [103, 114, 111, 117, 112] hp.1) rfl rfl (by simp [-List.map_take]) ?_
      simp (decide := true) only [TF, EV, hk2, hk3, q1, q2, q3, hk, q4, Nat.reduceAdd, mx21, mx32, ↓reduceIte, Int.reduceToNat]
      refine hK _ _ ?_; clear hK K
      refine WP.meetQ ⟨[(3, .ref 0 0), (5, .ref 2 0), (7, .int .i64 (firstL r p.conds 0)), (10, .ref 3 0)], [(0, .box 36 [.str p.name, .bool p.deny, .slice 3 p.nc (p.conds.map Cond.cs) none, .slice 1 p.ns (p.scopes.map fun x => [.str x]) none, .int .i64 p.lvl, .int .i64 p.age]), (1, .box 38 [.str r.user, .str r.client, .str r.tenant, .slice 1 r.ng (r.groups.map fun x => [.str x]) none, .slice 1 r.ns (r.scopes.map fun x => [.str x]) none, .int .i64 r.risk, .bool r.trusted, .int .i64 r.level, .int .i64 r.auth, .int .i64 r.now]), (2, .box 38 [.str q.user, .str q.client, .str q.tenant, .slice 1 q.ng (q.groups.map fun x => [.str x]) none, .slice 1 q.ns (q.scopes.map fun x => [.str x]) none, .int .i64 q.risk, .bool q.trusted, .int .i64 q.level, .int .i64 q.auth, .int .i64 q.now]), (3, .box 38 [.str (if mentB [117, 115, 101, 114] [117, 115, 101, 114] p.conds then r.user else q.user), .str r.client, .str r.tenant, .slice 1 (if mentB [103, 114, 111, 117, 112] [103, 114, 111, 117, 112] p.conds then r.ng else q.ng) ((if mentB [103, 114, 111, 117, 112] [103, 114, 111, 117, 112] p.conds then r.groups else q.groups).map fun x => [.str x]) none, .slice 1 r.ns (r.scopes.map fun x => [.str x]) none, .int .i64 r.risk, .bool r.trusted, .int .i64 r.level, .int .i64 r.auth, .int .i64 r.now])]⟩ ?_ ?_
      ·
       refine WP.cond (b := _) rfl (fun q9 => ?_) (fun q9 => ?_)
       ·
        simp only [Bool.not_eq_true', Bool.not_eq_false'] at q9
        refine WP.region (by kernel_rfl) fun K hK => ?_
        simp (decide := true) only [TF, EV, hk2, hk3, q1, q2, q3, hk, q4, q9, Nat.reduceAdd, mx21, mx32, ↓reduceIte, Int.reduceToNat]
        refine hK _ _ ?_; clear hK K
        show Weak _ _ _
        exact Weak.store (by simp [St.get, lk, W, Le.refl, hk2, hk3, q1, q2, q3, hk, q4, q9]) (by simp [lk, W, hk2, hk3, q1, q2, q3, hk, q4, q9]) (by simp [lk, W]) (by simp [BClo, lk]) (by simp [lk])
       ·
        simp only [Bool.not_eq_true', Bool.not_eq_false'] at q9
        refine WP.skip ?_
        show Weak _ _ _
        exact Weak.store (by simp [St.get, lk, W, Le.refl, hk2, hk3, q1, q2, q3, hk, q4, q9]) (by simp [lk, W, hk2, hk3, q1, q2, q3, hk, q4, q9]) (by simp [lk, W]) (by simp [BClo, lk]) (by simp [lk])
      ·
       refine WP.seq ?_
       refine WP.sr [3, 5, 7, 10, 85] (by kernel_rfl) fun K hK => ?_
       simp (decide := true) only [TF, EV, hk2, hk3, q1, q2, q3, hk, q4, Nat.reduceAdd, mx21, mx32, ↓reduceIte, Int.reduceToNat]
       refine CallK.pure (c_mentions p [114, 105, 115, 107] [114, 105, 115, 107] hp.1) rfl rfl (by simp [-List.map_take]) ?_
       simp (decide := true) only [TF, EV, hk2, hk3, q1, q2, q3, hk, q4, Nat.reduceAdd, mx21, mx32, ↓reduceIte, Int.reduceToNat]
       refine hK _ _ ?_; clear hK K
       refine WP.meetQ ⟨[(3, .ref 0 0), (5, .ref 2 0), (7, .int .i64 (firstL r p.conds 0)), (10, .ref 3 0)], [(0, .box 36 [.str p.name, .bool p.deny, .slice 3 p.nc (p.conds.map Cond.cs) none, .slice 1 p.ns (p.scopes.map fun x => [.str x]) none, .int .i64 p.lvl, .int .i64 p.age]), (1, .box 38 [.str r.user, .str r.client, .str r.tenant, .slice 1 r.ng (r.groups.map fun x => [.str x]) none, .slice 1 r.ns (r.scopes.map fun x => [.str x]) none, .int .i64 r.risk, .bool r.trusted, .int .i64 r.level, .int .i64 r.auth, .int .i64 r.now]), (2, .box 38 [.str q.user, .str q.client, .str q.tenant, .slice 1 q.ng (q.groups.map fun x => [.str x]) none, .slice 1 q.ns (q.scopes.map fun x => [.str x]) none, .int .i64 q.risk, .bool q.trusted, .int .i64 q.level, .int .i64 q.auth, .int .i64 q.now]), (3, .box 38 [.str (if mentB [117, 115, 101, 114] [117, 115, 101, 114] p.conds then r.user else q.user), .str r.client, .str r.tenant, .slice 1 (if mentB [103, 114, 111, 117, 112] [103, 114, 111, 117, 112] p.conds then r.ng else q.ng) ((if mentB [103, 114, 111, 117, 112] [103, 114, 111, 117, 112] p.conds then r.groups else q.groups).map fun x => [.str x]) none, .slice 1 r.ns (r.scopes.map fun x => [.str x]) none, .int .i64 (if mentB [114, 105, 115, 107] [114, 105, 115, 107] p.conds then r.risk else q.risk), .bool r.trusted, .int .i64 r.level, .int .i64 r.auth, .int .i64 r.now])]⟩ ?_ ?_
       ·
        refine WP.cond (b := _) rfl (fun q10 => ?_) (fun q10 => ?_)
        ·
         simp only [Bool.not_eq_true', Bool.not_eq_false'] at q10
         refine WP.region (by kernel_rfl) fun K hK => ?_
         simp (decide := true) only [TF, EV, hk2, hk3, q1, q2, q3, hk, q4, q10, Nat.reduceAdd, mx21, mx32, ↓reduceIte, Int.reduceToNat]
         refine hK _ _ ?_; clear hK K
         show Weak _ _ _
         exact Weak.store (by simp [St.get, lk, W, Le.refl, hk2, hk3, q1, q2, q3, hk, q4, q10]) (by simp [lk, W, hk2, hk3, q1, q2, q3, hk, q4, q10]) (by simp [lk, W]) (by simp [BClo, lk]) (by simp [lk])
        ·
         simp only [Bool.not_eq_true', Bool.not_eq_false'] at q10
         refine WP.skip ?_
         show Weak _ _ _
         exact Weak.store (by simp [St.get, lk, W, Le.refl, hk2, hk3, q1, q2, q3, hk, q4, q10]) (by simp [lk, W, hk2, hk3, q1, q2, q3, hk, q4, q10]) (by simp [lk, W]) (by simp [BClo, lk]) (by simp [lk])
       ·
        refine WP.seq ?_
        refine WP.sr [3, 5, 7, 10, 91] (by kernel_rfl) fun K hK => ?_
        simp (decide := true) only [TF, EV, hk2, hk3, q1, q2, q3, hk, q4, Nat.reduceAdd, mx21, mx32, ↓reduceIte, Int.reduceToNat]
        refine CallK.pure (c_mentions p [97, 103, 101] [97, 103, 101] hp.1) rfl rfl (by simp [-List.map_take]) ?_
        simp (decide := true) only [TF, EV, hk2, hk3, q1, q2, q3, hk, q4, Nat.reduceAdd, mx21, mx32, ↓reduceIte, Int.reduceToNat]
        refine hK _ _ ?_; clear hK K
        refine WP.meetQ ⟨[(3, .ref 0 0), (5, .ref 2 0), (7, .int .i64 (firstL r p.conds 0)), (10, .ref 3 0)], [(0, .box 36 [.str p.name, .bool p.deny, .slice 3 p.nc (p.conds.map Cond.cs) none, .slice 1 p.ns (p.scopes.map fun x => [.str x]) none, .int .i64 p.lvl, .int .i64 p.age]), (1, .box 38 [.str r.user, .str r.client, .str r.tenant, .slice 1 r.ng (r.groups.map fun x => [.str x]) none, .slice 1 r.ns (r.scopes.map fun x => [.str x]) none, .int .i64 r.risk, .bool r.trusted, .int .i64 r.level, .int .i64 r.auth, .int .i64 r.now]), (2, .box 38 [.str q.user, .str q.client, .str q.tenant, .slice 1 q.ng (q.groups.map fun x => [.str x]) none, .slice 1 q.ns (q.scopes.map fun x => [.str x]) none, .int .i64 q.risk, .bool q.trusted, .int .i64 q.level, .int .i64 q.auth, .int .i64 q.now]), (3, .box 38 [.str (if mentB [117, 115, 101, 114] [117, 115, 101, 114] p.conds then r.user else q.user), .str r.client, .str r.tenant, .slice 1 (if mentB [103, 114, 111, 117, 112] [103, 114, 111, 117, 112] p.conds then r.ng else q.ng) ((if mentB [103, 114, 111, 117, 112] [103, 114, 111, 117, 112] p.conds then r.groups else q.groups).map fun x => [.str x]) none, .slice 1 r.ns (r.scopes.map fun x => [.str x]) none, .int .i64 (if mentB [114, 105, 115, 107] [114, 105, 115, 107] p.conds then r.risk else q.risk), .bool r.trusted, .int .i64 r.level, .int .i64 (if mentB [97, 103, 101] [97, 103, 101] p.conds then r.auth else q.auth), .int .i64 r.now])]⟩ ?_ ?_
        ·
         refine WP.cond (b := _) rfl (fun q11 => ?_) (fun q11 => ?_)
         ·
          simp only [Bool.not_eq_true', Bool.not_eq_false'] at q11
          refine WP.region (by kernel_rfl) fun K hK => ?_
          simp (decide := true) only [TF, EV, hk2, hk3, q1, q2, q3, hk, q4, q11, Nat.reduceAdd, mx21, mx32, ↓reduceIte, Int.reduceToNat]
          refine hK _ _ ?_; clear hK K
          show Weak _ _ _
          exact Weak.store (by simp [St.get, lk, W, Le.refl, hk2, hk3, q1, q2, q3, hk, q4, q11]) (by simp [lk, W, hk2, hk3, q1, q2, q3, hk, q4, q11]) (by simp [lk, W]) (by simp [BClo, lk]) (by simp [lk])
         ·
          simp only [Bool.not_eq_true', Bool.not_eq_false'] at q11
          refine WP.skip ?_
          show Weak _ _ _
          exact Weak.store (by simp [St.get, lk, W, Le.refl, hk2, hk3, q1, q2, q3, hk, q4, q11]) (by simp [lk, W, hk2, hk3, q1, q2, q3, hk, q4, q11]) (by simp [lk, W]) (by simp [BClo, lk]) (by simp [lk])
        ·
         refine WP.seq ?_
         refine WP.sr [3, 5, 7, 10, 97] (by kernel_rfl) fun K hK => ?_
         simp (decide := true) only [TF, EV, hk2, hk3, q1, q2, q3, hk, q4, Nat.reduceAdd, mx21, mx32, ↓reduceIte, Int.reduceToNat]
         refine CallK.pure (c_mentions p [97, 103, 101] [104, 111, 117, 114] hp.1) rfl rfl (by simp [-List.map_take]) ?_
         simp (decide := true) only [TF, EV, hk2, hk3, q1, q2, q3, hk, q4, Nat.reduceAdd, mx21, mx32, ↓reduceIte, Int.reduceToNat]
         refine hK _ _ ?_; clear hK K
         refine WP.meetQ ⟨[(3, .ref 0 0), (7, .int .i64 (firstL r p.conds 0)), (10, .ref 3 0)], [(0, .box 36 [.str p.name, .bool p.deny, .slice 3 p.nc (p.conds.map Cond.cs) none, .slice 1 p.ns (p.scopes.map fun x => [.str x]) none, .int .i64 p.lvl, .int .i64 p.age]), (1, .box 38 [.str r.user, .str r.client, .str r.tenant, .slice 1 r.ng (r.groups.map fun x => [.str x]) none, .slice 1 r.ns (r.scopes.map fun x => [.str x]) none, .int .i64 r.risk, .bool r.trusted, .int .i64 r.level, .int .i64 r.auth, .int .i64 r.now]), (2, .box 38 [.str q.user, .str q.client, .str q.tenant, .slice 1 q.ng (q.groups.map fun x => [.str x]) none, .slice 1 q.ns (q.scopes.map fun x => [.str x]) none, .int .i64 q.risk, .bool q.trusted, .int .i64 q.level, .int .i64 q.auth, .int .i64 q.now]), (3, .box 38 [.str (if mentB [117, 115, 101, 114] [117, 115, 101, 114] p.conds then r.user else q.user), .str r.client, .str r.tenant, .slice 1 (if mentB [103, 114, 111, 117, 112] [103, 114, 111, 117, 112] p.conds then r.ng else q.ng) ((if mentB [103, 114, 111, 117, 112] [103, 114, 111, 117, 112] p.conds then r.groups else q.groups).map fun x => [.str x]) none, .slice 1 r.ns (r.scopes.map fun x => [.str x]) none, .int .i64 (if mentB [114, 105, 115, 107] [114, 105, 115, 107] p.conds then r.risk else q.risk), .bool r.trusted, .int .i64 r.level, .int .i64 (if mentB [97, 103, 101] [97, 103, 101] p.conds then r.auth else q.auth), .int .i64 (if mentB [97, 103, 101] [104, 111, 117, 114] p.conds then r.now else q.now)])]⟩ ?_ ?_
         ·
          refine WP.cond (b := _) rfl (fun q12 => ?_) (fun q12 => ?_)
          ·
           simp only [Bool.not_eq_true', Bool.not_eq_false'] at q12
           refine WP.region (by kernel_rfl) fun K hK => ?_
           simp (decide := true) only [TF, EV, hk2, hk3, q1, q2, q3, hk, q4, q12, Nat.reduceAdd, mx21, mx32, ↓reduceIte, Int.reduceToNat]
           refine hK _ _ ?_; clear hK K
           show Weak _ _ _
           exact Weak.store (by simp [St.get, lk, W, Le.refl, hk2, hk3, q1, q2, q3, hk, q4, q12]) (by simp [lk, W, hk2, hk3, q1, q2, q3, hk, q4, q12]) (by simp [lk, W]) (by simp [BClo, lk]) (by simp [lk])
          ·
           simp only [Bool.not_eq_true', Bool.not_eq_false'] at q12
           refine WP.skip ?_
           show Weak _ _ _
           exact Weak.store (by simp [St.get, lk, W, Le.refl, hk2, hk3, q1, q2, q3, hk, q4, q12]) (by simp [lk, W, hk2, hk3, q1, q2, q3, hk, q4, q12]) (by simp [lk, W]) (by simp [BClo, lk]) (by simp [lk])
         ·
          have hro : (othR p r q).ok := othR_ok hr hq
          have hfc := othR_first (p := p) (r := r) (q := q)
          refine WP.sr [6] (by kernel_rfl) fun K hK => ?_
          simp (decide := true) only [TF, EV, hk2, hk3, q1, q2, q3, hk, q4, hfc, Nat.reduceAdd, mx21, mx32, ↓reduceIte, Int.reduceToNat]
          refine CallK.pure (c_first p (othR p r q) hp hro) rfl rfl (by simp [-List.map_take]) ?_
          simp (decide := true) only [TF, EV, hk2, hk3, q1, q2, q3, hk, q4, hfc, Nat.reduceAdd, mx21, mx32, ↓reduceIte, Int.reduceToNat]
          refine CallK.pure (c_alive) rfl rfl (by simp [-List.map_take]) ?_
          simp (decide := true) only [TF, EV, hk2, hk3, q1, q2, q3, hk, q4, hfc, Nat.reduceAdd, mx21, mx32, ↓reduceIte, Int.reduceToNat]
          refine hK _ _ ?_; clear hK K
          refine WP.ret ?_
          exact Ends.pure (.inr rfl) rfl (Le.of_eq (by simp (decide := true) only [St.get, lk, W, hk2, hk3, q1, q2, q3, hk, q4, hfc, ↓reduceIte])) (by simp)
end Go.Proofs
set_option linter.unusedVariables false
set_option maxRecDepth 100000
namespace Go.Proofs.YtnmalfongaognaaGreatDoor.RwConjunction
open Go Go.Id Go.Proofs Go.ChangeShapes Go.ChangeMaps Go.WideShapes Go.ChangeAt Go.RowKit Go.Proofs.YtnmalfongaognaaGreatDoor.Rw
theorem contract (H : Type) (enc : TypeId × Value → H) (W : World) (base : Nat) (args : Array Value) (ds gs : List (DataW H)) (before : List MemPlace)
    (hval : ∀ (j : Nat) t v, Tryz.f9.params[j]? = some t → args[j]? = some v → Value.okWide Tryz.prog W .any base t v)
    (hW : DataW.Whole enc Tryz.prog Tryz.f9.params.toList Rows.policyConjunctionSpec.vars false W args.toList ds gs before) (hL : laidMetH Tryz.prog laidL W) (hS : W.ShapedOpen Tryz.prog) :
    Calls Tryz.prog 9 args W fun e W' => ∃ v, e = .returned v ∧ Rows.policyConjunctionSpec.post enc Tryz.prog Tryz.f9 false true false false W args v W' := by
  have hW' := hW
  obtain ⟨p, q, hA0, hV, rfl, hfz, hnd⟩ := hW
  have hA : DataW.TrodAll enc Tryz.prog W 0 (fun _ => true) true Tryz.f9.params.toList args.toList ds p := hA0
  rw [Tryz.params9] at hA hval
  obtain ⟨v0, v1, v2, d0, d1, d2, p_0, p_1, p_2, rfl, rfl, rfl, h0, h1, h2⟩ := trodAll_three hA
  obtain ⟨rfl, rfl⟩ := trodVars_none hV
  obtain ⟨p0, hb0, hr0, r0⟩ := arg_rule (hval 0 36 v0 rfl rfl) h0
  obtain ⟨q1, hb1, r1⟩ := arg_req (hval 1 38 v1 rfl rfl) h1
  obtain ⟨q2, hb2, r2⟩ := arg_req (hval 2 38 v2 rfl rfl) h2
  refine (CallP.run (c_l_conj p0 q1 q2 hb0 hb1 hb2) W (polI_of hL hS) (heap_of hS) [v0, v1, v2] rfl (consR r0 (consR r1 (one r2)))).mono ?_
  rintro e W' ⟨v, rfl, hr, hb⟩
  cases hr
  exact ⟨_, rfl, post_all hW' rfl hb (of_decide_eq_true (by kernel_rfl)) (by kernel_rfl) rfl rfl rfl⟩
abbrev wit : Array Value := #[.agg #[.string ⟨#[]⟩, .bool false, .slice none 0 0, .slice none 0 0, .int .i64 0, .int .i64 0], .agg #[.string ⟨#[]⟩, .string ⟨#[]⟩, .string ⟨#[]⟩, .slice none 0 0, .slice none 0 0, .int .i64 0, .bool false, .int .i64 0, .int .i64 0, .int .i64 0], .agg #[.string ⟨#[]⟩, .string ⟨#[]⟩, .string ⟨#[]⟩, .slice none 0 0, .slice none 0 0, .int .i64 0, .bool false, .int .i64 0, .int .i64 0, .int .i64 0]]
theorem reads (os : Os) {H : Type} (enc : TypeId × Value → H) : (DataW.whole enc Tryz.prog (memW os wit) Tryz.f9.params.toList Rows.policyConjunctionSpec.vars false wit.toList 8).map (fun x => (x.1, x.2.1)) = some ([.agg [.lit (.string []), .lit (.bool false), .nil, .nil, .lit (.int .i64 0), .lit (.int .i64 0)], .agg [.lit (.string []), .lit (.string []), .lit (.string []), .nil, .nil, .lit (.int .i64 0), .lit (.bool false), .lit (.int .i64 0), .lit (.int .i64 0), .lit (.int .i64 0)], .agg [.lit (.string []), .lit (.string []), .lit (.string []), .nil, .nil, .lit (.int .i64 0), .lit (.bool false), .lit (.int .i64 0), .lit (.int .i64 0), .lit (.int .i64 0)]], []) := by kernel_rfl
theorem lifted (os : Os) (started : os.Started) (H : Type) (enc : TypeId × Value → H) (F : Stop.Interp) :
    ReturnsInHanded {} Tryz.checked os 9 .any ((OpenSpec.ofChange Rows.policyConjunctionSpec).preRow enc Tryz.prog Tryz.f9 Rows.policyConjunctionRow.domain false Rows.policyConjunctionRow.laid) (((OpenSpec.ofChange Rows.policyConjunctionSpec).at F).post enc Tryz.prog Tryz.f9 false true false false) := by
  obtain ⟨⟨x1, x2, x3⟩, hx, hx1⟩ := Option.map_eq_some_iff.1 (reads os enc)
  simp only [Prod.mk.injEq] at hx1
  obtain ⟨rfl, rfl⟩ := hx1
  refine returnsInHanded_of_row (C := Tryz.checked) (s := OpenSpec.ofChange Rows.policyConjunctionSpec) own started (by kernel_rfl) Tryz.func9
    (witness_row_atRef (enc := enc) (C := Tryz.checked) false (laidWorld os) wit rfl (by kernel_rfl) (by kernel_rfl) (by kernel_rfl)
      (OpenSpec.preRow_of_cond 8 hx (by kernel_rfl) (fun k hk => by cases hk) (by kernel_rfl) (laid_met os _))) ?_
  intro W base args ds gs before hval hW _ _ _ hL hS _
  exact contract H enc W base args ds gs before hval hW hL hS
theorem said : Rows.PolicyConjunctionSaid :=
  OpenClaim.holds_of_cond 9 Tryz.f9 rfl rfl rfl rfl rfl rfl rfl ⟨rfl, rfl, rfl, rfl, rfl⟩ rfl rfl rfl rfl rfl (by kernel_rfl) Tryz.func9 (by kernel_rfl)
    (of_decide_eq_true (by kernel_rfl)) (by unfold Func.isWrapper; first | (rw [if_pos (by decide +kernel)]; kernel_rfl) | (rw [if_neg (by decide +kernel)]; exact ⟨rfl, rfl⟩))
    (fun os started H enc _ F => by rw [OpenClaim.pre_eq_preRow]; exact lifted os started H enc F)
theorem plain (f : FuncId) (fn : Func) (hf : Tryz.pinned.checked.prog.funcNamed Rows.policyConjunctionRow.func = some f) (hfn : Tryz.pinned.checked.prog.funcs[f]? = some fn) :
    true = Tryz.pinned.checked.prog.looks [] ∧ ∀ (j : Nat) t, fn.params[j]? = some t → Tryz.pinned.checked.prog.wantsStandIn t = false := by
  obtain rfl : f = 9 := Option.some.inj ((show Tryz.prog.funcNamed Rows.policyConjunctionRow.func = some 9 by kernel_rfl).symm.trans hf) |>.symm
  obtain rfl : fn = Tryz.f9 := (Option.some.inj (Tryz.func9.symm.trans hfn)).symm
  refine ⟨by kernel_rfl, fun j t ht => ?_⟩
  have hall : (Tryz.f9.params.toList.all fun t => Tryz.prog.wantsStandIn t == false) = true := by kernel_rfl
  exact eq_of_beq (List.all_eq_true.1 hall t (by simpa using Array.mem_of_getElem? ht))
theorem card : Rows.PolicyConjunctionCardSaid :=
  Claim7.holds_tied_plain_at .later [] _ _ _ _ said (fun _ h => by cases h) (by kernel_rfl) (fun _ h => by cases h) policyConjunction_row_tie rfl ⟨rfl, rfl⟩ (by kernel_rfl) rfl plain (by kernel_rfl)
end Go.Proofs.YtnmalfongaognaaGreatDoor.RwConjunction
#print axioms Go.Proofs.YtnmalfongaognaaGreatDoor.RwConjunction.card
