/- Is and not, has and lacks are opposites; of min and max one holds. Conditions: none, the given statement. -/
import Derived.Test.YtnmalfongaognaaGreatDoorG09
import Derived.Test.YtnmalfongaognaaGreatDoorG07
import Derived.Test.YtnmalfongaognaaGreatDoorG08
import Derived.ChangeMaps5
set_option linter.unusedSimpArgs false
set_option linter.unusedVariables false
set_option maxRecDepth 10000
namespace Go.Proofs
open Go Go.Id
set_option maxHeartbeats 4000000
theorem mx21 : max 2 1 = 2 := rfl
theorem mx32 : max 3 2 = 3 := rfl

theorem c_l_opposites (c : Cond) (r : Req) (hrb : r.big) : CallP Pr 8 [.agg [.str c.f, .str c.op, .str c.v], .agg [.str r.user, .str r.client, .str r.tenant, .slice 1 r.ng (r.groups.map fun x => [.str x]) none, .slice 1 r.ns (r.scopes.map fun x => [.str x]) none, .int .i64 r.risk, .bool r.trusted, .int .i64 r.level, .int .i64 r.auth, .int .i64 r.now]] (.bool true) := by
 refine CallP.of_wp Tryz.func8 rfl (by kernel_rfl) Tryz.ntmps8 (by simp) ?_
 simp only [frameOf, Nat.reduceAdd, Nat.zero_add]
 refine WP.sr [2, 3] (by kernel_rfl) fun K hK => ?_
 simp (decide := true) only [TF, EV, rdD, Nat.reduceAdd, mx21, mx32, ↓reduceIte, Int.reduceToNat]
 refine hK _ _ ?_; clear hK K
 refine WP.seq ?_
 refine WP.sr [2, 3, 30] (by kernel_rfl) fun K hK => ?_
 simp (decide := true) only [TF, EV, rdD, Nat.reduceAdd, mx21, mx32, ↓reduceIte, Int.reduceToNat]
 refine CallK.pure (c_asked r hrb) rfl rfl (by simp [-List.map_take]) ?_
 refine runOps.take 2 fun J hJ => ?_
 simp (decide := true) only [TF, EV, rdD, Nat.reduceAdd, mx21, mx32, ↓reduceIte, Int.reduceToNat]
 refine hJ _ _ ?_; clear hJ J
 refine runOps.part 13 rfl (fun q1 => ?_) (fun q1 => ?_)
 ·
  simp only [Bool.not_eq_true', Bool.not_eq_false'] at q1
  simp (decide := true) only [TF, EV, q1, rdD, Nat.reduceAdd, mx21, mx32, ↓reduceIte, Int.reduceToNat]
  refine hK _ _ ?_; clear hK K
  refine WP.cond (b := true) (by rfl) (fun _ => ?_) nofun
  refine WP.sr [4] (by kernel_rfl) fun K hK => ?_
  simp (decide := true) only [TF, EV, q1, rdD, Nat.reduceAdd, mx21, mx32, ↓reduceIte, Int.reduceToNat]
  refine CallK.pure (c_alive) rfl rfl (by simp [-List.map_take]) ?_
  simp (decide := true) only [TF, EV, q1, rdD, Nat.reduceAdd, mx21, mx32, ↓reduceIte, Int.reduceToNat]
  refine hK _ _ ?_; clear hK K
  refine WP.ret ?_
  exact Ends.pure (.inr rfl) rfl (Le.of_eq (by simp (decide := true) only [St.get, lk, W, q1, ↓reduceIte])) (by simp)
 ·
  simp only [Bool.not_eq_true', Bool.not_eq_false'] at q1
  have hr : r.ok := asked_ok (by simpa using q1) hrb
  refine runOps.take 6 fun J hJ => ?_
  simp (decide := true) only [TF, EV, q1, rdD, Nat.reduceAdd, mx21, mx32, ↓reduceIte, Int.reduceToNat]
  refine hJ _ _ ?_; clear hJ J
  refine runOps.part 19 rfl (fun q2 => ?_) (fun q2 => ?_)
  ·
   simp (decide := true) only [TF, EV, q1, q2, rdD, Nat.reduceAdd, mx21, mx32, ↓reduceIte, Int.reduceToNat]
   refine hK _ _ ?_; clear hK K
   refine WP.cond (b := true) (by rfl) (fun _ => ?_) nofun
   refine WP.sr [4] (by kernel_rfl) fun K hK => ?_
   simp (decide := true) only [TF, EV, q1, q2, rdD, Nat.reduceAdd, mx21, mx32, ↓reduceIte, Int.reduceToNat]
   refine CallK.pure (c_alive) rfl rfl (by simp [-List.map_take]) ?_
   simp (decide := true) only [TF, EV, q1, q2, rdD, Nat.reduceAdd, mx21, mx32, ↓reduceIte, Int.reduceToNat]
   refine hK _ _ ?_; clear hK K
   refine WP.ret ?_
   exact Ends.pure (.inr rfl) rfl (Le.of_eq (by simp (decide := true) only [St.get, lk, W, q1, q2, ↓reduceIte])) (by simp)
  ·
   have hcf : c.f.length ≤ 300 := by have := of_decide_eq_false q2; omega
   refine runOps.take 6 fun J hJ => ?_
   simp (decide := true) only [TF, EV, q1, q2, rdD, Nat.reduceAdd, mx21, mx32, ↓reduceIte, Int.reduceToNat]
   refine hJ _ _ ?_; clear hJ J
   refine runOps.part 25 rfl (fun q3 => ?_) (fun q3 => ?_)
   ·
    simp (decide := true) only [TF, EV, q1, q2, q3, rdD, Nat.reduceAdd, mx21, mx32, ↓reduceIte, Int.reduceToNat]
    refine hK _ _ ?_; clear hK K
    refine WP.cond (b := true) (by rfl) (fun _ => ?_) nofun
    refine WP.sr [4] (by kernel_rfl) fun K hK => ?_
    simp (decide := true) only [TF, EV, q1, q2, q3, rdD, Nat.reduceAdd, mx21, mx32, ↓reduceIte, Int.reduceToNat]
    refine CallK.pure (c_alive) rfl rfl (by simp [-List.map_take]) ?_
    simp (decide := true) only [TF, EV, q1, q2, q3, rdD, Nat.reduceAdd, mx21, mx32, ↓reduceIte, Int.reduceToNat]
    refine hK _ _ ?_; clear hK K
    refine WP.ret ?_
    exact Ends.pure (.inr rfl) rfl (Le.of_eq (by simp (decide := true) only [St.get, lk, W, q1, q2, q3, ↓reduceIte])) (by simp)
   ·
    have hco : c.op.length ≤ 300 := by have := of_decide_eq_false q3; omega
    simp (decide := true) only [TF, EV, q1, q2, q3, rdD, Nat.reduceAdd, mx21, mx32, ↓reduceIte, Int.reduceToNat]
    refine hK _ _ ?_; clear hK K
    refine WP.cond (b := _) rfl (fun q4 => ?_) (fun q4 => ?_)
    ·
     refine WP.sr [4] (by kernel_rfl) fun K hK => ?_
     simp (decide := true) only [TF, EV, q1, q2, q3, q4, rdD, Nat.reduceAdd, mx21, mx32, ↓reduceIte, Int.reduceToNat]
     refine CallK.pure (c_alive) rfl rfl (by simp [-List.map_take]) ?_
     simp (decide := true) only [TF, EV, q1, q2, q3, q4, rdD, Nat.reduceAdd, mx21, mx32, ↓reduceIte, Int.reduceToNat]
     refine hK _ _ ?_; clear hK K
     refine WP.ret ?_
     exact Ends.pure (.inr rfl) rfl (Le.of_eq (by simp (decide := true) only [St.get, lk, W, q1, q2, q3, q4, ↓reduceIte])) (by simp)
    ·
     have hcv : c.v.length ≤ 300 := by have := of_decide_eq_false q4; omega
     have hc : c.ok := ⟨by omega, by omega, by omega⟩
     refine WP.skip ?_
     show WP _ _ _ _ _ _
     refine WP.sr [2, 3, 5] (by kernel_rfl) fun K hK => ?_
     simp (decide := true) only [TF, EV, q1, q2, q3, q4, rdD, Nat.reduceAdd, mx21, mx32, ↓reduceIte, Int.reduceToNat]
     refine hK _ _ ?_; clear hK K
     refine WP.seq ?_
     refine WP.sr [2, 3, 5, 34] (by kernel_rfl) fun K hK => ?_
     simp (decide := true) only [TF, EV, q1, q2, q3, q4, rdD, Nat.reduceAdd, mx21, mx32, ↓reduceIte, Int.reduceToNat]
     refine hK _ _ ?_; clear hK K
     refine WP.block ?_
     refine WP.sr [2, 3, 5, 34, 46] (by kernel_rfl) fun K hK => ?_
     simp (decide := true) only [TF, EV, q1, q2, q3, q4, rdD, Nat.reduceAdd, mx21, mx32, ↓reduceIte, Int.reduceToNat]
     refine hK _ _ ?_; clear hK K
     refine WP.cond (b := _) rfl (fun q5 => ?_) (fun q5 => ?_)
     ·
      have ho : c.op = [105, 115] := by simpa using q5
      have hIs : (c.op == [109, 105, 110]) = false := by rw [ho]; decide
      have hIs2 : ¬ c.op = [109, 105, 110] := by rw [ho]; decide
      refine WP.region (by kernel_rfl) fun K hK => ?_
      simp (decide := true) only [TF, EV, q1, q2, q3, q4, q5, hIs, hIs2, rdD, Nat.reduceAdd, mx21, mx32, ↓reduceIte, Int.reduceToNat]
      refine hK _ _ ?_; clear hK K
      show WP _ _ _ _ _ _
      refine WP.seq ?_
      refine WP.sr [2, 3, 5, 62] (by kernel_rfl) fun K hK => ?_
      simp (decide := true) only [TF, EV, q1, q2, q3, q4, q5, hIs, hIs2, rdD, Nat.reduceAdd, mx21, mx32, ↓reduceIte, Int.reduceToNat]
      refine CallK.pure (c_r_possible c hc) rfl rfl (by simp [-List.map_take]) ?_
      refine runOps.take 2 fun J hJ => ?_
      simp (decide := true) only [TF, EV, q1, q2, q3, q4, q5, hIs, hIs2, rdD, Nat.reduceAdd, mx21, mx32, ↓reduceIte, Int.reduceToNat]
      refine hJ _ _ ?_; clear hJ J
      refine runOps.part 58 rfl (fun q6 => ?_) (fun q6 => ?_)
      ·
       simp only [Bool.not_eq_true', Bool.not_eq_false'] at q6
       have hno : holdsB c r = false := holds_no (by simpa using q6)
       simp (decide := true) only [TF, EV, q1, q2, q3, q4, q5, hIs, hIs2, q6, hno, rdD, Nat.reduceAdd, mx21, mx32, ↓reduceIte, Int.reduceToNat]
       refine hK _ _ ?_; clear hK K
       refine WP.cond (b := true) (by rfl) (fun _ => ?_) nofun
       refine WP.sr [4] (by kernel_rfl) fun K hK => ?_
       refine runOps.take 4 fun J hJ => ?_
       simp (decide := true) only [TF, EV, q1, q2, q3, q4, q5, hIs, hIs2, q6, hno, rdD, Nat.reduceAdd, mx21, mx32, ↓reduceIte, Int.reduceToNat]
       refine hJ _ _ ?_; clear hJ J
       refine runOps.part 66 rfl (fun q7 => ?_) (fun q7 => ?_)
       ·
        simp (decide := true) only [TF, EV, q1, q2, q3, q4, q5, hIs, hIs2, q6, hno, q7, rdD, Nat.reduceAdd, mx21, mx32, ↓reduceIte, Int.reduceToNat]
        refine CallK.pure (c_alive) rfl rfl (by simp [-List.map_take]) ?_
        simp (decide := true) only [TF, EV, q1, q2, q3, q4, q5, hIs, hIs2, q6, hno, q7, rdD, Nat.reduceAdd, mx21, mx32, ↓reduceIte, Int.reduceToNat]
        refine hK _ _ ?_; clear hK K
        refine WP.ret ?_
        exact Ends.pure (.inr rfl) rfl (Le.of_eq (by simp (decide := true) only [St.get, lk, W, q1, q2, q3, q4, q5, hIs, hIs2, q6, hno, q7, ↓reduceIte])) (by simp)
       ·
        simp (decide := true) only [TF, EV, q1, q2, q3, q4, q5, hIs, hIs2, q6, hno, q7, rdD, Nat.reduceAdd, mx21, mx32, ↓reduceIte, Int.reduceToNat]
        refine CallK.pure (c_holds c r hc hr) rfl rfl (by simp [-List.map_take]) ?_
        simp (decide := true) only [TF, EV, q1, q2, q3, q4, q5, hIs, hIs2, q6, hno, q7, rdD, Nat.reduceAdd, mx21, mx32, ↓reduceIte, Int.reduceToNat]
        refine CallK.pure (c_alive) rfl rfl (by simp [-List.map_take]) ?_
        simp (decide := true) only [TF, EV, q1, q2, q3, q4, q5, hIs, hIs2, q6, hno, q7, rdD, Nat.reduceAdd, mx21, mx32, ↓reduceIte, Int.reduceToNat]
        refine hK _ _ ?_; clear hK K
        refine WP.ret ?_
        exact Ends.pure (.inr rfl) rfl (Le.of_eq (by simp (decide := true) only [St.get, lk, W, q1, q2, q3, q4, q5, hIs, hIs2, q6, hno, q7, ↓reduceIte])) (by simp)
      ·
       simp only [Bool.not_eq_true', Bool.not_eq_false'] at q6
       have hp : possB c = true := by simpa using q6
       simp (decide := true) only [TF, EV, q1, q2, q3, q4, q5, hIs, hIs2, q6, rdD, Nat.reduceAdd, mx21, mx32, ↓reduceIte, Int.reduceToNat]
       refine hK _ _ ?_; clear hK K
       refine WP.cond (b := _) rfl (fun q8 => ?_) (fun q8 => ?_)
       ·
        refine WP.sr [4] (by kernel_rfl) fun K hK => ?_
        simp (decide := true) only [TF, EV, q1, q2, q3, q4, q5, hIs, hIs2, q6, q8, rdD, Nat.reduceAdd, mx21, mx32, ↓reduceIte, Int.reduceToNat]
        refine CallK.pure (c_alive) rfl rfl (by simp [-List.map_take]) ?_
        simp (decide := true) only [TF, EV, q1, q2, q3, q4, q5, hIs, hIs2, q6, q8, rdD, Nat.reduceAdd, mx21, mx32, ↓reduceIte, Int.reduceToNat]
        refine hK _ _ ?_; clear hK K
        refine WP.ret ?_
        exact Ends.pure (.inr rfl) rfl (Le.of_eq (by simp (decide := true) only [St.get, lk, W, q1, q2, q3, q4, q5, hIs, hIs2, q6, q8, ↓reduceIte])) (by simp)
       ·
        have hopp := opp_is r hp (by simpa using q8) ho
        have hxx : (holdsB c r == !holdsB c r) = false := by cases holdsB c r <;> rfl
        refine WP.skip ?_
        show WP _ _ _ _ _ _
        refine WP.sd [2, 3, 6, 7] (by kernel_rfl) (by kernel_rfl) fun K hK => ?_
        simp (decide := true) only [TF, EV, q1, q2, q3, q4, q5, hIs, hIs2, q6, q8, hopp, hxx, rdD, Nat.reduceAdd, mx21, mx32, ↓reduceIte, Int.reduceToNat]
        refine CallK.pure (c_holds c r hc hr) rfl rfl (by simp [-List.map_take]) ?_
        simp (decide := true) only [TF, EV, q1, q2, q3, q4, q5, hIs, hIs2, q6, q8, hopp, hxx, rdD, Nat.reduceAdd, mx21, mx32, ↓reduceIte, Int.reduceToNat]
        refine CallK.pure (c_holds ⟨c.f, [110, 111, 116], c.v⟩ r ⟨hc.1, by simp, hc.2.2⟩ hr) rfl rfl (by simp [-List.map_take]) ?_
        simp (decide := true) only [TF, EV, q1, q2, q3, q4, q5, hIs, hIs2, q6, q8, hopp, hxx, rdD, Nat.reduceAdd, mx21, mx32, ↓reduceIte, Int.reduceToNat]
        refine hK _ _ (by kernel_rfl) ?_
        clear hK K
        refine WP.seq ?_
        refine WP.sr [2, 3, 6, 7, 83] (by kernel_rfl) fun K hK => ?_
        simp (decide := true) only [TF, EV, q1, q2, q3, q4, q5, hIs, hIs2, q6, q8, hopp, hxx, rdD, Nat.reduceAdd, mx21, mx32, ↓reduceIte, Int.reduceToNat]
        refine hK _ _ ?_; clear hK K
        refine WP.cond (b := true) (by rfl) (fun _ => ?_) nofun
        refine WP.sr [4] (by kernel_rfl) fun K hK => ?_
        simp (decide := true) only [TF, EV, q1, q2, q3, q4, q5, hIs, hIs2, q6, q8, hopp, hxx, rdD, Nat.reduceAdd, mx21, mx32, ↓reduceIte, Int.reduceToNat]
        refine CallK.pure (c_alive) rfl rfl (by simp [-List.map_take]) ?_
        simp (decide := true) only [TF, EV, q1, q2, q3, q4, q5, hIs, hIs2, q6, q8, hopp, hxx, rdD, Nat.reduceAdd, mx21, mx32, ↓reduceIte, Int.reduceToNat]
        refine hK _ _ ?_; clear hK K
        refine WP.ret ?_
        exact Ends.pure (.inr rfl) rfl (Le.of_eq (by simp (decide := true) only [St.get, lk, W, q1, q2, q3, q4, q5, hIs, hIs2, q6, q8, hopp, hxx, ↓reduceIte])) (by simp)
     ·
      refine WP.sr [2, 3, 5, 34, 49] (by kernel_rfl) fun K hK => ?_
      simp (decide := true) only [TF, EV, q1, q2, q3, q4, q5, rdD, Nat.reduceAdd, mx21, mx32, ↓reduceIte, Int.reduceToNat]
      refine hK _ _ ?_; clear hK K
      refine WP.cond (b := _) rfl (fun q9 => ?_) (fun q9 => ?_)
      ·
       have ho : c.op = [104, 97, 115] := by simpa using q9
       have hHas : (c.op == [109, 105, 110]) = false := by rw [ho]; decide
       have hHas2 : ¬ c.op = [109, 105, 110] := by rw [ho]; decide
       refine WP.region (by kernel_rfl) fun K hK => ?_
       simp (decide := true) only [TF, EV, q1, q2, q3, q4, q5, q9, hHas, hHas2, rdD, Nat.reduceAdd, mx21, mx32, ↓reduceIte, Int.reduceToNat]
       refine hK _ _ ?_; clear hK K
       show WP _ _ _ _ _ _
       refine WP.seq ?_
       refine WP.sr [2, 3, 5, 62] (by kernel_rfl) fun K hK => ?_
       simp (decide := true) only [TF, EV, q1, q2, q3, q4, q5, q9, hHas, hHas2, rdD, Nat.reduceAdd, mx21, mx32, ↓reduceIte, Int.reduceToNat]
       refine CallK.pure (c_r_possible c hc) rfl rfl (by simp [-List.map_take]) ?_
       refine runOps.take 2 fun J hJ => ?_
       simp (decide := true) only [TF, EV, q1, q2, q3, q4, q5, q9, hHas, hHas2, rdD, Nat.reduceAdd, mx21, mx32, ↓reduceIte, Int.reduceToNat]
       refine hJ _ _ ?_; clear hJ J
       refine runOps.part 58 rfl (fun q10 => ?_) (fun q10 => ?_)
       ·
        simp only [Bool.not_eq_true', Bool.not_eq_false'] at q10
        have hno : holdsB c r = false := holds_no (by simpa using q10)
        simp (decide := true) only [TF, EV, q1, q2, q3, q4, q5, q9, hHas, hHas2, q10, hno, rdD, Nat.reduceAdd, mx21, mx32, ↓reduceIte, Int.reduceToNat]
        refine hK _ _ ?_; clear hK K
        refine WP.cond (b := true) (by rfl) (fun _ => ?_) nofun
        refine WP.sr [4] (by kernel_rfl) fun K hK => ?_
        refine runOps.take 4 fun J hJ => ?_
        simp (decide := true) only [TF, EV, q1, q2, q3, q4, q5, q9, hHas, hHas2, q10, hno, rdD, Nat.reduceAdd, mx21, mx32, ↓reduceIte, Int.reduceToNat]
        refine hJ _ _ ?_; clear hJ J
        refine runOps.part 66 rfl (fun q11 => ?_) (fun q11 => ?_)
        ·
         simp (decide := true) only [TF, EV, q1, q2, q3, q4, q5, q9, hHas, hHas2, q10, hno, q11, rdD, Nat.reduceAdd, mx21, mx32, ↓reduceIte, Int.reduceToNat]
         refine CallK.pure (c_alive) rfl rfl (by simp [-List.map_take]) ?_
         simp (decide := true) only [TF, EV, q1, q2, q3, q4, q5, q9, hHas, hHas2, q10, hno, q11, rdD, Nat.reduceAdd, mx21, mx32, ↓reduceIte, Int.reduceToNat]
         refine hK _ _ ?_; clear hK K
         refine WP.ret ?_
         exact Ends.pure (.inr rfl) rfl (Le.of_eq (by simp (decide := true) only [St.get, lk, W, q1, q2, q3, q4, q5, q9, hHas, hHas2, q10, hno, q11, ↓reduceIte])) (by simp)
        ·
         simp (decide := true) only [TF, EV, q1, q2, q3, q4, q5, q9, hHas, hHas2, q10, hno, q11, rdD, Nat.reduceAdd, mx21, mx32, ↓reduceIte, Int.reduceToNat]
         refine CallK.pure (c_holds c r hc hr) rfl rfl (by simp [-List.map_take]) ?_
         simp (decide := true) only [TF, EV, q1, q2, q3, q4, q5, q9, hHas, hHas2, q10, hno, q11, rdD, Nat.reduceAdd, mx21, mx32, ↓reduceIte, Int.reduceToNat]
         refine CallK.pure (c_alive) rfl rfl (by simp [-List.map_take]) ?_
         simp (decide := true) only [TF, EV, q1, q2, q3, q4, q5, q9, hHas, hHas2, q10, hno, q11, rdD, Nat.reduceAdd, mx21, mx32, ↓reduceIte, Int.reduceToNat]
         refine hK _ _ ?_; clear hK K
         refine WP.ret ?_
         exact Ends.pure (.inr rfl) rfl (Le.of_eq (by simp (decide := true) only [St.get, lk, W, q1, q2, q3, q4, q5, q9, hHas, hHas2, q10, hno, q11, ↓reduceIte])) (by simp)
       ·
        simp only [Bool.not_eq_true', Bool.not_eq_false'] at q10
        have hp : possB c = true := by simpa using q10
        simp (decide := true) only [TF, EV, q1, q2, q3, q4, q5, q9, hHas, hHas2, q10, rdD, Nat.reduceAdd, mx21, mx32, ↓reduceIte, Int.reduceToNat]
        refine hK _ _ ?_; clear hK K
        refine WP.cond (b := _) rfl (fun q12 => ?_) (fun q12 => ?_)
        ·
         refine WP.sr [4] (by kernel_rfl) fun K hK => ?_
         simp (decide := true) only [TF, EV, q1, q2, q3, q4, q5, q9, hHas, hHas2, q10, q12, rdD, Nat.reduceAdd, mx21, mx32, ↓reduceIte, Int.reduceToNat]
         refine CallK.pure (c_alive) rfl rfl (by simp [-List.map_take]) ?_
         simp (decide := true) only [TF, EV, q1, q2, q3, q4, q5, q9, hHas, hHas2, q10, q12, rdD, Nat.reduceAdd, mx21, mx32, ↓reduceIte, Int.reduceToNat]
         refine hK _ _ ?_; clear hK K
         refine WP.ret ?_
         exact Ends.pure (.inr rfl) rfl (Le.of_eq (by simp (decide := true) only [St.get, lk, W, q1, q2, q3, q4, q5, q9, hHas, hHas2, q10, q12, ↓reduceIte])) (by simp)
        ·
         have hopp := opp_has r hp ho
         have hxx : (holdsB c r == !holdsB c r) = false := by cases holdsB c r <;> rfl
         refine WP.skip ?_
         show WP _ _ _ _ _ _
         refine WP.sd [2, 3, 6, 7] (by kernel_rfl) (by kernel_rfl) fun K hK => ?_
         simp (decide := true) only [TF, EV, q1, q2, q3, q4, q5, q9, hHas, hHas2, q10, q12, hopp, hxx, rdD, Nat.reduceAdd, mx21, mx32, ↓reduceIte, Int.reduceToNat]
         refine CallK.pure (c_holds c r hc hr) rfl rfl (by simp [-List.map_take]) ?_
         simp (decide := true) only [TF, EV, q1, q2, q3, q4, q5, q9, hHas, hHas2, q10, q12, hopp, hxx, rdD, Nat.reduceAdd, mx21, mx32, ↓reduceIte, Int.reduceToNat]
         refine CallK.pure (c_holds ⟨c.f, [108, 97, 99, 107, 115], c.v⟩ r ⟨hc.1, by simp, hc.2.2⟩ hr) rfl rfl (by simp [-List.map_take]) ?_
         simp (decide := true) only [TF, EV, q1, q2, q3, q4, q5, q9, hHas, hHas2, q10, q12, hopp, hxx, rdD, Nat.reduceAdd, mx21, mx32, ↓reduceIte, Int.reduceToNat]
         refine hK _ _ (by kernel_rfl) ?_
         clear hK K
         refine WP.seq ?_
         refine WP.sr [2, 3, 6, 7, 83] (by kernel_rfl) fun K hK => ?_
         simp (decide := true) only [TF, EV, q1, q2, q3, q4, q5, q9, hHas, hHas2, q10, q12, hopp, hxx, rdD, Nat.reduceAdd, mx21, mx32, ↓reduceIte, Int.reduceToNat]
         refine hK _ _ ?_; clear hK K
         refine WP.cond (b := true) (by rfl) (fun _ => ?_) nofun
         refine WP.sr [4] (by kernel_rfl) fun K hK => ?_
         simp (decide := true) only [TF, EV, q1, q2, q3, q4, q5, q9, hHas, hHas2, q10, q12, hopp, hxx, rdD, Nat.reduceAdd, mx21, mx32, ↓reduceIte, Int.reduceToNat]
         refine CallK.pure (c_alive) rfl rfl (by simp [-List.map_take]) ?_
         simp (decide := true) only [TF, EV, q1, q2, q3, q4, q5, q9, hHas, hHas2, q10, q12, hopp, hxx, rdD, Nat.reduceAdd, mx21, mx32, ↓reduceIte, Int.reduceToNat]
         refine hK _ _ ?_; clear hK K
         refine WP.ret ?_
         exact Ends.pure (.inr rfl) rfl (Le.of_eq (by simp (decide := true) only [St.get, lk, W, q1, q2, q3, q4, q5, q9, hHas, hHas2, q10, q12, hopp, hxx, ↓reduceIte])) (by simp)
      ·
       refine WP.sr [2, 3, 5, 52] (by kernel_rfl) fun K hK => ?_
       simp (decide := true) only [TF, EV, q1, q2, q3, q4, q5, q9, rdD, Nat.reduceAdd, mx21, mx32, ↓reduceIte, Int.reduceToNat]
       refine hK _ _ ?_; clear hK K
       refine WP.cond (b := _) rfl (fun q13 => ?_) (fun q13 => ?_)
       ·
        have ho : c.op = [109, 105, 110] := by simpa using q13
        have hMin : (c.op == [109, 105, 110]) = true := by rw [ho]; decide
        refine WP.region (by kernel_rfl) fun K hK => ?_
        simp (decide := true) only [TF, EV, q1, q2, q3, q4, q5, q9, q13, hMin, rdD, Nat.reduceAdd, mx21, mx32, ↓reduceIte, Int.reduceToNat]
        refine hK _ _ ?_; clear hK K
        show WP _ _ _ _ _ _
        refine WP.seq ?_
        refine WP.sr [2, 3, 5, 62] (by kernel_rfl) fun K hK => ?_
        simp (decide := true) only [TF, EV, q1, q2, q3, q4, q5, q9, q13, hMin, rdD, Nat.reduceAdd, mx21, mx32, ↓reduceIte, Int.reduceToNat]
        refine CallK.pure (c_r_possible c hc) rfl rfl (by simp [-List.map_take]) ?_
        refine runOps.take 2 fun J hJ => ?_
        simp (decide := true) only [TF, EV, q1, q2, q3, q4, q5, q9, q13, hMin, rdD, Nat.reduceAdd, mx21, mx32, ↓reduceIte, Int.reduceToNat]
        refine hJ _ _ ?_; clear hJ J
        refine runOps.part 58 rfl (fun q14 => ?_) (fun q14 => ?_)
        ·
         simp only [Bool.not_eq_true', Bool.not_eq_false'] at q14
         have hno : holdsB c r = false := holds_no (by simpa using q14)
         simp (decide := true) only [TF, EV, q1, q2, q3, q4, q5, q9, q13, hMin, q14, hno, rdD, Nat.reduceAdd, mx21, mx32, ↓reduceIte, Int.reduceToNat]
         refine hK _ _ ?_; clear hK K
         refine WP.cond (b := true) (by rfl) (fun _ => ?_) nofun
         refine WP.sr [4] (by kernel_rfl) fun K hK => ?_
         refine runOps.take 4 fun J hJ => ?_
         simp (decide := true) only [TF, EV, q1, q2, q3, q4, q5, q9, q13, hMin, q14, hno, rdD, Nat.reduceAdd, mx21, mx32, ↓reduceIte, Int.reduceToNat]
         refine hJ _ _ ?_; clear hJ J
         refine runOps.part 66 rfl (fun q15 => ?_) (fun q15 => ?_)
         ·
          simp (decide := true) only [TF, EV, q1, q2, q3, q4, q5, q9, q13, hMin, q14, hno, q15, rdD, Nat.reduceAdd, mx21, mx32, ↓reduceIte, Int.reduceToNat]
          refine CallK.pure (c_alive) rfl rfl (by simp [-List.map_take]) ?_
          simp (decide := true) only [TF, EV, q1, q2, q3, q4, q5, q9, q13, hMin, q14, hno, q15, rdD, Nat.reduceAdd, mx21, mx32, ↓reduceIte, Int.reduceToNat]
          refine hK _ _ ?_; clear hK K
          refine WP.ret ?_
          exact Ends.pure (.inr rfl) rfl (Le.of_eq (by simp (decide := true) only [St.get, lk, W, q1, q2, q3, q4, q5, q9, q13, hMin, q14, hno, q15, ↓reduceIte])) (by simp)
         ·
          simp (decide := true) only [TF, EV, q1, q2, q3, q4, q5, q9, q13, hMin, q14, hno, q15, rdD, Nat.reduceAdd, mx21, mx32, ↓reduceIte, Int.reduceToNat]
          refine CallK.pure (c_holds c r hc hr) rfl rfl (by simp [-List.map_take]) ?_
          simp (decide := true) only [TF, EV, q1, q2, q3, q4, q5, q9, q13, hMin, q14, hno, q15, rdD, Nat.reduceAdd, mx21, mx32, ↓reduceIte, Int.reduceToNat]
          refine CallK.pure (c_alive) rfl rfl (by simp [-List.map_take]) ?_
          simp (decide := true) only [TF, EV, q1, q2, q3, q4, q5, q9, q13, hMin, q14, hno, q15, rdD, Nat.reduceAdd, mx21, mx32, ↓reduceIte, Int.reduceToNat]
          refine hK _ _ ?_; clear hK K
          refine WP.ret ?_
          exact Ends.pure (.inr rfl) rfl (Le.of_eq (by simp (decide := true) only [St.get, lk, W, q1, q2, q3, q4, q5, q9, q13, hMin, q14, hno, q15, ↓reduceIte])) (by simp)
        ·
         simp only [Bool.not_eq_true', Bool.not_eq_false'] at q14
         have hp : possB c = true := by simpa using q14
         simp (decide := true) only [TF, EV, q1, q2, q3, q4, q5, q9, q13, hMin, q14, rdD, Nat.reduceAdd, mx21, mx32, ↓reduceIte, Int.reduceToNat]
         refine hK _ _ ?_; clear hK K
         refine WP.cond (b := _) rfl (fun q16 => ?_) (fun q16 => ?_)
         ·
          refine WP.sr [4] (by kernel_rfl) fun K hK => ?_
          simp (decide := true) only [TF, EV, q1, q2, q3, q4, q5, q9, q13, hMin, q14, q16, rdD, Nat.reduceAdd, mx21, mx32, ↓reduceIte, Int.reduceToNat]
          refine CallK.pure (c_alive) rfl rfl (by simp [-List.map_take]) ?_
          simp (decide := true) only [TF, EV, q1, q2, q3, q4, q5, q9, q13, hMin, q14, q16, rdD, Nat.reduceAdd, mx21, mx32, ↓reduceIte, Int.reduceToNat]
          refine hK _ _ ?_; clear hK K
          refine WP.ret ?_
          exact Ends.pure (.inr rfl) rfl (Le.of_eq (by simp (decide := true) only [St.get, lk, W, q1, q2, q3, q4, q5, q9, q13, hMin, q14, q16, ↓reduceIte])) (by simp)
         ·
          have h90 := (opp_min r hp ho).1
          refine WP.skip ?_
          show WP _ _ _ _ _ _
          refine WP.sd [2, 3, 6, 7] (by kernel_rfl) (by kernel_rfl) fun K hK => ?_
          simp (decide := true) only [TF, EV, q1, q2, q3, q4, q5, q9, q13, hMin, q14, q16, h90, rdD, Nat.reduceAdd, mx21, mx32, ↓reduceIte, Int.reduceToNat]
          refine CallK.pure (c_holds c r hc hr) rfl rfl (by simp [-List.map_take]) ?_
          simp (decide := true) only [TF, EV, q1, q2, q3, q4, q5, q9, q13, hMin, q14, q16, h90, rdD, Nat.reduceAdd, mx21, mx32, ↓reduceIte, Int.reduceToNat]
          refine CallK.pure (c_holds ⟨c.f, [109, 97, 120], c.v⟩ r ⟨hc.1, by simp, hc.2.2⟩ hr) rfl rfl (by simp [-List.map_take]) ?_
          simp (decide := true) only [TF, EV, q1, q2, q3, q4, q5, q9, q13, hMin, q14, q16, h90, rdD, Nat.reduceAdd, mx21, mx32, ↓reduceIte, Int.reduceToNat]
          refine hK _ _ (by kernel_rfl) ?_
          clear hK K
          refine WP.seq ?_
          refine WP.sr [2, 3, 6, 7, 83] (by kernel_rfl) fun K hK => ?_
          simp (decide := true) only [TF, EV, q1, q2, q3, q4, q5, q9, q13, hMin, q14, q16, h90, rdD, Nat.reduceAdd, mx21, mx32, ↓reduceIte, Int.reduceToNat]
          refine hK _ _ ?_; clear hK K
          refine WP.cond (b := false) (by rfl) nofun (fun _ => ?_)
          refine WP.skip ?_
          show WP _ _ _ _ _ _
          refine WP.sr [2, 3, 6, 7, 8, 9] (by kernel_rfl) fun K hK => ?_
          simp (decide := true) only [TF, EV, q1, q2, q3, q4, q5, q9, q13, hMin, q14, q16, h90, rdD, Nat.reduceAdd, mx21, mx32, ↓reduceIte, Int.reduceToNat]
          refine CallK.pure (c_readint c.v hc.2.2) rfl rfl (by simp [-List.map_take]) ?_
          simp (decide := true) only [TF, EV, q1, q2, q3, q4, q5, q9, q13, hMin, q14, q16, h90, rdD, Nat.reduceAdd, mx21, mx32, ↓reduceIte, Int.reduceToNat]
          refine hK _ _ ?_; clear hK K
          refine WP.seq ?_
          refine WP.sr [133] (by kernel_rfl) fun K hK => ?_
          refine runOps.take 6 fun J hJ => ?_
          simp (decide := true) only [TF, EV, q1, q2, q3, q4, q5, q9, q13, hMin, q14, q16, h90, rdD, Nat.reduceAdd, mx21, mx32, ↓reduceIte, Int.reduceToNat]
          refine hJ _ _ ?_; clear hJ J
          refine runOps.part 101 rfl (fun q17 => ?_) (fun q17 => ?_)
          ·
           simp only [Bool.not_eq_true', Bool.not_eq_false'] at q17
           have hb1 := opp_some r hp ho (by simpa using q17)
           simp (decide := true) only [TF, EV, q1, q2, q3, q4, q5, q9, q13, hMin, q14, q16, h90, q17, hb1, rdD, Nat.reduceAdd, mx21, mx32, ↓reduceIte, Int.reduceToNat]
           refine hK _ _ ?_; clear hK K
           refine WP.cond (b := false) (by rfl) nofun (fun _ => ?_)
           refine WP.skip ?_
           show WP _ _ _ _ _ _
           refine WP.sr [4] (by kernel_rfl) fun K hK => ?_
           simp (decide := true) only [TF, EV, q1, q2, q3, q4, q5, q9, q13, hMin, q14, q16, h90, q17, hb1, rdD, Nat.reduceAdd, mx21, mx32, ↓reduceIte, Int.reduceToNat]
           refine CallK.pure (c_alive) rfl rfl (by simp [-List.map_take]) ?_
           simp (decide := true) only [TF, EV, q1, q2, q3, q4, q5, q9, q13, hMin, q14, q16, h90, q17, hb1, rdD, Nat.reduceAdd, mx21, mx32, ↓reduceIte, Int.reduceToNat]
           refine hK _ _ ?_; clear hK K
           refine WP.ret ?_
           exact Ends.pure (.inr rfl) rfl (Le.of_eq (by simp (decide := true) only [St.get, lk, W, q1, q2, q3, q4, q5, q9, q13, hMin, q14, q16, h90, q17, hb1, ↓reduceIte])) (by simp)
          ·
           simp only [Bool.not_eq_true', Bool.not_eq_false'] at q17
           have ha1 : holdsB c r = true := by simpa using q17
           refine runOps.take 10 fun J hJ => ?_
           simp (decide := true) only [TF, EV, q1, q2, q3, q4, q5, q9, q13, hMin, q14, q16, h90, q17, rdD, Nat.reduceAdd, mx21, mx32, ↓reduceIte, Int.reduceToNat]
           refine hJ _ _ ?_; clear hJ J
           refine runOps.part 111 rfl (fun q18 => ?_) (fun q18 => ?_)
           ·
            have hbb := opp_both r hp ho ha1 q18
            refine runOps.take 4 fun J hJ => ?_
            simp (decide := true) only [TF, EV, q1, q2, q3, q4, q5, q9, q13, hMin, q14, q16, h90, q17, q18, rdD, Nat.reduceAdd, mx21, mx32, ↓reduceIte, Int.reduceToNat]
            refine hJ _ _ ?_; clear hJ J
            refine runOps.part 115 rfl (fun q19 => ?_) (fun q19 => ?_)
            ·
             have hf1 : c.f = [114, 105, 115, 107] := by simpa using q19
             have hrk : (r.risk != (rdN c.v).1) = false := by simp [hbb.1 hf1]
             have hfl : (c.f == [108, 101, 118, 101, 108]) = false := by rw [hf1]; decide
             simp (decide := true) only [TF, EV, q1, q2, q3, q4, q5, q9, q13, hMin, q14, q16, h90, q17, q18, q19, hrk, hfl, rdD, Nat.reduceAdd, mx21, mx32, ↓reduceIte, Int.reduceToNat]
             refine hK _ _ ?_; clear hK K
             refine WP.cond (b := false) (by rfl) nofun (fun _ => ?_)
             refine WP.skip ?_
             show WP _ _ _ _ _ _
             refine WP.sr [4] (by kernel_rfl) fun K hK => ?_
             simp (decide := true) only [TF, EV, q1, q2, q3, q4, q5, q9, q13, hMin, q14, q16, h90, q17, q18, q19, hrk, hfl, rdD, Nat.reduceAdd, mx21, mx32, ↓reduceIte, Int.reduceToNat]
             refine CallK.pure (c_alive) rfl rfl (by simp [-List.map_take]) ?_
             simp (decide := true) only [TF, EV, q1, q2, q3, q4, q5, q9, q13, hMin, q14, q16, h90, q17, q18, q19, hrk, hfl, rdD, Nat.reduceAdd, mx21, mx32, ↓reduceIte, Int.reduceToNat]
             refine hK _ _ ?_; clear hK K
             refine WP.ret ?_
             exact Ends.pure (.inr rfl) rfl (Le.of_eq (by simp (decide := true) only [St.get, lk, W, q1, q2, q3, q4, q5, q9, q13, hMin, q14, q16, h90, q17, q18, q19, hrk, hfl, ↓reduceIte])) (by simp)
            ·
             refine runOps.take 10 fun J hJ => ?_
             simp (decide := true) only [TF, EV, q1, q2, q3, q4, q5, q9, q13, hMin, q14, q16, h90, q17, q18, q19, rdD, Nat.reduceAdd, mx21, mx32, ↓reduceIte, Int.reduceToNat]
             refine hJ _ _ ?_; clear hJ J
             refine runOps.part 125 rfl (fun q20 => ?_) (fun q20 => ?_)
             ·
              have hlv : (r.level != (rdN c.v).1) = false := by simp [hbb.2 (by simpa using q20)]
              simp (decide := true) only [TF, EV, q1, q2, q3, q4, q5, q9, q13, hMin, q14, q16, h90, q17, q18, q19, q20, hlv, rdD, Nat.reduceAdd, mx21, mx32, ↓reduceIte, Int.reduceToNat]
              refine hK _ _ ?_; clear hK K
              refine WP.cond (b := false) (by rfl) nofun (fun _ => ?_)
              refine WP.skip ?_
              show WP _ _ _ _ _ _
              refine WP.sr [4] (by kernel_rfl) fun K hK => ?_
              simp (decide := true) only [TF, EV, q1, q2, q3, q4, q5, q9, q13, hMin, q14, q16, h90, q17, q18, q19, q20, hlv, rdD, Nat.reduceAdd, mx21, mx32, ↓reduceIte, Int.reduceToNat]
              refine CallK.pure (c_alive) rfl rfl (by simp [-List.map_take]) ?_
              simp (decide := true) only [TF, EV, q1, q2, q3, q4, q5, q9, q13, hMin, q14, q16, h90, q17, q18, q19, q20, hlv, rdD, Nat.reduceAdd, mx21, mx32, ↓reduceIte, Int.reduceToNat]
              refine hK _ _ ?_; clear hK K
              refine WP.ret ?_
              exact Ends.pure (.inr rfl) rfl (Le.of_eq (by simp (decide := true) only [St.get, lk, W, q1, q2, q3, q4, q5, q9, q13, hMin, q14, q16, h90, q17, q18, q19, q20, hlv, ↓reduceIte])) (by simp)
             ·
              simp (decide := true) only [TF, EV, q1, q2, q3, q4, q5, q9, q13, hMin, q14, q16, h90, q17, q18, q19, q20, rdD, Nat.reduceAdd, mx21, mx32, ↓reduceIte, Int.reduceToNat]
              refine hK _ _ ?_; clear hK K
              refine WP.cond (b := false) (by rfl) nofun (fun _ => ?_)
              refine WP.skip ?_
              show WP _ _ _ _ _ _
              refine WP.sr [4] (by kernel_rfl) fun K hK => ?_
              simp (decide := true) only [TF, EV, q1, q2, q3, q4, q5, q9, q13, hMin, q14, q16, h90, q17, q18, q19, q20, rdD, Nat.reduceAdd, mx21, mx32, ↓reduceIte, Int.reduceToNat]
              refine CallK.pure (c_alive) rfl rfl (by simp [-List.map_take]) ?_
              simp (decide := true) only [TF, EV, q1, q2, q3, q4, q5, q9, q13, hMin, q14, q16, h90, q17, q18, q19, q20, rdD, Nat.reduceAdd, mx21, mx32, ↓reduceIte, Int.reduceToNat]
              refine hK _ _ ?_; clear hK K
              refine WP.ret ?_
              exact Ends.pure (.inr rfl) rfl (Le.of_eq (by simp (decide := true) only [St.get, lk, W, q1, q2, q3, q4, q5, q9, q13, hMin, q14, q16, h90, q17, q18, q19, q20, ↓reduceIte])) (by simp)
           ·
            simp (decide := true) only [TF, EV, q1, q2, q3, q4, q5, q9, q13, hMin, q14, q16, h90, q17, q18, rdD, Nat.reduceAdd, mx21, mx32, ↓reduceIte, Int.reduceToNat]
            refine hK _ _ ?_; clear hK K
            refine WP.cond (b := false) (by rfl) nofun (fun _ => ?_)
            refine WP.skip ?_
            show WP _ _ _ _ _ _
            refine WP.sr [4] (by kernel_rfl) fun K hK => ?_
            simp (decide := true) only [TF, EV, q1, q2, q3, q4, q5, q9, q13, hMin, q14, q16, h90, q17, q18, rdD, Nat.reduceAdd, mx21, mx32, ↓reduceIte, Int.reduceToNat]
            refine CallK.pure (c_alive) rfl rfl (by simp [-List.map_take]) ?_
            simp (decide := true) only [TF, EV, q1, q2, q3, q4, q5, q9, q13, hMin, q14, q16, h90, q17, q18, rdD, Nat.reduceAdd, mx21, mx32, ↓reduceIte, Int.reduceToNat]
            refine hK _ _ ?_; clear hK K
            refine WP.ret ?_
            exact Ends.pure (.inr rfl) rfl (Le.of_eq (by simp (decide := true) only [St.get, lk, W, q1, q2, q3, q4, q5, q9, q13, hMin, q14, q16, h90, q17, q18, ↓reduceIte])) (by simp)
       ·
        refine WP.sr [4] (by kernel_rfl) fun K hK => ?_
        simp (decide := true) only [TF, EV, q1, q2, q3, q4, q5, q9, q13, rdD, Nat.reduceAdd, mx21, mx32, ↓reduceIte, Int.reduceToNat]
        refine CallK.pure (c_r_possible c hc) rfl rfl (by simp [-List.map_take]) ?_
        refine runOps.take 1 fun J hJ => ?_
        simp (decide := true) only [TF, EV, q1, q2, q3, q4, q5, q9, q13, rdD, Nat.reduceAdd, mx21, mx32, ↓reduceIte, Int.reduceToNat]
        refine hJ _ _ ?_; clear hJ J
        refine runOps.part 37 rfl (fun q21 => ?_) (fun q21 => ?_)
        ·
         simp (decide := true) only [TF, EV, q1, q2, q3, q4, q5, q9, q13, q21, rdD, Nat.reduceAdd, mx21, mx32, ↓reduceIte, Int.reduceToNat]
         refine CallK.pure (c_alive) rfl rfl (by simp [-List.map_take]) ?_
         simp (decide := true) only [TF, EV, q1, q2, q3, q4, q5, q9, q13, q21, rdD, Nat.reduceAdd, mx21, mx32, ↓reduceIte, Int.reduceToNat]
         refine hK _ _ ?_; clear hK K
         refine WP.ret ?_
         exact Ends.pure (.inr rfl) rfl (Le.of_eq (by simp (decide := true) only [St.get, lk, W, q1, q2, q3, q4, q5, q9, q13, q21, ↓reduceIte])) (by simp)
        ·
         have hno : holdsB c r = false := holds_no (by simpa using q21)
         simp (decide := true) only [TF, EV, q1, q2, q3, q4, q5, q9, q13, q21, hno, rdD, Nat.reduceAdd, mx21, mx32, ↓reduceIte, Int.reduceToNat]
         refine CallK.pure (c_holds c r hc hr) rfl rfl (by simp [-List.map_take]) ?_
         simp (decide := true) only [TF, EV, q1, q2, q3, q4, q5, q9, q13, q21, hno, rdD, Nat.reduceAdd, mx21, mx32, ↓reduceIte, Int.reduceToNat]
         refine CallK.pure (c_alive) rfl rfl (by simp [-List.map_take]) ?_
         simp (decide := true) only [TF, EV, q1, q2, q3, q4, q5, q9, q13, q21, hno, rdD, Nat.reduceAdd, mx21, mx32, ↓reduceIte, Int.reduceToNat]
         refine hK _ _ ?_; clear hK K
         refine WP.ret ?_
         exact Ends.pure (.inr rfl) rfl (Le.of_eq (by simp (decide := true) only [St.get, lk, W, q1, q2, q3, q4, q5, q9, q13, q21, hno, ↓reduceIte])) (by simp)
end Go.Proofs
set_option linter.unusedVariables false
set_option maxRecDepth 100000
namespace Go.Proofs.YtnmalfongaognaaGreatDoor.RwOpposites
open Go Go.Id Go.Proofs Go.ChangeShapes Go.ChangeMaps Go.WideShapes Go.ChangeAt Go.RowKit Go.Proofs.YtnmalfongaognaaGreatDoor.Rw
theorem contract (H : Type) (enc : TypeId × Value → H) (W : World) (base : Nat) (args : Array Value) (ds gs : List (DataW H)) (before : List MemPlace)
    (hval : ∀ (j : Nat) t v, Tryz.f8.params[j]? = some t → args[j]? = some v → Value.okWide Tryz.prog W .any base t v)
    (hW : DataW.Whole enc Tryz.prog Tryz.f8.params.toList Rows.policyOppositesSpec.vars false W args.toList ds gs before) (hL : laidMetH Tryz.prog laidL W) (hS : W.ShapedOpen Tryz.prog) :
    Calls Tryz.prog 8 args W fun e W' => ∃ v, e = .returned v ∧ Rows.policyOppositesSpec.post enc Tryz.prog Tryz.f8 false true false false W args v W' := by
  have hW' := hW
  obtain ⟨p, q, hA0, hV, rfl, hfz, hnd⟩ := hW
  have hA : DataW.TrodAll enc Tryz.prog W 0 (fun _ => true) true Tryz.f8.params.toList args.toList ds p := hA0
  rw [Tryz.params8] at hA hval
  obtain ⟨v0, v1, d0, d1, p_0, p_1, rfl, rfl, rfl, h0, h1⟩ := trodAll_two hA
  obtain ⟨rfl, rfl⟩ := trodVars_none hV
  obtain ⟨c0, r0⟩ := arg_cond (hval 0 43 v0 rfl rfl) h0
  obtain ⟨q1, hb1, r1⟩ := arg_req (hval 1 38 v1 rfl rfl) h1
  refine (CallP.run (c_l_opposites c0 q1 hb1) W (polI_of hL hS) (heap_of hS) [v0, v1] rfl (consR r0 (one r1))).mono ?_
  rintro e W' ⟨v, rfl, hr, hb⟩
  cases hr
  exact ⟨_, rfl, post_all hW' rfl hb (of_decide_eq_true (by kernel_rfl)) (by kernel_rfl) rfl rfl rfl⟩
abbrev wit : Array Value := #[.agg #[.string ⟨#[]⟩, .string ⟨#[]⟩, .string ⟨#[]⟩], .agg #[.string ⟨#[]⟩, .string ⟨#[]⟩, .string ⟨#[]⟩, .slice none 0 0, .slice none 0 0, .int .i64 0, .bool false, .int .i64 0, .int .i64 0, .int .i64 0]]
theorem reads (os : Os) {H : Type} (enc : TypeId × Value → H) : (DataW.whole enc Tryz.prog (memW os wit) Tryz.f8.params.toList Rows.policyOppositesSpec.vars false wit.toList 8).map (fun x => (x.1, x.2.1)) = some ([.agg [.lit (.string []), .lit (.string []), .lit (.string [])], .agg [.lit (.string []), .lit (.string []), .lit (.string []), .nil, .nil, .lit (.int .i64 0), .lit (.bool false), .lit (.int .i64 0), .lit (.int .i64 0), .lit (.int .i64 0)]], []) := by kernel_rfl
theorem lifted (os : Os) (started : os.Started) (H : Type) (enc : TypeId × Value → H) (F : Stop.Interp) :
    ReturnsInHanded {} Tryz.checked os 8 .any ((OpenSpec.ofChange Rows.policyOppositesSpec).preRow enc Tryz.prog Tryz.f8 Rows.policyOppositesRow.domain false Rows.policyOppositesRow.laid) (((OpenSpec.ofChange Rows.policyOppositesSpec).at F).post enc Tryz.prog Tryz.f8 false true false false) := by
  obtain ⟨⟨x1, x2, x3⟩, hx, hx1⟩ := Option.map_eq_some_iff.1 (reads os enc)
  simp only [Prod.mk.injEq] at hx1
  obtain ⟨rfl, rfl⟩ := hx1
  refine returnsInHanded_of_row (C := Tryz.checked) (s := OpenSpec.ofChange Rows.policyOppositesSpec) own started (by kernel_rfl) Tryz.func8
    (witness_row_atRef (enc := enc) (C := Tryz.checked) false (laidWorld os) wit rfl (by kernel_rfl) (by kernel_rfl) (by kernel_rfl)
      (OpenSpec.preRow_of_cond 8 hx (by kernel_rfl) (fun k hk => by cases hk) (by kernel_rfl) (laid_met os _))) ?_
  intro W base args ds gs before hval hW _ _ _ hL hS _
  exact contract H enc W base args ds gs before hval hW hL hS
theorem said : Rows.PolicyOppositesSaid :=
  OpenClaim.holds_of_cond 8 Tryz.f8 rfl rfl rfl rfl rfl rfl rfl ⟨rfl, rfl, rfl, rfl, rfl⟩ rfl rfl rfl rfl rfl (by kernel_rfl) Tryz.func8 (by kernel_rfl)
    (of_decide_eq_true (by kernel_rfl)) (by unfold Func.isWrapper; first | (rw [if_pos (by decide +kernel)]; kernel_rfl) | (rw [if_neg (by decide +kernel)]; exact ⟨rfl, rfl⟩))
    (fun os started H enc _ F => by rw [OpenClaim.pre_eq_preRow]; exact lifted os started H enc F)
theorem plain (f : FuncId) (fn : Func) (hf : Tryz.pinned.checked.prog.funcNamed Rows.policyOppositesRow.func = some f) (hfn : Tryz.pinned.checked.prog.funcs[f]? = some fn) :
    true = Tryz.pinned.checked.prog.looks [] ∧ ∀ (j : Nat) t, fn.params[j]? = some t → Tryz.pinned.checked.prog.wantsStandIn t = false := by
  obtain rfl : f = 8 := Option.some.inj ((show Tryz.prog.funcNamed Rows.policyOppositesRow.func = some 8 by kernel_rfl).symm.trans hf) |>.symm
  obtain rfl : fn = Tryz.f8 := (Option.some.inj (Tryz.func8.symm.trans hfn)).symm
  refine ⟨by kernel_rfl, fun j t ht => ?_⟩
  have hall : (Tryz.f8.params.toList.all fun t => Tryz.prog.wantsStandIn t == false) = true := by kernel_rfl
  exact eq_of_beq (List.all_eq_true.1 hall t (by simpa using Array.mem_of_getElem? ht))
theorem card : Rows.PolicyOppositesCardSaid :=
  Claim7.holds_tied_plain_at .later [] _ _ _ _ said (fun _ h => by cases h) (by kernel_rfl) (fun _ h => by cases h) policyOpposites_row_tie rfl ⟨rfl, rfl⟩ (by kernel_rfl) rfl plain (by kernel_rfl)
end Go.Proofs.YtnmalfongaognaaGreatDoor.RwOpposites
#print axioms Go.Proofs.YtnmalfongaognaaGreatDoor.RwOpposites.card
