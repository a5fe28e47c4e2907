import Derived.Test.YtahpinmifmdpgaaGreatDoorG05
import Derived.Test.YtahpinmifmdpgaaGreatDoorG10
import Derived.Test.YtahpinmifmdpgaaGreatDoorG03
set_option linter.unusedVariables false
set_option linter.unusedSimpArgs false
set_option linter.unnecessarySimpa false
set_option maxRecDepth 10000
namespace Go.Proofs
open Go Go.Id
set_option maxHeartbeats 4000000
theorem c_r_reasons0 (nl : Bool) (r : Req) : CallP Pr 35 [.slice 6 nl [] none, .agg [.str r.user, .str r.client, .str r.tenant, .slice 1 r.ng (r.groups.map fun x => [.str x]) none, .slice 1 r.ns (r.scopes.map fun x => [.str x]) none, .int .i64 r.risk, .bool r.trusted, .int .i64 r.level, .int .i64 r.auth, .int .i64 r.now]] (.slice 0 true [] none) := by
 refine CallP.of_wp Tryz.func35 rfl (by kernel_rfl) Tryz.ntmps35 (by simp) ?_
 simp only [frameOf, Nat.reduceAdd, Nat.zero_add]
 refine WP.sr [0, 3] (by kernel_rfl) fun K hK => ?_
 simp (decide := true) only [TF, ↓reduceIte, Int.reduceToNat]
 refine hK _ _ ?_; clear hK K
 refine WP.sr [0, 3, 5] (by kernel_rfl) fun K hK => ?_
 simp (decide := true) only [TF, ↓reduceIte, Int.reduceToNat]
 refine hK _ _ ?_; clear hK K
 refine WP.seq ?_
 refine WP.sr [0, 3, 5, 6] (by kernel_rfl) fun K hK => ?_
 simp (decide := true) only [TF, ↓reduceIte, Int.reduceToNat]
 refine hK _ _ ?_; clear hK K
 refine WP.block ?_
 refine WP.lp [0, 3] (X := {k : Nat // True}) (fun x => match x with | ⟨(k), _⟩ => [(5, .slice 0 true [] none), (6, .int .i64 k)]) (fun x => match x with | ⟨(k), _⟩ => [(0, .box 25 [.str r.user, .str r.client, .str r.tenant, .slice 1 r.ng (r.groups.map fun x => [.str x]) none, .slice 1 r.ns (r.scopes.map fun x => [.str x]) none, .int .i64 r.risk, .bool r.trusted, .int .i64 r.level, .int .i64 r.auth, .int .i64 r.now])]) (fun x => match x with | ⟨(k), _⟩ => 0) (by simp (decide := true) only [W, ↓reduceIte, Int.reduceToNat]; rfl) ?_ ⟨(0), trivial⟩ ?_
 rotate_left
 · exact Weak.store (by simp [St.get, lk, W, Le.refl, W]) (by simp [lk, W, W]) (by simp [lk, W]) (by simp [BClo, lk]) (by simp [lk])
 rintro ⟨k, hk⟩
 dsimp only
 simp only [List.cons_append, List.nil_append]
 refine WP.seq ?_
 refine WP.sr [0, 3, 5, 6, 10] (by kernel_rfl) fun K hK => ?_
 simp (decide := true) only [TF, ↓reduceIte, Int.reduceToNat]
 refine hK _ _ ?_; clear hK K
 refine WP.cond (b := _) rfl (fun q1 => ?_) (fun q1 => ?_)
 ·
  have h := of_decide_eq_true q1; simp at h; omega
 ·
  refine WP.exit ?_
  show WP _ _ _ _ _ _
  refine WP.sr [4] (by kernel_rfl) fun K hK => ?_
  simp (decide := true) only [TF, q1, ↓reduceIte, Int.reduceToNat]
  refine hK _ _ ?_; clear hK K
  refine WP.ret ?_
  exact Ends.pure (.inr rfl) rfl (Le.of_eq (by simp (decide := true) only [St.get, lk, W, q1, ↓reduceIte])) (by simp)
theorem c_r_run0 (nl : Bool) (r : Req) (hr : r.ok) (hrs : ∀ s ∈ r.scopes, s.length ≤ 1099511627776) : CallP Pr 13 [.slice 6 nl [] none, .agg [.str r.user, .str r.client, .str r.tenant, .slice 1 r.ng (r.groups.map fun x => [.str x]) none, .slice 1 r.ns (r.scopes.map fun x => [.str x]) none, .int .i64 r.risk, .bool r.trusted, .int .i64 r.level, .int .i64 r.auth, .int .i64 r.now]] (.agg (dcsD (runD [] r))) := by
 refine CallP.of_wp Tryz.func13 rfl (by kernel_rfl) Tryz.ntmps13 (by simp) ?_
 simp only [frameOf, Nat.reduceAdd, Nat.zero_add]
 refine WP.sr [0, 3, 4] (by kernel_rfl) fun K hK => ?_
 simp (decide := true) only [TF, checkE_nil, grP_nil, ↓reduceIte, Int.reduceToNat]
 refine hK _ _ ?_; clear hK K
 refine WP.seq ?_
 refine WP.sr [0, 3, 4, 14] (by kernel_rfl) fun K hK => ?_
 simp (decide := true) only [TF, checkE_nil, grP_nil, ↓reduceIte, Int.reduceToNat]
 refine CallK.pure (c_r_check [] nl (by simp) (fun _ => rfl) (by simp)) rfl rfl (by simp [-List.map_take]) ?_
 simp (decide := true) only [TF, checkE_nil, grP_nil, ↓reduceIte, Int.reduceToNat]
 refine hK _ _ ?_; clear hK K
 refine WP.cond (b := _) rfl (fun q1 => ?_) (fun q1 => ?_)
 ·
  cases q1
 ·
  refine WP.skip ?_
  show WP _ _ _ _ _ _
  refine WP.sr [0, 3, 4, 5] (by kernel_rfl) fun K hK => ?_
  simp (decide := true) only [TF, q1, checkE_nil, grP_nil, ↓reduceIte, Int.reduceToNat]
  refine CallK.pure (c_r_reasons0 nl r) rfl rfl (by simp [-List.map_take]) ?_
  simp (decide := true) only [TF, q1, checkE_nil, grP_nil, ↓reduceIte, Int.reduceToNat]
  refine hK _ _ ?_; clear hK K
  refine WP.seq ?_
  refine WP.sr [0, 3, 4, 5, 6] (by kernel_rfl) fun K hK => ?_
  simp (decide := true) only [TF, q1, checkE_nil, grP_nil, ↓reduceIte, Int.reduceToNat]
  refine hK _ _ ?_; clear hK K
  refine WP.block ?_
  refine WP.lp [0, 3, 4, 5] (X := {k : Nat // True}) (fun x => match x with | ⟨(k), _⟩ => [(6, .int .i64 k)]) (fun x => match x with | ⟨(k), _⟩ => [(2, .box 32 [.int .i64 4, .slice 0 true [] none, .int .i64 0, .int .i64 0, .slice 0 true [] none]), (1, .box 32 [.int .i64 0, .slice 0 true [] none, .int .i64 0, .int .i64 0, .slice 0 true [] none]), (0, .box 25 [.str r.user, .str r.client, .str r.tenant, .slice 1 r.ng (r.groups.map fun x => [.str x]) none, .slice 1 r.ns (r.scopes.map fun x => [.str x]) none, .int .i64 r.risk, .bool r.trusted, .int .i64 r.level, .int .i64 r.auth, .int .i64 r.now])]) (fun x => match x with | ⟨(k), _⟩ => 0) (by simp (decide := true) only [W, ↓reduceIte, Int.reduceToNat]; rfl) ?_ ⟨(0), trivial⟩ ?_
  rotate_left
  · exact Weak.store (by simp [St.get, lk, W, Le.refl, q1]) (by simp [lk, W, q1]) (by simp [lk, W]) (by simp [BClo, lk]) (by simp [lk])
  rintro ⟨k, hk⟩
  dsimp only
  simp only [List.cons_append, List.nil_append]
  refine WP.seq ?_
  refine WP.sr [0, 3, 4, 5, 6, 23] (by kernel_rfl) fun K hK => ?_
  simp (decide := true) only [TF, q1, checkE_nil, grP_nil, ↓reduceIte, Int.reduceToNat]
  refine hK _ _ ?_; clear hK K
  refine WP.cond (b := _) rfl (fun q2 => ?_) (fun q2 => ?_)
  ·
   have h := of_decide_eq_true q2; simp at h; omega
  ·
   refine WP.exit ?_
   show WP _ _ _ _ _ _
   refine WP.sr [0, 3, 4, 5, 7] (by kernel_rfl) fun K hK => ?_
   simp (decide := true) only [TF, q1, q2, checkE_nil, grP_nil, ↓reduceIte, Int.reduceToNat]
   refine hK _ _ ?_; clear hK K
   refine WP.seq ?_
   refine WP.sr [0, 3, 4, 5, 7, 8] (by kernel_rfl) fun K hK => ?_
   simp (decide := true) only [TF, q1, q2, checkE_nil, grP_nil, ↓reduceIte, Int.reduceToNat]
   refine hK _ _ ?_; clear hK K
   refine WP.block ?_
   refine WP.lp [0, 3, 4, 5] (X := {k : Nat // k ≤ r.scopes.length}) (fun x => match x with | ⟨(k), _⟩ => [(7, .slice 0 true [] none), (8, .int .i64 k)]) (fun x => match x with | ⟨(k), _⟩ => [(2, .box 32 [.int .i64 4, .slice 0 true [] none, .int .i64 0, .int .i64 0, .slice 0 true [] none]), (1, .box 32 [.int .i64 0, .slice 0 true [] none, .int .i64 0, .int .i64 0, .slice 0 true [] none]), (0, .box 25 [.str r.user, .str r.client, .str r.tenant, .slice 1 r.ng (r.groups.map fun x => [.str x]) none, .slice 1 r.ns (r.scopes.map fun x => [.str x]) none, .int .i64 r.risk, .bool r.trusted, .int .i64 r.level, .int .i64 r.auth, .int .i64 r.now])]) (fun x => match x with | ⟨(k), _⟩ => r.scopes.length - k) (by simp (decide := true) only [W, ↓reduceIte, Int.reduceToNat]; rfl) ?_ ⟨(0), Nat.zero_le _⟩ ?_
   rotate_left
   · exact Weak.store (by simp [St.get, lk, W, Le.refl, q1, q2]) (by simp [lk, W, q1, q2]) (by simp [lk, W]) (by simp [BClo, lk]) (by simp [lk])
   rintro ⟨k, hk⟩
   dsimp only
   simp only [List.cons_append, List.nil_append]
   refine WP.seq ?_
   refine WP.sr [0, 3, 4, 5, 7, 8, 46] (by kernel_rfl) fun K hK => ?_
   simp (decide := true) only [TF, q1, q2, hk, checkE_nil, grP_nil, ↓reduceIte, Int.reduceToNat]
   refine hK _ _ ?_; clear hK K
   refine WP.cond (b := _) rfl (fun q3 => ?_) (fun q3 => ?_)
   ·
    have hlt := lt_of_q q3
    have hg : (r.scopes.map (fun x => [D.str x]))[k]? = some [.str r.scopes[k]] := getM hlt
    have hnf := nl_false hr.2.2.2 hlt
    have hsk := hrs _ (List.getElem_mem hlt)
    refine WP.skip ?_
    show WP _ _ _ _ _ _
    refine WP.seq ?_
    refine WP.block ?_
    refine WP.sd [0, 3, 4, 5, 7, 8, 9] (by kernel_rfl) (by kernel_rfl) fun K hK => ?_
    simp (decide := true) only [TF, q1, q2, hk, q3, hg, hnf, checkE_nil, grP_nil, ↓reduceIte, Int.reduceToNat]
    refine CallK.pure (c_r_granting [] nl r (by simp) (fun _ => rfl) (by simp) hr r.scopes[k] hsk) rfl (by simp only [hnf]; rfl) (by simp [-List.map_take]) ?_
    simp (decide := true) only [TF, q1, q2, hk, q3, hg, hnf, checkE_nil, grP_nil, ↓reduceIte, Int.reduceToNat]
    refine hK _ _ (by kernel_rfl) ?_
    clear hK K
    refine WP.seq ?_
    refine WP.sr [0, 3, 4, 5, 7, 8, 9, 67] (by kernel_rfl) fun K hK => ?_
    refine runOps.take 3 fun J hJ => ?_
    simp (decide := true) only [TF, q1, q2, hk, q3, hg, hnf, checkE_nil, grP_nil, ↓reduceIte, Int.reduceToNat]
    refine hJ _ _ ?_; clear hJ J
    refine runOps.part 59 rfl (fun q4 => ?_) (fun q4 => ?_)
    ·
     simp (decide := true) only [TF, q1, q2, hk, q3, hg, hnf, q4, checkE_nil, grP_nil, ↓reduceIte, Int.reduceToNat]
     refine hK _ _ ?_; clear hK K
     refine WP.cond (b := true) (by rfl) (fun _ => ?_) nofun
     refine WP.exit ?_
     show WP _ _ _ _ _ _
     refine WP.region (by kernel_rfl) fun K hK => ?_
     simp (decide := true) only [TF, q1, q2, hk, q3, hg, hnf, q4, checkE_nil, grP_nil, ↓reduceIte, Int.reduceToNat]
     refine hK _ _ ?_; clear hK K
     show ∃ y, _ ∧ Weak _ _ _
     refine ⟨⟨k + 1, hlt⟩, by dsimp only; omega, ?_⟩
     exact Weak.store (by simp [St.get, lk, W, Le.refl, q1, q2, hk, q3, hg, hnf, q4, wrapS hlt (show r.scopes.length ≤ 140737488355328 by have := hr.2.2.1; omega)]) (by simp [lk, W, q1, q2, hk, q3, hg, hnf, q4]) (by simp [lk, W]) (by simp [BClo, lk]) (by simp [lk])
    ·
     cases q4
   ·
    have hge := ge_of_q q3
    refine WP.exit ?_
    show WP _ _ _ _ _ _
    refine WP.seq ?_
    refine WP.sr [0, 3, 4, 5, 7, 137] (by kernel_rfl) fun K hK => ?_
    simp (decide := true) only [TF, q1, q2, hk, q3, checkE_nil, grP_nil, ↓reduceIte, Int.reduceToNat]
    refine hK _ _ ?_; clear hK K
    refine WP.cond (b := _) rfl (fun q5 => ?_) (fun q5 => ?_)
    ·
     cases q5
    ·
     refine WP.skip ?_
     show WP _ _ _ _ _ _
     refine WP.seq ?_
     refine WP.sr [0, 3, 4, 5, 10] (by kernel_rfl) fun K hK => ?_
     simp (decide := true) only [TF, q1, q2, hk, q3, q5, checkE_nil, grP_nil, ↓reduceIte, Int.reduceToNat]
     refine hK _ _ ?_; clear hK K
     refine WP.block ?_
     refine WP.lp [0, 3, 4, 5] (X := {k : Nat // True}) (fun x => match x with | ⟨(k), _⟩ => [(10, .int .i64 k)]) (fun x => match x with | ⟨(k), _⟩ => [(2, .box 32 [.int .i64 4, .slice 0 true [] none, .int .i64 0, .int .i64 0, .slice 0 true [] none]), (1, .box 32 [.int .i64 0, .slice 0 true [] none, .int .i64 0, .int .i64 0, .slice 0 true [] none]), (0, .box 25 [.str r.user, .str r.client, .str r.tenant, .slice 1 r.ng (r.groups.map fun x => [.str x]) none, .slice 1 r.ns (r.scopes.map fun x => [.str x]) none, .int .i64 r.risk, .bool r.trusted, .int .i64 r.level, .int .i64 r.auth, .int .i64 r.now])]) (fun x => match x with | ⟨(k), _⟩ => 0) (by simp (decide := true) only [W, ↓reduceIte, Int.reduceToNat]; rfl) ?_ ⟨(0), trivial⟩ ?_
     rotate_left
     · exact Weak.store (by simp [St.get, lk, W, Le.refl, q1, q2, hk, q3, q5]) (by simp [lk, W, q1, q2, hk, q3, q5]) (by simp [lk, W]) (by simp [BClo, lk]) (by simp [lk])
     rintro ⟨k, hk⟩
     dsimp only
     simp only [List.cons_append, List.nil_append]
     refine WP.seq ?_
     refine WP.sr [0, 3, 4, 5, 10, 146] (by kernel_rfl) fun K hK => ?_
     simp (decide := true) only [TF, q1, q2, hk, q3, q5, checkE_nil, grP_nil, ↓reduceIte, Int.reduceToNat]
     refine hK _ _ ?_; clear hK K
     refine WP.cond (b := _) rfl (fun q6 => ?_) (fun q6 => ?_)
     ·
      have h := of_decide_eq_true q6; simp at h; omega
     ·
      refine WP.exit ?_
      show WP _ _ _ _ _ _
      refine WP.sr [4] (by kernel_rfl) fun K hK => ?_
      simp (decide := true) only [TF, q1, q2, hk, q3, q5, q6, checkE_nil, grP_nil, ↓reduceIte, Int.reduceToNat]
      refine hK _ _ ?_; clear hK K
      refine WP.ret ?_
      exact Ends.pure (.inr rfl) rfl ((by rw [runD_nil]; exact Le.agg ⟨Le.refl _, Le.nil _ _ _, Le.refl _, Le.refl _, Le.nil _ _ _, trivial⟩)) (by simp)
theorem c_run (l : List Rule) (nl : Bool) (r : Req) (hn : l.length ≤ 1099511627776) (hnl : nl = true → l = []) (hl : ∀ p ∈ l, p.ok) (hr : r.ok) (hrs : ∀ s ∈ r.scopes, s.length ≤ 1099511627776) : CallP Pr 12 [.slice 6 nl (l.map Rule.cs) none, .agg [.str r.user, .str r.client, .str r.tenant, .slice 1 r.ng (r.groups.map fun x => [.str x]) none, .slice 1 r.ns (r.scopes.map fun x => [.str x]) none, .int .i64 r.risk, .bool r.trusted, .int .i64 r.level, .int .i64 r.auth, .int .i64 r.now]] (.agg (dcsD (runD l r))) := by
 cases l with
 | nil => exact c_run0 nl r hr hrs
 | cons p l => exact c_run1 (p :: l) nl r hn hnl hl hr hrs (by simp)
theorem c_r_run (l : List Rule) (nl : Bool) (r : Req) (hn : l.length ≤ 1099511627776) (hnl : nl = true → l = []) (hl : ∀ p ∈ l, p.ok) (hr : r.ok) (hrs : ∀ s ∈ r.scopes, s.length ≤ 1099511627776) : CallP Pr 13 [.slice 6 nl (l.map Rule.cs) none, .agg [.str r.user, .str r.client, .str r.tenant, .slice 1 r.ng (r.groups.map fun x => [.str x]) none, .slice 1 r.ns (r.scopes.map fun x => [.str x]) none, .int .i64 r.risk, .bool r.trusted, .int .i64 r.level, .int .i64 r.auth, .int .i64 r.now]] (.agg (dcsD (runD l r))) := by
 cases l with
 | nil => exact c_r_run0 nl r hr hrs
 | cons p l => exact c_r_run1 (p :: l) nl r hn hnl hl hr hrs (by simp)
def aftR (r : Req) (n : Int) : Req := { r with level := if n > r.level then n else r.level, auth := r.now }
theorem c_after (l : List Rule) (nl : Bool) (r : Req) (hn : l.length ≤ 1099511627776) (hnl : nl = true → l = []) (hl : ∀ p ∈ l, p.ok) (hr : r.ok) (hrs : ∀ s ∈ r.scopes, s.length ≤ 1099511627776) (n : Int) : CallP Pr 20 [.slice 6 nl (l.map Rule.cs) none, .agg [.str r.user, .str r.client, .str r.tenant, .slice 1 r.ng (r.groups.map fun x => [.str x]) none, .slice 1 r.ns (r.scopes.map fun x => [.str x]) none, .int .i64 r.risk, .bool r.trusted, .int .i64 r.level, .int .i64 r.auth, .int .i64 r.now], .int .i64 n] (.agg (dcsD (runD l (aftR r n)))) := by
 refine CallP.of_wp Tryz.func20 rfl (by kernel_rfl) Tryz.ntmps20 (by simp) ?_
 simp only [frameOf, Nat.reduceAdd, Nat.zero_add]
 refine WP.sr [0, 2, 4, 6] (by kernel_rfl) fun K hK => ?_
 simp (decide := true) only [TF, ↓reduceIte, Int.reduceToNat]
 refine hK _ _ ?_; clear hK K
 refine WP.sr [0, 4, 6] (by kernel_rfl) fun K hK => ?_
 simp (decide := true) only [TF, ↓reduceIte, Int.reduceToNat]
 refine hK _ _ ?_; clear hK K
 refine WP.sr [6] (by kernel_rfl) fun K hK => ?_
 simp (decide := true) only [TF, ↓reduceIte, Int.reduceToNat]
 refine CallK.pure (c_run l nl (aftR r n) hn hnl hl hr hrs) rfl rfl (by simp [-List.map_take]) ?_
 simp (decide := true) only [TF, ↓reduceIte, Int.reduceToNat]
 refine hK _ _ ?_; clear hK K
 refine WP.ret ?_
 exact Ends.pure (.inr rfl) rfl (Le.refl _) (by simp)
theorem c_r_after (l : List Rule) (nl : Bool) (r : Req) (hn : l.length ≤ 1099511627776) (hnl : nl = true → l = []) (hl : ∀ p ∈ l, p.ok) (hr : r.ok) (hrs : ∀ s ∈ r.scopes, s.length ≤ 1099511627776) (n : Int) : CallP Pr 21 [.slice 6 nl (l.map Rule.cs) none, .agg [.str r.user, .str r.client, .str r.tenant, .slice 1 r.ng (r.groups.map fun x => [.str x]) none, .slice 1 r.ns (r.scopes.map fun x => [.str x]) none, .int .i64 r.risk, .bool r.trusted, .int .i64 r.level, .int .i64 r.auth, .int .i64 r.now], .int .i64 n] (.agg (dcsD (runD l (aftR r n)))) := by
 refine CallP.of_wp Tryz.func21 rfl (by kernel_rfl) Tryz.ntmps21 (by simp) ?_
 simp only [frameOf, Nat.reduceAdd, Nat.zero_add]
 refine WP.sr [0, 2, 4, 6] (by kernel_rfl) fun K hK => ?_
 simp (decide := true) only [TF, ↓reduceIte, Int.reduceToNat]
 refine hK _ _ ?_; clear hK K
 refine WP.sr [0, 2, 6, 7] (by kernel_rfl) fun K hK => ?_
 simp (decide := true) only [TF, ↓reduceIte, Int.reduceToNat]
 refine hK _ _ ?_; clear hK K
 refine WP.seq ?_
 refine WP.sr [0, 2, 6, 7, 12] (by kernel_rfl) fun K hK => ?_
 simp (decide := true) only [TF, ↓reduceIte, Int.reduceToNat]
 refine hK _ _ ?_; clear hK K
 refine WP.cond (b := _) rfl (fun q1 => ?_) (fun q1 => ?_)
 ·
  have hA : aftR r n = { r with level := n, auth := r.now } := by unfold aftR; rw [if_pos (of_decide_eq_true q1)]
  refine WP.region (by kernel_rfl) fun K hK => ?_
  simp (decide := true) only [TF, q1, ↓reduceIte, Int.reduceToNat]
  refine hK _ _ ?_; clear hK K
  show WP _ _ _ _ _ _
  refine WP.sr [0, 6, 7] (by kernel_rfl) fun K hK => ?_
  simp (decide := true) only [TF, q1, ↓reduceIte, Int.reduceToNat]
  refine hK _ _ ?_; clear hK K
  refine WP.sr [6] (by kernel_rfl) fun K hK => ?_
  simp (decide := true) only [TF, q1, ↓reduceIte, Int.reduceToNat]
  have hC := c_r_run l nl (aftR r n) hn hnl hl hr hrs
  rw [hA] at hC
  refine CallK.pure hC rfl rfl (by simp [-List.map_take]) ?_
  simp (decide := true) only [TF, q1, ↓reduceIte, Int.reduceToNat]
  refine hK _ _ ?_; clear hK K
  refine WP.ret ?_
  exact Ends.pure (.inr rfl) rfl ((by rw [hA]; exact Le.refl _)) (by simp)
 ·
  have hA : aftR r n = { r with level := r.level, auth := r.now } := by unfold aftR; rw [if_neg (of_decide_eq_false q1)]
  refine WP.skip ?_
  show WP _ _ _ _ _ _
  refine WP.sr [0, 6, 7] (by kernel_rfl) fun K hK => ?_
  simp (decide := true) only [TF, q1, ↓reduceIte, Int.reduceToNat]
  refine hK _ _ ?_; clear hK K
  refine WP.sr [6] (by kernel_rfl) fun K hK => ?_
  simp (decide := true) only [TF, q1, ↓reduceIte, Int.reduceToNat]
  have hC := c_r_run l nl (aftR r n) hn hnl hl hr hrs
  rw [hA] at hC
  refine CallK.pure hC rfl rfl (by simp [-List.map_take]) ?_
  simp (decide := true) only [TF, q1, ↓reduceIte, Int.reduceToNat]
  refine hK _ _ ?_; clear hK K
  refine WP.ret ?_
  exact Ends.pure (.inr rfl) rfl ((by rw [hA]; exact Le.refl _)) (by simp)
def exC (r : Req) (p : Rule) : List Cond := if decide (firstL r p.conds 0 ≥ 0) = true then p.conds.take ((firstL r p.conds 0).toNat + 1) else p.conds
def fieldsL (l : List Rule) (r : Req) : List (List UInt8) := l.flatMap fun p => (exC r p).map Cond.f
def chgR (l : List Rule) (r : Req) : List (List UInt8) := if (checkE l != 0) = true then [] else ascL (fieldsL l r)
theorem exC_t {r : Req} {p : Rule} (h : decide (firstL r p.conds 0 ≥ 0) = true) : exC r p = p.conds.take ((firstL r p.conds 0).toNat + 1) := by unfold exC; rw [if_pos h]
theorem exC_f {r : Req} {p : Rule} (h : decide (firstL r p.conds 0 ≥ 0) = false) : exC r p = p.conds := by unfold exC; rw [if_neg (by rw [h]; decide)]
theorem exC_len (r : Req) (p : Rule) : (exC r p).length ≤ p.conds.length := by
 unfold exC; split
 ·simp; omega
 ·exact Nat.le_refl _
theorem fields_succ {l : List Rule} {r : Req} {k : Nat} (h : k < l.length) : fieldsL (l.take (k + 1)) r = fieldsL (l.take k) r ++ (exC r l[k]).map Cond.f := by
 unfold fieldsL; rw [takeS h, List.flatMap_append]; simp
theorem chk_conds : ∀ (l seen : List Rule), chkL seen l = 0 → ∀ p ∈ l, p.conds.length ≤ 8
 | [], _, _, p, hp => by simp at hp
 | q :: l, seen, h, p, hp => by
  unfold chkL at h
  split at h
  ·rename_i e; simp at e; exact absurd h e
  ·rename_i e
   rcases List.mem_cons.1 hp with rfl | hp
   ·simp only [bne_iff_ne, ne_eq, Decidable.not_not] at e
    unfold ruleAt at e
    split at e
    ·cases e
    split at e
    ·cases e
    unfold ruleErrB at e
    split at e
    ·cases e
    ·rename_i w; simp at w; omega
   ·exact chk_conds l _ h p hp
theorem check_len {l : List Rule} (h : (checkE l != 0) = false) : l.length ≤ 64 ∧ ∀ p ∈ l, p.conds.length ≤ 8 := by
 simp only [bne_eq_false_iff_eq] at h
 unfold checkE at h
 split at h
 ·cases h
 ·rename_i w; simp at w; exact ⟨by omega, chk_conds l [] h⟩
theorem fields_le (r : Req) : ∀ (l : List Rule), (∀ p ∈ l, p.conds.length ≤ 8) → (fieldsL l r).length ≤ 8 * l.length
 | [], _ => by simp [fieldsL]
 | p :: l, h => by
  have h1 := fields_le r l fun q hq => h q (List.mem_cons_of_mem _ hq)
  have h2 := h p (by simp)
  have h3 := exC_len r p
  have : fieldsL (p :: l) r = (exC r p).map Cond.f ++ fieldsL l r := by simp [fieldsL]
  rw [this]; simp; omega
theorem fields_512 {l : List Rule} {r : Req} (h : (checkE l != 0) = false) : (fieldsL l r).length ≤ 512 := by
 obtain ⟨h1, h2⟩ := check_len h
 have := fields_le r l h2
 omega
abbrev MapE := List (List UInt8 × D × Nat)
def msE (fs : List (List UInt8)) : MapE × Nat := fs.foldl (fun q f => (putE q.1 q.2 f (.bool true), putC q.1 q.2 f)) ([], 0)
theorem msE_snoc (fs : List (List UInt8)) (f : List UInt8) : msE (fs ++ [f]) = (putE (msE fs).1 (msE fs).2 f (.bool true), putC (msE fs).1 (msE fs).2 f) := by simp [msE]
theorem findM_none : ∀ {es : MapE} {s : List UInt8}, findM es s = none → s ∉ es.map (·.1)
 | [], _, _ => by simp
 | (k, d, n) :: es, s, h => by
  unfold findM at h
  split at h
  ·cases h
  ·rename_i e; simp only [List.map_cons, List.mem_cons, not_or]; exact ⟨e, findM_none h⟩
theorem findM_some : ∀ {es : MapE} {s : List UInt8} {d : D}, findM es s = some d → s ∈ es.map (·.1)
 | [], _, _, h => by cases h
 | (k, d, n) :: es, s, d', h => by
  unfold findM at h
  split at h
  ·rename_i e; simp [e]
  ·simp only [List.map_cons, List.mem_cons]; exact .inr (findM_some h)
theorem setM_keys : ∀ (es : MapE) (s : List UInt8) (x : D), (setM es s x).map (·.1) = es.map (·.1)
 | [], _, _ => rfl
 | (k, d, n) :: es, s, x => by unfold setM; split <;> simp [setM_keys es s x]
theorem setM_born : ∀ (es : MapE) (s : List UInt8) (x : D), (setM es s x).map (·.2.2) = es.map (·.2.2)
 | [], _, _ => rfl
 | (k, d, n) :: es, s, x => by unfold setM; split <;> simp [setM_born es s x]
theorem setM_vals : ∀ (es : MapE) (s : List UInt8), (∀ e ∈ es, e.2.1 = .bool true) → ∀ e ∈ setM es s (.bool true), e.2.1 = .bool true
 | [], _, _, e, he => by simp [setM] at he
 | (k, d, n) :: es, s, h, e, he => by
  unfold setM at he
  split at he
  ·rcases List.mem_cons.1 he with rfl | he
   ·rfl
   ·exact h e (List.mem_cons_of_mem _ he)
  ·rcases List.mem_cons.1 he with rfl | he
   ·exact h _ (by simp)
   ·exact setM_vals es s (fun e he => h e (List.mem_cons_of_mem _ he)) e he
structure MsOk (q : MapE × Nat) (fs : List (List UInt8)) : Prop where
 keys : (q.1.map (·.1)).Nodup
 mem : ∀ x, x ∈ q.1.map (·.1) ↔ x ∈ fs
 born : (q.1.map (·.2.2)).Nodup
 lt : ∀ e ∈ q.1, e.2.2 < q.2
 val : ∀ e ∈ q.1, e.2.1 = .bool true
theorem MsOk.put {q : MapE × Nat} {fs : List (List UInt8)} (h : MsOk q fs) (f : List UInt8) : MsOk (putE q.1 q.2 f (.bool true), putC q.1 q.2 f) (fs ++ [f]) := by
 unfold putE putC
 cases hf : findM q.1 f with
 | some d =>
  have hm := (h.mem f).1 (findM_some hf)
  refine ⟨by dsimp only; rw [setM_keys]; exact h.keys, fun x => ?_, by dsimp only; rw [setM_born]; exact h.born, fun e he => ?_, setM_vals _ _ h.val⟩
  ·dsimp only; rw [setM_keys, h.mem, List.mem_append, List.mem_singleton]
   exact ⟨.inl, fun h => h.elim id fun e => e ▸ hm⟩
  ·have : e.2.2 ∈ (setM q.1 f (.bool true)).map (·.2.2) := List.mem_map_of_mem he
   rw [setM_born, List.mem_map] at this
   obtain ⟨y, hy, hye⟩ := this
   dsimp only; rw [← hye]; exact h.lt y hy
 | none =>
  have hn := findM_none hf
  refine ⟨?_, fun x => ?_, ?_, fun e he => ?_, fun e he => ?_⟩
  ·dsimp only; rw [List.map_append, List.nodup_append]
   exact ⟨h.keys, by simp, fun a ha b hb => by simp at hb; subst hb; exact fun e => hn (e ▸ ha)⟩
  ·dsimp only; rw [List.map_append, List.mem_append, h.mem]; simp
  ·dsimp only; rw [List.map_append, List.nodup_append]
   refine ⟨h.born, by simp, fun a ha b hb => ?_⟩
   simp at hb; subst hb
   obtain ⟨y, hy, rfl⟩ := List.mem_map.1 ha
   exact Nat.ne_of_lt (h.lt y hy)
  ·rcases List.mem_append.1 he with he | he
   ·have := h.lt e he; dsimp only; omega
   ·simp at he; subst he; dsimp only; omega
  ·rcases List.mem_append.1 he with he | he
   ·exact h.val e he
   ·simp at he; subst he; rfl
theorem msE_ok (fs : List (List UInt8)) : MsOk (msE fs) fs := by
 have key : ∀ (gs : List (List UInt8)) (q : MapE × Nat) (fs : List (List UInt8)), MsOk q fs → MsOk (gs.foldl (fun q f => (putE q.1 q.2 f (.bool true), putC q.1 q.2 f)) q) (fs ++ gs) := by
  intro gs
  induction gs with
  | nil => intro q fs h; simpa using h
  | cons g gs ih => intro q fs h; rw [List.foldl_cons, show fs ++ g :: gs = (fs ++ [g]) ++ gs by simp]; exact ih _ _ (h.put g)
 exact key fs ([], 0) [] ⟨by simp, by simp, by simp, by simp, by simp⟩
structure MI (es : MapE) (seen : List Nat) (ks : List (List UInt8)) : Prop where
 nodup : ks.Nodup
 old : ∀ k ∈ ks, ∃ d n, (k, d, n) ∈ es ∧ n ∈ seen
 all : ∀ e ∈ es, e.2.2 ∈ seen → e.1 ∈ ks
theorem MI.nil (es : MapE) : MI es [] [] := ⟨by simp, by simp, by simp⟩
theorem nodup_key {es : MapE} (h : (es.map (·.1)).Nodup) {e f : List UInt8 × D × Nat} (he : e ∈ es) (hf : f ∈ es) (hk : e.1 = f.1) : e = f := by
 obtain ⟨i, hi, rfl⟩ := List.mem_iff_getElem.1 he
 obtain ⟨j, hj, rfl⟩ := List.mem_iff_getElem.1 hf
 have := (List.getElem_inj (i := i) (j := j) (h₀ := by simpa using hi) (h₁ := by simpa using hj) h).1 (by simpa using hk)
 subst this; rfl
theorem nodup_born {es : MapE} (h : (es.map (·.2.2)).Nodup) {e f : List UInt8 × D × Nat} (he : e ∈ es) (hf : f ∈ es) (hk : e.2.2 = f.2.2) : e = f := by
 obtain ⟨i, hi, rfl⟩ := List.mem_iff_getElem.1 he
 obtain ⟨j, hj, rfl⟩ := List.mem_iff_getElem.1 hf
 have := (List.getElem_inj (i := i) (j := j) (h₀ := by simpa using hi) (h₁ := by simpa using hj) h).1 (by simpa using hk)
 subst this; rfl
theorem left_mem {es : MapE} {seen : List Nat} {e : List UInt8 × D × Nat} (h : e ∈ leftM es seen) : e ∈ es ∧ e.2.2 ∉ seen := by
 unfold leftM at h
 rw [List.mem_filter] at h
 exact ⟨h.1, by simpa using h.2⟩
theorem MI.next {q : MapE × Nat} {fs : List (List UInt8)} (hq : MsOk q fs) {seen : List Nat} {ks : List (List UInt8)} (h : MI q.1 seen ks) {e : List UInt8 × D × Nat} (he : e ∈ leftM q.1 seen) : MI q.1 (seen ++ [e.2.2]) (ks ++ [e.1]) := by
 obtain ⟨h1, h2⟩ := left_mem he
 refine ⟨?_, fun k hk => ?_, fun f hf hfs => ?_⟩
 ·rw [List.nodup_append]
  refine ⟨h.nodup, by simp, fun a ha b hb => ?_⟩
  simp at hb; subst hb
  rintro rfl
  obtain ⟨d, n, h3, h4⟩ := h.old _ ha
  have := nodup_key hq.keys h1 h3 rfl
  exact h2 (by rw [this]; exact h4)
 ·rcases List.mem_append.1 hk with hk | hk
  ·obtain ⟨d, n, h3, h4⟩ := h.old k hk; exact ⟨d, n, h3, by simp [h4]⟩
  ·simp at hk; subst hk; exact ⟨e.2.1, e.2.2, h1, by simp⟩
 ·rcases List.mem_append.1 hfs with hfs | hfs
  ·exact List.mem_append_left _ (h.all f hf hfs)
  ·simp at hfs
   have := nodup_born hq.born hf h1 hfs
   subst this; simp
theorem left_lt {es : MapE} {seen : List Nat} {e : List UInt8 × D × Nat} (h : e ∈ leftM es seen) : (leftM es (seen ++ [e.2.2])).length < (leftM es seen).length := by
 have e1 : leftM es (seen ++ [e.2.2]) = (leftM es seen).filter fun x => !(x.2.2 == e.2.2) := by
  unfold leftM
  rw [List.filter_filter]
  congr 1; funext x
  simp only [List.contains_eq_mem, List.mem_append, List.mem_singleton]
  by_cases a : x.2.2 ∈ seen <;> by_cases b : x.2.2 = e.2.2 <;> simp [a, b]
 rw [e1, List.length_filter_lt_length_iff_exists]
 exact ⟨e, h, by simp⟩
theorem nodup_len {α : Type} [BEq α] [LawfulBEq α] : ∀ {a b : List α}, a.Nodup → (∀ x ∈ a, x ∈ b) → a.length ≤ b.length
 | [], b, _, _ => by simp
 | x :: a, b, hn, h => by
  rw [List.nodup_cons] at hn
  have h1 := nodup_len (a := a) (b := b.erase x) hn.2 fun y hy => by
   have hxy : y ≠ x := fun e => hn.1 (e ▸ hy)
   exact (List.mem_erase_of_ne hxy).2 (h y (by simp [hy]))
  have h2 := List.length_erase_of_mem (h x (by simp))
  have h3 : 0 < b.length := List.length_pos_of_mem (h x (by simp))
  simp; omega
theorem MI.len {q : MapE × Nat} {fs : List (List UInt8)} (hq : MsOk q fs) {seen : List Nat} {ks : List (List UInt8)} (h : MI q.1 seen ks) : ks.length ≤ fs.length :=
 nodup_len h.nodup fun x hx => by
  obtain ⟨d, n, h1, _⟩ := h.old x hx
  exact (hq.mem x).1 (List.mem_map.2 ⟨_, h1, rfl⟩)
theorem MI.done {q : MapE × Nat} {fs : List (List UInt8)} (hq : MsOk q fs) {seen : List Nat} {ks : List (List UInt8)} (h : MI q.1 seen ks) (hl : leftM q.1 seen = []) : sortS ks = ascL fs := by
 obtain ⟨a1, a2⟩ := ascL_spec fs
 refine sortS_ext h.nodup a1 fun x => ?_
 rw [a2, ← hq.mem x]
 constructor
 ·intro hx
  obtain ⟨d, n, h1, _⟩ := h.old x hx
  exact List.mem_map.2 ⟨_, h1, rfl⟩
 ·intro hx
  obtain ⟨e, he, rfl⟩ := List.mem_map.1 hx
  refine h.all e he ?_
  by_cases hs : e.2.2 ∈ seen
  ·exact hs
  ·exfalso
   have : e ∈ leftM q.1 seen := by unfold leftM; rw [List.mem_filter]; exact ⟨he, by simpa using hs⟩
   rw [hl] at this; simp at this
set_option maxRecDepth 10000
theorem exC_nil {r : Req} {p : Rule} (h : p.conds = []) : exC r p = [] := by
 unfold exC; rw [h]; split <;> rfl
theorem cells_map (b : Nat) : cells? (.map b) = some [.map b] := rfl
theorem ms_clo {S : Nat → Prop} (fs : List (List UInt8)) : ∀ (e : List UInt8 × D × Nat), e ∈ (msE fs).1 → Clo S e.2.1 := fun e he => by rw [(msE_ok fs).val e he]; exact .bool _
theorem firstL_nat {r : Req} {c : List Cond} (h : decide (firstL r c 0 ≥ 0) = true) : ∃ n : Nat, firstL r c 0 = (n : Int) ∧ n < c.length := by
 have h1 := of_decide_eq_true h
 have h2 := firstL_lt r c 0
 exact ⟨(firstL r c 0).toNat, by omega, by omega⟩
theorem c_changed (l : List Rule) (nl : Bool) (r : Req) (hn : l.length ≤ 1099511627776) (hnl : nl = true → l = []) (hl : ∀ p ∈ l, p.ok) (hr : r.ok) (hrs : ∀ s ∈ r.scopes, s.length ≤ 1099511627776) : CallP Pr 22 [.slice 6 nl (l.map Rule.cs) none, .agg [.str r.user, .str r.client, .str r.tenant, .slice 1 r.ng (r.groups.map fun x => [.str x]) none, .slice 1 r.ns (r.scopes.map fun x => [.str x]) none, .int .i64 r.risk, .bool r.trusted, .int .i64 r.level, .int .i64 r.auth, .int .i64 r.now]] (.slice 1 (chgR l r).isEmpty ((chgR l r).map (fun x => [D.str x])) none) := by
 refine CallP.of_wp Tryz.func22 rfl (by kernel_rfl) Tryz.ntmps22 (by simp) ?_
 simp only [frameOf, Nat.reduceAdd, Nat.zero_add]
 refine WP.sr [2, 3, 4] (by kernel_rfl) fun K hK => ?_
 simp (decide := true) only [TF, cells_map, ↓reduceIte, Int.reduceToNat]
 refine hK _ _ ?_; clear hK K
 refine WP.seq ?_
 refine WP.sr [2, 3, 4, 15] (by kernel_rfl) fun K hK => ?_
 simp (decide := true) only [TF, cells_map, ↓reduceIte, Int.reduceToNat]
 refine CallK.pure (c_check l nl hn hnl hl) rfl rfl (by simp [-List.map_take]) ?_
 simp (decide := true) only [TF, cells_map, ↓reduceIte, Int.reduceToNat]
 refine hK _ _ ?_; clear hK K
 refine WP.cond (b := _) rfl (fun q1 => ?_) (fun q1 => ?_)
 ·
  have hX : chgR l r = [] := by unfold chgR; rw [if_pos q1]
  refine WP.sr [4] (by kernel_rfl) fun K hK => ?_
  simp (decide := true) only [TF, q1, cells_map, ↓reduceIte, Int.reduceToNat]
  refine hK _ _ ?_; clear hK K
  refine WP.ret ?_
  exact Ends.pure (.inr rfl) rfl ((by rw [hX]; exact Le.nil _ _ _)) (by simp)
 ·
  have hc0 := q1
  have hck := check_len hc0
  have hX : chgR l r = ascL (fieldsL l r) := by unfold chgR; rw [if_neg (by rw [hc0]; decide)]
  have hcn := fields_512 (r := r) hc0
  refine WP.skip ?_
  show WP _ _ _ _ _ _
  refine WP.sr [2, 3, 4, 5] (by kernel_rfl) fun K hK => ?_
  simp (decide := true) only [TF, q1, cells_map, ↓reduceIte, Int.reduceToNat]
  refine hK _ _ ?_; clear hK K
  refine WP.seq ?_
  refine WP.sr [2, 4, 5, 19] (by kernel_rfl) fun K hK => ?_
  simp (decide := true) only [TF, q1, cells_map, ↓reduceIte, Int.reduceToNat]
  refine CallK.imp (c_reasons 4 5 (by decide) l nl r) rfl rfl (by simp) (by simp [lk]) (by simp [lk]) ?_
  simp (decide := true) only [TF, q1, cells_map, ↓reduceIte, Int.reduceToNat]
  refine hK _ _ ?_; clear hK K
  refine WP.block ?_
  refine WP.rf [2, 5] (fun x => [(6, .int .i64 x), (7, .int .i64 (FL l r x))]) (fun pre => [(4, .box 22 [.slice 6 nl (l.map Rule.cs) none]), (5, .box 25 [.str r.user, .str r.client, .str r.tenant, .slice 1 r.ng (r.groups.map fun x => [.str x]) none, .slice 1 r.ns (r.scopes.map fun x => [.str x]) none, .int .i64 r.risk, .bool r.trusted, .int .i64 r.level, .int .i64 r.auth, .int .i64 r.now]), (3, .box 71 [.map 2]), (2, .map (msE (fieldsL (l.take pre.length) r)).1 (msE (fieldsL (l.take pre.length) r)).2), (1, .box 25 [.str r.user, .str r.client, .str r.tenant, .slice 1 r.ng (r.groups.map fun x => [.str x]) none, .slice 1 r.ns (r.scopes.map fun x => [.str x]) none, .int .i64 r.risk, .bool r.trusted, .int .i64 r.level, .int .i64 r.auth, .int .i64 r.now]), (0, .box 22 [.slice 6 nl (l.map Rule.cs) none])]) (fun pre x => [(4, .box 22 [.slice 6 nl (l.map Rule.cs) none]), (5, .box 25 [.str r.user, .str r.client, .str r.tenant, .slice 1 r.ng (r.groups.map fun x => [.str x]) none, .slice 1 r.ns (r.scopes.map fun x => [.str x]) none, .int .i64 r.risk, .bool r.trusted, .int .i64 r.level, .int .i64 r.auth, .int .i64 r.now]), (3, .box 71 [.map 2]), (2, .map (msE (fieldsL (l.take pre.length) r)).1 (msE (fieldsL (l.take pre.length) r)).2), (1, .box 25 [.str r.user, .str r.client, .str r.tenant, .slice 1 r.ng (r.groups.map fun x => [.str x]) none, .slice 1 r.ns (r.scopes.map fun x => [.str x]) none, .int .i64 r.risk, .bool r.trusted, .int .i64 r.level, .int .i64 r.auth, .int .i64 r.now]), (0, .box 22 [.slice 6 nl (l.map Rule.cs) none])]) (fun pre => True) (dsOf := dsFL l r) (by simp (decide := true) only [W, ↓reduceIte, Int.reduceToNat]; rfl) (by simp [MK]) rfl (it_reasons l nl r hn hnl hl hr) rfl trivial rfl ?_ ?_ ?_ ?_ ?_ ?_ ?_
  · exact fun pre _ _ => capOk2 (CapOk.box 4 22 _ rfl (by simp)) (CapOk.box 5 25 _ rfl (by simp))
  · exact fun _ => ⟨rfl, rfl⟩
  · simp
  · exact dsFL_ok l r
  ·
   intro pre x hpx hI
   obtain ⟨rfl, hlt⟩ := range_pre hpx
   have hfl : FL l r pre.length = firstL r l[pre.length].conds 0 := FL_at hlt
   have hg : (l.map Rule.cs)[pre.length]? = some [.str l[pre.length].name, .bool l[pre.length].deny, .slice 3 l[pre.length].nc (l[pre.length].conds.map Cond.cs) none, .slice 1 l[pre.length].ns (l[pre.length].scopes.map fun x => [.str x]) none, .int .i64 l[pre.length].lvl, .int .i64 l[pre.length].age] := getM hlt
   have hnf := nl_false hnl hlt
   have hpk := hl _ (List.getElem_mem hlt)
   have hck8 := hck.2 _ (List.getElem_mem hlt)
   have hxl := exC_len r l[pre.length]
   have hxn : l[pre.length].nc = true → (exC r l[pre.length]) = [] := fun h => exC_nil (hpk.1.2.1 h)
   simp (decide := true) only [setPs_two, dsFL, W, List.map_cons, List.map_nil, ↓reduceIte, Int.reduceToNat]
   refine WP.sr [2, 5, 6, 21] (by kernel_rfl) fun K hK => ?_
   simp (decide := true) only [TF, q1, hfl, hg, hnf, cells_map, ↓reduceIte, Int.reduceToNat]
   refine hK _ _ ?_; clear hK K
   refine WP.region (by kernel_rfl) fun K hK => ?_
   simp (decide := true) only [TF, q1, hfl, hg, hnf, cells_map, ↓reduceIte, Int.reduceToNat]
   refine hK _ _ ?_; clear hK K
   show _ ∧ Weak _ _ _
   exact ⟨rfl, Weak.store (by simp [St.get, lk, W, Le.refl, hfl, hnf]) (by simp [lk, W, hnf]) (by simp [lk, W]) (by simp [BClo, lk]; exact fun a b c h => ms_clo _ _ h) (by simp [lk, MK])⟩
  ·
   intro pre x hpx hI
   obtain ⟨rfl, hlt⟩ := range_pre hpx
   have hfl : FL l r pre.length = firstL r l[pre.length].conds 0 := FL_at hlt
   have hg : (l.map Rule.cs)[pre.length]? = some [.str l[pre.length].name, .bool l[pre.length].deny, .slice 3 l[pre.length].nc (l[pre.length].conds.map Cond.cs) none, .slice 1 l[pre.length].ns (l[pre.length].scopes.map fun x => [.str x]) none, .int .i64 l[pre.length].lvl, .int .i64 l[pre.length].age] := getM hlt
   have hnf := nl_false hnl hlt
   have hpk := hl _ (List.getElem_mem hlt)
   have hck8 := hck.2 _ (List.getElem_mem hlt)
   have hxl := exC_len r l[pre.length]
   have hxn : l[pre.length].nc = true → (exC r l[pre.length]) = [] := fun h => exC_nil (hpk.1.2.1 h)
   simp only [List.cons_append, List.nil_append, List.map_cons, List.map_nil]
   refine WP.block ?_
   refine WP.sr [5, 7, 8] (by kernel_rfl) fun K hK => ?_
   simp (decide := true) only [TF, q1, hfl, hg, hnf, cells_map, ↓reduceIte, Int.reduceToNat]
   refine hK _ _ ?_; clear hK K
   refine WP.seq ?_
   refine WP.sr [5, 7, 8, 28] (by kernel_rfl) fun K hK => ?_
   simp (decide := true) only [TF, q1, hfl, hg, hnf, cells_map, ↓reduceIte, Int.reduceToNat]
   refine hK _ _ ?_; clear hK K
   refine WP.meetQ ⟨[(8, .slice 3 l[pre.length].nc ((exC r l[pre.length]).map Cond.cs) none), (5, .ref 3 0)], [(4, .box 22 [.slice 6 nl (l.map Rule.cs) none]), (5, .box 25 [.str r.user, .str r.client, .str r.tenant, .slice 1 r.ng (r.groups.map fun x => [.str x]) none, .slice 1 r.ns (r.scopes.map fun x => [.str x]) none, .int .i64 r.risk, .bool r.trusted, .int .i64 r.level, .int .i64 r.auth, .int .i64 r.now]), (3, .box 71 [.map 2]), (2, .map (msE (fieldsL (l.take pre.length) r)).1 (msE (fieldsL (l.take pre.length) r)).2), (1, .box 25 [.str r.user, .str r.client, .str r.tenant, .slice 1 r.ng (r.groups.map fun x => [.str x]) none, .slice 1 r.ns (r.scopes.map fun x => [.str x]) none, .int .i64 r.risk, .bool r.trusted, .int .i64 r.level, .int .i64 r.auth, .int .i64 r.now]), (0, .box 22 [.slice 6 nl (l.map Rule.cs) none])]⟩ ?_ ?_
   ·
    refine WP.cond (b := _) rfl (fun q2 => ?_) (fun q2 => ?_)
    ·
     have hge0 := q2
     obtain ⟨n, hnn, hnl2⟩ := firstL_nat hge0
     have hw : IntKind.wrap .i64 (firstL r l[pre.length].conds 0 + 1) = ((n + 1 : Nat) : Int) := by rw [hnn]; exact wrapS hnl2 (by omega)
     have hxe : (exC r l[pre.length]) = l[pre.length].conds.take (n + 1) := by rw [exC_t hge0, hnn]; rfl
     have hn1 : (n + 1 ≤ l[pre.length].conds.length) = True := eq_true hnl2
     have hnc := nl_false hpk.1.2.1 hnl2
     refine WP.region (by kernel_rfl) fun K hK => ?_
     simp (decide := true) only [TF, q1, hfl, hg, hnf, q2, hw, hxe, hnc, hn1, cells_map, ↓reduceIte, Int.reduceToNat]
     refine hK _ _ ?_; clear hK K
     show Weak _ _ _
     exact Weak.store (by simp [St.get, lk, W, Le.refl, List.map_take, q1, hfl, hg, hnf, q2, hw, hxe, hnc, hn1]) (by simp [lk, W, q1, hfl, hg, hnf, q2, hw, hxe, hnc, hn1]) (by simp [lk, W]) (by simp [BClo, lk]; exact fun a b c h => ms_clo _ _ h) (by simp [lk, MK])
    ·
     refine WP.skip ?_
     show Weak _ _ _
     have hxe := exC_f (r := r) (p := l[pre.length]) q2
     exact Weak.store (by simp [St.get, lk, W, Le.refl, hxe, q1, hfl, hg, hnf, q2]) (by simp [lk, W, q1, hfl, hg, hnf, q2]) (by simp [lk, W]) (by simp [BClo, lk]; exact fun a b c h => ms_clo _ _ h) (by simp [lk, MK])
   ·
    refine WP.sr [5, 33, 34, 35] (by kernel_rfl) fun K hK => ?_
    simp (decide := true) only [TF, q1, hfl, hg, hnf, cells_map, ↓reduceIte, Int.reduceToNat]
    refine hK _ _ ?_; clear hK K
    refine WP.block ?_
    refine WP.lp [5, 33, 34] (X := {j : Nat // j ≤ (exC r l[pre.length]).length}) (fun x => match x with | ⟨(j), _⟩ => [(35, .int .i64 j)]) (fun x => match x with | ⟨(j), _⟩ => [(4, .box 22 [.slice 6 nl (l.map Rule.cs) none]), (5, .box 25 [.str r.user, .str r.client, .str r.tenant, .slice 1 r.ng (r.groups.map fun x => [.str x]) none, .slice 1 r.ns (r.scopes.map fun x => [.str x]) none, .int .i64 r.risk, .bool r.trusted, .int .i64 r.level, .int .i64 r.auth, .int .i64 r.now]), (3, .box 71 [.map 2]), (2, .map (msE (fieldsL (l.take pre.length) r ++ ((exC r l[pre.length]).take j).map Cond.f)).1 (msE (fieldsL (l.take pre.length) r ++ ((exC r l[pre.length]).take j).map Cond.f)).2), (1, .box 25 [.str r.user, .str r.client, .str r.tenant, .slice 1 r.ng (r.groups.map fun x => [.str x]) none, .slice 1 r.ns (r.scopes.map fun x => [.str x]) none, .int .i64 r.risk, .bool r.trusted, .int .i64 r.level, .int .i64 r.auth, .int .i64 r.now]), (0, .box 22 [.slice 6 nl (l.map Rule.cs) none])]) (fun x => match x with | ⟨(j), _⟩ => (exC r l[pre.length]).length - j) (by simp (decide := true) only [W, ↓reduceIte, Int.reduceToNat]; rfl) ?_ ⟨(0), Nat.zero_le _⟩ ?_
    rotate_left
    · exact Weak.store (by simp [St.get, lk, W, Le.refl, q1, hfl, hg, hnf]) (by simp [lk, W, q1, hfl, hg, hnf]) (by simp [lk, W]) (by simp [BClo, lk]; exact fun a b c h => ms_clo _ _ h) (by simp [lk, MK])
    rintro ⟨j, hj⟩
    dsimp only
    simp only [List.cons_append, List.nil_append]
    refine WP.sr [5, 33, 34, 35, 36] (by kernel_rfl) fun K hK => ?_
    simp (decide := true) only [TF, q1, hfl, hg, hnf, hj, cells_map, ↓reduceIte, Int.reduceToNat]
    refine hK _ _ ?_; clear hK K
    refine WP.seq ?_
    refine WP.cond (b := _) rfl (fun q3 => ?_) (fun q3 => ?_)
    ·
     have hjl := lt_of_q q3
     have hgj : ((exC r l[pre.length]).map Cond.cs)[j]? = some [.str (exC r l[pre.length])[j].f, .str (exC r l[pre.length])[j].op, .str (exC r l[pre.length])[j].v] := getM hjl
     have hnfj := nl_false hxn hjl
     refine WP.skip ?_
     show WP _ _ _ _ _ _
     refine WP.seq ?_
     refine WP.block ?_
     refine WP.sr [5, 10, 33, 34, 35] (by kernel_rfl) fun K hK => ?_
     simp (decide := true) only [TF, q1, hfl, hg, hnf, hj, q3, hgj, hnfj, cells_map, ↓reduceIte, Int.reduceToNat]
     refine hK _ _ ?_; clear hK K
     refine WP.region (by kernel_rfl) fun K hK => ?_
     simp (decide := true) only [TF, q1, hfl, hg, hnf, hj, q3, hgj, hnfj, cells_map, ↓reduceIte, Int.reduceToNat]
     refine hK _ _ ?_; clear hK K
     show WP _ _ _ _ _ _
     refine WP.region (by kernel_rfl) fun K hK => ?_
     simp (decide := true) only [TF, q1, hfl, hg, hnf, hj, q3, hgj, hnfj, cells_map, ↓reduceIte, Int.reduceToNat]
     refine hK _ _ ?_; clear hK K
     show ∃ y, _ ∧ Weak _ _ _
     have hm : msE (fieldsL (l.take pre.length) r ++ ((exC r l[pre.length]).take (j + 1)).map Cond.f) = (putE (msE (fieldsL (l.take pre.length) r ++ ((exC r l[pre.length]).take j).map Cond.f)).1 (msE (fieldsL (l.take pre.length) r ++ ((exC r l[pre.length]).take j).map Cond.f)).2 (exC r l[pre.length])[j].f (.bool true), putC (msE (fieldsL (l.take pre.length) r ++ ((exC r l[pre.length]).take j).map Cond.f)).1 (msE (fieldsL (l.take pre.length) r ++ ((exC r l[pre.length]).take j).map Cond.f)).2 (exC r l[pre.length])[j].f) := by rw [takeS hjl, List.map_append, ← List.append_assoc]; exact msE_snoc _ _
     refine ⟨⟨j + 1, hjl⟩, by dsimp only; omega, ?_⟩
     exact Weak.store (by simp [St.get, lk, W, Le.refl, q1, hfl, hg, hnf, hj, q3, hgj, hnfj, wrapS hjl (show (exC r l[pre.length]).length ≤ 140737488355328 by omega)]) (by dsimp only; rw [hm]; simp [lk, W, q1, hfl, hg, hnf, hj, q3, hgj, hnfj]) (by simp [lk, W]) (by simp [BClo, lk]; exact fun a b c h => ms_clo _ _ h) (by simp [lk, MK])
    ·
     have hjg := ge_of_q q3
     refine WP.exit ?_
     show _ ∧ Weak _ _ _
     have hfs : fieldsL (l.take (pre ++ [pre.length]).length) r = fieldsL (l.take pre.length) r ++ (exC r l[pre.length]).map Cond.f := by rw [List.length_append]; exact fields_succ hlt
     rw [List.take_of_length_le hjg]
     rw [hfs]
     refine ⟨trivial, Weak.store (by simp) (by simp [lk, W, q1, hfl, hg, hnf, hj, q3]) (by simp) (by simp [BClo, lk]; exact fun a b c h => ms_clo _ _ h) (by simp [lk, MK])⟩
  ·
   intro hI
   simp only [List.length_range, List.take_length]
   show WP _ _ _ _ _ _
   refine WP.sr [5, 11] (by kernel_rfl) fun K hK => ?_
   simp (decide := true) only [TF, q1, cells_map, ↓reduceIte, Int.reduceToNat]
   refine hK _ _ ?_; clear hK K
   refine WP.seq ?_
   refine WP.sr [11, 44] (by kernel_rfl) fun K hK => ?_
   simp (decide := true) only [TF, q1, cells_map, ↓reduceIte, Int.reduceToNat]
   refine hK _ _ ?_; clear hK K
   refine WP.block ?_
   refine WP.lp [44] (X := {x : (List Nat) × (List (List UInt8)) // match x with | (seen, ks) => MI (msE (fieldsL l r)).1 seen ks}) (fun x => match x with | ⟨(seen, ks), _⟩ => [(11, .slice 1 ks.isEmpty (ks.map (fun x => [D.str x])) (some 0))]) (fun x => match x with | ⟨(seen, ks), _⟩ => [(0, .tip 9 1 ks.length), (6, .miter 2 (msE (fieldsL l r)).2 seen (msE (fieldsL l r)).2), (2, .map (msE (fieldsL l r)).1 (msE (fieldsL l r)).2)]) (fun x => match x with | ⟨(seen, ks), _⟩ => (leftM (msE (fieldsL l r)).1 seen).length) (by simp (decide := true) only [W, ↓reduceIte, Int.reduceToNat]; rfl) ?_ ⟨([], []), MI.nil _⟩ ?_
   rotate_left
   · refine Weak.trans (Weak.store (st' := ⟨[(44, .ref 6 0), (11, .slice 0 true [] none)], [(6, .miter 2 (msE (fieldsL l r)).2 [] (msE (fieldsL l r)).2), (2, .map (msE (fieldsL l r)).1 (msE (fieldsL l r)).2)]⟩) (by simp [St.get, lk, W, Le.refl]) (by simp [lk, W]) (by simp [lk]) (by simp [BClo, lk]; exact fun a b c h => ms_clo _ _ h) (by simp)) ?_; refine Weak.trans (Weak.ghost 0 9 1 (F' := [(44, .ref 6 0), (11, .slice 1 true [] (some 0))]) (σ' := [(6, .miter 2 (msE (fieldsL l r)).2 [] (msE (fieldsL l r)).2), (2, .map (msE (fieldsL l r)).1 (msE (fieldsL l r)).2)]) (by simp [lk]) (by simp [UpF, UpD]) (by simp [UpS, UpB, UpL, UpD])) ?_; exact Weak.store (by simp [St.get, lk, W, Le.refl, q1]) (by simp [lk, W]) (by simp [lk]) (by simp [BClo, lk]; exact fun a b c h => ms_clo _ _ h) (by simp [lk])
   rintro ⟨⟨seen, ks⟩, hM⟩
   dsimp only
   simp only [List.cons_append, List.nil_append]
   dsimp only at hM
   have hks := hM.len (msE_ok _)
   refine WP.seq ?_
   refine WP.regionNext (by kernel_rfl) rfl rfl rfl rfl rfl rfl (fun e he => (msE_ok _).lt e he) (Nat.le_refl _) ?_ ?_
   ·
    intro hl0 K hK
    simp (decide := true) only [TF, q1, ↓reduceIte, Int.reduceToNat]
    refine hK _ _ ?_; clear hK K
    show WP _ _ _ _ _ _
    refine WP.seq ?_
    refine WP.cond (b := false) (by rfl) nofun (fun _ => ?_)
    refine WP.exit ?_
    show WP _ _ _ _ _ _
    rcases ks with _ | ⟨a0, k0⟩
    ·
     have hS := hM.done (msE_ok _) hl0
     rw [sortS_nil] at hS
     refine WP.sr [11] (by kernel_rfl) fun K hK => ?_
     simp (decide := true) only [TF, q1, cells_map, ↓reduceIte, Int.reduceToNat]
     refine CallK.pure (c_ssort0) rfl rfl (by simp [-List.map_take]) ?_
     simp (decide := true) only [TF, q1, cells_map, ↓reduceIte, Int.reduceToNat]
     refine hK _ _ ?_; clear hK K
     refine WP.sr [4] (by kernel_rfl) fun K hK => ?_
     simp (decide := true) only [TF, q1, cells_map, ↓reduceIte, Int.reduceToNat]
     refine hK _ _ ?_; clear hK K
     refine WP.ret ?_
     exact Ends.pure (.inr rfl) rfl ((by rw [hX, ← hS]; exact Le.fg _)) (by simp)
    ·
     have hS := hM.done (msE_ok _) hl0
     refine WP.weak (st' := ⟨[(11, .slice 1 false ((a0 :: k0).map fun x => [D.str x]) (some 0))], [(0, .tip 9 1 (a0 :: k0).length)]⟩) (Weak.store (by simp [St.get, lk, keep, ins, W, Le.refl]) (by simp [lk]) (by simp [lk]) (by simp [BClo]) (by simp)) ?_
     refine WP.weak (st' := ⟨[(11, .arr 0 1 (a0 :: k0).length)], [(0, .arr 9 ((a0 :: k0).map .str))]⟩) ?_ ?_
     ·
      rw [← flatS (a0 :: k0)]
      exact Weak.tipArr 0 9 1 ((a0 :: k0).map fun x => [D.str x]) 11 (by simp [St.get, lk, W]) (by simp [lk, W]) (fr_sl 0 _) (by intro b hb; simp [lk, hb]) (by simp)
     refine WP.sr [11] (by kernel_rfl) fun K hK => ?_
     simp (decide := true) only [TF, q1, cells_map, ↓reduceIte, Int.reduceToNat]
     refine CallK.imp (c_ssort (a0 :: k0) (by omega)) rfl rfl (by simp [lk, BClo]) (by simp [lk]) (by simp [lk]) ?_
     simp (decide := true) only [TF, q1, cells_map, ↓reduceIte, Int.reduceToNat]
     refine hK _ _ ?_; clear hK K
     refine WP.sr [4] (by kernel_rfl) fun K hK => ?_
     simp (decide := true) only [TF, q1, cells_map, ↓reduceIte, Int.reduceToNat]
     refine hK _ _ ?_; clear hK K
     refine WP.weak (st' := ⟨[(4, .slice 1 false ((sortS (a0 :: k0)).map fun x => [D.str x]) (some 0))], [(0, .tip 9 1 (sortS (a0 :: k0)).length)]⟩) ?_ ?_
     ·
      refine Weak.trans (Weak.keep [4]) ?_
      simp only [keep, ins, W, ↓reduceIte, Nat.reduceEqDiff]
      exact Weak.arrTip 0 9 1 ((sortS (a0 :: k0)).map fun x => [D.str x]) 4 (by simp [St.get, lk, W, sortS_len]) (by simp [lk, W, flatS]) (sl_len _) (by simp) (by simp (decide := true) [ArF, ArD, sortS_len, q1]) (by simp) (by intro i hi; simp_all [lk]) (by simp [lk]) (by simp [BClo])
     refine WP.ret ?_
     exact Ends.pure (.inr rfl) rfl ((by rw [hX, ← hS]; simp only [sortS_ne]; exact Le.fg _)) (by simp)
   ·
    intro e he K hK
    simp (decide := true) only [TF, q1, ↓reduceIte, Int.reduceToNat]
    refine hK _ _ ?_; clear hK K
    show WP _ _ _ _ _ _
    refine WP.seq ?_
    refine WP.cond (b := true) (by rfl) (fun _ => ?_) nofun
    refine WP.skip ?_
    show WP _ _ _ _ _ _
    refine WP.block ?_
    refine WP.seq ?_
    refine WP.regionEntry (by kernel_rfl) rfl rfl rfl rfl rfl rfl (left_mem he).1 (msE_ok _).born ?_
    ·
     intro K hK
     simp (decide := true) only [TF, q1, ↓reduceIte, Int.reduceToNat]
     refine hK _ _ ?_; clear hK K
     show WP _ _ _ _ _ _
     refine WP.region (by kernel_rfl) fun K hK => ?_
     simp (decide := true) only [TF, q1, cells_map, ↓reduceIte, Int.reduceToNat]
     repeat (refine ⟨⟨by (try simp only [List.length_append, List.length_map, List.length_take, List.length_drop, List.length_cons, List.length_nil]); omega, by (try simp only [List.length_append, List.length_map, List.length_take, List.length_drop, List.length_cons, List.length_nil]); omega⟩, ?_⟩)
     refine hK _ _ ?_; clear hK K
     show ∃ y, _ ∧ Weak _ _ _
     refine ⟨⟨(seen ++ [e.2.2], ks ++ [e.1]), hM.next (msE_ok _) he⟩, left_lt he, ?_⟩
     exact Weak.store (by simp [St.get, lk, W, Le.refl, isEA, -List.append_assoc, q1]) (by simp [lk, W, -List.append_assoc, q1]) (by simp [lk, W, clo_ap, clo_sl, clo_s1, -List.mem_append, -List.mem_map, -List.append_assoc]) (by simp [BClo, lk]; exact fun a b c h => ms_clo _ _ h) (by simp [lk])
def Rule.rng (p : Rule) : Prop := (-9223372036854775808 ≤ p.lvl ∧ p.lvl ≤ 9223372036854775807) ∧ (-9223372036854775808 ≤ p.age ∧ p.age ≤ 9223372036854775807)
theorem shG_no {ls : List (List UInt8)} {n m : Int} (h : shG ls n m = false) : (ls.length : Int) ≤ n ∧ ∀ s ∈ ls, (s.length : Int) ≤ m := by
 simp only [shG, Bool.or_eq_false_iff, decide_eq_false_iff_not, List.any_eq_false, decide_eq_true_eq] at h
 exact ⟨by omega, fun s hs => by have := h.2 s hs; omega⟩
theorem pG_no {p : Rule} (h : pG p = false) (hb : p.big) : p.ok := by
 simp only [pG, Bool.or_eq_false_iff, decide_eq_false_iff_not, List.any_eq_false] at h
 obtain ⟨⟨⟨h1, h2⟩, h3⟩, h4⟩ := h
 obtain ⟨s1, s2⟩ := shG_no h3
 refine ⟨⟨by omega, hb.2.1, by omega, hb.2.2.2⟩, by omega, fun c hc => ?_, fun s hs => by have := s2 s hs; omega⟩
 have := h4 c hc
 simp only [cG, Bool.or_eq_true, decide_eq_true_eq, not_or] at this
 exact ⟨by omega, by omega, by omega⟩
structure NotGreat (l : List Rule) (r : Req) : Prop where
 few : l.length ≤ 70
 ok : ∀ p ∈ l, p.ok
 rok : r.ok
 hrs : ∀ s ∈ r.scopes, s.length ≤ 1099511627776
 sc : r.scopes.length ≤ 20
theorem great_no {l : List Rule} {r : Req} (h : greatB l r = false) (hl : ∀ p ∈ l, p.big) (hr : r.big) : NotGreat l r := by
 simp only [greatB, Bool.or_eq_false_iff, decide_eq_false_iff_not, List.any_eq_false] at h
 obtain ⟨⟨⟨⟨⟨⟨h1, h2⟩, h3⟩, h4⟩, h5⟩, h6⟩, h7⟩ := h
 obtain ⟨a1, a2⟩ := shG_no h2
 obtain ⟨b1, b2⟩ := shG_no h3
 exact ⟨by omega, fun p hp => pG_no (by simpa using h7 p hp) (hl p hp), ⟨by omega, hr.2.1, by omega, hr.2.2.2⟩, fun s hs => by have := a2 s hs; omega, by omega⟩
structure PK (l : List Rule) (r : Req) (k : Nat) (q : PS) : Prop where
 len : q.rs.length = l.length
 alen : q.all.length ≤ k
 mem : ∀ x ∈ q.all, x ∈ r.scopes
 rok : ∀ x ∈ q.rs, x.scopes.length ≤ k ∧ ∀ s ∈ x.scopes, s ∈ r.scopes
 lvl : q.lvl = 0 ∨ ∃ p ∈ l, q.lvl = p.lvl
 age : q.age = 0 ∨ ∃ p ∈ l, q.age = p.age
theorem PK.next {l : List Rule} {r : Req} {k : Nat} {q : PS} (h : PK l r k q) {s : List UInt8} (hs : s ∈ r.scopes) : PK l r (k + 1) (pStep l r q s) := by
 cases hc : decide (grP r s l 0 < 0) with
 | true =>
  rw [pStep_no hc]
  exact ⟨h.len, by have := h.alen; omega, h.mem, fun x hx => ⟨by have := (h.rok x hx).1; omega, (h.rok x hx).2⟩, h.lvl, h.age⟩
 | false =>
  obtain ⟨i, hi, hg⟩ := grP_at hc
  rw [pStep_at hi hg]
  refine ⟨by rw [modify_len]; exact h.len, by have := h.alen; simp; omega, fun x hx => ?_, fun x hx => ?_, ?_, ?_⟩
  ·rcases List.mem_append.1 hx with hx | hx
   ·exact h.mem x hx
   ·rw [List.mem_singleton] at hx; rw [hx]; exact hs
  ·obtain ⟨j, hj, rfl⟩ := List.mem_iff_getElem.1 hx
   have hj' : j < q.rs.length := by simpa using hj
   rw [List.getElem_modify]
   obtain ⟨h1, h2⟩ := h.rok _ (List.getElem_mem hj')
   split
   ·unfold addS
    split
    ·exact ⟨by omega, h2⟩
    ·refine ⟨by simp; omega, fun x hx => ?_⟩
     rcases List.mem_append.1 hx with hx | hx
     ·exact h2 x hx
     ·rw [List.mem_singleton] at hx; rw [hx]; exact hs
   ·exact ⟨by omega, h2⟩
  ·unfold lvlU; split
   ·exact .inr ⟨_, List.getElem_mem hi, rfl⟩
   ·exact h.lvl
  ·unfold ageU; split
   ·exact .inr ⟨_, List.getElem_mem hi, rfl⟩
   ·exact h.age
theorem PK.all {l : List Rule} {r : Req} : PK l r r.scopes.length (psR l r) := by
 have key : ∀ (ss : List (List UInt8)) (k : Nat) (q : PS), (∀ s ∈ ss, s ∈ r.scopes) → PK l r k q → PK l r (k + ss.length) (ss.foldl (pStep l r) q) := by
  intro ss
  induction ss with
  | nil => intro k q _ h; exact h
  | cons s ss ih =>
   intro k q hs h
   rw [List.foldl_cons, List.length_cons, show k + (ss.length + 1) = (k + 1) + ss.length by omega]
   exact ih (k + 1) _ (fun x hx => hs x (by simp [hx])) (h.next (hs s (by simp)))
 have := key r.scopes 0 (ps0 l r) (fun _ h => h) ⟨by simp [ps0], by simp [ps0], by simp [ps0], fun x hx => by simp [ps0, mkR] at hx; obtain ⟨a, _, rfl⟩ := hx; simp, .inl rfl, .inl rfl⟩
 rw [Nat.zero_add] at this
 exact this
theorem asc_nodup {l : List (List UInt8)} (h : Asc l) : l.Nodup := List.Pairwise.imp (fun {a b} h e => by rw [e, bl_irrefl] at h; cases h) h
theorem srtR_len (l : List (List UInt8)) : (srtR l).length ≤ l.length := by
 obtain ⟨h1, h2⟩ := srtR_spec l
 exact nodup_len (asc_nodup h1) fun x hx => ((h2 x).1 hx).1
theorem reasD_ok (l : List Rule) (r : Req) : ∀ x ∈ reasD l r, x.ok := fun x hx => by
 simp only [reasD, mkR, List.mem_map] at hx
 obtain ⟨a, _, rfl⟩ := hx
 exact ⟨by simp, by simp, by simp⟩
theorem isE_nil {α : Type} {l : List α} (h : l.isEmpty = true) : l = [] := by simpa using h
theorem stepD_sp (r : Req) (d : Dec) : ∀ l : List Rule, stepD r d l = d ∨ ∃ p ∈ l, stepD r d l = { d with eff := 3, lvl := p.lvl, age := p.age } ∧ okS r p = true
 | [] => .inl rfl
 | p :: l => by
  unfold stepD
  split
  ·rename_i h; exact .inr ⟨p, by simp, rfl, h⟩
  ·rcases stepD_sp r d l with h | ⟨q, h1, h2⟩
   ·exact .inl h
   ·exact .inr ⟨q, by simp [h1], h2⟩
theorem run_ok {l : List Rule} {r : Req} (h : NotGreat l r) (hg : ∀ p ∈ l, p.rng) : (runD l r).ok := by
 have hI := PK.all (l := l) (r := r)
 have hrl : (reasD l r).length ≤ 1099511627776 := by have := h.few; simp [reasD]; omega
 have hrn : l.isEmpty = true → reasD l r = [] := fun e => by rw [isE_nil e]; rfl
 have h4 : (dec4 l r).ok := ⟨by simp [dec4], fun _ => rfl, by simp [dec4], hrl, hrn, reasD_ok l r, by simp [dec4], by simp [dec4]⟩
 unfold runD
 split
 ·exact ⟨by simp [noD], fun _ => rfl, by simp [noD], by simp [noD], fun _ => rfl, by simp [noD], by simp [noD], by simp [noD]⟩
 split
 ·exact ⟨by simp, fun _ => rfl, by simp, hrl, hrn, reasD_ok l r, by simp, by simp⟩
 split
 ·have hsl := srtR_len (psR l r).all
  have hal := hI.alen
  have hsc := h.sc
  refine ⟨by dsimp only; omega, fun e => isE_nil e, fun s hs => h.hrs _ (hI.mem _ (((srtR_spec _).2 s).1 hs).1), by dsimp only; rw [List.length_map, hI.len]; have := h.few; omega, fun e => ?_, fun x hx => ?_, ?_, ?_⟩
  ·have := hI.len
   rw [isE_nil e] at this ⊢
   exact List.map_eq_nil_iff.2 (List.eq_nil_of_length_eq_zero this)
  ·obtain ⟨y, hy, rfl⟩ := List.mem_map.1 hx
   obtain ⟨h1, h2⟩ := hI.rok y hy
   exact ⟨by simp only [Reas.nrm]; omega, fun e => isE_nil e, fun s hs => h.hrs _ (h2 s hs)⟩
  ·rcases hI.lvl with e | ⟨p, hp, e⟩
   ·dsimp only; rw [e]; omega
   ·dsimp only; rw [e]; exact (hg p hp).1
  ·rcases hI.age with e | ⟨p, hp, e⟩
   ·dsimp only; rw [e]; omega
   ·dsimp only; rw [e]; exact (hg p hp).2
 ·show (stepD r (dec4 l r) l).ok
  rcases stepD_sp r (dec4 l r) l with e | ⟨p, hp, e, _⟩
  ·rw [e]; exact h4
  ·rw [e]
   exact ⟨h4.1, h4.2.1, h4.2.2.1, h4.2.2.2.1, h4.2.2.2.2.1, h4.2.2.2.2.2.1, (hg p hp).1, (hg p hp).2⟩
theorem sameD_refl (d : Dec) : sameD d d = true := by simp [sameD]
theorem notGreat_aft {l : List Rule} {r : Req} (h : NotGreat l r) (n : Int) : NotGreat l (aftR r n) := ⟨h.few, h.ok, h.rok, h.hrs, h.sc⟩
def pM : Rule := ⟨[109], false, [], true, [[109, 97, 105, 108]], false, 2, 0⟩
def pN : Rule := ⟨[110], true, [⟨[117, 115, 101, 114], [105, 115], [117]⟩], false, [], true, 0, 0⟩
def rU : Req := ⟨[117], [99], [116], [], true, [[109, 97, 105, 108, 46, 114, 101, 97, 100]], false, 0, false, 1, 0, 10⟩
theorem ok_M : pM.ok := by simp [pM, Rule.ok, Rule.ok0]
theorem ok_N : pN.ok := by simp [pN, Rule.ok, Rule.ok0, Cond.ok]
theorem ok_U : rU.ok := by simp [rU, Req.ok]
theorem hrs_U : ∀ s ∈ rU.scopes, s.length ≤ 1099511627776 := by simp [rU]
theorem les_M : Les ([.str [109], .bool false, .slice 0 true [] none, .slice 1 false [[.str [109, 97, 105, 108]]] none, .int .i64 2, .int .i64 0]) pM.cs := ⟨Le.refl _, Le.refl _, Le.nil _ _ _, Le.refl _, Le.refl _, Le.refl _, trivial⟩
theorem les_N : Les ([.str [110], .bool true, .slice 3 false [[.str [117, 115, 101, 114], .str [105, 115], .str [117]]] none, .slice 0 true [] none, .int .i64 0, .int .i64 0]) pN.cs := ⟨Le.refl _, Le.refl _, Le.refl _, Le.nil _ _ _, Le.refl _, Le.refl _, trivial⟩
theorem le_1 : Le (.slice 6 false [[.str [109], .bool false, .slice 0 true [] none, .slice 1 false [[.str [109, 97, 105, 108]]] none, .int .i64 2, .int .i64 0]] none) (.slice 6 false ([pM].map Rule.cs) none) := Le.slice rfl (by simp [Rule.cs]) fun i e e' h1 h2 => by
 match i with
 | 0 => simp at h1 h2; subst h1; subst h2; exact les_M
 | i + 1 => simp at h1
theorem le_2 : Le (.slice 6 false [[.str [109], .bool false, .slice 0 true [] none, .slice 1 false [[.str [109, 97, 105, 108]]] none, .int .i64 2, .int .i64 0], [.str [110], .bool true, .slice 3 false [[.str [117, 115, 101, 114], .str [105, 115], .str [117]]] none, .slice 0 true [] none, .int .i64 0, .int .i64 0]] none) (.slice 6 false ([pM, pN].map Rule.cs) none) := Le.slice rfl (by simp [Rule.cs]) fun i e e' h1 h2 => by
 match i with
 | 0 => simp at h1 h2; subst h1; subst h2; exact les_M
 | 1 => simp at h1 h2; subst h1; subst h2; exact les_N
 | i + 2 => simp at h1
theorem x_1 : (runD [pM] rU) = ⟨3, [], true, 2, 0, [⟨0, -1, [], true⟩], false⟩ := by kernel_rfl
theorem x_2 : (runD [pM] (aftR rU 2)) = ⟨1, [[109, 97, 105, 108, 46, 114, 101, 97, 100]], false, 2, 0, [⟨0, -1, [[109, 97, 105, 108, 46, 114, 101, 97, 100]], false⟩], false⟩ := by kernel_rfl
theorem x_3 : (runD [pM, pN] rU) = ⟨2, [], true, 0, 0, [⟨0, -1, [], true⟩, ⟨1, -1, [], true⟩], false⟩ := by kernel_rfl
theorem x_4 : chgR [pM, pN] rU = [[117, 115, 101, 114]] := by kernel_rfl
theorem x_5 : explX [pM] ⟨3, [], true, 2, 0, [⟨0, -1, [], true⟩], false⟩ = [[109, 32, 97, 112, 112, 108, 105, 101, 115], [115, 116, 101, 112, 32, 117, 112, 32, 108, 101, 118, 101, 108, 32, 50, 32, 97, 103, 101, 32, 48]] := by kernel_rfl
theorem x_6 : srtR (rU.scopes.filter (fun s => !(covB s []))) = [[109, 97, 105, 108, 46, 114, 101, 97, 100]] := by kernel_rfl
theorem a_run1 : CallP Pr 12 [.slice 6 false [[.str [109], .bool false, .slice 0 true [] none, .slice 1 false [[.str [109, 97, 105, 108]]] none, .int .i64 2, .int .i64 0]] none, .agg [.str [117], .str [99], .str [116], .slice 0 true [] none, .slice 1 false [[.str [109, 97, 105, 108, 46, 114, 101, 97, 100]]] none, .int .i64 0, .bool false, .int .i64 1, .int .i64 0, .int .i64 10]] (.agg [.int .i64 3, .slice 1 true [] none, .int .i64 2, .int .i64 0, .slice 3 false [[.int .i64 0, .int .i64 (-1), .slice 1 true [] none]] none]) := by
 have h := c_run [pM] false rU (by simp) nofun (by intro p hp; rw [List.mem_singleton.1 hp]; exact ok_M) ok_U hrs_U
 rw [x_1] at h
 exact CallE.weak h ⟨le_1, Le.agg ⟨Le.refl _, Le.refl _, Le.refl _, Le.nil _ _ _, Le.refl _, Le.refl _, Le.refl _, Le.refl _, Le.refl _, Le.refl _, trivial⟩, trivial⟩ (Le.refl _)
theorem a_run3 : CallP Pr 12 [.slice 6 false [[.str [109], .bool false, .slice 0 true [] none, .slice 1 false [[.str [109, 97, 105, 108]]] none, .int .i64 2, .int .i64 0], [.str [110], .bool true, .slice 3 false [[.str [117, 115, 101, 114], .str [105, 115], .str [117]]] none, .slice 0 true [] none, .int .i64 0, .int .i64 0]] none, .agg [.str [117], .str [99], .str [116], .slice 0 true [] none, .slice 1 false [[.str [109, 97, 105, 108, 46, 114, 101, 97, 100]]] none, .int .i64 0, .bool false, .int .i64 1, .int .i64 0, .int .i64 10]] (.agg [.int .i64 2, .slice 1 true [] none, .int .i64 0, .int .i64 0, .slice 3 false [[.int .i64 0, .int .i64 (-1), .slice 1 true [] none], [.int .i64 1, .int .i64 (-1), .slice 1 true [] none]] none]) := by
 have h := c_run [pM, pN] false rU (by simp) nofun (by intro p hp; rcases List.mem_cons.1 hp with rfl | hp; exact ok_M; rw [List.mem_singleton.1 hp]; exact ok_N) ok_U hrs_U
 rw [x_3] at h
 exact CallE.weak h ⟨le_2, Le.agg ⟨Le.refl _, Le.refl _, Le.refl _, Le.nil _ _ _, Le.refl _, Le.refl _, Le.refl _, Le.refl _, Le.refl _, Le.refl _, trivial⟩, trivial⟩ (Le.refl _)
theorem a_run0 : CallP Pr 12 [.slice 0 true [] none, .agg [.str [117], .str [99], .str [116], .slice 0 true [] none, .slice 1 false [[.str [109, 97, 105, 108, 46, 114, 101, 97, 100]]] none, .int .i64 0, .bool false, .int .i64 1, .int .i64 0, .int .i64 10]] (.agg [.int .i64 4, .slice 1 true [] none, .int .i64 0, .int .i64 0, .slice 3 true [] none]) := by
 have h := c_run [] true rU (by simp) (fun _ => rfl) (by simp) ok_U hrs_U
 rw [runD_nil] at h
 exact CallE.weak h ⟨Le.nil _ _ _, Le.agg ⟨Le.refl _, Le.refl _, Le.refl _, Le.nil _ _ _, Le.refl _, Le.refl _, Le.refl _, Le.refl _, Le.refl _, Le.refl _, trivial⟩, trivial⟩ (Le.refl _)
theorem a_after : CallP Pr 20 [.slice 6 false [[.str [109], .bool false, .slice 0 true [] none, .slice 1 false [[.str [109, 97, 105, 108]]] none, .int .i64 2, .int .i64 0]] none, .agg [.str [117], .str [99], .str [116], .slice 0 true [] none, .slice 1 false [[.str [109, 97, 105, 108, 46, 114, 101, 97, 100]]] none, .int .i64 0, .bool false, .int .i64 1, .int .i64 0, .int .i64 10], .int .i64 2] (.agg [.int .i64 1, .slice 1 false [[.str [109, 97, 105, 108, 46, 114, 101, 97, 100]]] none, .int .i64 2, .int .i64 0, .slice 3 false [[.int .i64 0, .int .i64 (-1), .slice 1 false [[.str [109, 97, 105, 108, 46, 114, 101, 97, 100]]] none]] none]) := by
 have h := c_after [pM] false rU (by simp) nofun (by intro p hp; rw [List.mem_singleton.1 hp]; exact ok_M) ok_U hrs_U 2
 rw [x_2] at h
 exact CallE.weak h ⟨le_1, Le.agg ⟨Le.refl _, Le.refl _, Le.refl _, Le.nil _ _ _, Le.refl _, Le.refl _, Le.refl _, Le.refl _, Le.refl _, Le.refl _, trivial⟩, Le.refl _, trivial⟩ (Le.refl _)
theorem a_expl : CallP Pr 15 [.slice 6 false [[.str [109], .bool false, .slice 0 true [] none, .slice 1 false [[.str [109, 97, 105, 108]]] none, .int .i64 2, .int .i64 0]] none, .agg [.int .i64 3, .slice 1 true [] none, .int .i64 2, .int .i64 0, .slice 3 false [[.int .i64 0, .int .i64 (-1), .slice 1 true [] none]] none]] (.slice 1 false [[.str [109, 32, 97, 112, 112, 108, 105, 101, 115]], [.str [115, 116, 101, 112, 32, 117, 112, 32, 108, 101, 118, 101, 108, 32, 50, 32, 97, 103, 101, 32, 48]]] none) := by
 have h := c_explain [pM] false ⟨3, [], true, 2, 0, [⟨0, -1, [], true⟩], false⟩ nofun (by intro p hp; rw [List.mem_singleton.1 hp]; exact ok_M) (by simp [Dec.ok, Reas.ok])
 rw [x_5] at h
 exact CallE.weak h ⟨le_1, Le.refl _, trivial⟩ (Le.refl _)
theorem a_chg : CallP Pr 22 [.slice 6 false [[.str [109], .bool false, .slice 0 true [] none, .slice 1 false [[.str [109, 97, 105, 108]]] none, .int .i64 2, .int .i64 0], [.str [110], .bool true, .slice 3 false [[.str [117, 115, 101, 114], .str [105, 115], .str [117]]] none, .slice 0 true [] none, .int .i64 0, .int .i64 0]] none, .agg [.str [117], .str [99], .str [116], .slice 0 true [] none, .slice 1 false [[.str [109, 97, 105, 108, 46, 114, 101, 97, 100]]] none, .int .i64 0, .bool false, .int .i64 1, .int .i64 0, .int .i64 10]] (.slice 1 false [[.str [117, 115, 101, 114]]] none) := by
 have h := c_changed [pM, pN] false rU (by simp) nofun (by intro p hp; rcases List.mem_cons.1 hp with rfl | hp; exact ok_M; rw [List.mem_singleton.1 hp]; exact ok_N) ok_U hrs_U
 rw [x_4] at h
 exact CallE.weak h ⟨le_2, Le.agg ⟨Le.refl _, Le.refl _, Le.refl _, Le.nil _ _ _, Le.refl _, Le.refl _, Le.refl _, Le.refl _, Le.refl _, Le.refl _, trivial⟩, trivial⟩ (Le.refl _)
theorem a_miss : CallP Pr 18 [.agg [.int .i64 3, .slice 1 true [] none, .int .i64 2, .int .i64 0, .slice 3 false [[.int .i64 0, .int .i64 (-1), .slice 1 true [] none]] none], .agg [.str [117], .str [99], .str [116], .slice 0 true [] none, .slice 1 false [[.str [109, 97, 105, 108, 46, 114, 101, 97, 100]]] none, .int .i64 0, .bool false, .int .i64 1, .int .i64 0, .int .i64 10]] (.slice 1 false [[.str [109, 97, 105, 108, 46, 114, 101, 97, 100]]] none) := by
 have h := c_missing ⟨3, [], true, 2, 0, [⟨0, -1, [], true⟩], false⟩ rU (by simp [Dec.ok, Reas.ok]) ok_U hrs_U
 rw [x_6] at h
 exact CallE.weak h ⟨Le.refl _, Le.agg ⟨Le.refl _, Le.refl _, Le.refl _, Le.nil _ _ _, Le.refl _, Le.refl _, Le.refl _, Le.refl _, Le.refl _, Le.refl _, trivial⟩, trivial⟩ (Le.refl _)
theorem a_s1 : CallP Pr 16 [.slice 1 false [[.str [109, 97, 105, 108, 46, 114, 101, 97, 100]]] none, .slice 1 false [[.str [109, 97, 105, 108, 46, 114, 101, 97, 100]]] none] (.bool true) := c_same2 [[109, 97, 105, 108, 46, 114, 101, 97, 100]] [[109, 97, 105, 108, 46, 114, 101, 97, 100]] false false (by simp) nofun nofun
theorem a_s2 : CallP Pr 16 [.slice 1 false [[.str [117, 115, 101, 114]]] none, .slice 1 false [[.str [117, 115, 101, 114]]] none] (.bool true) := c_same2 [[117, 115, 101, 114]] [[117, 115, 101, 114]] false false (by simp) nofun nofun
theorem c_mail : CallE Pr 28 [] [] (.slice 6 false [[.str [109], .bool false, .slice 0 true [] none, .slice 1 false [[.str [109, 97, 105, 108]]] none, .int .i64 2, .int .i64 0]] (some 0)) [(0, .tip 44 6 1)] := by
 refine CallE.of_wp Tryz.func28 rfl (by kernel_rfl) Tryz.ntmps28 (by simp) ?_
 simp only [frameOf, Nat.reduceAdd, Nat.zero_add, List.map_cons, List.map_nil]
 refine WP.sr [] (by kernel_rfl) fun K hK => ?_
 simp (decide := true) only [TF, ↓reduceIte, Int.reduceToNat]
 refine hK _ _ ?_; clear hK K
 refine WP.sr [0] (by kernel_rfl) fun K hK => ?_
 simp (decide := true) only [TF, ↓reduceIte, Int.reduceToNat]
 refine hK _ _ ?_; clear hK K
 refine WP.ret ?_
 refine Ends.imp (.inr rfl) rfl (Le.of_eq (by simp (decide := true) only [St.get, lk, W, ↓reduceIte])) ?_ ?_ ?_
 · simp [lk]
 · simp [St.get, lk, W, BClo]
 · simp [lk]
theorem c_mail_at (t : Nat) : CallE Pr 28 [] [] (.slice 6 false [[.str [109], .bool false, .slice 0 true [] none, .slice 1 false [[.str [109, 97, 105, 108]]] none, .int .i64 2, .int .i64 0]] (some t)) [(t, .tip 44 6 1)] := by
 obtain ⟨f, g, h1, h2⟩ := ren_ex [t] (by simp)
 have := CallE.rename h1 c_mail
 have f1 : f 0 = t := h2 0 t rfl
 simpa only [List.map_cons, List.map_nil, renS, renB, renL, renLL, renD, Option.map_some, Option.map_none, f1] using this
def grC (r : Req) (s : List UInt8) (p : Rule) : Bool := !p.deny && decide (p.lvl ≤ r.level) && okM p r && withinB [s] p.scopes
theorem cz0 : ((((0 : Nat) : Int) == 0) = true) := rfl
theorem cz1 : ((((1 : Nat) : Int) == 1) = true) := rfl
theorem cz2 : ((((2 : Nat) : Int) == 2) = true) := rfl
theorem c_live : CallP Pr 10 [] (.bool true) := by
 refine CallP.of_wp Tryz.func10 rfl (by kernel_rfl) Tryz.ntmps10 (by simp) ?_
 simp only [frameOf, Nat.reduceAdd, Nat.zero_add]
 refine WP.sr [] (by kernel_rfl) fun K hK => ?_
 simp (decide := true) only [TF, EV, Nat.reduceAdd, cz0, cz1, cz2, ↓reduceIte, Int.reduceToNat]
 refine hK _ _ ?_; clear hK K
 refine WP.sr [1] (by kernel_rfl) fun K hK => ?_
 simp (decide := true) only [TF, EV, Nat.reduceAdd, cz0, cz1, cz2, ↓reduceIte, Int.reduceToNat]
 refine hK _ _ ?_; clear hK K
 refine WP.sd [1, 2] (by kernel_rfl) (by kernel_rfl) fun K hK => ?_
 simp (decide := true) only [TF, EV, Nat.reduceAdd, cz0, cz1, cz2, ↓reduceIte, Int.reduceToNat]
 refine CallK.imp (c_mail_at 1) rfl rfl (by simp) (by simp [lk]) (by simp [lk]) ?_
 simp (decide := true) only [TF, EV, Nat.reduceAdd, cz0, cz1, cz2, ↓reduceIte, Int.reduceToNat]
 refine CallK.pure (a_run1) rfl rfl (by simp [-List.map_take]) ?_
 simp (decide := true) only [TF, EV, Nat.reduceAdd, cz0, cz1, cz2, ↓reduceIte, Int.reduceToNat]
 refine hK _ _ (by kernel_rfl) ?_
 clear hK K
 refine WP.sd [1, 2, 3] (by kernel_rfl) (by kernel_rfl) fun K hK => ?_
 simp (decide := true) only [TF, EV, Nat.reduceAdd, cz0, cz1, cz2, ↓reduceIte, Int.reduceToNat]
 refine CallK.imp (c_mail_at 3) rfl rfl (by simp) (by simp [lk]) (by simp [lk]) ?_
 simp (decide := true) only [TF, EV, Nat.reduceAdd, cz0, cz1, cz2, ↓reduceIte, Int.reduceToNat]
 refine CallK.pure (a_expl) rfl rfl (by simp [-List.map_take]) ?_
 simp (decide := true) only [TF, EV, Nat.reduceAdd, cz0, cz1, cz2, ↓reduceIte, Int.reduceToNat]
 refine hK _ _ (by kernel_rfl) ?_
 clear hK K
 refine WP.sd [1, 2, 3, 4] (by kernel_rfl) (by kernel_rfl) fun K hK => ?_
 simp (decide := true) only [TF, EV, Nat.reduceAdd, cz0, cz1, cz2, ↓reduceIte, Int.reduceToNat]
 refine CallK.imp (c_mail_at 4) rfl rfl (by simp) (by simp [lk]) (by simp [lk]) ?_
 simp (decide := true) only [TF, EV, Nat.reduceAdd, cz0, cz1, cz2, ↓reduceIte, Int.reduceToNat]
 refine CallK.pure (a_after) rfl rfl (by simp [-List.map_take]) ?_
 simp (decide := true) only [TF, EV, Nat.reduceAdd, cz0, cz1, cz2, ↓reduceIte, Int.reduceToNat]
 refine hK _ _ (by kernel_rfl) ?_
 clear hK K
 refine WP.sr [1, 2, 3, 4, 5] (by kernel_rfl) fun K hK => ?_
 simp (decide := true) only [TF, EV, Nat.reduceAdd, cz0, cz1, cz2, ↓reduceIte, Int.reduceToNat]
 refine CallK.pure (a_run0) rfl rfl (by simp [-List.map_take]) ?_
 simp (decide := true) only [TF, EV, Nat.reduceAdd, cz0, cz1, cz2, ↓reduceIte, Int.reduceToNat]
 refine hK _ _ ?_; clear hK K
 refine WP.sr [1, 2, 3, 4, 5, 6] (by kernel_rfl) fun K hK => ?_
 simp (decide := true) only [TF, EV, Nat.reduceAdd, cz0, cz1, cz2, ↓reduceIte, Int.reduceToNat]
 refine CallK.imp (c_mail_at 7) rfl rfl (by simp) (by simp [lk]) (by simp [lk]) ?_
 simp (decide := true) only [TF, EV, Nat.reduceAdd, cz0, cz1, cz2, ↓reduceIte, Int.reduceToNat]
 refine hK _ _ ?_; clear hK K
 refine WP.sr [1, 2, 3, 4, 5, 6, 7] (by kernel_rfl) fun K hK => ?_
 simp (decide := true) only [TF, EV, Nat.reduceAdd, cz0, cz1, cz2, ↓reduceIte, Int.reduceToNat]
 refine CallK.pure (a_run3) rfl rfl (by simp [-List.map_take]) ?_
 simp (decide := true) only [TF, EV, Nat.reduceAdd, cz0, cz1, cz2, ↓reduceIte, Int.reduceToNat]
 refine hK _ _ ?_; clear hK K
 refine WP.sr [1, 2, 3, 4, 5, 7, 8] (by kernel_rfl) fun K hK => ?_
 simp (decide := true) only [TF, EV, Nat.reduceAdd, cz0, cz1, cz2, ↓reduceIte, Int.reduceToNat]
 refine CallK.pure (a_chg) rfl rfl (by simp [-List.map_take]) ?_
 simp (decide := true) only [TF, EV, Nat.reduceAdd, cz0, cz1, cz2, ↓reduceIte, Int.reduceToNat]
 refine hK _ _ ?_; clear hK K
 refine WP.sr [0] (by kernel_rfl) fun K hK => ?_
 simp (decide := true) only [TF, EV, Nat.reduceAdd, cz0, cz1, cz2, ↓reduceIte, Int.reduceToNat]
 refine CallK.pure (a_s1) rfl rfl (by simp [-List.map_take]) ?_
 simp (decide := true) only [TF, EV, Nat.reduceAdd, cz0, cz1, cz2, ↓reduceIte, Int.reduceToNat]
 refine CallK.pure (a_s2) rfl rfl (by simp [-List.map_take]) ?_
 simp (decide := true) only [TF, EV, Nat.reduceAdd, cz0, cz1, cz2, ↓reduceIte, Int.reduceToNat]
 refine CallK.pure (a_miss) rfl rfl (by simp [-List.map_take]) ?_
 simp (decide := true) only [TF, EV, Nat.reduceAdd, cz0, cz1, cz2, ↓reduceIte, Int.reduceToNat]
 refine CallK.pure (a_s1) rfl rfl (by simp [-List.map_take]) ?_
 simp (decide := true) only [TF, EV, Nat.reduceAdd, cz0, cz1, cz2, ↓reduceIte, Int.reduceToNat]
 refine hK _ _ ?_; clear hK K
 refine WP.ret ?_
 exact Ends.pure (.inr rfl) rfl (Le.of_eq (by simp (decide := true) only [St.get, lk, W, ↓reduceIte])) (by simp)
end Go.Proofs
