/- What Run permits is asked for and covered by a rule that applies. Conditions: none, the given statement. -/
import Derived.Test.YtahpinmifmdpgaaGreatDoorG09
import Derived.Test.YtahpinmifmdpgaaGreatDoorG08
import Derived.Test.YtahpinmifmdpgaaGreatDoorG10
import Derived.Test.YtahpinmifmdpgaaGreatDoorG05
import Derived.ChangeMaps5
set_option linter.unusedSimpArgs false
set_option linter.unusedVariables false
set_option maxRecDepth 10000
namespace Go.Proofs
open Go Go.Id
set_option maxHeartbeats 4000000
theorem c_l_grants (l : List Rule) (nl : Bool) (hn : l.length ≤ 9223372036854775807) (hnl : nl = true → l = []) (hl : ∀ p ∈ l, p.big) (hg : ∀ p ∈ l, p.rng) (r : Req) (hr : r.big) : CallP Pr 8 [.slice 6 nl (l.map Rule.cs) none, .agg [.str r.user, .str r.client, .str r.tenant, .slice 1 r.ng (r.groups.map fun x => [.str x]) none, .slice 1 r.ns (r.scopes.map fun x => [.str x]) none, .int .i64 r.risk, .bool r.trusted, .int .i64 r.level, .int .i64 r.auth, .int .i64 r.now]] (.bool true) := by
 refine CallP.of_wp Tryz.func8 rfl (by kernel_rfl) Tryz.ntmps8 (by simp) ?_
 simp only [frameOf, Nat.reduceAdd, Nat.zero_add]
 refine WP.sr [0, 3] (by kernel_rfl) fun K hK => ?_
 simp (decide := true) only [TF, EV, dcsD, cz0, List.map_nil, List.length_nil, okM_eq, ↓reduceIte, Int.reduceToNat]
 refine hK _ _ ?_; clear hK K
 refine WP.seq ?_
 refine WP.sr [0, 3, 12] (by kernel_rfl) fun K hK => ?_
 simp (decide := true) only [TF, EV, dcsD, cz0, List.map_nil, List.length_nil, okM_eq, ↓reduceIte, Int.reduceToNat]
 refine CallK.pure (c_great l nl r hn hnl hl hr) rfl rfl (by simp [-List.map_take]) ?_
 simp (decide := true) only [TF, EV, dcsD, cz0, List.map_nil, List.length_nil, okM_eq, ↓reduceIte, Int.reduceToNat]
 refine hK _ _ ?_; clear hK K
 refine WP.cond (b := _) rfl (fun q1 => ?_) (fun q1 => ?_)
 ·
  refine WP.sr [4] (by kernel_rfl) fun K hK => ?_
  simp (decide := true) only [TF, EV, q1, dcsD, cz0, List.map_nil, List.length_nil, okM_eq, ↓reduceIte, Int.reduceToNat]
  refine CallK.pure (c_live) rfl rfl (by simp [-List.map_take]) ?_
  simp (decide := true) only [TF, EV, q1, dcsD, cz0, List.map_nil, List.length_nil, okM_eq, ↓reduceIte, Int.reduceToNat]
  refine hK _ _ ?_; clear hK K
  refine WP.ret ?_
  exact Ends.pure (.inr rfl) rfl (Le.of_eq (by simp (decide := true) only [St.get, lk, W, q1, ↓reduceIte])) (by simp)
 ·
  have hN := great_no q1 hl hr
  have hrk := run_ok hN hg
  have hsm := sameD_refl (runD l r)
  refine WP.skip ?_
  show WP _ _ _ _ _ _
  refine WP.sr [0, 3, 5] (by kernel_rfl) fun K hK => ?_
  simp (decide := true) only [TF, EV, q1, dcsD, cz0, List.map_nil, List.length_nil, okM_eq, ↓reduceIte, Int.reduceToNat]
  refine CallK.pure (c_run l nl r (by have := hN.few; omega) hnl hN.ok hN.rok hN.hrs) rfl rfl (by simp [-List.map_take]) ?_
  simp (decide := true) only [TF, EV, q1, dcsD, cz0, List.map_nil, List.length_nil, okM_eq, ↓reduceIte, Int.reduceToNat]
  refine hK _ _ ?_; clear hK K
  refine WP.seq ?_
  refine WP.sr [0, 3, 5, 19] (by kernel_rfl) fun K hK => ?_
  simp (decide := true) only [TF, EV, q1, dcsD, cz0, List.map_nil, List.length_nil, okM_eq, ↓reduceIte, Int.reduceToNat]
  refine hK _ _ ?_; clear hK K
  refine WP.cond (b := _) rfl (fun q2 => ?_) (fun q2 => ?_)
  ·
   have hsc := run_no q2
   refine WP.sr [4] (by kernel_rfl) fun K hK => ?_
   simp (decide := true) only [TF, EV, q1, q2, hsc, dcsD, cz0, List.map_nil, List.length_nil, okM_eq, ↓reduceIte, Int.reduceToNat]
   refine CallK.pure (c_live) rfl rfl (by simp [-List.map_take]) ?_
   simp (decide := true) only [TF, EV, q1, q2, hsc, dcsD, cz0, List.map_nil, List.length_nil, okM_eq, ↓reduceIte, Int.reduceToNat]
   refine hK _ _ ?_; clear hK K
   refine WP.ret ?_
   exact Ends.pure (.inr rfl) rfl (Le.of_eq (by simp (decide := true) only [St.get, lk, W, q1, q2, hsc, ↓reduceIte])) (by simp)
  ·
   have hP := run_permits q2
   have hp1 := hP.chk
   have hp2 := hP.ne
   have hp3 := hP.lvl
   have hdn := hP.deny
   have hsl0 := hrk.1
   refine WP.skip ?_
   show WP _ _ _ _ _ _
   refine WP.seq ?_
   refine WP.sr [0, 3, 5, 46] (by kernel_rfl) fun K hK => ?_
   simp (decide := true) only [TF, EV, q1, q2, hp1, hp2, hp3, dcsD, cz0, List.map_nil, List.length_nil, okM_eq, ↓reduceIte, Int.reduceToNat]
   refine CallK.pure (c_check l nl (by have := hN.few; omega) hnl hN.ok) rfl rfl (by simp [-List.map_take]) ?_
   simp (decide := true) only [TF, EV, q1, q2, hp1, hp2, hp3, dcsD, cz0, List.map_nil, List.length_nil, okM_eq, ↓reduceIte, Int.reduceToNat]
   refine CallK.pure (c_live) rfl rfl (by simp [-List.map_take]) ?_
   simp (decide := true) only [TF, EV, q1, q2, hp1, hp2, hp3, dcsD, cz0, List.map_nil, List.length_nil, okM_eq, ↓reduceIte, Int.reduceToNat]
   refine hK _ _ ?_; clear hK K
   refine WP.cond (b := false) (by rfl) nofun (fun _ => ?_)
   refine WP.skip ?_
   show WP _ _ _ _ _ _
   refine WP.seq ?_
   refine WP.sr [0, 3, 5, 48, 49] (by kernel_rfl) fun K hK => ?_
   simp (decide := true) only [TF, EV, q1, q2, hp1, hp2, hp3, dcsD, cz0, List.map_nil, List.length_nil, okM_eq, ↓reduceIte, Int.reduceToNat]
   refine hK _ _ ?_; clear hK K
   refine WP.block ?_
   refine WP.lp [0, 3, 5, 48] (X := {k : Nat // k ≤ l.length ∧ True}) (fun x => match x with | ⟨(k), _⟩ => [(49, .int .i64 k)]) (fun x => match x with | ⟨(k), _⟩ => [(1, .box 32 [.int .i64 (runD l r).eff, .slice 1 (runD l r).ns ((runD l r).scopes.map fun x => [.str x]) none, .int .i64 (runD l r).lvl, .int .i64 (runD l r).age, .slice 3 (runD l r).nr ((runD l r).reas.map Reas.cs) none]), (0, .box 25 [.str r.user, .str r.client, .str r.tenant, .slice 1 r.ng (r.groups.map fun x => [.str x]) none, .slice 1 r.ns (r.scopes.map fun x => [.str x]) none, .int .i64 r.risk, .bool r.trusted, .int .i64 r.level, .int .i64 r.auth, .int .i64 r.now])]) (fun x => match x with | ⟨(k), _⟩ => l.length - k) (by simp (decide := true) only [W, ↓reduceIte, Int.reduceToNat]; rfl) ?_ ⟨(0), ⟨Nat.zero_le _, by simp⟩⟩ ?_
   rotate_left
   · exact Weak.store (by simp [St.get, lk, W, Le.refl, q1, q2, hp1, hp2, hp3]) (by simp [lk, W, q1, q2, hp1, hp2, hp3]) (by simp [lk, W]) (by simp [BClo, lk]) (by simp [lk])
   rintro ⟨k, hk, hI⟩
   dsimp only
   simp only [List.cons_append, List.nil_append]
   refine WP.sr [0, 3, 5, 48, 49, 50] (by kernel_rfl) fun K hK => ?_
   simp (decide := true) only [TF, EV, q1, q2, hp1, hp2, hp3, hk, dcsD, cz0, List.map_nil, List.length_nil, okM_eq, ↓reduceIte, Int.reduceToNat]
   refine hK _ _ ?_; clear hK K
   refine WP.seq ?_
   refine WP.cond (b := _) rfl (fun q3 => ?_) (fun q3 => ?_)
   ·
    have hlt := lt_of_q q3
    have hg : (l.map Rule.cs)[k]? = some [.str l[k].name, .bool l[k].deny, .slice 3 l[k].nc (l[k].conds.map Cond.cs) none, .slice 1 l[k].ns (l[k].scopes.map fun x => [.str x]) none, .int .i64 l[k].lvl, .int .i64 l[k].age] := getM hlt
    have hnf := nl_false hnl hlt
    refine WP.skip ?_
    show WP _ _ _ _ _ _
    refine WP.seq ?_
    refine WP.block ?_
    refine WP.sr [0, 3, 5, 6, 48, 49] (by kernel_rfl) fun K hK => ?_
    simp (decide := true) only [TF, EV, q1, q2, hp1, hp2, hp3, hk, q3, hg, hnf, dcsD, cz0, List.map_nil, List.length_nil, okM_eq, ↓reduceIte, Int.reduceToNat]
    refine hK _ _ ?_; clear hK K
    refine WP.sd [0, 3, 5, 48, 49, 65] (by kernel_rfl) (by kernel_rfl) fun K hK => ?_
    refine runOps.take 6 fun J hJ => ?_
    simp (decide := true) only [TF, EV, q1, q2, hp1, hp2, hp3, hk, q3, hg, hnf, dcsD, cz0, List.map_nil, List.length_nil, okM_eq, ↓reduceIte, Int.reduceToNat]
    refine hJ _ _ ?_; clear hJ J
    refine runOps.part 57 rfl (fun q4 => ?_) (fun q4 => ?_)
    ·
     have hm := deny_at hdn hlt q4
     simp (decide := true) only [TF, EV, q1, q2, hp1, hp2, hp3, hk, q3, hg, hnf, q4, hm, dcsD, cz0, List.map_nil, List.length_nil, okM_eq, ↓reduceIte, Int.reduceToNat]
     refine CallK.pure (c_first l[k] r (hN.ok _ (List.getElem_mem hlt)) hN.rok) rfl (by rw [q4]; rfl) (by simp [-List.map_take]) ?_
     simp (decide := true) only [TF, EV, q1, q2, hp1, hp2, hp3, hk, q3, hg, hnf, q4, hm, dcsD, cz0, List.map_nil, List.length_nil, okM_eq, ↓reduceIte, Int.reduceToNat]
     refine hK _ _ (by kernel_rfl) ?_
     clear hK K
     refine WP.cond (b := false) (by rfl) nofun (fun _ => ?_)
     refine WP.skip ?_
     show WP _ _ _ _ _ _
     refine WP.region (by kernel_rfl) fun K hK => ?_
     simp (decide := true) only [TF, EV, q1, q2, hp1, hp2, hp3, hk, q3, hg, hnf, q4, hm, dcsD, cz0, List.map_nil, List.length_nil, okM_eq, ↓reduceIte, Int.reduceToNat]
     refine hK _ _ ?_; clear hK K
     show ∃ y, _ ∧ Weak _ _ _
     refine ⟨⟨k + 1, ?_⟩, ?_, ?_⟩
     · exact ⟨by omega, trivial⟩
     · dsimp only; omega
     · exact Weak.store (by simp [St.get, lk, W, Le.refl, q1, q2, hp1, hp2, hp3, hk, q3, hg, hnf, q4, hm, wrapS hlt (show l.length ≤ 140737488355328 by have := hN.few; omega)]) (by simp [lk, W, q1, q2, hp1, hp2, hp3, hk, q3, hg, hnf, q4, hm, wrapS hlt (show l.length ≤ 140737488355328 by have := hN.few; omega)]) (by simp [lk, W]) (by simp [BClo, lk]) (by simp [lk])
    ·
     simp (decide := true) only [TF, EV, q1, q2, hp1, hp2, hp3, hk, q3, hg, hnf, q4, dcsD, cz0, List.map_nil, List.length_nil, okM_eq, ↓reduceIte, Int.reduceToNat]
     refine hK _ _ (by kernel_rfl) ?_
     clear hK K
     refine WP.cond (b := false) (by rfl) nofun (fun _ => ?_)
     refine WP.skip ?_
     show WP _ _ _ _ _ _
     refine WP.region (by kernel_rfl) fun K hK => ?_
     simp (decide := true) only [TF, EV, q1, q2, hp1, hp2, hp3, hk, q3, hg, hnf, q4, dcsD, cz0, List.map_nil, List.length_nil, okM_eq, ↓reduceIte, Int.reduceToNat]
     refine hK _ _ ?_; clear hK K
     show ∃ y, _ ∧ Weak _ _ _
     refine ⟨⟨k + 1, ?_⟩, ?_, ?_⟩
     · exact ⟨by omega, trivial⟩
     · dsimp only; omega
     · exact Weak.store (by simp [St.get, lk, W, Le.refl, q1, q2, hp1, hp2, hp3, hk, q3, hg, hnf, q4, wrapS hlt (show l.length ≤ 140737488355328 by have := hN.few; omega)]) (by simp [lk, W, q1, q2, hp1, hp2, hp3, hk, q3, hg, hnf, q4, wrapS hlt (show l.length ≤ 140737488355328 by have := hN.few; omega)]) (by simp [lk, W]) (by simp [BClo, lk]) (by simp [lk])
   ·
    have hge := ge_of_q q3
    refine WP.exit ?_
    show WP _ _ _ _ _ _
    refine WP.seq ?_
    refine WP.sr [0, 3, 5, 69, 70] (by kernel_rfl) fun K hK => ?_
    simp (decide := true) only [TF, EV, q1, q2, hp1, hp2, hp3, hk, q3, dcsD, cz0, List.map_nil, List.length_nil, okM_eq, ↓reduceIte, Int.reduceToNat]
    refine hK _ _ ?_; clear hK K
    refine WP.block ?_
    refine WP.lp [0, 3, 5, 69] (X := {k : Nat // k ≤ (runD l r).scopes.length ∧ True}) (fun x => match x with | ⟨(k), _⟩ => [(70, .int .i64 k)]) (fun x => match x with | ⟨(k), _⟩ => [(1, .box 32 [.int .i64 (runD l r).eff, .slice 1 (runD l r).ns ((runD l r).scopes.map fun x => [.str x]) none, .int .i64 (runD l r).lvl, .int .i64 (runD l r).age, .slice 3 (runD l r).nr ((runD l r).reas.map Reas.cs) none]), (0, .box 25 [.str r.user, .str r.client, .str r.tenant, .slice 1 r.ng (r.groups.map fun x => [.str x]) none, .slice 1 r.ns (r.scopes.map fun x => [.str x]) none, .int .i64 r.risk, .bool r.trusted, .int .i64 r.level, .int .i64 r.auth, .int .i64 r.now])]) (fun x => match x with | ⟨(k), _⟩ => (runD l r).scopes.length - k) (by simp (decide := true) only [W, ↓reduceIte, Int.reduceToNat]; rfl) ?_ ⟨(0), ⟨Nat.zero_le _, by simp⟩⟩ ?_
    rotate_left
    · exact Weak.store (by simp [St.get, lk, W, Le.refl, q1, q2, hp1, hp2, hp3, hk, q3]) (by simp [lk, W, q1, q2, hp1, hp2, hp3, hk, q3]) (by simp [lk, W]) (by simp [BClo, lk]) (by simp [lk])
    rintro ⟨k, hk, hI⟩
    dsimp only
    simp only [List.cons_append, List.nil_append]
    refine WP.sr [0, 3, 5, 69, 70, 71] (by kernel_rfl) fun K hK => ?_
    simp (decide := true) only [TF, EV, q1, q2, hp1, hp2, hp3, hk, q3, dcsD, cz0, List.map_nil, List.length_nil, okM_eq, ↓reduceIte, Int.reduceToNat]
    refine hK _ _ ?_; clear hK K
    refine WP.seq ?_
    refine WP.cond (b := _) rfl (fun q5 => ?_) (fun q5 => ?_)
    ·
     have hlt := lt_of_q q5
     have hg : ((runD l r).scopes.map (fun x => [D.str x]))[k]? = some [.str (runD l r).scopes[k]] := getM hlt
     have hnf := nl_false hrk.2.1 hlt
     have hE := hP.each _ (List.getElem_mem hlt)
     have hsl := hrk.2.2.1 _ (List.getElem_mem hlt)
     have hrsl := hN.sc
     refine WP.skip ?_
     show WP _ _ _ _ _ _
     refine WP.seq ?_
     refine WP.block ?_
     refine WP.sr [0, 3, 5, 7, 69, 70] (by kernel_rfl) fun K hK => ?_
     simp (decide := true) only [TF, EV, q1, q2, hp1, hp2, hp3, hk, q3, q5, hg, hnf, dcsD, cz0, List.map_nil, List.length_nil, okM_eq, ↓reduceIte, Int.reduceToNat]
     refine hK _ _ ?_; clear hK K
     refine WP.sr [0, 3, 5, 7, 8, 69, 70] (by kernel_rfl) fun K hK => ?_
     simp (decide := true) only [TF, EV, q1, q2, hp1, hp2, hp3, hk, q3, q5, hg, hnf, dcsD, cz0, List.map_nil, List.length_nil, okM_eq, ↓reduceIte, Int.reduceToNat]
     refine hK _ _ ?_; clear hK K
     refine WP.seq ?_
     refine WP.sr [0, 3, 5, 7, 8, 69, 70, 75, 76] (by kernel_rfl) fun K hK => ?_
     simp (decide := true) only [TF, EV, q1, q2, hp1, hp2, hp3, hk, q3, q5, hg, hnf, dcsD, cz0, List.map_nil, List.length_nil, okM_eq, ↓reduceIte, Int.reduceToNat]
     refine hK _ _ ?_; clear hK K
     refine WP.block ?_
     refine WP.lp [0, 3, 5, 7, 69, 70, 75] (X := {j : Nat // j ≤ r.scopes.length ∧ True}) (fun x => match x with | ⟨(j), _⟩ => [(8, .bool ((r.scopes.take j).any (fun x => x == (runD l r).scopes[k]))), (76, .int .i64 j)]) (fun x => match x with | ⟨(j), _⟩ => [(1, .box 32 [.int .i64 (runD l r).eff, .slice 1 (runD l r).ns ((runD l r).scopes.map fun x => [.str x]) none, .int .i64 (runD l r).lvl, .int .i64 (runD l r).age, .slice 3 (runD l r).nr ((runD l r).reas.map Reas.cs) none]), (0, .box 25 [.str r.user, .str r.client, .str r.tenant, .slice 1 r.ng (r.groups.map fun x => [.str x]) none, .slice 1 r.ns (r.scopes.map fun x => [.str x]) none, .int .i64 r.risk, .bool r.trusted, .int .i64 r.level, .int .i64 r.auth, .int .i64 r.now])]) (fun x => match x with | ⟨(j), _⟩ => r.scopes.length - j) (by simp (decide := true) only [W, ↓reduceIte, Int.reduceToNat]; rfl) ?_ ⟨(0), ⟨Nat.zero_le _, by simp⟩⟩ ?_
     rotate_left
     · exact Weak.store (by simp [St.get, lk, W, Le.refl, q1, q2, hp1, hp2, hp3, hk, q3, hk, q5, hg, hnf]) (by simp [lk, W, q1, q2, hp1, hp2, hp3, hk, q3, hk, q5, hg, hnf]) (by simp [lk, W]) (by simp [BClo, lk]) (by simp [lk])
     rintro ⟨j, hk, hL⟩
     dsimp only
     simp only [List.cons_append, List.nil_append]
     refine WP.sr [0, 3, 5, 7, 8, 69, 70, 75, 76, 77] (by kernel_rfl) fun K hK => ?_
     simp (decide := true) only [TF, EV, q1, q2, hp1, hp2, hp3, hk, q3, q5, hg, hnf, dcsD, cz0, List.map_nil, List.length_nil, okM_eq, ↓reduceIte, Int.reduceToNat]
     refine hK _ _ ?_; clear hK K
     refine WP.seq ?_
     refine WP.cond (b := _) rfl (fun q6 => ?_) (fun q6 => ?_)
     ·
      have hjl := lt_of_q q6
      have hgj : (r.scopes.map (fun x => [D.str x]))[j]? = some [.str r.scopes[j]] := getM hjl
      have hnfj := nl_false hr.2.2.2 hjl
      refine WP.skip ?_
      show WP _ _ _ _ _ _
      refine WP.seq ?_
      refine WP.block ?_
      refine WP.sr [0, 3, 5, 7, 8, 9, 69, 70, 75, 76] (by kernel_rfl) fun K hK => ?_
      simp (decide := true) only [TF, EV, q1, q2, hp1, hp2, hp3, hk, q3, q5, hg, hnf, q6, hgj, hnfj, dcsD, cz0, List.map_nil, List.length_nil, okM_eq, ↓reduceIte, Int.reduceToNat]
      refine hK _ _ ?_; clear hK K
      refine WP.drawn (by kernel_rfl) (by kernel_rfl) fun K hK => ?_
      refine runOps.take 2 fun J hJ => ?_
      simp (decide := true) only [TF, EV, q1, q2, hp1, hp2, hp3, hk, q3, q5, hg, hnf, q6, hgj, hnfj, dcsD, cz0, List.map_nil, List.length_nil, okM_eq, ↓reduceIte, Int.reduceToNat]
      refine hJ _ _ ?_; clear hJ J
      refine runOps.part 80 rfl (fun q7 => ?_) (fun q7 => ?_)
      ·
       simp (decide := true) only [TF, EV, q1, q2, hp1, hp2, hp3, hk, q3, q5, hg, hnf, q6, hgj, hnfj, q7, dcsD, cz0, List.map_nil, List.length_nil, okM_eq, ↓reduceIte, Int.reduceToNat]
       refine hK _ _ (by kernel_rfl) ?_
       clear hK K
       show WP _ _ _ _ _ _
       refine WP.region (by kernel_rfl) fun K hK => ?_
       simp (decide := true) only [TF, EV, q1, q2, hp1, hp2, hp3, hk, q3, q5, hg, hnf, q6, hgj, hnfj, q7, dcsD, cz0, List.map_nil, List.length_nil, okM_eq, ↓reduceIte, Int.reduceToNat]
       refine hK _ _ ?_; clear hK K
       show ∃ y, _ ∧ Weak _ _ _
       have hst := any_step (f := (fun x => x == (runD l r).scopes[k])) hjl
       refine ⟨⟨j + 1, ?_⟩, ?_, ?_⟩
       · exact ⟨by omega, trivial⟩
       · dsimp only; omega
       · dsimp only; rw [hst]; exact Weak.store (by simp [St.get, lk, W, Le.refl, -List.any_eq_true, q1, q2, hp1, hp2, hp3, hk, q3, hk, q5, hg, hnf, hk, q6, hgj, hnfj, q7, wrapS hjl (show r.scopes.length ≤ 140737488355328 by omega)]) (by simp [lk, W, q1, q2, hp1, hp2, hp3, hk, q3, hk, q5, hg, hnf, hk, q6, hgj, hnfj, q7]) (by simp [lk, W]) (by simp [BClo, lk]) (by simp [lk])
      ·
       simp (decide := true) only [TF, EV, q1, q2, hp1, hp2, hp3, hk, q3, q5, hg, hnf, q6, hgj, hnfj, q7, dcsD, cz0, List.map_nil, List.length_nil, okM_eq, ↓reduceIte, Int.reduceToNat]
       refine hK _ _ (by kernel_rfl) ?_
       clear hK K
       show WP _ _ _ _ _ _
       refine WP.region (by kernel_rfl) fun K hK => ?_
       simp (decide := true) only [TF, EV, q1, q2, hp1, hp2, hp3, hk, q3, q5, hg, hnf, q6, hgj, hnfj, q7, dcsD, cz0, List.map_nil, List.length_nil, okM_eq, ↓reduceIte, Int.reduceToNat]
       refine hK _ _ ?_; clear hK K
       show ∃ y, _ ∧ Weak _ _ _
       have hst := any_step (f := (fun x => x == (runD l r).scopes[k])) hjl
       refine ⟨⟨j + 1, ?_⟩, ?_, ?_⟩
       · exact ⟨by omega, trivial⟩
       · dsimp only; omega
       · dsimp only; rw [hst]; exact Weak.store (by simp [St.get, lk, W, Le.refl, -List.any_eq_true, q1, q2, hp1, hp2, hp3, hk, q3, hk, q5, hg, hnf, hk, q6, hgj, hnfj, q7, wrapS hjl (show r.scopes.length ≤ 140737488355328 by omega)]) (by simp [lk, W, q1, q2, hp1, hp2, hp3, hk, q3, hk, q5, hg, hnf, hk, q6, hgj, hnfj, q7]) (by simp [lk, W]) (by simp [BClo, lk]) (by simp [lk])
     ·
      have hjg := ge_of_q q6
      have hfull := any_full hjg hE.1
      have hcv := hE.2
      refine WP.exit ?_
      show WP _ _ _ _ _ _
      refine WP.sd [0, 3, 5, 69, 70, 106] (by kernel_rfl) (by kernel_rfl) fun K hK => ?_
      simp (decide := true) only [TF, EV, q1, q2, hp1, hp2, hp3, hk, q3, q5, hg, hnf, q6, hfull, hcv, dcsD, cz0, List.map_nil, List.length_nil, okM_eq, ↓reduceIte, Int.reduceToNat]
      refine CallK.pure (c_l_covered l nl r (runD l r).scopes[k] (by have := hN.few; omega) hnl hN.ok hN.rok hsl) rfl rfl (by simp [-List.map_take]) ?_
      simp (decide := true) only [TF, EV, q1, q2, hp1, hp2, hp3, hk, q3, q5, hg, hnf, q6, hfull, hcv, dcsD, cz0, List.map_nil, List.length_nil, okM_eq, ↓reduceIte, Int.reduceToNat]
      refine hK _ _ (by kernel_rfl) ?_
      clear hK K
      refine WP.cond (b := false) (by rfl) nofun (fun _ => ?_)
      refine WP.skip ?_
      show WP _ _ _ _ _ _
      refine WP.region (by kernel_rfl) fun K hK => ?_
      simp (decide := true) only [TF, EV, q1, q2, hp1, hp2, hp3, hk, q3, q5, hg, hnf, q6, hfull, hcv, dcsD, cz0, List.map_nil, List.length_nil, okM_eq, ↓reduceIte, Int.reduceToNat]
      refine hK _ _ ?_; clear hK K
      show ∃ y, _ ∧ Weak _ _ _
      refine ⟨⟨k + 1, ?_⟩, ?_, ?_⟩
      · exact ⟨by omega, trivial⟩
      · dsimp only; omega
      · exact Weak.store (by simp [St.get, lk, W, Le.refl, q1, q2, hp1, hp2, hp3, hk, q3, hk, q5, hg, hnf, hk, q6, hfull, hcv, wrapS hlt (show (runD l r).scopes.length ≤ 140737488355328 by omega)]) (by simp [lk, W, q1, q2, hp1, hp2, hp3, hk, q3, hk, q5, hg, hnf, hk, q6, hfull, hcv, wrapS hlt (show (runD l r).scopes.length ≤ 140737488355328 by omega)]) (by simp [lk, W]) (by simp [BClo, lk]) (by simp [lk])
    ·
     have hge := ge_of_q q5
     refine WP.exit ?_
     show WP _ _ _ _ _ _
     refine WP.sr [4] (by kernel_rfl) fun K hK => ?_
     simp (decide := true) only [TF, EV, q1, q2, hp1, hp2, hp3, hk, q3, q5, dcsD, cz0, List.map_nil, List.length_nil, okM_eq, ↓reduceIte, Int.reduceToNat]
     refine hK _ _ ?_; clear hK K
     refine WP.ret ?_
     exact Ends.pure (.inr rfl) rfl (Le.of_eq (by simp (decide := true) only [St.get, lk, W, q1, q2, hp1, hp2, hp3, hk, q3, hk, q5, hI, hI, ↓reduceIte])) (by simp)
end Go.Proofs
set_option linter.unusedVariables false
set_option maxRecDepth 100000
namespace Go.Proofs.YtahpinmifmdpgaaGreatDoor.RwGrants
open Go Go.Id Go.Proofs Go.ChangeShapes Go.ChangeMaps Go.WideShapes Go.ChangeAt Go.RowKit Go.Proofs.YtahpinmifmdpgaaGreatDoor.Rw
theorem contract (H : Type) (enc : TypeId × Value → H) (W : World) (base : Nat) (args : Array Value) (ds gs : List (DataW H)) (before : List MemPlace)
    (hval : ∀ (j : Nat) t v, Tryz.f8.params[j]? = some t → args[j]? = some v → Value.okWide Tryz.prog W .any base t v)
    (hW : DataW.Whole enc Tryz.prog Tryz.f8.params.toList Rows.decideGrantsSpec.vars false W args.toList ds gs before) (hL : laidMetH Tryz.prog laidL W) (hS : W.ShapedOpen Tryz.prog) :
    Calls Tryz.prog 8 args W fun e W' => ∃ v, e = .returned v ∧ Rows.decideGrantsSpec.post enc Tryz.prog Tryz.f8 false true false false W args v W' := by
  have hW' := hW
  obtain ⟨p, q, hA0, hV, rfl, hfz, hnd⟩ := hW
  have hA : DataW.TrodAll enc Tryz.prog W 0 (fun _ => true) true Tryz.f8.params.toList args.toList ds p := hA0
  rw [Tryz.params8] at hA hval
  obtain ⟨al⟩ := args
  dsimp only at hA
  obtain ⟨v0, _, d0, _, p_0, _, rfl, rfl, rfl, h0, hA⟩ := trodAll_cons hA
  obtain ⟨v1, _, d1, _, p_1, _, rfl, rfl, rfl, h1, hA⟩ := trodAll_cons hA
  obtain ⟨rfl, rfl, rfl⟩ := trodAll_nil hA
  obtain ⟨rfl, rfl⟩ := trodVars_none hV
  obtain ⟨l0, nl0, hn0, hnl0, hb0, hr0, r0⟩ := arg_rules (hval 0 22 v0 rfl rfl) h0
  obtain ⟨q1, hb1, r1⟩ := arg_req (hval 1 25 v1 rfl rfl) h1
  refine (CallP.run (c_l_grants l0 nl0 hn0 hnl0 hb0 hr0 q1 hb1) W (polI_of hL hS) (heap_of hS) [v0, v1] rfl (Rw.consR r0 (Rw.one r1))).mono ?_
  rintro e W' ⟨v, rfl, hr, hb⟩
  cases hr
  exact ⟨_, rfl, post_all hW' rfl hb (of_decide_eq_true (by kernel_rfl)) (by kernel_rfl) rfl rfl rfl⟩
abbrev wit : Array Value := #[.slice none 0 0, .agg #[.string ⟨#[]⟩, .string ⟨#[]⟩, .string ⟨#[]⟩, .slice none 0 0, .slice none 0 0, .int .i64 0, .bool false, .int .i64 0, .int .i64 0, .int .i64 0]]
theorem reads (os : Os) {H : Type} (enc : TypeId × Value → H) : (DataW.whole enc Tryz.prog (memW os wit) Tryz.f8.params.toList Rows.decideGrantsSpec.vars false wit.toList 8).map (fun x => (x.1, x.2.1)) = some ([.nil, .agg [.lit (.string []), .lit (.string []), .lit (.string []), .nil, .nil, .lit (.int .i64 0), .lit (.bool false), .lit (.int .i64 0), .lit (.int .i64 0), .lit (.int .i64 0)]], []) := by kernel_rfl
theorem lifted (os : Os) (started : os.Started) (H : Type) (enc : TypeId × Value → H) (F : Stop.Interp) :
    ReturnsInHanded {} Tryz.checked os 8 .any ((OpenSpec.ofChange Rows.decideGrantsSpec).preRow enc Tryz.prog Tryz.f8 Rows.decideGrantsRow.domain false Rows.decideGrantsRow.laid) (((OpenSpec.ofChange Rows.decideGrantsSpec).at F).post enc Tryz.prog Tryz.f8 false true false false) := by
  obtain ⟨⟨x1, x2, x3⟩, hx, hx1⟩ := Option.map_eq_some_iff.1 (reads os enc)
  simp only [Prod.mk.injEq] at hx1
  obtain ⟨rfl, rfl⟩ := hx1
  refine returnsInHanded_of_row (C := Tryz.checked) (s := OpenSpec.ofChange Rows.decideGrantsSpec) own started (by kernel_rfl) Tryz.func8
    (witness_row_atRef (enc := enc) (C := Tryz.checked) false (laidWorld os) wit rfl (by kernel_rfl) (by kernel_rfl) (by kernel_rfl)
      (OpenSpec.preRow_of_cond 8 hx (by kernel_rfl) (fun k hk => by cases hk) (by kernel_rfl) (laid_met os _))) ?_
  intro W base args ds gs before hval hW _ _ _ hL hS _
  exact contract H enc W base args ds gs before hval hW hL hS
theorem said : Rows.DecideGrantsSaid :=
  OpenClaim.holds_of_cond 8 Tryz.f8 rfl rfl rfl rfl rfl rfl rfl ⟨rfl, rfl, rfl, rfl, rfl⟩ rfl rfl rfl rfl rfl (by kernel_rfl) Tryz.func8 (by kernel_rfl)
    (of_decide_eq_true (by kernel_rfl)) (by unfold Func.isWrapper; first | (rw [if_pos (by decide +kernel)]; kernel_rfl) | (rw [if_neg (by decide +kernel)]; exact ⟨rfl, rfl⟩))
    (fun os started H enc _ F => by rw [OpenClaim.pre_eq_preRow]; exact lifted os started H enc F)
theorem plain (f : FuncId) (fn : Func) (hf : Tryz.pinned.checked.prog.funcNamed Rows.decideGrantsRow.func = some f) (hfn : Tryz.pinned.checked.prog.funcs[f]? = some fn) :
    true = Tryz.pinned.checked.prog.looks [] ∧ ∀ (j : Nat) t, fn.params[j]? = some t → Tryz.pinned.checked.prog.wantsStandIn t = false := by
  obtain rfl : f = 8 := Option.some.inj ((show Tryz.prog.funcNamed Rows.decideGrantsRow.func = some 8 by kernel_rfl).symm.trans hf) |>.symm
  obtain rfl : fn = Tryz.f8 := (Option.some.inj (Tryz.func8.symm.trans hfn)).symm
  refine ⟨by kernel_rfl, fun j t ht => ?_⟩
  have hall : (Tryz.f8.params.toList.all fun t => Tryz.prog.wantsStandIn t == false) = true := by kernel_rfl
  exact eq_of_beq (List.all_eq_true.1 hall t (by simpa using Array.mem_of_getElem? ht))
theorem card : Rows.DecideGrantsCardSaid :=
  Claim7.holds_tied_plain_at .later [] _ _ _ _ said (fun _ h => by cases h) (by kernel_rfl) (fun _ h => by cases h) decideGrants_row_tie rfl ⟨rfl, rfl⟩ (by kernel_rfl) rfl plain (by kernel_rfl)
end Go.Proofs.YtahpinmifmdpgaaGreatDoor.RwGrants
#print axioms Go.Proofs.YtahpinmifmdpgaaGreatDoor.RwGrants.card
