import Derived.Test.YtahpinmifmdpgaaGreatDoorG05
import Derived.Test.YtahpinmifmdpgaaGreatDoorG09
import Derived.Test.YtahpinmifmdpgaaGreatDoorG03
set_option linter.unusedVariables false
set_option linter.unusedSimpArgs false
set_option linter.unnecessarySimpa false
set_option linter.unusedSimpArgs false
set_option linter.unusedVariables false
set_option maxRecDepth 10000
namespace Go.Proofs
open Go Go.Id
set_option maxHeartbeats 4000000
theorem c_permit (l : List Rule) (nl : Bool) (r : Req) (hn : l.length ≤ 1099511627776) (hnl : nl = true → l = []) (hl : ∀ p ∈ l, p.ok) (hr : r.ok) (hrs : ∀ s ∈ r.scopes, s.length ≤ 1099511627776) : CallE Pr 30 [.ref 1 0, .slice 6 nl (l.map Rule.cs) none, .agg [.str r.user, .str r.client, .str r.tenant, .slice 1 r.ng (r.groups.map fun x => [.str x]) none, .slice 1 r.ns (r.scopes.map fun x => [.str x]) none, .int .i64 r.risk, .bool r.trusted, .int .i64 r.level, .int .i64 r.auth, .int .i64 r.now]] [(1, .box 32 [.int .i64 4, .slice 0 true [] none, .int .i64 0, .int .i64 0, .arr 2 3 l.length]), (2, .arr 36 (rows0 l r l.length).flatten)] (.bool (decide (((psR l r).all.length : Int) > 0))) [(1, .box 32 [.int .i64 4, .slice 1 (srtR (psR l r).all).isEmpty ((srtR (psR l r).all).map (fun x => [D.str x])) none, .int .i64 (psR l r).lvl, .int .i64 (psR l r).age, .arr 2 3 l.length]), (2, .arr 36 (rowsN (psR l r).rs).flatten)] := by
 refine CallE.of_wp Tryz.func30 rfl (by kernel_rfl) Tryz.ntmps30 (by simp) ?_
 simp only [frameOf, Nat.reduceAdd, Nat.zero_add, List.map_cons, List.map_nil]
 refine WP.sr [0, 1, 5] (by kernel_rfl) fun K hK => ?_
 simp (decide := true) only [TF, lk_dl, ↓reduceIte, Int.reduceToNat]
 refine hK _ _ ?_; clear hK K
 refine WP.sr [0, 1, 5, 7] (by kernel_rfl) fun K hK => ?_
 simp (decide := true) only [TF, lk_dl, ↓reduceIte, Int.reduceToNat]
 refine hK _ _ ?_; clear hK K
 refine WP.seq ?_
 refine WP.sr [0, 1, 5, 7, 14, 15, 16] (by kernel_rfl) fun K hK => ?_
 simp (decide := true) only [TF, lk_dl, ↓reduceIte, Int.reduceToNat]
 refine hK _ _ ?_; clear hK K
 refine WP.block ?_
 refine WP.lp [0, 1, 5, 14, 15] (X := {x : (Nat) × (PS) // match x with | (k, q) => k ≤ r.scopes.length ∧ PI l r k q}) (fun x => match x with | ⟨(k, q), _⟩ => [(7, .slice 1 (q.all).isEmpty ((q.all).map (fun x => [D.str x])) (some 0)), (16, .int .i64 k)]) (fun x => match x with | ⟨(k, q), _⟩ => (0, .tip 9 1 q.all.length) :: (1, .box 32 [.int .i64 4, .slice 0 true [] none, .int .i64 q.lvl, .int .i64 q.age, .arr 2 3 l.length]) :: (2, .arr 36 (rowsT 100 q.rs).flatten) :: (3, .box 25 [.str r.user, .str r.client, .str r.tenant, .slice 1 r.ng (r.groups.map fun x => [.str x]) none, .slice 1 r.ns (r.scopes.map fun x => [.str x]) none, .int .i64 r.risk, .bool r.trusted, .int .i64 r.level, .int .i64 r.auth, .int .i64 r.now]) :: fam 100 q.rs) (fun x => match x with | ⟨(k, q), _⟩ => r.scopes.length - k) (by simp (decide := true) only [W, ↓reduceIte, Int.reduceToNat]; rfl) ?_ ⟨(0, ps0 l r), ⟨Nat.zero_le _, PI.start l r⟩⟩ ?_
 rotate_left
 · refine weak_rows (l := l) (r := r) 0 2 100 (F1 := [(16, .int .i64 0), (15, .int .i64 r.scopes.length), (14, .slice 1 r.ns (r.scopes.map fun x => [.str x]) none), (7, .slice 1 true [] (some 0)), (5, .ref 3 0), (0, .ref 1 0), (1, .slice 6 nl (l.map Rule.cs) none)]) (by simp [lk]) (by intro k hk; simp only [lk]; rw [if_neg (by omega), if_neg (by omega), if_neg (by omega)]) (by simp [lk]) (by decide) (by simp [UpF, UpD, lk, W]) (by simp [St.get, lk, Le.refl, ps0]) (fun i => ?_); by_cases i0 : i = 0; simp [i0, lk, ps0]; by_cases i1 : i = 1; simp [i1, lk, ps0]; by_cases i2 : i = 2; simp [i2, lk]; by_cases i3 : i = 3; simp [i3, lk]; simp only [lk, i0, i1, i2, i3, ↓reduceIte]; rw [fam_0 _ _ _ (by simp [ps0, mkR])]; simp [ps0, i1, i2, i3]
 rintro ⟨⟨k, q⟩, hk, hP⟩
 dsimp only
 simp only [List.cons_append, List.nil_append]
 refine WP.sr [0, 1, 5, 7, 14, 15, 16, 17] (by kernel_rfl) fun K hK => ?_
 simp (decide := true) only [TF, lk_dl, ↓reduceIte, Int.reduceToNat]
 refine hK _ _ ?_; clear hK K
 refine WP.seq ?_
 refine WP.cond (b := _) rfl (fun q1 => ?_) (fun q1 => ?_)
 ·
  have hlt := lt_of_q q1
  have hg : (r.scopes.map (fun x => [D.str x]))[k]? = some [.str r.scopes[k]] := getM hlt
  have hnf := nl_false hr.2.2.2 hlt
  have hsk := hrs _ (List.getElem_mem hlt)
  refine WP.skip ?_
  show WP _ _ _ _ _ _
  refine WP.seq ?_
  refine WP.block ?_
  refine WP.sr [0, 1, 5, 7, 9, 14, 15, 16] (by kernel_rfl) fun K hK => ?_
  simp (decide := true) only [TF, q1, hg, hnf, lk_dl, ↓reduceIte, Int.reduceToNat]
  refine hK _ _ ?_; clear hK K
  refine WP.sr [0, 1, 5, 7, 9, 10, 14, 15, 16] (by kernel_rfl) fun K hK => ?_
  simp (decide := true) only [TF, q1, hg, hnf, lk_dl, ↓reduceIte, Int.reduceToNat]
  refine CallK.pure (c_granting l nl r hn hnl hl hr r.scopes[k] hsk) rfl (by simp only [hnf]; rfl) (by simp [-List.map_take]) ?_
  simp (decide := true) only [TF, q1, hg, hnf, lk_dl, ↓reduceIte, Int.reduceToNat]
  refine hK _ _ ?_; clear hK K
  refine WP.seq ?_
  refine WP.sr [0, 1, 5, 7, 9, 10, 14, 15, 16, 25] (by kernel_rfl) fun K hK => ?_
  simp (decide := true) only [TF, q1, hg, hnf, lk_dl, ↓reduceIte, Int.reduceToNat]
  refine hK _ _ ?_; clear hK K
  refine WP.cond (b := _) rfl (fun q2 => ?_) (fun q2 => ?_)
  ·
   have hq := pStep_no (l := l) (r := r) (q := q) q2
   refine WP.exit ?_
   show WP _ _ _ _ _ _
   refine WP.region (by kernel_rfl) fun K hK => ?_
   simp (decide := true) only [TF, q1, hg, hnf, q2, lk_dl, ↓reduceIte, Int.reduceToNat]
   refine hK _ _ ?_; clear hK K
   show ∃ y, _ ∧ Weak _ _ _
   refine ⟨⟨(k + 1, pStep l r q r.scopes[k]), ⟨hlt, hP.next hlt⟩⟩, ?_, ?_⟩
   · dsimp only; omega
   · dsimp only; rw [hq]; exact Weak.of_lk (by simp [St.get, lk, Le.refl, hg, hnf, wrapS hlt (show r.scopes.length ≤ 140737488355328 by have := hr.2.2.1; omega)]) (by intro j; simp only [hnf])
  ·
   obtain ⟨i, hil, hgi⟩ := grP_at q2
   have hq := pStep_at (q := q) hil hgi
   have hiq : i < q.rs.length := by rw [hP.len]; exact hil
   have hgl : (l.map Rule.cs)[i]? = some [.str l[i].name, .bool l[i].deny, .slice 3 l[i].nc (l[i].conds.map Cond.cs) none, .slice 1 l[i].ns (l[i].scopes.map fun x => [.str x]) none, .int .i64 l[i].lvl, .int .i64 l[i].age] := getM hil
   have hnfl := nl_false hnl hil
   have hD2 := rowsT_drop q.rs 100 i hiq
   have hfa := fam_at q.rs 100 i hiq
   have hL3 : (i * 3 + 2 + 1 ≤ (rowsT 100 q.rs).flatten.length) = True := by rw [rowsT_flen]; simp; omega
   have hil3 : (i < l.length) = True := by simp [hil]
   have n0 : (100 + i = 0) = False := eq_false (by omega)
   have n1 : (100 + i = 1) = False := eq_false (by omega)
   have n2 : (100 + i = 2) = False := eq_false (by omega)
   have n3 : (100 + i = 3) = False := eq_false (by omega)
   have m0 : (0 = 100 + i) = False := eq_false (by omega)
   have m1 : (1 = 100 + i) = False := eq_false (by omega)
   have m2 : (2 = 100 + i) = False := eq_false (by omega)
   have m3 : (3 = 100 + i) = False := eq_false (by omega)
   have hrl := hP.rlen _ (List.getElem_mem hiq)
   have hal := hP.alen
   have hsc := hr.2.2.1
   refine WP.skip ?_
   show WP _ _ _ _ _ _
   refine WP.sr [0, 1, 5, 7, 9, 10, 14, 15, 16] (by kernel_rfl) fun K hK => ?_
   simp (decide := true) only [TF, q1, hg, hnf, q2, hgi, hgl, hnfl, hD2, hfa, hL3, hil3, n0, n1, n2, n3, m0, m1, m2, m3, lk_dl, ↓reduceIte, Int.reduceToNat]
   repeat (refine ⟨⟨by (try simp only [List.length_append, List.length_map, List.length_take, List.length_drop, List.length_cons, List.length_nil]); omega, by (try simp only [List.length_append, List.length_map, List.length_take, List.length_drop, List.length_cons, List.length_nil]); omega⟩, ?_⟩)
   refine hK _ _ ?_; clear hK K
   refine WP.seq ?_
   refine WP.sr [0, 1, 5, 7, 9, 10, 11, 14, 15, 16] (by kernel_rfl) fun K hK => ?_
   simp (decide := true) only [TF, q1, hg, hnf, q2, hgi, hgl, hnfl, hD2, hfa, hL3, hil3, n0, n1, n2, n3, m0, m1, m2, m3, lk_dl, ↓reduceIte, Int.reduceToNat]
   refine hK _ _ ?_; clear hK K
   refine WP.sr [0, 1, 5, 7, 9, 10, 11, 14, 15, 16, 42] (by kernel_rfl) fun K hK => ?_
   simp (decide := true) only [TF, q1, hg, hnf, q2, hgi, hgl, hnfl, hD2, hfa, hL3, hil3, n0, n1, n2, n3, m0, m1, m2, m3, lk_dl, ↓reduceIte, Int.reduceToNat]
   refine CallK.pure (c_contains q.rs[i].scopes q.rs[i].scopes.isEmpty r.scopes[k] (by have := hr.2.2.1; omega) (fun h => by simpa using h)) rfl rfl (by simp [-List.map_take]) ?_
   simp (decide := true) only [TF, q1, hg, hnf, q2, hgi, hgl, hnfl, hD2, hfa, hL3, hil3, n0, n1, n2, n3, m0, m1, m2, m3, lk_dl, ↓reduceIte, Int.reduceToNat]
   refine hK _ _ ?_; clear hK K
   refine WP.cond (b := _) rfl (fun q3 => ?_) (fun q3 => ?_)
   ·
    simp only [Bool.not_eq_true', Bool.not_eq_false'] at q3
    refine WP.region (by kernel_rfl) fun K hK => ?_
    simp (decide := true) only [TF, q1, hg, hnf, q2, hgi, hgl, hnfl, hD2, hfa, hL3, hil3, n0, n1, n2, n3, m0, m1, m2, m3, q3, lk_dl, ↓reduceIte, Int.reduceToNat]
    repeat (refine ⟨⟨by (try simp only [List.length_append, List.length_map, List.length_take, List.length_drop, List.length_cons, List.length_nil]); omega, by (try simp only [List.length_append, List.length_map, List.length_take, List.length_drop, List.length_cons, List.length_nil]); omega⟩, ?_⟩)
    refine hK _ _ ?_; clear hK K
    show WP _ _ _ _ _ _
    refine WP.sd [0, 1, 5, 7, 10, 14, 15, 16] (by kernel_rfl) (by kernel_rfl) fun K hK => ?_
    simp (decide := true) only [TF, q1, hg, hnf, q2, hgi, hgl, hnfl, hD2, hfa, hL3, hil3, n0, n1, n2, n3, m0, m1, m2, m3, q3, lk_dl, ↓reduceIte, Int.reduceToNat]
    refine hK _ _ (by kernel_rfl) ?_
    clear hK K
    refine WP.sr [0, 1, 5, 7, 12, 14, 15, 16] (by kernel_rfl) fun K hK => ?_
    simp (decide := true) only [TF, q1, hg, hnf, q2, hgi, hgl, hnfl, hD2, hfa, hL3, hil3, n0, n1, n2, n3, m0, m1, m2, m3, q3, lk_dl, ↓reduceIte, Int.reduceToNat]
    refine hK _ _ ?_; clear hK K
    refine WP.sr [0, 1, 5, 7, 12, 14, 15, 16, 87] (by kernel_rfl) fun K hK => ?_
    refine runOps.take 3 fun J hJ => ?_
    simp (decide := true) only [TF, q1, hg, hnf, q2, hgi, hgl, hnfl, hD2, hfa, hL3, hil3, n0, n1, n2, n3, m0, m1, m2, m3, q3, lk_dl, ↓reduceIte, Int.reduceToNat]
    refine hJ _ _ ?_; clear hJ J
    refine runOps.part 73 rfl (fun q4 => ?_) (fun q4 => ?_)
    ·
     refine runOps.take 6 fun J hJ => ?_
     simp (decide := true) only [TF, q1, hg, hnf, q2, hgi, hgl, hnfl, hD2, hfa, hL3, hil3, n0, n1, n2, n3, m0, m1, m2, m3, q3, q4, lk_dl, ↓reduceIte, Int.reduceToNat]
     refine hJ _ _ ?_; clear hJ J
     refine runOps.part 79 rfl (fun q5 => ?_) (fun q5 => ?_)
     ·
      simp (decide := true) only [TF, q1, hg, hnf, q2, hgi, hgl, hnfl, hD2, hfa, hL3, hil3, n0, n1, n2, n3, m0, m1, m2, m3, q3, q4, q5, lk_dl, ↓reduceIte, Int.reduceToNat]
      refine hK _ _ ?_; clear hK K
      refine WP.cond (b := true) (by rfl) (fun _ => ?_) nofun
      refine WP.region (by kernel_rfl) fun K hK => ?_
      simp (decide := true) only [TF, q1, hg, hnf, q2, hgi, hgl, hnfl, hD2, hfa, hL3, hil3, n0, n1, n2, n3, m0, m1, m2, m3, q3, q4, q5, lk_dl, ↓reduceIte, Int.reduceToNat]
      refine hK _ _ ?_; clear hK K
      show WP _ _ _ _ _ _
      refine WP.region (by kernel_rfl) fun K hK => ?_
      simp (decide := true) only [TF, q1, hg, hnf, q2, hgi, hgl, hnfl, hD2, hfa, hL3, hil3, n0, n1, n2, n3, m0, m1, m2, m3, q3, q4, q5, lk_dl, ↓reduceIte, Int.reduceToNat]
      refine hK _ _ ?_; clear hK K
      show ∃ y, _ ∧ Weak _ _ _
      refine ⟨⟨(k + 1, pStep l r q r.scopes[k]), ⟨hlt, hP.next hlt⟩⟩, ?_, ?_⟩
      · dsimp only; omega
      ·
       dsimp only; rw [hq]; dsimp only
       refine Weak.of_lk (by simp [St.get, lk, Le.refl, isEA, hnf, hnfl, wrapS hlt (show r.scopes.length ≤ 140737488355328 by have := hr.2.2.1; omega)]) (fun j => ?_)
       have hag : ageU q.age l[i].age = l[i].age := by simp only [ageU, q1, q2, q3, q4, q5, Bool.true_and, Bool.and_true, Bool.false_and, Bool.and_false, Bool.true_or, Bool.or_true, Bool.false_or, Bool.or_false, ↓reduceIte, Bool.false_eq_true]
       rw [hag]
       by_cases j0 : j = 0
       · subst j0; simp [lk, lk_dl, m0]
       by_cases j1 : j = 1
       · subst j1; simp [lk, lk_dl, m1, lvlU, hgi, hgl]
       by_cases j2 : j = 2
       · subst j2; simp (decide := true) only [lk, lk_dl, ↓reduceIte, m2, List.isEmpty_cons, Bool.and_false]; rw [rows_set (b := 100) hiq q3]
       by_cases j3 : j = 3
       · subst j3; simp [lk, lk_dl, m3, hnf]
       simp only [lk, lk_dl, j0, j1, j2, j3, ↓reduceIte]
       rw [fam_set hiq q3]
       by_cases ji : j = 100 + i
       · rw [if_pos ji]; simp [ji, lk_dl]
       · simp [ji, lk_dl, j0, j1, j2, j3]
     ·
      simp (decide := true) only [TF, q1, hg, hnf, q2, hgi, hgl, hnfl, hD2, hfa, hL3, hil3, n0, n1, n2, n3, m0, m1, m2, m3, q3, q4, q5, lk_dl, ↓reduceIte, Int.reduceToNat]
      refine hK _ _ ?_; clear hK K
      refine WP.cond (b := _) rfl (fun q6 => ?_) (fun q6 => ?_)
      ·
       refine WP.region (by kernel_rfl) fun K hK => ?_
       simp (decide := true) only [TF, q1, hg, hnf, q2, hgi, hgl, hnfl, hD2, hfa, hL3, hil3, n0, n1, n2, n3, m0, m1, m2, m3, q3, q4, q5, q6, lk_dl, ↓reduceIte, Int.reduceToNat]
       refine hK _ _ ?_; clear hK K
       show WP _ _ _ _ _ _
       refine WP.region (by kernel_rfl) fun K hK => ?_
       simp (decide := true) only [TF, q1, hg, hnf, q2, hgi, hgl, hnfl, hD2, hfa, hL3, hil3, n0, n1, n2, n3, m0, m1, m2, m3, q3, q4, q5, q6, lk_dl, ↓reduceIte, Int.reduceToNat]
       refine hK _ _ ?_; clear hK K
       show ∃ y, _ ∧ Weak _ _ _
       refine ⟨⟨(k + 1, pStep l r q r.scopes[k]), ⟨hlt, hP.next hlt⟩⟩, ?_, ?_⟩
       · dsimp only; omega
       ·
        dsimp only; rw [hq]; dsimp only
        refine Weak.of_lk (by simp [St.get, lk, Le.refl, isEA, hnf, hnfl, wrapS hlt (show r.scopes.length ≤ 140737488355328 by have := hr.2.2.1; omega)]) (fun j => ?_)
        have hag : ageU q.age l[i].age = l[i].age := by simp only [ageU, q1, q2, q3, q4, q5, q6, Bool.true_and, Bool.and_true, Bool.false_and, Bool.and_false, Bool.true_or, Bool.or_true, Bool.false_or, Bool.or_false, ↓reduceIte, Bool.false_eq_true]
        rw [hag]
        by_cases j0 : j = 0
        · subst j0; simp [lk, lk_dl, m0]
        by_cases j1 : j = 1
        · subst j1; simp [lk, lk_dl, m1, lvlU, hgi, hgl]
        by_cases j2 : j = 2
        · subst j2; simp (decide := true) only [lk, lk_dl, ↓reduceIte, m2, List.isEmpty_cons, Bool.and_false]; rw [rows_set (b := 100) hiq q3]
        by_cases j3 : j = 3
        · subst j3; simp [lk, lk_dl, m3, hnf]
        simp only [lk, lk_dl, j0, j1, j2, j3, ↓reduceIte]
        rw [fam_set hiq q3]
        by_cases ji : j = 100 + i
        · rw [if_pos ji]; simp [ji, lk_dl]
        · simp [ji, lk_dl, j0, j1, j2, j3]
      ·
       refine WP.skip ?_
       show WP _ _ _ _ _ _
       refine WP.region (by kernel_rfl) fun K hK => ?_
       simp (decide := true) only [TF, q1, hg, hnf, q2, hgi, hgl, hnfl, hD2, hfa, hL3, hil3, n0, n1, n2, n3, m0, m1, m2, m3, q3, q4, q5, q6, lk_dl, ↓reduceIte, Int.reduceToNat]
       refine hK _ _ ?_; clear hK K
       show ∃ y, _ ∧ Weak _ _ _
       refine ⟨⟨(k + 1, pStep l r q r.scopes[k]), ⟨hlt, hP.next hlt⟩⟩, ?_, ?_⟩
       · dsimp only; omega
       ·
        dsimp only; rw [hq]; dsimp only
        refine Weak.of_lk (by simp [St.get, lk, Le.refl, isEA, hnf, hnfl, wrapS hlt (show r.scopes.length ≤ 140737488355328 by have := hr.2.2.1; omega)]) (fun j => ?_)
        have hag : ageU q.age l[i].age = q.age := by simp only [ageU, q1, q2, q3, q4, q5, q6, Bool.true_and, Bool.and_true, Bool.false_and, Bool.and_false, Bool.true_or, Bool.or_true, Bool.false_or, Bool.or_false, ↓reduceIte, Bool.false_eq_true]
        rw [hag]
        by_cases j0 : j = 0
        · subst j0; simp [lk, lk_dl, m0]
        by_cases j1 : j = 1
        · subst j1; simp [lk, lk_dl, m1, lvlU, hgi, hgl]
        by_cases j2 : j = 2
        · subst j2; simp (decide := true) only [lk, lk_dl, ↓reduceIte, m2, List.isEmpty_cons, Bool.and_false]; rw [rows_set (b := 100) hiq q3]
        by_cases j3 : j = 3
        · subst j3; simp [lk, lk_dl, m3, hnf]
        simp only [lk, lk_dl, j0, j1, j2, j3, ↓reduceIte]
        rw [fam_set hiq q3]
        by_cases ji : j = 100 + i
        · rw [if_pos ji]; simp [ji, lk_dl]
        · simp [ji, lk_dl, j0, j1, j2, j3]
    ·
     simp (decide := true) only [TF, q1, hg, hnf, q2, hgi, hgl, hnfl, hD2, hfa, hL3, hil3, n0, n1, n2, n3, m0, m1, m2, m3, q3, q4, lk_dl, ↓reduceIte, Int.reduceToNat]
     refine hK _ _ ?_; clear hK K
     refine WP.cond (b := false) (by rfl) nofun (fun _ => ?_)
     refine WP.skip ?_
     show WP _ _ _ _ _ _
     refine WP.region (by kernel_rfl) fun K hK => ?_
     simp (decide := true) only [TF, q1, hg, hnf, q2, hgi, hgl, hnfl, hD2, hfa, hL3, hil3, n0, n1, n2, n3, m0, m1, m2, m3, q3, q4, lk_dl, ↓reduceIte, Int.reduceToNat]
     refine hK _ _ ?_; clear hK K
     show ∃ y, _ ∧ Weak _ _ _
     refine ⟨⟨(k + 1, pStep l r q r.scopes[k]), ⟨hlt, hP.next hlt⟩⟩, ?_, ?_⟩
     · dsimp only; omega
     ·
      dsimp only; rw [hq]; dsimp only
      refine Weak.of_lk (by simp [St.get, lk, Le.refl, isEA, hnf, hnfl, wrapS hlt (show r.scopes.length ≤ 140737488355328 by have := hr.2.2.1; omega)]) (fun j => ?_)
      have hag : ageU q.age l[i].age = q.age := by simp only [ageU, q1, q2, q3, q4, Bool.true_and, Bool.and_true, Bool.false_and, Bool.and_false, Bool.true_or, Bool.or_true, Bool.false_or, Bool.or_false, ↓reduceIte, Bool.false_eq_true]
      rw [hag]
      by_cases j0 : j = 0
      · subst j0; simp [lk, lk_dl, m0]
      by_cases j1 : j = 1
      · subst j1; simp [lk, lk_dl, m1, lvlU, hgi, hgl]
      by_cases j2 : j = 2
      · subst j2; simp (decide := true) only [lk, lk_dl, ↓reduceIte, m2, List.isEmpty_cons, Bool.and_false]; rw [rows_set (b := 100) hiq q3]
      by_cases j3 : j = 3
      · subst j3; simp [lk, lk_dl, m3, hnf]
      simp only [lk, lk_dl, j0, j1, j2, j3, ↓reduceIte]
      rw [fam_set hiq q3]
      by_cases ji : j = 100 + i
      · rw [if_pos ji]; simp [ji, lk_dl]
      · simp [ji, lk_dl, j0, j1, j2, j3]
   ·
    simp only [Bool.not_eq_true', Bool.not_eq_false'] at q3
    refine WP.skip ?_
    show WP _ _ _ _ _ _
    refine WP.sd [0, 1, 5, 7, 10, 14, 15, 16] (by kernel_rfl) (by kernel_rfl) fun K hK => ?_
    simp (decide := true) only [TF, q1, hg, hnf, q2, hgi, hgl, hnfl, hD2, hfa, hL3, hil3, n0, n1, n2, n3, m0, m1, m2, m3, q3, lk_dl, ↓reduceIte, Int.reduceToNat]
    refine hK _ _ (by kernel_rfl) ?_
    clear hK K
    refine WP.sr [0, 1, 5, 7, 12, 14, 15, 16] (by kernel_rfl) fun K hK => ?_
    simp (decide := true) only [TF, q1, hg, hnf, q2, hgi, hgl, hnfl, hD2, hfa, hL3, hil3, n0, n1, n2, n3, m0, m1, m2, m3, q3, lk_dl, ↓reduceIte, Int.reduceToNat]
    refine hK _ _ ?_; clear hK K
    refine WP.sr [0, 1, 5, 7, 12, 14, 15, 16, 87] (by kernel_rfl) fun K hK => ?_
    refine runOps.take 3 fun J hJ => ?_
    simp (decide := true) only [TF, q1, hg, hnf, q2, hgi, hgl, hnfl, hD2, hfa, hL3, hil3, n0, n1, n2, n3, m0, m1, m2, m3, q3, lk_dl, ↓reduceIte, Int.reduceToNat]
    refine hJ _ _ ?_; clear hJ J
    refine runOps.part 73 rfl (fun q7 => ?_) (fun q7 => ?_)
    ·
     refine runOps.take 6 fun J hJ => ?_
     simp (decide := true) only [TF, q1, hg, hnf, q2, hgi, hgl, hnfl, hD2, hfa, hL3, hil3, n0, n1, n2, n3, m0, m1, m2, m3, q3, q7, lk_dl, ↓reduceIte, Int.reduceToNat]
     refine hJ _ _ ?_; clear hJ J
     refine runOps.part 79 rfl (fun q8 => ?_) (fun q8 => ?_)
     ·
      simp (decide := true) only [TF, q1, hg, hnf, q2, hgi, hgl, hnfl, hD2, hfa, hL3, hil3, n0, n1, n2, n3, m0, m1, m2, m3, q3, q7, q8, lk_dl, ↓reduceIte, Int.reduceToNat]
      refine hK _ _ ?_; clear hK K
      refine WP.cond (b := true) (by rfl) (fun _ => ?_) nofun
      refine WP.region (by kernel_rfl) fun K hK => ?_
      simp (decide := true) only [TF, q1, hg, hnf, q2, hgi, hgl, hnfl, hD2, hfa, hL3, hil3, n0, n1, n2, n3, m0, m1, m2, m3, q3, q7, q8, lk_dl, ↓reduceIte, Int.reduceToNat]
      refine hK _ _ ?_; clear hK K
      show WP _ _ _ _ _ _
      refine WP.region (by kernel_rfl) fun K hK => ?_
      simp (decide := true) only [TF, q1, hg, hnf, q2, hgi, hgl, hnfl, hD2, hfa, hL3, hil3, n0, n1, n2, n3, m0, m1, m2, m3, q3, q7, q8, lk_dl, ↓reduceIte, Int.reduceToNat]
      refine hK _ _ ?_; clear hK K
      show ∃ y, _ ∧ Weak _ _ _
      refine ⟨⟨(k + 1, pStep l r q r.scopes[k]), ⟨hlt, hP.next hlt⟩⟩, ?_, ?_⟩
      · dsimp only; omega
      ·
       dsimp only; rw [hq]; dsimp only
       rw [modify_in hiq q3]
       refine Weak.of_lk (by simp [St.get, lk, Le.refl, isEA, hnf, hnfl, wrapS hlt (show r.scopes.length ≤ 140737488355328 by have := hr.2.2.1; omega)]) (fun j => ?_)
       have hag : ageU q.age l[i].age = l[i].age := by simp only [ageU, q1, q2, q3, q7, q8, Bool.true_and, Bool.and_true, Bool.false_and, Bool.and_false, Bool.true_or, Bool.or_true, Bool.false_or, Bool.or_false, ↓reduceIte, Bool.false_eq_true]
       rw [hag]
       by_cases j0 : j = 0
       · subst j0; simp [lk, lk_dl, m0]
       by_cases j1 : j = 1
       · subst j1; simp [lk, lk_dl, m1, lvlU, hgi, hgl]
       by_cases j2 : j = 2
       · subst j2; simp (decide := true) only [lk, lk_dl, ↓reduceIte, m2, List.isEmpty_cons, Bool.and_false]
       by_cases j3 : j = 3
       · subst j3; simp [lk, lk_dl, m3, hnf]
       simp [lk, lk_dl, j0, j1, j2, j3]
     ·
      simp (decide := true) only [TF, q1, hg, hnf, q2, hgi, hgl, hnfl, hD2, hfa, hL3, hil3, n0, n1, n2, n3, m0, m1, m2, m3, q3, q7, q8, lk_dl, ↓reduceIte, Int.reduceToNat]
      refine hK _ _ ?_; clear hK K
      refine WP.cond (b := _) rfl (fun q9 => ?_) (fun q9 => ?_)
      ·
       refine WP.region (by kernel_rfl) fun K hK => ?_
       simp (decide := true) only [TF, q1, hg, hnf, q2, hgi, hgl, hnfl, hD2, hfa, hL3, hil3, n0, n1, n2, n3, m0, m1, m2, m3, q3, q7, q8, q9, lk_dl, ↓reduceIte, Int.reduceToNat]
       refine hK _ _ ?_; clear hK K
       show WP _ _ _ _ _ _
       refine WP.region (by kernel_rfl) fun K hK => ?_
       simp (decide := true) only [TF, q1, hg, hnf, q2, hgi, hgl, hnfl, hD2, hfa, hL3, hil3, n0, n1, n2, n3, m0, m1, m2, m3, q3, q7, q8, q9, lk_dl, ↓reduceIte, Int.reduceToNat]
       refine hK _ _ ?_; clear hK K
       show ∃ y, _ ∧ Weak _ _ _
       refine ⟨⟨(k + 1, pStep l r q r.scopes[k]), ⟨hlt, hP.next hlt⟩⟩, ?_, ?_⟩
       · dsimp only; omega
       ·
        dsimp only; rw [hq]; dsimp only
        rw [modify_in hiq q3]
        refine Weak.of_lk (by simp [St.get, lk, Le.refl, isEA, hnf, hnfl, wrapS hlt (show r.scopes.length ≤ 140737488355328 by have := hr.2.2.1; omega)]) (fun j => ?_)
        have hag : ageU q.age l[i].age = l[i].age := by simp only [ageU, q1, q2, q3, q7, q8, q9, Bool.true_and, Bool.and_true, Bool.false_and, Bool.and_false, Bool.true_or, Bool.or_true, Bool.false_or, Bool.or_false, ↓reduceIte, Bool.false_eq_true]
        rw [hag]
        by_cases j0 : j = 0
        · subst j0; simp [lk, lk_dl, m0]
        by_cases j1 : j = 1
        · subst j1; simp [lk, lk_dl, m1, lvlU, hgi, hgl]
        by_cases j2 : j = 2
        · subst j2; simp (decide := true) only [lk, lk_dl, ↓reduceIte, m2, List.isEmpty_cons, Bool.and_false]
        by_cases j3 : j = 3
        · subst j3; simp [lk, lk_dl, m3, hnf]
        simp [lk, lk_dl, j0, j1, j2, j3]
      ·
       refine WP.skip ?_
       show WP _ _ _ _ _ _
       refine WP.region (by kernel_rfl) fun K hK => ?_
       simp (decide := true) only [TF, q1, hg, hnf, q2, hgi, hgl, hnfl, hD2, hfa, hL3, hil3, n0, n1, n2, n3, m0, m1, m2, m3, q3, q7, q8, q9, lk_dl, ↓reduceIte, Int.reduceToNat]
       refine hK _ _ ?_; clear hK K
       show ∃ y, _ ∧ Weak _ _ _
       refine ⟨⟨(k + 1, pStep l r q r.scopes[k]), ⟨hlt, hP.next hlt⟩⟩, ?_, ?_⟩
       · dsimp only; omega
       ·
        dsimp only; rw [hq]; dsimp only
        rw [modify_in hiq q3]
        refine Weak.of_lk (by simp [St.get, lk, Le.refl, isEA, hnf, hnfl, wrapS hlt (show r.scopes.length ≤ 140737488355328 by have := hr.2.2.1; omega)]) (fun j => ?_)
        have hag : ageU q.age l[i].age = q.age := by simp only [ageU, q1, q2, q3, q7, q8, q9, Bool.true_and, Bool.and_true, Bool.false_and, Bool.and_false, Bool.true_or, Bool.or_true, Bool.false_or, Bool.or_false, ↓reduceIte, Bool.false_eq_true]
        rw [hag]
        by_cases j0 : j = 0
        · subst j0; simp [lk, lk_dl, m0]
        by_cases j1 : j = 1
        · subst j1; simp [lk, lk_dl, m1, lvlU, hgi, hgl]
        by_cases j2 : j = 2
        · subst j2; simp (decide := true) only [lk, lk_dl, ↓reduceIte, m2, List.isEmpty_cons, Bool.and_false]
        by_cases j3 : j = 3
        · subst j3; simp [lk, lk_dl, m3, hnf]
        simp [lk, lk_dl, j0, j1, j2, j3]
    ·
     simp (decide := true) only [TF, q1, hg, hnf, q2, hgi, hgl, hnfl, hD2, hfa, hL3, hil3, n0, n1, n2, n3, m0, m1, m2, m3, q3, q7, lk_dl, ↓reduceIte, Int.reduceToNat]
     refine hK _ _ ?_; clear hK K
     refine WP.cond (b := false) (by rfl) nofun (fun _ => ?_)
     refine WP.skip ?_
     show WP _ _ _ _ _ _
     refine WP.region (by kernel_rfl) fun K hK => ?_
     simp (decide := true) only [TF, q1, hg, hnf, q2, hgi, hgl, hnfl, hD2, hfa, hL3, hil3, n0, n1, n2, n3, m0, m1, m2, m3, q3, q7, lk_dl, ↓reduceIte, Int.reduceToNat]
     refine hK _ _ ?_; clear hK K
     show ∃ y, _ ∧ Weak _ _ _
     refine ⟨⟨(k + 1, pStep l r q r.scopes[k]), ⟨hlt, hP.next hlt⟩⟩, ?_, ?_⟩
     · dsimp only; omega
     ·
      dsimp only; rw [hq]; dsimp only
      rw [modify_in hiq q3]
      refine Weak.of_lk (by simp [St.get, lk, Le.refl, isEA, hnf, hnfl, wrapS hlt (show r.scopes.length ≤ 140737488355328 by have := hr.2.2.1; omega)]) (fun j => ?_)
      have hag : ageU q.age l[i].age = q.age := by simp only [ageU, q1, q2, q3, q7, Bool.true_and, Bool.and_true, Bool.false_and, Bool.and_false, Bool.true_or, Bool.or_true, Bool.false_or, Bool.or_false, ↓reduceIte, Bool.false_eq_true]
      rw [hag]
      by_cases j0 : j = 0
      · subst j0; simp [lk, lk_dl, m0]
      by_cases j1 : j = 1
      · subst j1; simp [lk, lk_dl, m1, lvlU, hgi, hgl]
      by_cases j2 : j = 2
      · subst j2; simp (decide := true) only [lk, lk_dl, ↓reduceIte, m2, List.isEmpty_cons, Bool.and_false]
      by_cases j3 : j = 3
      · subst j3; simp [lk, lk_dl, m3, hnf]
      simp [lk, lk_dl, j0, j1, j2, j3]
 ·
  have hge := ge_of_q q1
  have hR : psR l r = q := by have := hP.run; rw [dropN hge] at this; exact this
  subst hR
  have hal := hP.alen
  have hsc := hr.2.2.1
  refine WP.exit ?_
  show WP _ _ _ _ _ _
  refine WP.sr [7] (by kernel_rfl) fun K hK => ?_
  simp (decide := true) only [TF, q1, lk_dl, ↓reduceIte, Int.reduceToNat]
  refine CallK.pure (c_sorted (psR l r).all (psR l r).all.isEmpty (by omega) (fun h => by simpa using h) (fun x hx => hrs x (hP.mem x hx))) rfl rfl (by simp [-List.map_take]) ?_
  simp (decide := true) only [TF, q1, lk_dl, ↓reduceIte, Int.reduceToNat]
  refine hK _ _ ?_; clear hK K
  refine WP.sr [6] (by kernel_rfl) fun K hK => ?_
  simp (decide := true) only [TF, q1, lk_dl, ↓reduceIte, Int.reduceToNat]
  refine hK _ _ ?_; clear hK K
  refine WP.weak (Weak.arrN 2 36 (rowsT 100 (psR l r).rs).flatten (rowsN (psR l r).rs).flatten (by simp [lk, lk_dl]) (rowsT_nrm _ _)) ?_
  refine WP.ret ?_
  refine Ends.imp (.inr rfl) rfl (Le.of_eq (by simp_all [St.get, lk, W, LN, bne])) ?_ ?_ ?_
  · simp
  · simp [St.get, lk, W, lk_dl, q1]; exact ⟨by simp [BClo], fun d hd => rowsN_clo _ d hd⟩
  · simp [lk]
end Go.Proofs

set_option linter.unusedSimpArgs false
set_option linter.unusedVariables false
namespace Go.Proofs
open Go Go.Id
theorem Le.agg {l m : List D} (h : Les l m) : Le (.agg l) (.agg m) := fun M γ w v hr => by
  obtain ⟨hl, hle⟩ := h.at
  cases hr with
  | agg hs h1 hr =>
    refine .agg (by omega) h1 (fun i d v hd hv => ?_)
    have hi : i < l.length := by rw [hl]; exact (List.getElem?_eq_some_iff.1 hd).1
    exact hle i _ _ (List.getElem?_eq_getElem hi) hd _ _ _ _ (hr i _ v (List.getElem?_eq_getElem hi) hv)
theorem Les.refl : ∀ l : List D, Les l l
  | [] => trivial
  | _ :: l => ⟨Le.refl _, Les.refl l⟩
theorem Le.slice {sz : Nat} {nil : Bool} {tip : Option Nat} {es es' : List (List D)} (hl : es'.length = es.length) (hz : ∀ e ∈ es', e.length = sz) (h : ∀ (i : Nat) e e', es[i]? = some e → es'[i]? = some e' → Les e e') : Le (.slice sz nil es tip) (.slice sz nil es' none) := fun M γ w v hr => by
  cases hr with
  | nilslice ht =>
    obtain rfl : es' = [] := List.eq_nil_of_length_eq_zero (by simpa using hl)
    exact .nilslice (TipOk.none _ _ _)
  | slice vs hsz hvs hspot hc hr hcap ht =>
    rw [← hl]
    refine .slice vs hz (by rw [hvs, hl]) (fun hne => hspot (fun e => hne (List.eq_nil_of_length_eq_zero (by rw [hl, e]; rfl)))) hc (fun i j e' d' u h1 h2 h3 => ?_) (by rw [hl]; exact hcap) (TipOk.none _ _ _)
    have hi : i < es.length := by rw [← hl]; exact (List.getElem?_eq_some_iff.1 h1).1
    obtain ⟨q1, q2⟩ := (h i _ e' (List.getElem?_eq_getElem hi) h1).at
    have hj : j < es[i].length := by rw [q1]; exact (List.getElem?_eq_some_iff.1 h2).1
    exact q2 j _ d' (List.getElem?_eq_getElem hj) h2 _ _ _ _ (hr i j _ _ u (List.getElem?_eq_getElem hi) (List.getElem?_eq_getElem hj) h3)
/-- The cells of a decision. -/
abbrev dcsD (d : Dec) : List D := [.int .i64 d.eff, .slice 1 d.ns (d.scopes.map fun x => [.str x]) none, .int .i64 d.lvl, .int .i64 d.age, .slice 3 d.nr (d.reas.map Reas.cs) none]
theorem rows0_succ (l : List Rule) (r : Req) (k : Nat) : rows0 l r (k + 1) = rows0 l r k ++ [row0 l r k] := by simp [rows0, List.range_succ]
theorem rows0_clo {S : Nat → Prop} (l : List Rule) (r : Req) (n : Nat) : ∀ e ∈ rows0 l r n, ∀ d ∈ e, Clo S d := by
  simp only [rows0, List.mem_map]
  rintro e ⟨i, _, rfl⟩ d hd
  simp only [row0, List.mem_cons, List.not_mem_nil, or_false] at hd
  rcases hd with rfl | rfl | rfl
  · exact .int _ _
  · exact .int _ _
  · exact .slice (by simp) (by simp)
theorem rows0_cloF {S : Nat → Prop} (l : List Rule) (r : Req) (n : Nat) : ∀ d ∈ (rows0 l r n).flatten, Clo S d := by
  intro d hd
  obtain ⟨e, he, hd⟩ := List.mem_flatten.1 hd
  exact rows0_clo l r n e he d hd
theorem rows0_sh (t : Nat) (l : List Rule) (r : Req) (n : Nat) : ∀ e ∈ rows0 l r n, ∀ d ∈ e, NS d ∧ Sh t d := by
  simp only [rows0, List.mem_map]
  rintro e ⟨i, _, rfl⟩ d hd
  simp only [row0, List.mem_cons, List.not_mem_nil, or_false] at hd
  rcases hd with rfl | rfl | rfl
  · exact ⟨trivial, .int _ _⟩
  · exact ⟨trivial, .int _ _⟩
  · exact ⟨trivial, .slice (by simp) (by simp) (by simp)⟩
theorem rows0_emp {l : List Rule} {r : Req} {n : Nat} (h : 0 < n) : (rows0 l r n).isEmpty = false := by
  have := rows0_len l r n
  cases hr : rows0 l r n with
  | nil => rw [hr] at this; simp at this; omega
  | cons => rfl

def denyB (l : List Rule) (r : Req) : Bool := l.any fun p => okM p r && p.deny
/-- A permit rule that matches and covers something that is asked for. -/
def okS (r : Req) (p : Rule) : Bool := okM p r && !p.deny && r.scopes.any (fun s => covsB p s)
def stepD (r : Req) (d : Dec) : List Rule → Dec
  | [] => d
  | p :: l => if okS r p = true then { d with eff := 3, lvl := p.lvl, age := p.age } else stepD r d l
def noD : Dec := ⟨4, [], true, 0, 0, [], true⟩
def reasD (l : List Rule) (r : Req) : List Reas := (List.range l.length).map (mkR l r)
def runD (l : List Rule) (r : Req) : Dec :=
  if (checkE l != 0) = true then noD
  else if denyB l r = true then ⟨2, [], true, 0, 0, reasD l r, l.isEmpty⟩
  else if decide (((psR l r).all.length : Int) > 0) = true then ⟨1, srtR (psR l r).all, (srtR (psR l r).all).isEmpty, (psR l r).lvl, (psR l r).age, (psR l r).rs.map Reas.nrm, l.isEmpty⟩
  else stepD r ⟨4, [], true, 0, 0, reasD l r, l.isEmpty⟩ l
theorem rowsN_cs (rs : List Reas) : rowsN rs = (rs.map Reas.nrm).map Reas.cs := by simp [rowsN]
theorem reasD_nrm (l : List Rule) (r : Req) : (reasD l r).map Reas.nrm = reasD l r := by
  unfold reasD
  rw [List.map_map]
  rfl
theorem psR_none {l : List Rule} {r : Req} (h : decide (((psR l r).all.length : Int) > 0) = false) : psR l r = ps0 l r := by
  have key : ∀ (ss : List (List UInt8)) (q : PS), (ss.foldl (pStep l r) q).all = [] → ss.foldl (pStep l r) q = q ∧ q.all = [] := by
    intro ss
    induction ss with
    | nil => intro q hq; exact ⟨rfl, hq⟩
    | cons s ss ih =>
      intro q hq
      rw [List.foldl_cons] at hq ⊢
      obtain ⟨h1, h2⟩ := ih _ hq
      cases hc : decide (grP r s l 0 < 0) with
      | true => rw [pStep_no hc] at h1 h2 ⊢; exact ⟨h1, h2⟩
      | false =>
        obtain ⟨i, hi, hg⟩ := grP_at hc
        rw [pStep_at hi hg] at h2
        simp at h2
  refine (key r.scopes (ps0 l r) ?_).1
  have := of_decide_eq_false h
  exact List.eq_nil_of_length_eq_zero (by show (psR l r).all.length = 0; omega)
theorem rows0_le (l : List Rule) (r : Req) (nil : Bool) (tip : Option Nat) : Le (.slice 3 nil (rows0 l r l.length) tip) (.slice 3 nil ((reasD l r).map Reas.cs) none) := by
  refine Le.slice (by simp [rows0, reasD]) (by simp [Reas.cs]) (fun i e e' h1 h2 => ?_)
  simp only [rows0, reasD, List.getElem?_map, Option.map_eq_some_iff] at h1 h2
  obtain ⟨a, ha, rfl⟩ := h1
  obtain ⟨x, ⟨b, hb, rfl⟩, rfl⟩ := h2
  rw [ha] at hb; cases hb
  exact ⟨Le.refl _, Le.refl _, Le.nil _ _ _, trivial⟩
end Go.Proofs

set_option linter.unusedSimpArgs false
set_option linter.unusedVariables false
set_option maxRecDepth 10000
namespace Go.Proofs
open Go Go.Id
set_option maxHeartbeats 4000000
theorem ren_rows0 (f : Nat → Nat) (l : List Rule) (r : Req) (n : Nat) : renL f (rows0 l r n).flatten = (rows0 l r n).flatten := ren_cloL f (rows0_cloF l r n)
theorem c_runc (l : List Rule) (nl : Bool) (hnl : nl = true → l = []) (hl : ∀ p ∈ l, p.ok) (i : Nat) (hi : i < l.length) (s : List UInt8) (hs : s.length ≤ 1099511627776) : CallE Pr 32 [.str s, .ref 0 0, .ref 1 0] [(0, .box 22 [.slice 6 nl (l.map Rule.cs) none]), (1, .box 3 [.int .i64 i])] (.bool (covsB l[i] s)) [(0, .box 22 [.slice 6 nl (l.map Rule.cs) none]), (1, .box 3 [.int .i64 i])] := by
 have hg : (l.map Rule.cs)[i]? = some [.str l[i].name, .bool l[i].deny, .slice 3 l[i].nc (l[i].conds.map Cond.cs) none, .slice 1 l[i].ns (l[i].scopes.map fun x => [.str x]) none, .int .i64 l[i].lvl, .int .i64 l[i].age] := getM hi
 have hnf := nl_false hnl hi
 refine CallE.of_wp Tryz.func32 rfl (by kernel_rfl) Tryz.ntmps32 (by simp) ?_
 simp only [frameOf, Nat.reduceAdd, Nat.zero_add, List.map_cons, List.map_nil]
 refine WP.sr [0, 1, 2] (by kernel_rfl) fun K hK => ?_
 simp (decide := true) only [TF, hg, hnf, ↓reduceIte, Int.reduceToNat]
 refine hK _ _ ?_; clear hK K
 refine WP.sr [4] (by kernel_rfl) fun K hK => ?_
 simp (decide := true) only [TF, hg, hnf, ↓reduceIte, Int.reduceToNat]
 refine CallK.pure (c_covers l[i] s (hl _ (List.getElem_mem hi)) hs) rfl rfl (by simp [-List.map_take]) ?_
 simp (decide := true) only [TF, hg, hnf, ↓reduceIte, Int.reduceToNat]
 refine hK _ _ ?_; clear hK K
 refine WP.ret ?_
 refine Ends.imp (.inr rfl) rfl (Le.of_eq (by simp (decide := true) only [St.get, lk, W, hg, hnf, ↓reduceIte])) ?_ ?_ ?_
 · simp
 · simp [St.get, lk, W, BClo, hnf]
 · simp [lk]
theorem c_indexfunc_run (l : List Rule) (nl : Bool) (hnl : nl = true → l = []) (hl : ∀ p ∈ l, p.ok) (i : Nat) (hi : i < l.length) (ls : List (List UInt8)) (na : Bool) (hn : ls.length ≤ 1099511627776) (hna : na = true → ls = []) (hls : ∀ x ∈ ls, x.length ≤ 1099511627776) : CallE Pr 61 [.slice 1 na (ls.map fun x => [.str x]) none, .fn (.func 32) [] [.ref 0 0, .ref 1 0]] [(0, .box 22 [.slice 6 nl (l.map Rule.cs) none]), (1, .box 3 [.int .i64 i])] (.int .i64 (ixP (fun t => covsB l[i] t) ls 0)) [(0, .box 22 [.slice 6 nl (l.map Rule.cs) none]), (1, .box 3 [.int .i64 i])] := by
 refine CallE.of_wp Tryz.func61 rfl (by kernel_rfl) Tryz.ntmps61 (by simp) ?_
 simp only [frameOf, Nat.reduceAdd, Nat.zero_add, List.map_cons, List.map_nil]
 refine WP.sr [0, 1] (by kernel_rfl) fun K hK => ?_
 simp (decide := true) only [TF, ↓reduceIte, Int.reduceToNat]
 refine hK _ _ ?_; clear hK K
 refine WP.seq ?_
 refine WP.sr [0, 1, 7, 8] (by kernel_rfl) fun K hK => ?_
 simp (decide := true) only [TF, ↓reduceIte, Int.reduceToNat]
 refine hK _ _ ?_; clear hK K
 refine WP.block ?_
 refine WP.lp [0, 1, 7] (X := {k : Nat // k ≤ ls.length ∧ ixP (fun t => covsB l[i] t) ls 0 = ixP (fun t => covsB l[i] t) (ls.drop k) k}) (fun x => match x with | ⟨(k), _⟩ => [(8, .int .i64 k)]) (fun x => match x with | ⟨(k), _⟩ => [(0, .box 22 [.slice 6 nl (l.map Rule.cs) none]), (1, .box 3 [.int .i64 i])]) (fun x => match x with | ⟨(k), _⟩ => ls.length - k) (by simp (decide := true) only [W, ↓reduceIte, Int.reduceToNat]; rfl) ?_ ⟨(0), ⟨Nat.zero_le _, by simp⟩⟩ ?_
 rotate_left
 · exact Weak.store (by simp [St.get, lk, W, Le.refl, W]) (by simp [lk, W, W]) (by simp [lk, W]) (by simp [BClo, lk]) (by simp [lk])
 rintro ⟨k, hk, hI⟩
 dsimp only
 simp only [List.cons_append, List.nil_append]
 refine WP.sr [0, 1, 7, 8, 9] (by kernel_rfl) fun K hK => ?_
 simp (decide := true) only [TF, hk, ↓reduceIte, Int.reduceToNat]
 refine hK _ _ ?_; clear hK K
 refine WP.seq ?_
 refine WP.cond (b := _) rfl (fun q1 => ?_) (fun q1 => ?_)
 ·
  have hlt := lt_of_q q1
  have hg : (ls.map (fun x => [D.str x]))[k]? = some [.str ls[k]] := getM hlt
  have hnf := nl_false hna hlt
  rw [dropE hlt] at hI
  simp only [ixP] at hI
  refine WP.skip ?_
  show WP _ _ _ _ _ _
  refine WP.seq ?_
  refine WP.block ?_
  refine WP.sr [0, 1, 5, 7, 8] (by kernel_rfl) fun K hK => ?_
  simp (decide := true) only [TF, hk, q1, hg, hnf, ↓reduceIte, Int.reduceToNat]
  refine hK _ _ ?_; clear hK K
  refine WP.sr [0, 1, 5, 7, 8, 16] (by kernel_rfl) fun K hK => ?_
  simp (decide := true) only [TF, hk, q1, hg, hnf, ↓reduceIte, Int.reduceToNat]
  refine CallK.imp (c_runc l nl hnl hl i hi ls[k] (hls _ (List.getElem_mem hlt))) rfl rfl (by simp [lk, BClo]) (by simp [lk]) (by simp [lk]) ?_
  simp (decide := true) only [TF, hk, q1, hg, hnf, ↓reduceIte, Int.reduceToNat]
  refine hK _ _ ?_; clear hK K
  refine WP.cond (b := _) rfl (fun q2 => ?_) (fun q2 => ?_)
  ·
   refine WP.sr [4] (by kernel_rfl) fun K hK => ?_
   simp (decide := true) only [TF, hk, q1, hg, hnf, q2, ↓reduceIte, Int.reduceToNat]
   refine hK _ _ ?_; clear hK K
   refine WP.ret ?_
   refine Ends.imp (.inr rfl) rfl (Le.of_eq (by simp (decide := true) only [St.get, lk, W, hk, q1, hg, hnf, q2, hI, ↓reduceIte])) ?_ ?_ ?_
   · simp
   · simp [St.get, lk, W, BClo, hk, q1, hg, hnf, q2]
   · simp [lk]
  ·
   refine WP.skip ?_
   show WP _ _ _ _ _ _
   refine WP.region (by kernel_rfl) fun K hK => ?_
   simp (decide := true) only [TF, hk, q1, hg, hnf, q2, ↓reduceIte, Int.reduceToNat]
   refine hK _ _ ?_; clear hK K
   show ∃ y, _ ∧ Weak _ _ _
   refine ⟨⟨k + 1, ?_⟩, ?_, ?_⟩
   · exact ⟨by omega, by first | (simpa [hk, q1, hg, hnf, q2] using hI) | (simp_all; done)⟩
   · dsimp only; omega
   · exact Weak.store (by simp [St.get, lk, W, Le.refl, hk, q1, hg, hnf, q2, wrapS hlt (show ls.length ≤ 140737488355328 by omega)]) (by simp [lk, W, hk, q1, hg, hnf, q2, wrapS hlt (show ls.length ≤ 140737488355328 by omega)]) (by simp [lk, W]) (by simp [BClo, lk]) (by simp [lk])
 ·
  have hge := ge_of_q q1
  rw [dropN hge] at hI
  simp only [ixP] at hI
  refine WP.exit ?_
  show WP _ _ _ _ _ _
  refine WP.sr [4] (by kernel_rfl) fun K hK => ?_
  simp (decide := true) only [TF, hk, q1, ↓reduceIte, Int.reduceToNat]
  refine hK _ _ ?_; clear hK K
  refine WP.ret ?_
  refine Ends.imp (.inr rfl) rfl (Le.of_eq (by simp (decide := true) only [St.get, lk, W, hk, q1, hI, ↓reduceIte])) ?_ ?_ ?_
  · simp
  · simp [St.get, lk, W, BClo, hk, q1]
  · simp [lk]
theorem c_contfunc_run (l : List Rule) (nl : Bool) (hnl : nl = true → l = []) (hl : ∀ p ∈ l, p.ok) (i : Nat) (hi : i < l.length) (ls : List (List UInt8)) (na : Bool) (hn : ls.length ≤ 1099511627776) (hna : na = true → ls = []) (hls : ∀ x ∈ ls, x.length ≤ 1099511627776) : CallE Pr 31 [.slice 1 na (ls.map fun x => [.str x]) none, .fn (.func 32) [] [.ref 0 0, .ref 1 0]] [(0, .box 22 [.slice 6 nl (l.map Rule.cs) none]), (1, .box 3 [.int .i64 i])] (.bool (ls.any fun t => covsB l[i] t)) [(0, .box 22 [.slice 6 nl (l.map Rule.cs) none]), (1, .box 3 [.int .i64 i])] := by
 refine CallE.of_wp Tryz.func31 rfl (by kernel_rfl) Tryz.ntmps31 (by simp) ?_
 simp only [frameOf, Nat.reduceAdd, Nat.zero_add, List.map_cons, List.map_nil]
 refine WP.sr [0, 1] (by kernel_rfl) fun K hK => ?_
 simp (decide := true) only [TF, ↓reduceIte, Int.reduceToNat]
 refine hK _ _ ?_; clear hK K
 refine WP.sr [4] (by kernel_rfl) fun K hK => ?_
 simp (decide := true) only [TF, ↓reduceIte, Int.reduceToNat]
 refine CallK.imp (c_indexfunc_run l nl hnl hl i hi ls na hn hna hls) rfl rfl (by simp [lk, BClo]) (by simp [lk]) (by simp [lk]) ?_
 simp (decide := true) only [TF, ↓reduceIte, Int.reduceToNat]
 refine hK _ _ ?_; clear hK K
 refine WP.ret ?_
 refine Ends.imp (.inr rfl) rfl (Le.of_eq (by simp (decide := true) only [St.get, lk, W, ixP_any0, ↓reduceIte])) ?_ ?_ ?_
 · simp
 · simp [St.get, lk, W, BClo, W]
 · simp [lk]
theorem c_contfunc_at (y : Nat) (hy : 0 ≠ y) (l : List Rule) (nl : Bool) (hnl : nl = true → l = []) (hl : ∀ p ∈ l, p.ok) (i : Nat) (hi : i < l.length) (ls : List (List UInt8)) (na : Bool) (hn : ls.length ≤ 1099511627776) (hna : na = true → ls = []) (hls : ∀ x ∈ ls, x.length ≤ 1099511627776) : CallE Pr 31 [.slice 1 na (ls.map fun x => [.str x]) none, .fn (.func 32) [] [.ref 0 0, .ref y 0]] [(0, .box 22 [.slice 6 nl (l.map Rule.cs) none]), (y, .box 3 [.int .i64 i])] (.bool (ls.any fun t => covsB l[i] t)) [(0, .box 22 [.slice 6 nl (l.map Rule.cs) none]), (y, .box 3 [.int .i64 i])] := by
 obtain ⟨f, g, h1, h2⟩ := ren_ex [0, y] (by simp [hy])
 have := CallE.rename h1 (c_contfunc_run l nl hnl hl i hi ls na hn hna hls)
 have f0 : f 0 = 0 := h2 0 0 rfl
 have f1 : f 1 = y := h2 1 y rfl
 simpa only [List.map_cons, List.map_nil, renS, renB, renL, renD, ren_rl, ren_sl, Option.map_none, f0, f1] using this
theorem ren_rowsN (f : Nat → Nat) (rs : List Reas) : renL f (rowsN rs).flatten = (rowsN rs).flatten := ren_cloL f (rowsN_clo rs)
theorem c_permit_at (b t : Nat) (hbt : b ≠ t) (l : List Rule) (nl : Bool) (r : Req) (hn : l.length ≤ 1099511627776) (hnl : nl = true → l = []) (hl : ∀ p ∈ l, p.ok) (hr : r.ok) (hrs : ∀ s ∈ r.scopes, s.length ≤ 1099511627776) : CallE Pr 30 [.ref b 0, .slice 6 nl (l.map Rule.cs) none, .agg [.str r.user, .str r.client, .str r.tenant, .slice 1 r.ng (r.groups.map fun x => [.str x]) none, .slice 1 r.ns (r.scopes.map fun x => [.str x]) none, .int .i64 r.risk, .bool r.trusted, .int .i64 r.level, .int .i64 r.auth, .int .i64 r.now]] [(b, .box 32 [.int .i64 4, .slice 0 true [] none, .int .i64 0, .int .i64 0, .arr t 3 l.length]), (t, .arr 36 (rows0 l r l.length).flatten)] (.bool (decide (((psR l r).all.length : Int) > 0))) [(b, .box 32 [.int .i64 4, .slice 1 (srtR (psR l r).all).isEmpty ((srtR (psR l r).all).map (fun x => [D.str x])) none, .int .i64 (psR l r).lvl, .int .i64 (psR l r).age, .arr t 3 l.length]), (t, .arr 36 (rowsN (psR l r).rs).flatten)] := by
 obtain ⟨f, g, h1, h2⟩ := ren_ex [b + t + 1, b, t] (by simp [hbt]; omega)
 have := CallE.rename h1 (c_permit l nl r hn hnl hl hr hrs)
 have f1 : f 1 = b := h2 1 b rfl
 have f2 : f 2 = t := h2 2 t rfl
 simpa only [List.map_cons, List.map_nil, renS, renB, renL, renLL, renD, ren_rl, ren_sl, ren_rows0, ren_rowsN, Option.map_none, f1, f2] using this
end Go.Proofs

set_option linter.unusedSimpArgs false
set_option linter.unusedVariables false
namespace Go.Proofs
open Go Go.Id
def dec4 (l : List Rule) (r : Req) : Dec := ⟨4, [], true, 0, 0, reasD l r, l.isEmpty⟩
theorem runD_1 {l : List Rule} {r : Req} (h : (checkE l != 0) = true) : runD l r = noD := by unfold runD; rw [if_pos h]
theorem runD_2 {l : List Rule} {r : Req} (h : (checkE l != 0) = false) (h2 : denyB l r = true) : runD l r = ⟨2, [], true, 0, 0, reasD l r, l.isEmpty⟩ := by unfold runD; rw [if_neg (by rw [h]; decide), if_pos h2]
theorem runD_3 {l : List Rule} {r : Req} (h : (checkE l != 0) = false) (h2 : denyB l r = false) (h3 : decide (((psR l r).all.length : Int) > 0) = true) : runD l r = ⟨1, srtR (psR l r).all, (srtR (psR l r).all).isEmpty, (psR l r).lvl, (psR l r).age, (psR l r).rs.map Reas.nrm, l.isEmpty⟩ := by
  unfold runD; rw [if_neg (by rw [h]; decide), if_neg (by rw [h2]; decide), if_pos h3]
theorem runD_4 {l : List Rule} {r : Req} (h : (checkE l != 0) = false) (h2 : denyB l r = false) (h3 : decide (((psR l r).all.length : Int) > 0) = false) : runD l r = stepD r (dec4 l r) l := by
  unfold runD dec4; rw [if_neg (by rw [h]; decide), if_neg (by rw [h2]; decide), if_neg (by rw [h3]; decide)]
theorem denyB_succ {l : List Rule} {r : Req} {k : Nat} (h : k < l.length) : denyB (l.take (k + 1)) r = (denyB (l.take k) r || (okM l[k] r && l[k].deny)) := by
  unfold denyB
  rw [takeS h, List.any_append]; simp
theorem reasD_cs (l : List Rule) (r : Req) : rowsN (reasD l r) = (reasD l r).map Reas.cs := by rw [rowsN_cs, reasD_nrm]
theorem srtR_nil : srtR [] = [] := rfl
theorem isE_pos {l : List Rule} (h : 0 < l.length) : l.isEmpty = false := by cases l with
  | nil => simp at h
  | cons => rfl
theorem psR_len (l : List Rule) (r : Req) : (psR l r).rs.length = l.length := by
  have key : ∀ (ss : List (List UInt8)) (q : PS), (ss.foldl (pStep l r) q).rs.length = q.rs.length := by
    intro ss
    induction ss with
    | nil => intro q; rfl
    | cons s ss ih =>
      intro q
      rw [List.foldl_cons, ih]
      cases hc : decide (grP r s l 0 < 0) with
      | true => rw [pStep_no hc]
      | false =>
        obtain ⟨i, hi, hg⟩ := grP_at hc
        rw [pStep_at hi hg]; simp
  rw [psR, key]; simp [ps0]
theorem sh_sl (t : Nat) (nl : Bool) (ls : List (List UInt8)) : Sh t (.slice 1 nl (ls.map fun x => [.str x]) none) := by
  refine .slice (fun e he d hd => ?_) (fun e he => ?_) (by simp)
  · simp only [List.mem_map] at he
    obtain ⟨x, _, rfl⟩ := he
    simp only [List.mem_singleton] at hd; subst hd; exact .str _
  · simp only [List.getElem?_map, Option.map_eq_some_iff] at he
    obtain ⟨x, _, rfl⟩ := he
    exact ⟨_, rfl⟩
theorem sh_cl (t : Nat) (nl : Bool) (ls : List Cond) : Sh t (.slice 3 nl (ls.map Cond.cs) none) := by
  refine .slice (fun e he d hd => ?_) (fun e he => ?_) (by simp)
  · simp only [List.mem_map] at he
    obtain ⟨x, _, rfl⟩ := he
    simp only [Cond.cs, List.mem_cons, List.not_mem_nil, or_false] at hd
    rcases hd with rfl | rfl | rfl <;> exact .str _
  · simp only [List.getElem?_map, Option.map_eq_some_iff] at he
    obtain ⟨x, _, rfl⟩ := he
    exact ⟨_, rfl⟩
theorem sh_rl (t : Nat) (nl : Bool) (l : List Rule) : Sh t (.slice 6 nl (l.map Rule.cs) none) := by
  refine .slice (fun e he d hd => ?_) (fun e he => ?_) (by simp)
  · simp only [List.mem_map] at he
    obtain ⟨x, _, rfl⟩ := he
    simp only [Rule.cs, List.mem_cons, List.not_mem_nil, or_false] at hd
    rcases hd with rfl | rfl | rfl | rfl | rfl | rfl
    · exact .str _
    · exact .bool _
    · exact sh_cl _ _ _
    · exact sh_sl _ _ _
    · exact .int _ _
    · exact .int _ _
  · simp only [List.getElem?_map, Option.map_eq_some_iff] at he
    obtain ⟨x, _, rfl⟩ := he
    exact ⟨_, rfl⟩
theorem sh_rq (t : Nat) (r : Req) : ∀ d ∈ rqD r, Sh t d := by
  intro d hd
  simp only [rqD, List.mem_cons, List.not_mem_nil, or_false] at hd
  rcases hd with rfl | rfl | rfl | rfl | rfl | rfl | rfl | rfl | rfl | rfl
  · exact .str _
  · exact .str _
  · exact .str _
  · exact sh_sl _ _ _
  · exact sh_sl _ _ _
  · exact .int _ _
  · exact .bool _
  · exact .int _ _
  · exact .int _ _
  · exact .int _ _
theorem tp_refl {t sz : Nat} {es : List (List D)} : ∀ {cs : List D}, (∀ d ∈ cs, Sh t d) → TpL t sz es cs cs
  | [], _ => trivial
  | d :: cs, h => ⟨.inl ⟨rfl, h d (by simp)⟩, tp_refl fun x hx => h x (by simp [hx])⟩
theorem sh_nil (t sz : Nat) : Sh t (.slice sz true [] none) := .slice (by simp) (by simp) (by simp)
def zeroDec : List D := [.int .i64 0, .slice 0 true [] none, .int .i64 0, .int .i64 0, .slice 0 true [] none]
/-- The row of reasons in a decision's box: from here on written to. -/
theorem weak_turn {l : List Rule} {nl : Bool} {r : Req} {st : St} (h2 : st.get 2 = .ref 0 0) (h3 : st.get 3 = .ref 1 0) (h4 : st.get 4 = .ref 2 0) (h5 : st.get 5 = .ref 3 0)
    (s7 : lk st.σ 7 = some (.tip 36 3 l.length)) (s3 : lk st.σ 3 = some (.box 32 [.int .i64 4, .slice 0 true [] none, .int .i64 0, .int .i64 0, .slice 3 false (rows0 l r l.length) (some 7)])) (s2 : lk st.σ 2 = some (.box 32 zeroDec)) (s1 : lk st.σ 1 = some (.box 25 (rqD r))) (s0 : lk st.σ 0 = some (.box 22 [rlD l nl])) :
    Weak [] st ⟨[(5, .ref 3 0), (4, .ref 2 0), (3, .ref 1 0), (2, .ref 0 0)], [(7, .arr 36 (rows0 l r l.length).flatten), (3, .box 32 [.int .i64 4, .slice 0 true [] none, .int .i64 0, .int .i64 0, .arr 7 3 l.length]), (2, .box 32 zeroDec), (1, .box 25 (rqD r)), (0, .box 22 [rlD l nl])]⟩ := by
  refine Weak.trans (Weak.store (st' := ⟨[(5, .ref 3 0), (4, .ref 2 0), (3, .ref 1 0), (2, .ref 0 0)], [(7, .tip 36 3 l.length), (3, .box 32 [.int .i64 4, .slice 0 true [] none, .int .i64 0, .int .i64 0, .slice 3 false (rows0 l r l.length) (some 7)]), (2, .box 32 zeroDec), (1, .box 25 (rqD r)), (0, .box 22 [rlD l nl])]⟩) ?_ ?_ ?_ ?_ (by simp)) ?_
  · simp [h2, h3, h4, h5, Le.refl]
  · simp [s0, s1, s2, s3, s7]
  · simp [lk]
  · simp [BClo, lk, zeroDec]; exact fun e he d hd => rows0_clo l r _ e he d hd
  · refine Weak.tipArrS 7 36 3 (rows0 l r l.length) 3 32 _ 4 rfl rfl (by simp [lk, rows0_len]) (rows0_sh 7 l r _) ?_ rfl ?_
    · intro p hp
      simp only [List.mem_cons, List.not_mem_nil, or_false] at hp
      rcases hp with rfl | rfl | rfl | rfl <;> exact ⟨rfl, .ref (by decide)⟩
    · intro b hb
      by_cases b3 : b = 3
      · subst b3; exact .inr ⟨_, _, rfl, rfl, rfl, ⟨.inl ⟨rfl, .int _ _⟩, .inl ⟨rfl, sh_nil _ _⟩, .inl ⟨rfl, .int _ _⟩, .inl ⟨rfl, .int _ _⟩, .inr ⟨rfl, by rw [rows0_len]⟩, trivial⟩⟩
      by_cases b2 : b = 2
      · subst b2; exact .inr ⟨_, _, rfl, rfl, rfl, ⟨.inl ⟨rfl, .int _ _⟩, .inl ⟨rfl, sh_nil _ _⟩, .inl ⟨rfl, .int _ _⟩, .inl ⟨rfl, .int _ _⟩, .inl ⟨rfl, sh_nil _ _⟩, trivial⟩⟩
      by_cases b1 : b = 1
      · subst b1; exact .inr ⟨_, _, rfl, rfl, rfl, tp_refl (sh_rq 7 r)⟩
      by_cases b0 : b = 0
      · subst b0; exact .inr ⟨_, _, rfl, rfl, rfl, ⟨.inl ⟨rfl, sh_rl _ _ _⟩, trivial⟩⟩
      exact .inl (by simp [lk, hb, b3, b2, b1, b0])
/-- A decision whose row of reasons is given up. -/
theorem weak_dec {st : St} (b k0 bx : Nat) (e sc lv ag : D) (rs : List Reas) (n : Nat) (hn : rs.length = n) (hbx : bx ≠ b) (hk : st.get k0 = .ref bx 0) (hb : lk st.σ b = some (.arr 36 (rowsN rs).flatten)) (hx : lk st.σ bx = some (.box 32 [e, sc, lv, ag, .arr b 3 n]))
    (hc : ∀ (S : Nat → Prop), ∀ d ∈ [e, sc, lv, ag], Clo S d) : Weak [] st ⟨[(k0, .ref bx 0)], [(bx, .box 32 [e, sc, lv, ag, .slice 3 false (rowsN rs) none])]⟩ := by
  have hc' : ∀ S : Nat → Prop, Clo S e ∧ Clo S sc ∧ Clo S lv ∧ Clo S ag := fun S => ⟨hc S _ (by simp), hc S _ (by simp), hc S _ (by simp), hc S _ (by simp)⟩
  refine Weak.trans (Weak.store (st' := ⟨[(k0, .ref bx 0)], [(bx, .box 32 [e, sc, lv, ag, .arr b 3 n]), (b, .arr 36 (rowsN rs).flatten)]⟩) ?_ ?_ ?_ ?_ (by simp)) ?_
  · simp [hk, Le.refl]
  · simp [hb, hx]
  · simp [lk]
  · intro p hp
    simp only [List.mem_cons, List.not_mem_nil, or_false] at hp
    rcases hp with rfl | rfl
    · intro d hd
      simp only [List.mem_cons, List.not_mem_nil, or_false] at hd
      rcases hd with rfl | rfl | rfl | rfl | rfl
      · exact (hc' _).1
      · exact (hc' _).2.1
      · exact (hc' _).2.2.1
      · exact (hc' _).2.2.2
      · refine .arr ?_
        by_cases e : b = bx <;> simp [lk, e]
    · exact fun d hd => rowsN_clo rs d hd
  · refine Weak.freeze b 36 3 (rowsN rs) (by simp [lk, Ne.symm hbx]) (rowsN_mem rs) (by decide) (by simp [lk, Ne.symm hbx]) (fun x hx d hd => rowsN_clo rs d (List.mem_flatten.2 ⟨x, hx, hd⟩)) ?_ ?_
    · intro p hp
      simp only [List.mem_singleton] at hp
      subst hp
      exact .inl ⟨by simp [St.get, lk], by simp [St.get, lk]; exact hbx⟩
    · intro i hi
      by_cases ib : i = bx
      · subst ib
        exact .inr ⟨.box 32 [e, sc, lv, ag, .arr b 3 n], .box 32 [e, sc, lv, ag, .slice 3 false (rowsN rs) none], by simp [lk], by simp [lk], rfl, ⟨.inl ⟨rfl, (hc' _).1⟩, .inl ⟨rfl, (hc' _).2.1⟩, .inl ⟨rfl, (hc' _).2.2.1⟩, .inl ⟨rfl, (hc' _).2.2.2⟩, .inr ⟨by rw [rowsN_len, hn], rfl⟩, trivial⟩⟩
      · exact .inl (by simp [lk, hi, ib])
end Go.Proofs

set_option linter.unusedSimpArgs false
set_option linter.unusedVariables false
namespace Go.Proofs
open Go Go.Id
def addU (s : List UInt8) (x : Reas) : Reas := { x with scopes := x.scopes ++ [s] }
def rStep (l : List Rule) (r : Req) (q : PS) (s : List UInt8) : PS :=
  if (decide (grP r s l 0 < 0) || q.all.contains s) = true then q else
    match l[(grP r s l 0).toNat]? with
    | some p => ⟨q.all ++ [s], q.rs.modify (grP r s l 0).toNat (addU s), lvlU q.lvl p.lvl, ageU q.age p.age⟩
    | none => q
def rsR (l : List Rule) (r : Req) : PS := r.scopes.foldl (rStep l r) (ps0 l r)
theorem rStep_no {l : List Rule} {r : Req} {q : PS} {s : List UInt8} (h : (decide (grP r s l 0 < 0) || q.all.contains s) = true) : rStep l r q s = q := by unfold rStep; rw [if_pos h]
theorem rStep_at {l : List Rule} {r : Req} {q : PS} {s : List UInt8} {i : Nat} (hi : i < l.length) (h : grP r s l 0 = (i : Int)) (hc : q.all.contains s = false) : rStep l r q s = ⟨q.all ++ [s], q.rs.modify i (addU s), lvlU q.lvl l[i].lvl, ageU q.age l[i].age⟩ := by
  unfold rStep
  rw [h, hc, if_neg (by simp), Int.toNat_natCast, getE hi]
theorem lvlU_self (a b : Int) : lvlU (lvlU a b) b = lvlU a b := by unfold lvlU; (repeat' split) <;> omega
theorem lvlU_on {a b c : Int} (h : lvlU a c = a) : lvlU (lvlU a b) c = lvlU a b := by
  unfold lvlU at *
  split at h <;> (repeat' split) <;> omega
theorem ageU_c (a b : Int) : ageU a b = if b > 0 ∧ (a = 0 ∨ b < a) then b else a := by
  unfold ageU
  by_cases h1 : b > 0 <;> by_cases h2 : a = 0 <;> by_cases h3 : b < a <;> simp [h1, h2, h3]
theorem ageU_self (a b : Int) : ageU (ageU a b) b = ageU a b := by
  simp only [ageU_c]; (repeat' split) <;> omega
theorem ageU_on {a b c : Int} (h : ageU a c = a) : ageU (ageU a b) c = ageU a b := by
  simp only [ageU_c] at *
  split at h <;> (repeat' split) <;> omega
structure Both (l : List Rule) (r : Req) (q p : PS) : Prop where
  rs : p.rs = q.rs
  lvl : p.lvl = q.lvl
  age : p.age = q.age
  mem : ∀ x, x ∈ p.all ↔ x ∈ q.all
  len : q.rs.length = l.length
  sc : ∀ (i : Nat) (h : i < q.rs.length) s, s ∈ q.rs[i].scopes ↔ (s ∈ q.all ∧ grP r s l 0 = (i : Int))
  up : ∀ s, s ∈ q.all → ∀ (i : Nat) (h : i < l.length), grP r s l 0 = (i : Int) → lvlU q.lvl l[i].lvl = q.lvl ∧ ageU q.age l[i].age = q.age
theorem Both.next {l : List Rule} {r : Req} {q p : PS} (h : Both l r q p) (s : List UInt8) : Both l r (pStep l r q s) (rStep l r p s) := by
  cases hc : decide (grP r s l 0 < 0) with
  | true => rw [pStep_no hc, rStep_no (by rw [hc]; rfl)]; exact h
  | false =>
    obtain ⟨i, hi, hg⟩ := grP_at hc
    rw [pStep_at hi hg]
    have hiq : i < q.rs.length := by rw [h.len]; exact hi
    cases hin : q.all.contains s with
    | true =>
      have hs : s ∈ q.all := by simpa using hin
      have hp : p.all.contains s = true := by simpa using (h.mem s).2 hs
      rw [rStep_no (by rw [hp, Bool.or_true])]
      obtain ⟨u1, u2⟩ := h.up s hs i hi hg
      have hcon : q.rs[i].scopes.contains s = true := by simpa using (h.sc i hiq s).2 ⟨hs, hg⟩
      rw [modify_in hiq hcon, u1, u2]
      have hm : ∀ x, x ∈ q.all ++ [s] ↔ x ∈ q.all := fun x => by
        rw [List.mem_append, List.mem_singleton]
        exact ⟨fun hx => hx.elim id (fun e => e ▸ hs), .inl⟩
      exact ⟨h.rs, h.lvl, h.age, fun x => (h.mem x).trans (hm x).symm, h.len, fun j hj t => (h.sc j hj t).trans ⟨fun ⟨a, b⟩ => ⟨(hm t).2 a, b⟩, fun ⟨a, b⟩ => ⟨(hm t).1 a, b⟩⟩, fun t ht j hj hgj => h.up t ((hm t).1 ht) j hj hgj⟩
    | false =>
      have hs : s ∉ q.all := by simpa using hin
      have hp : p.all.contains s = false := by
        rw [Bool.eq_false_iff]; intro e; exact hs ((h.mem s).1 (by simpa using e))
      rw [rStep_at hi hg hp]
      have hcon : q.rs[i].scopes.contains s = false := by
        rw [Bool.eq_false_iff]; intro e; exact hs ((h.sc i hiq s).1 (by simpa using e)).1
      have hadd : q.rs.modify i (addS s) = q.rs.modify i (addU s) := by
        apply List.ext_getElem (by simp)
        intro j h1 h2
        rw [List.getElem_modify, List.getElem_modify]
        split
        · rename_i e; subst e; unfold addS addU; rw [if_neg (by rw [hcon]; decide)]
        · rfl
      refine ⟨by rw [h.rs, hadd], by rw [h.lvl], by rw [h.age], fun x => by simp [h.mem x], by simpa using h.len, fun j hj t => ?_, fun t ht j hj hgj => ?_⟩
      · have hj' : j < q.rs.length := by simpa using hj
        simp only [List.getElem_modify, List.mem_append, List.mem_singleton]
        split
        · rename_i e; subst e
          unfold addS
          rw [if_neg (by rw [hcon]; decide)]
          simp only [List.mem_append, List.mem_singleton]
          rw [h.sc i hiq t]
          constructor
          · rintro (⟨a, b⟩ | rfl)
            · exact ⟨.inl a, b⟩
            · exact ⟨.inr rfl, hg⟩
          · rintro ⟨a | rfl, b⟩
            · exact .inl ⟨a, b⟩
            · exact .inr rfl
        · rename_i e
          rw [h.sc j hj' t]
          constructor
          · rintro ⟨a, b⟩; exact ⟨.inl a, b⟩
          · rintro ⟨a | rfl, b⟩
            · exact ⟨a, b⟩
            · rw [hg] at b; exact absurd (by omega : i = j) e
      · dsimp only
        rcases List.mem_append.1 ht with ht | ht
        · obtain ⟨u1, u2⟩ := h.up t ht j hj hgj
          exact ⟨lvlU_on u1, ageU_on u2⟩
        · rw [List.mem_singleton] at ht; subst ht
          rw [hg] at hgj
          obtain rfl : i = j := by omega
          exact ⟨lvlU_self _ _, ageU_self _ _⟩
theorem srtR_spec (l : List (List UInt8)) : Asc (srtR l) ∧ ∀ x, x ∈ srtR l ↔ x ∈ l ∧ leastR l x = true := by
  obtain ⟨h1, h2⟩ := inAll_spec (leastR l) l [] List.Pairwise.nil
  exact ⟨h1, fun x => by rw [show srtR l = inAll (leastR l) [] l from rfl, h2]; simp⟩
/-- What holds between two rounds of the reference. -/
structure PJ (l : List Rule) (r : Req) (k : Nat) (q : PS) : Prop where
  len : q.rs.length = l.length
  alen : q.all.length ≤ k
  mem : ∀ x ∈ q.all, x ∈ r.scopes
  rlen : ∀ x ∈ q.rs, x.scopes.length ≤ k
  run : rsR l r = (r.scopes.drop k).foldl (rStep l r) q
theorem PJ.start (l : List Rule) (r : Req) : PJ l r 0 (ps0 l r) := ⟨by simp [ps0], by simp [ps0], by simp [ps0], by simp [ps0, mkR], rfl⟩
theorem PJ.next {l : List Rule} {r : Req} {k : Nat} {q : PS} (h : PJ l r k q) (hk : k < r.scopes.length) : PJ l r (k + 1) (rStep l r q r.scopes[k]) := by
  have hr := h.run
  rw [dropE hk, List.foldl_cons] at hr
  cases hc : (decide (grP r r.scopes[k] l 0 < 0) || q.all.contains r.scopes[k]) with
  | true =>
    rw [rStep_no hc] at hr ⊢
    exact ⟨h.len, by have := h.alen; omega, h.mem, fun x hx => by have := h.rlen x hx; omega, hr⟩
  | false =>
    simp only [Bool.or_eq_false_iff] at hc
    obtain ⟨i, hi, hg⟩ := grP_at hc.1
    rw [rStep_at hi hg hc.2] at hr ⊢
    refine ⟨by rw [modify_len]; exact h.len, by have := h.alen; simp; omega, fun x hx => ?_, fun x hx => ?_, hr⟩
    · rcases List.mem_append.1 hx with hx | hx
      · exact h.mem x hx
      · rw [List.mem_singleton] at hx; rw [hx]; exact List.getElem_mem hk
    · obtain ⟨j, hj, rfl⟩ := List.mem_iff_getElem.1 hx
      have hj' : j < q.rs.length := by simpa using hj
      rw [List.getElem_modify]
      have h1 := h.rlen _ (List.getElem_mem hj')
      split
      · unfold addU; simp; omega
      · omega
end Go.Proofs

set_option linter.unusedSimpArgs false
set_option linter.unusedVariables false
set_option maxRecDepth 10000
namespace Go.Proofs
open Go Go.Id
set_option maxHeartbeats 4000000
theorem c_run1 (l : List Rule) (nl : Bool) (r : Req) (hn : l.length ≤ 1099511627776) (hnl : nl = true → l = []) (hl : ∀ p ∈ l, p.ok) (hr : r.ok) (hrs : ∀ s ∈ r.scopes, s.length ≤ 1099511627776) (hlen : 0 < l.length) : CallP Pr 12 [.slice 6 nl (l.map Rule.cs) none, .agg [.str r.user, .str r.client, .str r.tenant, .slice 1 r.ng (r.groups.map fun x => [.str x]) none, .slice 1 r.ns (r.scopes.map fun x => [.str x]) none, .int .i64 r.risk, .bool r.trusted, .int .i64 r.level, .int .i64 r.auth, .int .i64 r.now]] (.agg (dcsD (runD l r))) := by
 refine CallP.of_wp Tryz.func12 rfl (by kernel_rfl) Tryz.ntmps12 (by simp) ?_
 simp only [frameOf, Nat.reduceAdd, Nat.zero_add]
 refine WP.sr [2, 3, 4] (by kernel_rfl) fun K hK => ?_
 simp (decide := true) only [TF, rows0_len, ↓reduceIte, Int.reduceToNat]
 refine hK _ _ ?_; clear hK K
 refine WP.seq ?_
 refine WP.sr [2, 3, 4, 13] (by kernel_rfl) fun K hK => ?_
 simp (decide := true) only [TF, rows0_len, ↓reduceIte, Int.reduceToNat]
 refine CallK.pure (c_check l nl hn hnl hl) rfl rfl (by simp [-List.map_take]) ?_
 simp (decide := true) only [TF, rows0_len, ↓reduceIte, Int.reduceToNat]
 refine hK _ _ ?_; clear hK K
 refine WP.cond (b := _) rfl (fun q1 => ?_) (fun q1 => ?_)
 ·
  have hX := runD_1 (r := r) q1
  refine WP.sr [4] (by kernel_rfl) fun K hK => ?_
  simp (decide := true) only [TF, q1, rows0_len, ↓reduceIte, Int.reduceToNat]
  refine hK _ _ ?_; clear hK K
  refine WP.ret ?_
  exact Ends.pure (.inr rfl) rfl ((by rw [hX]; exact Le.agg ⟨Le.refl _, Le.nil _ _ _, Le.refl _, Le.refl _, Le.nil _ _ _, trivial⟩)) (by simp)
 ·
  have hc0 := q1
  refine WP.skip ?_
  show WP _ _ _ _ _ _
  refine WP.sr [2, 3, 4, 5] (by kernel_rfl) fun K hK => ?_
  simp (decide := true) only [TF, q1, rows0_len, ↓reduceIte, Int.reduceToNat]
  refine hK _ _ ?_; clear hK K
  refine WP.sr [2, 3, 4, 5, 6] (by kernel_rfl) fun K hK => ?_
  simp (decide := true) only [TF, q1, rows0_len, ↓reduceIte, Int.reduceToNat]
  refine hK _ _ ?_; clear hK K
  refine WP.seq ?_
  refine WP.sr [2, 3, 4, 5, 6, 18] (by kernel_rfl) fun K hK => ?_
  simp (decide := true) only [TF, q1, rows0_len, ↓reduceIte, Int.reduceToNat]
  refine CallK.imp (c_reasons 5 6 (by decide) l nl r) rfl rfl (by simp) (by simp [lk]) (by simp [lk]) ?_
  simp (decide := true) only [TF, q1, rows0_len, ↓reduceIte, Int.reduceToNat]
  refine hK _ _ ?_; clear hK K
  refine WP.block ?_
  refine WP.weak (Weak.ghost 7 36 3 (σ' := (5, .box 22 [.slice 6 nl (l.map Rule.cs) none]) :: (6, .box 25 [.str r.user, .str r.client, .str r.tenant, .slice 1 r.ng (r.groups.map fun x => [.str x]) none, .slice 1 r.ns (r.scopes.map fun x => [.str x]) none, .int .i64 r.risk, .bool r.trusted, .int .i64 r.level, .int .i64 r.auth, .int .i64 r.now]) :: (4, .box 4 [.bool false]) :: (3, .box 32 [.int .i64 4, .slice 0 true [] none, .int .i64 0, .int .i64 0, .slice 3 true [] (some 7)]) :: (2, .box 32 [.int .i64 0, .slice 0 true [] none, .int .i64 0, .int .i64 0, .slice 0 true [] none]) :: (1, .box 25 [.str r.user, .str r.client, .str r.tenant, .slice 1 r.ng (r.groups.map fun x => [.str x]) none, .slice 1 r.ns (r.scopes.map fun x => [.str x]) none, .int .i64 r.risk, .bool r.trusted, .int .i64 r.level, .int .i64 r.auth, .int .i64 r.now]) :: [(0, .box 22 [.slice 6 nl (l.map Rule.cs) none])]) (by simp [lk]) (UpF.refl _ _ _) (by simp [UpS, UpB, UpL, UpD])) ?_
  refine WP.rf [2, 5, 6] (fun x => [(7, .int .i64 x), (8, .int .i64 (FL l r x))]) (fun pre => (7, .tip 36 3 pre.length) :: (5, .box 22 [.slice 6 nl (l.map Rule.cs) none]) :: (6, .box 25 [.str r.user, .str r.client, .str r.tenant, .slice 1 r.ng (r.groups.map fun x => [.str x]) none, .slice 1 r.ns (r.scopes.map fun x => [.str x]) none, .int .i64 r.risk, .bool r.trusted, .int .i64 r.level, .int .i64 r.auth, .int .i64 r.now]) :: (4, .box 4 [.bool (denyB (l.take pre.length) r)]) :: (3, .box 32 [.int .i64 4, .slice 0 true [] none, .int .i64 0, .int .i64 0, .slice 3 (rows0 l r pre.length).isEmpty (rows0 l r pre.length) (some 7)]) :: (2, .box 32 [.int .i64 0, .slice 0 true [] none, .int .i64 0, .int .i64 0, .slice 0 true [] none]) :: (1, .box 25 [.str r.user, .str r.client, .str r.tenant, .slice 1 r.ng (r.groups.map fun x => [.str x]) none, .slice 1 r.ns (r.scopes.map fun x => [.str x]) none, .int .i64 r.risk, .bool r.trusted, .int .i64 r.level, .int .i64 r.auth, .int .i64 r.now]) :: [(0, .box 22 [.slice 6 nl (l.map Rule.cs) none])]) (fun pre x => (7, .tip 36 3 pre.length) :: (5, .box 22 [.slice 6 nl (l.map Rule.cs) none]) :: (6, .box 25 [.str r.user, .str r.client, .str r.tenant, .slice 1 r.ng (r.groups.map fun x => [.str x]) none, .slice 1 r.ns (r.scopes.map fun x => [.str x]) none, .int .i64 r.risk, .bool r.trusted, .int .i64 r.level, .int .i64 r.auth, .int .i64 r.now]) :: (4, .box 4 [.bool (denyB (l.take pre.length) r)]) :: (3, .box 32 [.int .i64 4, .slice 0 true [] none, .int .i64 0, .int .i64 0, .slice 3 (rows0 l r pre.length).isEmpty (rows0 l r pre.length) (some 7)]) :: (2, .box 32 [.int .i64 0, .slice 0 true [] none, .int .i64 0, .int .i64 0, .slice 0 true [] none]) :: (1, .box 25 [.str r.user, .str r.client, .str r.tenant, .slice 1 r.ng (r.groups.map fun x => [.str x]) none, .slice 1 r.ns (r.scopes.map fun x => [.str x]) none, .int .i64 r.risk, .bool r.trusted, .int .i64 r.level, .int .i64 r.auth, .int .i64 r.now]) :: [(0, .box 22 [.slice 6 nl (l.map Rule.cs) none])]) (fun pre => True) (dsOf := dsFL l r) (by simp (decide := true) only [W, ↓reduceIte, Int.reduceToNat]; rfl) (by simp [MK]) rfl (it_reasons l nl r hn hnl hl hr) rfl trivial rfl ?_ ?_ ?_ ?_ ?_ ?_ ?_
  · exact fun pre _ _ => capOk2 (CapOk.box 5 22 _ rfl (by simp)) (CapOk.box 6 25 _ rfl (by simp))
  · exact fun _ => ⟨rfl, rfl⟩
  · simp
  · exact dsFL_ok l r
  ·
   intro pre x hpx hI
   obtain ⟨rfl, hlt⟩ := range_pre hpx
   have hfl : FL l r pre.length = firstL r l[pre.length].conds 0 := FL_at hlt
   have hg : (l.map Rule.cs)[pre.length]? = some [.str l[pre.length].name, .bool l[pre.length].deny, .slice 3 l[pre.length].nc (l[pre.length].conds.map Cond.cs) none, .slice 1 l[pre.length].ns (l[pre.length].scopes.map fun x => [.str x]) none, .int .i64 l[pre.length].lvl, .int .i64 l[pre.length].age] := getM hlt
   have hnf := nl_false hnl hlt
   simp (decide := true) only [setPs_two, dsFL, W, List.map_cons, List.map_nil, ↓reduceIte, Int.reduceToNat]
   refine WP.sr [2, 5, 6, 7, 20] (by kernel_rfl) fun K hK => ?_
   simp (decide := true) only [TF, q1, hfl, hg, hnf, rows0_len, ↓reduceIte, Int.reduceToNat]
   refine hK _ _ ?_; clear hK K
   refine WP.region (by kernel_rfl) fun K hK => ?_
   simp (decide := true) only [TF, q1, hfl, hg, hnf, rows0_len, ↓reduceIte, Int.reduceToNat]
   refine hK _ _ ?_; clear hK K
   show _ ∧ Weak _ _ _
   exact ⟨rfl, Weak.store (by simp [St.get, lk, W, Le.refl, hfl, hnf]) (by simp [lk, W, hnf]) (by simp [lk, W]) (by simp [BClo, lk]; exact fun e he d hd => rows0_clo l r _ e he d hd) (by simp [lk, MK])⟩
  ·
   intro pre x hpx hI
   obtain ⟨rfl, hlt⟩ := range_pre hpx
   have hfl : FL l r pre.length = firstL r l[pre.length].conds 0 := FL_at hlt
   have hg : (l.map Rule.cs)[pre.length]? = some [.str l[pre.length].name, .bool l[pre.length].deny, .slice 3 l[pre.length].nc (l[pre.length].conds.map Cond.cs) none, .slice 1 l[pre.length].ns (l[pre.length].scopes.map fun x => [.str x]) none, .int .i64 l[pre.length].lvl, .int .i64 l[pre.length].age] := getM hlt
   have hnf := nl_false hnl hlt
   simp only [List.cons_append, List.nil_append, List.map_cons, List.map_nil]
   refine WP.block ?_
   refine WP.sr [2, 6, 7, 8] (by kernel_rfl) fun K hK => ?_
   simp (decide := true) only [TF, q1, hfl, hg, hnf, rows0_len, ↓reduceIte, Int.reduceToNat]
   repeat (refine ⟨⟨by (try simp only [List.length_append, List.length_map, rows0_len, List.length_take, List.length_drop, List.length_cons, List.length_nil]); omega, by (try simp only [List.length_append, List.length_map, rows0_len, List.length_take, List.length_drop, List.length_cons, List.length_nil]); omega⟩, ?_⟩)
   refine hK _ _ ?_; clear hK K
   refine WP.region (by kernel_rfl) fun K hK => ?_
   refine runOps.take 2 fun J hJ => ?_
   simp (decide := true) only [TF, q1, hfl, hg, hnf, rows0_len, ↓reduceIte, Int.reduceToNat]
   refine hJ _ _ ?_; clear hJ J
   refine runOps.part 30 rfl (fun q2 => ?_) (fun q2 => ?_)
   ·
    simp (decide := true) only [TF, q1, hfl, hg, hnf, q2, rows0_len, ↓reduceIte, Int.reduceToNat]
    refine hK _ _ ?_; clear hK K
    show _ ∧ Weak _ _ _
    refine ⟨trivial, Weak.store (by simp) ?_ (by simp) ?_ (by simp [lk, MK])⟩
    ·
     have hdn := denyB_succ (r := r) hlt
     simp only [okM, q1, hfl, hg, hnf, q2, Bool.false_and, Bool.and_false, Bool.true_and, Bool.and_true, Bool.true_or, Bool.or_true, Bool.false_or, Bool.or_false] at hdn
     simp [lk, isEA, rows0_succ, rows0_len, row0, hfl, hdn, hnf]
    · simp [BClo, lk, -List.length_append]; exact fun e he d hd => rows0_clo l r _ e he d hd
   ·
    refine runOps.take 3 fun J hJ => ?_
    simp (decide := true) only [TF, q1, hfl, hg, hnf, q2, rows0_len, ↓reduceIte, Int.reduceToNat]
    refine hJ _ _ ?_; clear hJ J
    refine runOps.part 33 rfl (fun q3 => ?_) (fun q3 => ?_)
    ·
     simp (decide := true) only [TF, q1, hfl, hg, hnf, q2, q3, rows0_len, ↓reduceIte, Int.reduceToNat]
     refine hK _ _ ?_; clear hK K
     show _ ∧ Weak _ _ _
     refine ⟨trivial, Weak.store (by simp) ?_ (by simp) ?_ (by simp [lk, MK])⟩
     ·
      have hdn := denyB_succ (r := r) hlt
      simp only [okM, q1, hfl, hg, hnf, q2, q3, Bool.false_and, Bool.and_false, Bool.true_and, Bool.and_true, Bool.true_or, Bool.or_true, Bool.false_or, Bool.or_false] at hdn
      simp [lk, isEA, rows0_succ, rows0_len, row0, hfl, hdn, hnf]
     · simp [BClo, lk, -List.length_append]; exact fun e he d hd => rows0_clo l r _ e he d hd
    ·
     simp (decide := true) only [TF, q1, hfl, hg, hnf, q2, q3, rows0_len, ↓reduceIte, Int.reduceToNat]
     refine hK _ _ ?_; clear hK K
     show _ ∧ Weak _ _ _
     refine ⟨trivial, Weak.store (by simp) ?_ (by simp) ?_ (by simp [lk, MK])⟩
     ·
      have hdn := denyB_succ (r := r) hlt
      simp only [okM, q1, hfl, hg, hnf, q2, q3, Bool.false_and, Bool.and_false, Bool.true_and, Bool.and_true, Bool.true_or, Bool.or_true, Bool.false_or, Bool.or_false] at hdn
      simp [lk, isEA, rows0_succ, rows0_len, row0, hfl, hdn, hnf]
     · simp [BClo, lk, -List.length_append]; exact fun e he d hd => rows0_clo l r _ e he d hd
  ·
   intro hI
   simp only [List.length_range, List.take_length, rows0_emp hlen]
   show WP _ _ _ _ _ _
   refine WP.seq ?_
   refine WP.sr [2, 3, 4, 5, 41] (by kernel_rfl) fun K hK => ?_
   simp (decide := true) only [TF, q1, rows0_len, ↓reduceIte, Int.reduceToNat]
   refine hK _ _ ?_; clear hK K
   refine WP.cond (b := _) rfl (fun q4 => ?_) (fun q4 => ?_)
   ·
    have hX := runD_2 hc0 q4
    refine WP.sr [4, 5] (by kernel_rfl) fun K hK => ?_
    simp (decide := true) only [TF, q1, q4, rows0_len, ↓reduceIte, Int.reduceToNat]
    refine hK _ _ ?_; clear hK K
    refine WP.sr [4] (by kernel_rfl) fun K hK => ?_
    simp (decide := true) only [TF, q1, q4, rows0_len, ↓reduceIte, Int.reduceToNat]
    refine hK _ _ ?_; clear hK K
    refine WP.ret ?_
    exact Ends.pure (.inr rfl) rfl ((by rw [hX, isE_pos hlen]; exact Le.agg ⟨Le.refl _, Le.nil _ _ _, Le.refl _, Le.refl _, rows0_le _ _ _ _, trivial⟩)) (by simp)
   ·
    have hc1 := q4
    refine WP.weak (weak_turn (l := l) (nl := nl) (r := r) rfl rfl rfl rfl (by simp [lk]) (by simp [lk]) (by simp [lk, zeroDec]) (by simp [lk]) (by simp [lk])) ?_
    refine WP.skip ?_
    show WP _ _ _ _ _ _
    refine WP.seq ?_
    refine WP.sr [2, 3, 4, 5, 46] (by kernel_rfl) fun K hK => ?_
    simp (decide := true) only [TF, q1, q4, rows0_len, ↓reduceIte, Int.reduceToNat]
    refine CallK.imp (c_permit_at 3 7 (by decide) l nl r hn hnl hl hr hrs) rfl rfl (by simp [lk, BClo, -List.mem_flatten]; exact rows0_cloF l r _) (by simp [lk]) (by simp [lk]) ?_
    simp (decide := true) only [TF, q1, q4, rows0_len, ↓reduceIte, Int.reduceToNat]
    refine hK _ _ ?_; clear hK K
    refine WP.cond (b := _) rfl (fun q5 => ?_) (fun q5 => ?_)
    ·
     have hX := runD_3 hc0 hc1 q5
     refine WP.sr [4, 5] (by kernel_rfl) fun K hK => ?_
     simp (decide := true) only [TF, q1, q4, q5, rows0_len, ↓reduceIte, Int.reduceToNat]
     refine hK _ _ ?_; clear hK K
     refine WP.sr [4] (by kernel_rfl) fun K hK => ?_
     simp (decide := true) only [TF, q1, q4, q5, rows0_len, ↓reduceIte, Int.reduceToNat]
     refine hK _ _ ?_; clear hK K
     refine WP.weak (weak_dec 7 4 2 (.int .i64 1) (.slice 1 (srtR (psR l r).all).isEmpty ((srtR (psR l r).all).map (fun x => [D.str x])) none) (.int .i64 (psR l r).lvl) (.int .i64 (psR l r).age) ((psR l r).rs) l.length (psR_len l r) (by decide) (by simp [St.get, lk, keep, ins]) (by simp [lk]) (by simp [lk, zeroDec]) (by simp)) ?_
     refine WP.ret ?_
     exact Ends.pure (.inr rfl) rfl ((by rw [hX, isE_pos hlen]; dsimp only [dcsD]; rw [← rowsN_cs]; exact Le.refl _)) (by simp)
    ·
     have hX0 := runD_4 hc0 hc1 q5
     have hp0 := psR_none q5
     simp only [hp0]
     refine WP.weak (st' := ⟨[(5, .ref 3 0), (4, .ref 2 0), (3, .ref 1 0), (2, .ref 0 0)], [(7, .arr 36 (rowsN (reasD l r)).flatten), (3, .box 32 [.int .i64 4, .slice 1 true [] none, .int .i64 0, .int .i64 0, .arr 7 3 l.length]), (2, .box 32 [.int .i64 0, .slice 0 true [] none, .int .i64 0, .int .i64 0, .slice 0 true [] none]), (1, .box 25 [.str r.user, .str r.client, .str r.tenant, .slice 1 r.ng (r.groups.map fun x => [.str x]) none, .slice 1 r.ns (r.scopes.map fun x => [.str x]) none, .int .i64 r.risk, .bool r.trusted, .int .i64 r.level, .int .i64 r.auth, .int .i64 r.now]), (0, .box 22 [.slice 6 nl (l.map Rule.cs) none])]⟩) (Weak.store (by simp [St.get, lk, keep, ins, Le.refl]) (by simp [lk, ps0, srtR_nil, reasD, zeroDec]) (by simp [lk]) (by simp [BClo, lk, zeroDec, -List.mem_flatten]; exact rowsN_clo _) (by simp)) ?_
     refine WP.skip ?_
     show WP _ _ _ _ _ _
     refine WP.seq ?_
     refine WP.sr [2, 3, 4, 5, 51] (by kernel_rfl) fun K hK => ?_
     simp (decide := true) only [TF, q1, q4, q5, rows0_len, ↓reduceIte, Int.reduceToNat]
     refine CallK.imp (c_reasons 8 9 (by decide) l nl r) rfl rfl (by simp) (by simp [lk]) (by simp [lk]) ?_
     simp (decide := true) only [TF, q1, q4, q5, rows0_len, ↓reduceIte, Int.reduceToNat]
     refine hK _ _ ?_; clear hK K
     refine WP.block ?_
     refine WP.rf [2, 3, 4, 5] (fun x => [(9, .ref 10 0), (10, .int .i64 (FL l r x))]) (fun pre => (8, .box 22 [.slice 6 nl (l.map Rule.cs) none]) :: (9, .box 25 [.str r.user, .str r.client, .str r.tenant, .slice 1 r.ng (r.groups.map fun x => [.str x]) none, .slice 1 r.ns (r.scopes.map fun x => [.str x]) none, .int .i64 r.risk, .bool r.trusted, .int .i64 r.level, .int .i64 r.auth, .int .i64 r.now]) :: (7, .arr 36 (rowsN (reasD l r)).flatten) :: (3, .box 32 [.int .i64 4, .slice 1 true [] none, .int .i64 0, .int .i64 0, .arr 7 3 l.length]) :: (2, .box 32 [.int .i64 0, .slice 0 true [] none, .int .i64 0, .int .i64 0, .slice 0 true [] none]) :: (1, .box 25 [.str r.user, .str r.client, .str r.tenant, .slice 1 r.ng (r.groups.map fun x => [.str x]) none, .slice 1 r.ns (r.scopes.map fun x => [.str x]) none, .int .i64 r.risk, .bool r.trusted, .int .i64 r.level, .int .i64 r.auth, .int .i64 r.now]) :: [(0, .box 22 [.slice 6 nl (l.map Rule.cs) none])]) (fun pre x => (10, .box 3 [.int .i64 x]) :: (8, .box 22 [.slice 6 nl (l.map Rule.cs) none]) :: (9, .box 25 [.str r.user, .str r.client, .str r.tenant, .slice 1 r.ng (r.groups.map fun x => [.str x]) none, .slice 1 r.ns (r.scopes.map fun x => [.str x]) none, .int .i64 r.risk, .bool r.trusted, .int .i64 r.level, .int .i64 r.auth, .int .i64 r.now]) :: (7, .arr 36 (rowsN (reasD l r)).flatten) :: (3, .box 32 [.int .i64 4, .slice 1 true [] none, .int .i64 0, .int .i64 0, .arr 7 3 l.length]) :: (2, .box 32 [.int .i64 0, .slice 0 true [] none, .int .i64 0, .int .i64 0, .slice 0 true [] none]) :: (1, .box 25 [.str r.user, .str r.client, .str r.tenant, .slice 1 r.ng (r.groups.map fun x => [.str x]) none, .slice 1 r.ns (r.scopes.map fun x => [.str x]) none, .int .i64 r.risk, .bool r.trusted, .int .i64 r.level, .int .i64 r.auth, .int .i64 r.now]) :: [(0, .box 22 [.slice 6 nl (l.map Rule.cs) none])]) (fun pre => stepD r (dec4 l r) l = stepD r (dec4 l r) (l.drop pre.length)) (dsOf := dsFL l r) (by simp (decide := true) only [W, ↓reduceIte, Int.reduceToNat]; rfl) (by simp [MK]) rfl (it_reasons l nl r hn hnl hl hr) rfl (by simp) rfl ?_ ?_ ?_ ?_ ?_ ?_ ?_
     · exact fun pre _ _ => capOk2 (CapOk.box 8 22 _ rfl (by simp)) (CapOk.box 9 25 _ rfl (by simp))
     · exact fun _ => ⟨rfl, rfl⟩
     · simp
     · exact dsFL_ok l r
     ·
      intro pre x hpx hI
      obtain ⟨hxe, hlt⟩ := range_pre hpx
      have hfl : FL l r x = firstL r l[x].conds 0 := FL_at hlt
      rw [← hxe, dropE hlt] at hI
      simp only [stepD] at hI
      have hg : (l.map Rule.cs)[x]? = some [.str l[x].name, .bool l[x].deny, .slice 3 l[x].nc (l[x].conds.map Cond.cs) none, .slice 1 l[x].ns (l[x].scopes.map fun x => [.str x]) none, .int .i64 l[x].lvl, .int .i64 l[x].age] := getM hlt
      have hnf := nl_false hnl hlt
      simp (decide := true) only [setPs_two, dsFL, W, List.map_cons, List.map_nil, ↓reduceIte, Int.reduceToNat]
      refine WP.sr [2, 3, 4, 5, 9, 53] (by kernel_rfl) fun K hK => ?_
      simp (decide := true) only [TF, q1, q4, q5, hfl, hg, hnf, rows0_len, ↓reduceIte, Int.reduceToNat]
      refine hK _ _ ?_; clear hK K
      refine WP.region (by kernel_rfl) fun K hK => ?_
      simp (decide := true) only [TF, q1, q4, q5, hfl, hg, hnf, rows0_len, ↓reduceIte, Int.reduceToNat]
      refine hK _ _ ?_; clear hK K
      show _ ∧ Weak _ _ _
      exact ⟨rfl, Weak.store (by simp [St.get, lk, W, Le.refl, hfl, hnf]) (by simp [lk, W, hnf]) (by simp [lk, W]) (by simp [BClo, lk, zeroDec, -List.mem_flatten]; exact rowsN_clo _) (by simp [lk, MK])⟩
     ·
      intro pre x hpx hI
      obtain ⟨hxe, hlt⟩ := range_pre hpx
      have hfl : FL l r x = firstL r l[x].conds 0 := FL_at hlt
      rw [← hxe, dropE hlt] at hI
      simp only [stepD] at hI
      have hg : (l.map Rule.cs)[x]? = some [.str l[x].name, .bool l[x].deny, .slice 3 l[x].nc (l[x].conds.map Cond.cs) none, .slice 1 l[x].ns (l[x].scopes.map fun x => [.str x]) none, .int .i64 l[x].lvl, .int .i64 l[x].age] := getM hlt
      have hnf := nl_false hnl hlt
      simp only [List.cons_append, List.nil_append, List.map_cons, List.map_nil]
      refine WP.block ?_
      refine WP.sr [2, 4, 5, 9, 69] (by kernel_rfl) fun K hK => ?_
      refine runOps.take 3 fun J hJ => ?_
      simp (decide := true) only [TF, q1, q4, q5, hfl, hg, hnf, rows0_len, ↓reduceIte, Int.reduceToNat]
      refine hJ _ _ ?_; clear hJ J
      refine runOps.part 56 rfl (fun q6 => ?_) (fun q6 => ?_)
      ·
       refine runOps.take 8 fun J hJ => ?_
       simp (decide := true) only [TF, q1, q4, q5, hfl, hg, hnf, q6, rows0_len, ↓reduceIte, Int.reduceToNat]
       refine hJ _ _ ?_; clear hJ J
       refine runOps.part 64 rfl (fun q7 => ?_) (fun q7 => ?_)
       ·
        simp (decide := true) only [TF, q1, q4, q5, hfl, hg, hnf, q6, q7, rows0_len, ↓reduceIte, Int.reduceToNat]
        refine CallK.imp (c_contfunc_at 10 (by decide) l nl hnl hl x hlt r.scopes r.ns hr.2.2.1 hr.2.2.2 hrs) rfl rfl (by simp [lk, BClo, hnf]) (by simp [lk]) (by simp [lk]) ?_
        simp (decide := true) only [TF, q1, q4, q5, hfl, hg, hnf, q6, q7, rows0_len, ↓reduceIte, Int.reduceToNat]
        refine hK _ _ ?_; clear hK K
        refine WP.cond (b := _) rfl (fun q8 => ?_) (fun q8 => ?_)
        ·
         refine WP.sd [4, 5] (by kernel_rfl) (by kernel_rfl) fun K hK => ?_
         simp (decide := true) only [TF, q1, q4, q5, hfl, hg, hnf, q6, q7, q8, rows0_len, ↓reduceIte, Int.reduceToNat]
         refine hK _ _ (by kernel_rfl) ?_
         clear hK K
         refine WP.exit ?_
         show ∃ T', Weak _ _ _ ∧ WP _ _ _ _ _ _
         have hO : okS r l[x] = true := by simp only [okS, okM, q1, q4, q5, hfl, hg, hnf, q6, q7, q8, Bool.false_and, Bool.and_false, Bool.true_and, Bool.and_true, Bool.not_true, Bool.not_false]
         rw [if_pos hO] at hI
         have hX := hX0.trans hI
         refine ⟨(8, .box 22 [.slice 6 nl (l.map Rule.cs) none]) :: (9, .box 25 [.str r.user, .str r.client, .str r.tenant, .slice 1 r.ng (r.groups.map fun x => [.str x]) none, .slice 1 r.ns (r.scopes.map fun x => [.str x]) none, .int .i64 r.risk, .bool r.trusted, .int .i64 r.level, .int .i64 r.auth, .int .i64 r.now]) :: (7, .arr 36 (rowsN (reasD l r)).flatten) :: (3, .box 32 [.int .i64 3, .slice 1 true [] none, .int .i64 l[x].lvl, .int .i64 l[x].age, .arr 7 3 l.length]) :: (2, .box 32 [.int .i64 0, .slice 0 true [] none, .int .i64 0, .int .i64 0, .slice 0 true [] none]) :: (1, .box 25 [.str r.user, .str r.client, .str r.tenant, .slice 1 r.ng (r.groups.map fun x => [.str x]) none, .slice 1 r.ns (r.scopes.map fun x => [.str x]) none, .int .i64 r.risk, .bool r.trusted, .int .i64 r.level, .int .i64 r.auth, .int .i64 r.now]) :: [(0, .box 22 [.slice 6 nl (l.map Rule.cs) none])], Weak.store (by simp) (by simp [lk, q1, q4, q5, hfl, hg, hnf, q6, q7, q8]) (by simp) (by simp [BClo, lk, zeroDec, -List.mem_flatten]; exact rowsN_clo _) (by simp [lk, MK]), ?_⟩
         refine WP.exit ?_
         show WP _ _ _ _ _ _
         refine WP.sr [4] (by kernel_rfl) fun K hK => ?_
         simp (decide := true) only [TF, q1, q4, q5, hfl, hg, hnf, q6, q7, q8, rows0_len, ↓reduceIte, Int.reduceToNat]
         refine hK _ _ ?_; clear hK K
         refine WP.weak (weak_dec 7 4 2 (.int .i64 3) (.slice 1 true [] none) (.int .i64 l[x].lvl) (.int .i64 l[x].age) (reasD l r) l.length (by simp [reasD]) (by decide) (by simp [St.get, lk, keep, ins]) (by simp [lk]) (by simp [lk, zeroDec]) (by simp)) ?_
         refine WP.ret ?_
         exact Ends.pure (.inr rfl) rfl ((by rw [hX, dec4, isE_pos hlen]; dsimp only [dcsD]; rw [← reasD_cs]; exact Le.refl _)) (by simp)
        ·
         refine WP.skip ?_
         show _ ∧ Weak _ _ _
         have hO : okS r l[x] = false := by simp only [okS, okM, q1, q4, q5, hfl, hg, hnf, q6, q7, q8, Bool.false_and, Bool.and_false, Bool.true_and, Bool.and_true, Bool.not_true, Bool.not_false]
         rw [if_neg (by rw [hO]; decide)] at hI
         refine ⟨?_, Weak.store (by simp) (by simp [lk, q1, q4, q5, hfl, hg, hnf, q6, q7, q8]) (by simp [lk]) (by simp [BClo, lk, -List.mem_flatten]; exact rowsN_clo _) (by simp [lk, MK])⟩
         show stepD r (dec4 l r) l = stepD r (dec4 l r) (l.drop (pre ++ [x]).length)
         rw [List.length_append, ← hxe]; exact hI
       ·
        simp (decide := true) only [TF, q1, q4, q5, hfl, hg, hnf, q6, q7, rows0_len, ↓reduceIte, Int.reduceToNat]
        refine hK _ _ ?_; clear hK K
        refine WP.cond (b := false) (by rfl) nofun (fun _ => ?_)
        refine WP.skip ?_
        show _ ∧ Weak _ _ _
        have hO : okS r l[x] = false := by simp only [okS, okM, q1, q4, q5, hfl, hg, hnf, q6, q7, Bool.false_and, Bool.and_false, Bool.true_and, Bool.and_true, Bool.not_true, Bool.not_false]
        rw [if_neg (by rw [hO]; decide)] at hI
        refine ⟨?_, Weak.store (by simp) (by simp [lk, q1, q4, q5, hfl, hg, hnf, q6, q7]) (by simp [lk]) (by simp [BClo, lk, -List.mem_flatten]; exact rowsN_clo _) (by simp [lk, MK])⟩
        show stepD r (dec4 l r) l = stepD r (dec4 l r) (l.drop (pre ++ [x]).length)
        rw [List.length_append, ← hxe]; exact hI
      ·
       simp (decide := true) only [TF, q1, q4, q5, hfl, hg, hnf, q6, rows0_len, ↓reduceIte, Int.reduceToNat]
       refine hK _ _ ?_; clear hK K
       refine WP.cond (b := false) (by rfl) nofun (fun _ => ?_)
       refine WP.skip ?_
       show _ ∧ Weak _ _ _
       have hO : okS r l[x] = false := by simp only [okS, okM, q1, q4, q5, hfl, hg, hnf, q6, Bool.false_and, Bool.and_false, Bool.true_and, Bool.and_true, Bool.not_true, Bool.not_false]
       rw [if_neg (by rw [hO]; decide)] at hI
       refine ⟨?_, Weak.store (by simp) (by simp [lk, q1, q4, q5, hfl, hg, hnf, q6]) (by simp [lk]) (by simp [BClo, lk, -List.mem_flatten]; exact rowsN_clo _) (by simp [lk, MK])⟩
       show stepD r (dec4 l r) l = stepD r (dec4 l r) (l.drop (pre ++ [x]).length)
       rw [List.length_append, ← hxe]; exact hI
     ·
      intro hI
      rw [List.length_range, dropN (Nat.le_refl _)] at hI
      simp only [stepD] at hI
      have hX := hX0.trans hI
      show WP _ _ _ _ _ _
      refine WP.sr [4] (by kernel_rfl) fun K hK => ?_
      simp (decide := true) only [TF, q1, q4, q5, rows0_len, ↓reduceIte, Int.reduceToNat]
      refine hK _ _ ?_; clear hK K
      refine WP.weak (weak_dec 7 4 2 (.int .i64 4) (.slice 1 true [] none) (.int .i64 0) (.int .i64 0) (reasD l r) l.length (by simp [reasD]) (by decide) (by simp [St.get, lk, keep, ins]) (by simp [lk]) (by simp [lk, zeroDec]) (by simp)) ?_
      refine WP.ret ?_
      exact Ends.pure (.inr rfl) rfl ((by rw [hX, dec4, isE_pos hlen]; dsimp only [dcsD]; rw [← reasD_cs]; exact Le.refl _)) (by simp)
end Go.Proofs

set_option linter.unusedSimpArgs false
set_option linter.unusedVariables false
set_option maxRecDepth 10000
namespace Go.Proofs
open Go Go.Id
set_option maxHeartbeats 8000000
end Go.Proofs

set_option linter.unusedSimpArgs false
set_option linter.unusedVariables false
set_option maxRecDepth 10000
namespace Go.Proofs
open Go Go.Id
set_option maxHeartbeats 4000000
theorem grP_nil (r : Req) (s : List UInt8) (k : Nat) : grP r s [] k = -1 := rfl
theorem psR_nil (r : Req) : psR [] r = ps0 [] r := by
 have key : ∀ (ss : List (List UInt8)) (q : PS), ss.foldl (pStep [] r) q = q := by
  intro ss
  induction ss with
  | nil => intro q; rfl
  | cons s ss ih => intro q; rw [List.foldl_cons, pStep_no (by rw [grP_nil]; rfl)]; exact ih q
 exact key _ _
theorem runD_nil (r : Req) : runD [] r = ⟨4, [], true, 0, 0, [], true⟩ := by
 rw [runD_4 (by rfl) rfl (by rw [psR_nil]; rfl)]
 rfl
theorem checkE_nil : (checkE [] != 0) = false := rfl
theorem c_permit0 (nl : Bool) (r : Req) (hr : r.ok) (hrs : ∀ s ∈ r.scopes, s.length ≤ 1099511627776) : CallE Pr 30 [.ref 1 0, .slice 6 nl [] none, .agg [.str r.user, .str r.client, .str r.tenant, .slice 1 r.ng (r.groups.map fun x => [.str x]) none, .slice 1 r.ns (r.scopes.map fun x => [.str x]) none, .int .i64 r.risk, .bool r.trusted, .int .i64 r.level, .int .i64 r.auth, .int .i64 r.now]] [(1, .box 32 [.int .i64 4, .slice 0 true [] none, .int .i64 0, .int .i64 0, .slice 0 true [] none])] (.bool false) [(1, .box 32 [.int .i64 4, .slice 1 true [] none, .int .i64 0, .int .i64 0, .slice 0 true [] none])] := by
 refine CallE.of_wp Tryz.func30 rfl (by kernel_rfl) Tryz.ntmps30 (by simp) ?_
 simp only [frameOf, Nat.reduceAdd, Nat.zero_add, List.map_cons, List.map_nil]
 refine WP.sr [0, 1, 5] (by kernel_rfl) fun K hK => ?_
 simp (decide := true) only [TF, grP_nil, ↓reduceIte, Int.reduceToNat]
 refine hK _ _ ?_; clear hK K
 refine WP.sr [0, 1, 5, 7] (by kernel_rfl) fun K hK => ?_
 simp (decide := true) only [TF, grP_nil, ↓reduceIte, Int.reduceToNat]
 refine hK _ _ ?_; clear hK K
 refine WP.seq ?_
 refine WP.sr [0, 1, 5, 7, 14, 15, 16] (by kernel_rfl) fun K hK => ?_
 simp (decide := true) only [TF, grP_nil, ↓reduceIte, Int.reduceToNat]
 refine hK _ _ ?_; clear hK K
 refine WP.block ?_
 refine WP.lp [0, 1, 5, 14, 15] (X := {k : Nat // k ≤ r.scopes.length}) (fun x => match x with | ⟨(k), _⟩ => [(7, .slice 1 true [] none), (16, .int .i64 k)]) (fun x => match x with | ⟨(k), _⟩ => [(2, .box 25 [.str r.user, .str r.client, .str r.tenant, .slice 1 r.ng (r.groups.map fun x => [.str x]) none, .slice 1 r.ns (r.scopes.map fun x => [.str x]) none, .int .i64 r.risk, .bool r.trusted, .int .i64 r.level, .int .i64 r.auth, .int .i64 r.now]), (1, .box 32 [.int .i64 4, .slice 0 true [] none, .int .i64 0, .int .i64 0, .slice 0 true [] none])]) (fun x => match x with | ⟨(k), _⟩ => r.scopes.length - k) (by simp (decide := true) only [W, ↓reduceIte, Int.reduceToNat]; rfl) ?_ ⟨(0), Nat.zero_le _⟩ ?_
 rotate_left
 · exact Weak.store (by simp [St.get, lk, W, Le.refl, Le.nil, W]) (by simp [lk, W, W]) (by simp [lk, W]) (by simp [BClo, lk]) (by simp [lk])
 rintro ⟨k, hk⟩
 dsimp only
 simp only [List.cons_append, List.nil_append]
 refine WP.sr [0, 1, 5, 7, 14, 15, 16, 17] (by kernel_rfl) fun K hK => ?_
 simp (decide := true) only [TF, hk, grP_nil, ↓reduceIte, Int.reduceToNat]
 refine hK _ _ ?_; clear hK K
 refine WP.seq ?_
 refine WP.cond (b := _) rfl (fun q1 => ?_) (fun q1 => ?_)
 ·
  have hlt := lt_of_q q1
  have hg : (r.scopes.map (fun x => [D.str x]))[k]? = some [.str r.scopes[k]] := getM hlt
  have hnf := nl_false hr.2.2.2 hlt
  have hsk := hrs _ (List.getElem_mem hlt)
  refine WP.skip ?_
  show WP _ _ _ _ _ _
  refine WP.seq ?_
  refine WP.block ?_
  refine WP.sr [0, 1, 5, 7, 9, 14, 15, 16] (by kernel_rfl) fun K hK => ?_
  simp (decide := true) only [TF, hk, q1, hg, hnf, grP_nil, ↓reduceIte, Int.reduceToNat]
  refine hK _ _ ?_; clear hK K
  refine WP.sr [0, 1, 5, 7, 9, 10, 14, 15, 16] (by kernel_rfl) fun K hK => ?_
  simp (decide := true) only [TF, hk, q1, hg, hnf, grP_nil, ↓reduceIte, Int.reduceToNat]
  refine CallK.pure (c_granting [] nl r (by simp) (fun _ => rfl) (by simp) hr r.scopes[k] hsk) rfl (by simp only [hnf]; rfl) (by simp [-List.map_take]) ?_
  simp (decide := true) only [TF, hk, q1, hg, hnf, grP_nil, ↓reduceIte, Int.reduceToNat]
  refine hK _ _ ?_; clear hK K
  refine WP.seq ?_
  refine WP.sr [0, 1, 5, 7, 9, 10, 14, 15, 16, 25] (by kernel_rfl) fun K hK => ?_
  simp (decide := true) only [TF, hk, q1, hg, hnf, grP_nil, ↓reduceIte, Int.reduceToNat]
  refine hK _ _ ?_; clear hK K
  refine WP.cond (b := _) rfl (fun q2 => ?_) (fun q2 => ?_)
  ·
   refine WP.exit ?_
   show WP _ _ _ _ _ _
   refine WP.region (by kernel_rfl) fun K hK => ?_
   simp (decide := true) only [TF, hk, q1, hg, hnf, q2, grP_nil, ↓reduceIte, Int.reduceToNat]
   refine hK _ _ ?_; clear hK K
   show ∃ y, _ ∧ Weak _ _ _
   refine ⟨⟨k + 1, hlt⟩, by dsimp only; omega, ?_⟩
   exact Weak.store (by simp [St.get, lk, W, Le.refl, hk, q1, hg, hnf, q2, wrapS hlt (show r.scopes.length ≤ 140737488355328 by have := hr.2.2.1; omega)]) (by simp [lk, W, hk, q1, hg, hnf, q2]) (by simp [lk, W]) (by simp [BClo, lk]) (by simp [lk])
  ·
   cases q2
 ·
  have hge := ge_of_q q1
  refine WP.exit ?_
  show WP _ _ _ _ _ _
  refine WP.sr [7] (by kernel_rfl) fun K hK => ?_
  simp (decide := true) only [TF, hk, q1, grP_nil, ↓reduceIte, Int.reduceToNat]
  refine CallK.pure (c_sorted [] true (by simp) (fun _ => rfl) (by simp)) rfl rfl (by simp [-List.map_take]) ?_
  simp (decide := true) only [TF, hk, q1, grP_nil, ↓reduceIte, Int.reduceToNat]
  refine hK _ _ ?_; clear hK K
  refine WP.sr [6] (by kernel_rfl) fun K hK => ?_
  simp (decide := true) only [TF, hk, q1, grP_nil, ↓reduceIte, Int.reduceToNat]
  refine hK _ _ ?_; clear hK K
  refine WP.ret ?_
  refine Ends.imp (.inr rfl) rfl (Le.of_eq (by simp_all [St.get, lk, W, LN, bne])) ?_ ?_ ?_
  · simp
  · simp [St.get, lk, W, BClo, srtR_nil]
  · simp [lk]
theorem c_permit0_at (b : Nat) (nl : Bool) (r : Req) (hr : r.ok) (hrs : ∀ s ∈ r.scopes, s.length ≤ 1099511627776) : CallE Pr 30 [.ref b 0, .slice 6 nl [] none, .agg [.str r.user, .str r.client, .str r.tenant, .slice 1 r.ng (r.groups.map fun x => [.str x]) none, .slice 1 r.ns (r.scopes.map fun x => [.str x]) none, .int .i64 r.risk, .bool r.trusted, .int .i64 r.level, .int .i64 r.auth, .int .i64 r.now]] [(b, .box 32 [.int .i64 4, .slice 0 true [] none, .int .i64 0, .int .i64 0, .slice 0 true [] none])] (.bool false) [(b, .box 32 [.int .i64 4, .slice 1 true [] none, .int .i64 0, .int .i64 0, .slice 0 true [] none])] := by
 obtain ⟨f, g, h1, h2⟩ := ren_ex [b + 1, b] (by simp)
 have := CallE.rename h1 (c_permit0 nl r hr hrs)
 have f1 : f 1 = b := h2 1 b rfl
 simpa only [List.map_cons, List.map_nil, renS, renB, renL, renLL, renD, ren_sl, Option.map_none, f1] using this
theorem c_run0 (nl : Bool) (r : Req) (hr : r.ok) (hrs : ∀ s ∈ r.scopes, s.length ≤ 1099511627776) : CallP Pr 12 [.slice 6 nl [] none, .agg [.str r.user, .str r.client, .str r.tenant, .slice 1 r.ng (r.groups.map fun x => [.str x]) none, .slice 1 r.ns (r.scopes.map fun x => [.str x]) none, .int .i64 r.risk, .bool r.trusted, .int .i64 r.level, .int .i64 r.auth, .int .i64 r.now]] (.agg (dcsD (runD [] r))) := by
 refine CallP.of_wp Tryz.func12 rfl (by kernel_rfl) Tryz.ntmps12 (by simp) ?_
 simp only [frameOf, Nat.reduceAdd, Nat.zero_add]
 refine WP.sr [2, 3, 4] (by kernel_rfl) fun K hK => ?_
 simp (decide := true) only [TF, checkE_nil, ↓reduceIte, Int.reduceToNat]
 refine hK _ _ ?_; clear hK K
 refine WP.seq ?_
 refine WP.sr [2, 3, 4, 13] (by kernel_rfl) fun K hK => ?_
 simp (decide := true) only [TF, checkE_nil, ↓reduceIte, Int.reduceToNat]
 refine CallK.pure (c_check [] nl (by simp) (fun _ => rfl) (by simp)) rfl rfl (by simp [-List.map_take]) ?_
 simp (decide := true) only [TF, checkE_nil, ↓reduceIte, Int.reduceToNat]
 refine hK _ _ ?_; clear hK K
 refine WP.cond (b := _) rfl (fun q1 => ?_) (fun q1 => ?_)
 ·
  cases q1
 ·
  refine WP.skip ?_
  show WP _ _ _ _ _ _
  refine WP.sr [2, 3, 4, 5] (by kernel_rfl) fun K hK => ?_
  simp (decide := true) only [TF, q1, checkE_nil, ↓reduceIte, Int.reduceToNat]
  refine hK _ _ ?_; clear hK K
  refine WP.sr [2, 3, 4, 5, 6] (by kernel_rfl) fun K hK => ?_
  simp (decide := true) only [TF, q1, checkE_nil, ↓reduceIte, Int.reduceToNat]
  refine hK _ _ ?_; clear hK K
  refine WP.seq ?_
  refine WP.sr [2, 3, 4, 5, 6, 18] (by kernel_rfl) fun K hK => ?_
  simp (decide := true) only [TF, q1, checkE_nil, ↓reduceIte, Int.reduceToNat]
  refine CallK.imp (c_reasons 5 6 (by decide) [] nl r) rfl rfl (by simp) (by simp [lk]) (by simp [lk]) ?_
  simp (decide := true) only [TF, q1, checkE_nil, ↓reduceIte, Int.reduceToNat]
  refine hK _ _ ?_; clear hK K
  refine WP.block ?_
  refine WP.rf [2, 5, 6] (fun x => [(7, .int .i64 x), (8, .int .i64 (FL [] r x))]) (fun pre => (5, .box 22 [.slice 6 nl [] none]) :: (6, .box 25 [.str r.user, .str r.client, .str r.tenant, .slice 1 r.ng (r.groups.map fun x => [.str x]) none, .slice 1 r.ns (r.scopes.map fun x => [.str x]) none, .int .i64 r.risk, .bool r.trusted, .int .i64 r.level, .int .i64 r.auth, .int .i64 r.now]) :: (4, .box 4 [.bool false]) :: (3, .box 32 [.int .i64 4, .slice 0 true [] none, .int .i64 0, .int .i64 0, .slice 0 true [] none]) :: (2, .box 32 [.int .i64 0, .slice 0 true [] none, .int .i64 0, .int .i64 0, .slice 0 true [] none]) :: (1, .box 25 [.str r.user, .str r.client, .str r.tenant, .slice 1 r.ng (r.groups.map fun x => [.str x]) none, .slice 1 r.ns (r.scopes.map fun x => [.str x]) none, .int .i64 r.risk, .bool r.trusted, .int .i64 r.level, .int .i64 r.auth, .int .i64 r.now]) :: [(0, .box 22 [.slice 6 nl [] none])]) (fun pre x => (5, .box 22 [.slice 6 nl [] none]) :: (6, .box 25 [.str r.user, .str r.client, .str r.tenant, .slice 1 r.ng (r.groups.map fun x => [.str x]) none, .slice 1 r.ns (r.scopes.map fun x => [.str x]) none, .int .i64 r.risk, .bool r.trusted, .int .i64 r.level, .int .i64 r.auth, .int .i64 r.now]) :: (4, .box 4 [.bool false]) :: (3, .box 32 [.int .i64 4, .slice 0 true [] none, .int .i64 0, .int .i64 0, .slice 0 true [] none]) :: (2, .box 32 [.int .i64 0, .slice 0 true [] none, .int .i64 0, .int .i64 0, .slice 0 true [] none]) :: (1, .box 25 [.str r.user, .str r.client, .str r.tenant, .slice 1 r.ng (r.groups.map fun x => [.str x]) none, .slice 1 r.ns (r.scopes.map fun x => [.str x]) none, .int .i64 r.risk, .bool r.trusted, .int .i64 r.level, .int .i64 r.auth, .int .i64 r.now]) :: [(0, .box 22 [.slice 6 nl [] none])]) (fun pre => True) (dsOf := dsFL [] r) (by simp (decide := true) only [W, ↓reduceIte, Int.reduceToNat]; rfl) (by simp [MK]) rfl (it_reasons [] nl r (by simp) (fun _ => rfl) (by simp) hr) rfl trivial rfl ?_ ?_ ?_ ?_ ?_ ?_ ?_
  · exact fun pre _ _ => capOk2 (CapOk.box 5 22 _ rfl (by simp)) (CapOk.box 6 25 _ rfl (by simp))
  · exact fun _ => ⟨rfl, rfl⟩
  · simp
  · exact dsFL_ok [] r
  · exact fun pre x hpx hI => absurd hpx.length_le (by simp)
  · exact fun pre x hpx hI => absurd hpx.length_le (by simp)
  ·
   intro hI
   show WP _ _ _ _ _ _
   refine WP.seq ?_
   refine WP.sr [2, 3, 4, 5, 41] (by kernel_rfl) fun K hK => ?_
   simp (decide := true) only [TF, q1, checkE_nil, ↓reduceIte, Int.reduceToNat]
   refine hK _ _ ?_; clear hK K
   refine WP.cond (b := _) rfl (fun q2 => ?_) (fun q2 => ?_)
   ·
    cases q2
   ·
    refine WP.skip ?_
    show WP _ _ _ _ _ _
    refine WP.seq ?_
    refine WP.sr [2, 3, 4, 5, 46] (by kernel_rfl) fun K hK => ?_
    simp (decide := true) only [TF, q1, q2, checkE_nil, ↓reduceIte, Int.reduceToNat]
    refine CallK.imp (c_permit0_at 3 nl r hr hrs) rfl rfl (by simp [lk, BClo]) (by simp [lk]) (by simp [lk]) ?_
    simp (decide := true) only [TF, q1, q2, checkE_nil, ↓reduceIte, Int.reduceToNat]
    refine hK _ _ ?_; clear hK K
    refine WP.cond (b := _) rfl (fun q3 => ?_) (fun q3 => ?_)
    ·
     cases q3
    ·
     refine WP.skip ?_
     show WP _ _ _ _ _ _
     refine WP.seq ?_
     refine WP.sr [2, 3, 4, 5, 51] (by kernel_rfl) fun K hK => ?_
     simp (decide := true) only [TF, q1, q2, q3, checkE_nil, ↓reduceIte, Int.reduceToNat]
     refine CallK.imp (c_reasons 7 8 (by decide) [] nl r) rfl rfl (by simp) (by simp [lk]) (by simp [lk]) ?_
     simp (decide := true) only [TF, q1, q2, q3, checkE_nil, ↓reduceIte, Int.reduceToNat]
     refine hK _ _ ?_; clear hK K
     refine WP.block ?_
     refine WP.rf [2, 3, 4, 5] (fun x => [(9, .ref 9 0), (10, .int .i64 (FL [] r x))]) (fun pre => (7, .box 22 [.slice 6 nl [] none]) :: (8, .box 25 [.str r.user, .str r.client, .str r.tenant, .slice 1 r.ng (r.groups.map fun x => [.str x]) none, .slice 1 r.ns (r.scopes.map fun x => [.str x]) none, .int .i64 r.risk, .bool r.trusted, .int .i64 r.level, .int .i64 r.auth, .int .i64 r.now]) :: (3, .box 32 [.int .i64 4, .slice 1 true [] none, .int .i64 0, .int .i64 0, .slice 0 true [] none]) :: (5, .box 22 [.slice 6 nl [] none]) :: (6, .box 25 [.str r.user, .str r.client, .str r.tenant, .slice 1 r.ng (r.groups.map fun x => [.str x]) none, .slice 1 r.ns (r.scopes.map fun x => [.str x]) none, .int .i64 r.risk, .bool r.trusted, .int .i64 r.level, .int .i64 r.auth, .int .i64 r.now]) :: (4, .box 4 [.bool false]) :: (2, .box 32 [.int .i64 0, .slice 0 true [] none, .int .i64 0, .int .i64 0, .slice 0 true [] none]) :: (1, .box 25 [.str r.user, .str r.client, .str r.tenant, .slice 1 r.ng (r.groups.map fun x => [.str x]) none, .slice 1 r.ns (r.scopes.map fun x => [.str x]) none, .int .i64 r.risk, .bool r.trusted, .int .i64 r.level, .int .i64 r.auth, .int .i64 r.now]) :: [(0, .box 22 [.slice 6 nl [] none])]) (fun pre x => (7, .box 22 [.slice 6 nl [] none]) :: (8, .box 25 [.str r.user, .str r.client, .str r.tenant, .slice 1 r.ng (r.groups.map fun x => [.str x]) none, .slice 1 r.ns (r.scopes.map fun x => [.str x]) none, .int .i64 r.risk, .bool r.trusted, .int .i64 r.level, .int .i64 r.auth, .int .i64 r.now]) :: (3, .box 32 [.int .i64 4, .slice 1 true [] none, .int .i64 0, .int .i64 0, .slice 0 true [] none]) :: (5, .box 22 [.slice 6 nl [] none]) :: (6, .box 25 [.str r.user, .str r.client, .str r.tenant, .slice 1 r.ng (r.groups.map fun x => [.str x]) none, .slice 1 r.ns (r.scopes.map fun x => [.str x]) none, .int .i64 r.risk, .bool r.trusted, .int .i64 r.level, .int .i64 r.auth, .int .i64 r.now]) :: (4, .box 4 [.bool false]) :: (2, .box 32 [.int .i64 0, .slice 0 true [] none, .int .i64 0, .int .i64 0, .slice 0 true [] none]) :: (1, .box 25 [.str r.user, .str r.client, .str r.tenant, .slice 1 r.ng (r.groups.map fun x => [.str x]) none, .slice 1 r.ns (r.scopes.map fun x => [.str x]) none, .int .i64 r.risk, .bool r.trusted, .int .i64 r.level, .int .i64 r.auth, .int .i64 r.now]) :: [(0, .box 22 [.slice 6 nl [] none])]) (fun pre => True) (dsOf := dsFL [] r) (by simp (decide := true) only [W, ↓reduceIte, Int.reduceToNat]; rfl) (by simp [MK]) rfl (it_reasons [] nl r (by simp) (fun _ => rfl) (by simp) hr) rfl trivial rfl ?_ ?_ ?_ ?_ ?_ ?_ ?_
     · exact fun pre _ _ => capOk2 (CapOk.box 7 22 _ rfl (by simp)) (CapOk.box 8 25 _ rfl (by simp))
     · exact fun _ => ⟨rfl, rfl⟩
     · simp
     · exact dsFL_ok [] r
     · exact fun pre x hpx hI => absurd hpx.length_le (by simp)
     · exact fun pre x hpx hI => absurd hpx.length_le (by simp)
     ·
      intro hI
      show WP _ _ _ _ _ _
      refine WP.sr [4] (by kernel_rfl) fun K hK => ?_
      simp (decide := true) only [TF, q1, q2, q3, checkE_nil, ↓reduceIte, Int.reduceToNat]
      refine hK _ _ ?_; clear hK K
      refine WP.ret ?_
      exact Ends.pure (.inr rfl) rfl ((by rw [runD_nil]; exact Le.agg ⟨Le.refl _, Le.refl _, Le.refl _, Le.refl _, Le.nil _ _ _, trivial⟩)) (by simp)
end Go.Proofs

set_option linter.unusedSimpArgs false
set_option linter.unusedVariables false
set_option maxRecDepth 10000
namespace Go.Proofs
open Go Go.Id
set_option maxHeartbeats 4000000
theorem c_run (l : List Rule) (nl : Bool) (r : Req) (hn : l.length ≤ 1099511627776) (hnl : nl = true → l = []) (hl : ∀ p ∈ l, p.ok) (hr : r.ok) (hrs : ∀ s ∈ r.scopes, s.length ≤ 1099511627776) : CallP Pr 12 [.slice 6 nl (l.map Rule.cs) none, .agg [.str r.user, .str r.client, .str r.tenant, .slice 1 r.ng (r.groups.map fun x => [.str x]) none, .slice 1 r.ns (r.scopes.map fun x => [.str x]) none, .int .i64 r.risk, .bool r.trusted, .int .i64 r.level, .int .i64 r.auth, .int .i64 r.now]] (.agg (dcsD (runD l r))) := by
 cases l with
 | nil => exact c_run0 nl r hr hrs
 | cons p l => exact c_run1 (p :: l) nl r hn hnl hl hr hrs (by simp)
/-- The request after an authentication at a level. -/
def aftR (r : Req) (n : Int) : Req := { r with level := if n > r.level then n else r.level, auth := r.now }
theorem c_after (l : List Rule) (nl : Bool) (r : Req) (hn : l.length ≤ 1099511627776) (hnl : nl = true → l = []) (hl : ∀ p ∈ l, p.ok) (hr : r.ok) (hrs : ∀ s ∈ r.scopes, s.length ≤ 1099511627776) (n : Int) : CallP Pr 20 [.slice 6 nl (l.map Rule.cs) none, .agg [.str r.user, .str r.client, .str r.tenant, .slice 1 r.ng (r.groups.map fun x => [.str x]) none, .slice 1 r.ns (r.scopes.map fun x => [.str x]) none, .int .i64 r.risk, .bool r.trusted, .int .i64 r.level, .int .i64 r.auth, .int .i64 r.now], .int .i64 n] (.agg (dcsD (runD l (aftR r n)))) := by
 refine CallP.of_wp Tryz.func20 rfl (by kernel_rfl) Tryz.ntmps20 (by simp) ?_
 simp only [frameOf, Nat.reduceAdd, Nat.zero_add]
 refine WP.sr [0, 2, 4, 6] (by kernel_rfl) fun K hK => ?_
 simp (decide := true) only [TF, ↓reduceIte, Int.reduceToNat]
 refine hK _ _ ?_; clear hK K
 refine WP.sr [0, 4, 6] (by kernel_rfl) fun K hK => ?_
 simp (decide := true) only [TF, ↓reduceIte, Int.reduceToNat]
 refine hK _ _ ?_; clear hK K
 refine WP.sr [6] (by kernel_rfl) fun K hK => ?_
 simp (decide := true) only [TF, ↓reduceIte, Int.reduceToNat]
 refine CallK.pure (c_run l nl (aftR r n) hn hnl hl hr hrs) rfl rfl (by simp [-List.map_take]) ?_
 simp (decide := true) only [TF, ↓reduceIte, Int.reduceToNat]
 refine hK _ _ ?_; clear hK K
 refine WP.ret ?_
 exact Ends.pure (.inr rfl) rfl (Le.refl _) (by simp)
end Go.Proofs

set_option linter.unusedSimpArgs false
set_option linter.unusedVariables false
namespace Go.Proofs
open Go Go.Id
/-- The conditions of a rule that are looked at. -/
def exC (r : Req) (p : Rule) : List Cond := if decide (firstL r p.conds 0 ≥ 0) = true then p.conds.take ((firstL r p.conds 0).toNat + 1) else p.conds
def fieldsL (l : List Rule) (r : Req) : List (List UInt8) := l.flatMap fun p => (exC r p).map Cond.f
def chgR (l : List Rule) (r : Req) : List (List UInt8) := if (checkE l != 0) = true then [] else ascL (fieldsL l r)
theorem exC_t {r : Req} {p : Rule} (h : decide (firstL r p.conds 0 ≥ 0) = true) : exC r p = p.conds.take ((firstL r p.conds 0).toNat + 1) := by unfold exC; rw [if_pos h]
theorem exC_f {r : Req} {p : Rule} (h : decide (firstL r p.conds 0 ≥ 0) = false) : exC r p = p.conds := by unfold exC; rw [if_neg (by rw [h]; decide)]
theorem exC_len (r : Req) (p : Rule) : (exC r p).length ≤ p.conds.length := by
  unfold exC; split
  · simp; omega
  · exact Nat.le_refl _
theorem fields_succ {l : List Rule} {r : Req} {k : Nat} (h : k < l.length) : fieldsL (l.take (k + 1)) r = fieldsL (l.take k) r ++ (exC r l[k]).map Cond.f := by
  unfold fieldsL; rw [takeS h, List.flatMap_append]; simp
theorem chk_conds : ∀ (l seen : List Rule), chkL seen l = 0 → ∀ p ∈ l, p.conds.length ≤ 8
  | [], _, _, p, hp => by simp at hp
  | q :: l, seen, h, p, hp => by
    unfold chkL at h
    split at h
    · rename_i e; simp at e; exact absurd h e
    · rename_i e
      rcases List.mem_cons.1 hp with rfl | hp
      · simp only [bne_iff_ne, ne_eq, Decidable.not_not] at e
        unfold ruleAt at e
        split at e
        · cases e
        split at e
        · cases e
        unfold ruleErrB at e
        split at e
        · cases e
        · rename_i w; simp at w; omega
      · exact chk_conds l _ h p hp
theorem check_len {l : List Rule} (h : (checkE l != 0) = false) : l.length ≤ 64 ∧ ∀ p ∈ l, p.conds.length ≤ 8 := by
  simp only [bne_eq_false_iff_eq] at h
  unfold checkE at h
  split at h
  · cases h
  · rename_i w; simp at w; exact ⟨by omega, chk_conds l [] h⟩
theorem fields_le (r : Req) : ∀ (l : List Rule), (∀ p ∈ l, p.conds.length ≤ 8) → (fieldsL l r).length ≤ 8 * l.length
  | [], _ => by simp [fieldsL]
  | p :: l, h => by
    have h1 := fields_le r l fun q hq => h q (List.mem_cons_of_mem _ hq)
    have h2 := h p (by simp)
    have h3 := exC_len r p
    have : fieldsL (p :: l) r = (exC r p).map Cond.f ++ fieldsL l r := by simp [fieldsL]
    rw [this]; simp; omega
theorem fields_512 {l : List Rule} {r : Req} (h : (checkE l != 0) = false) : (fieldsL l r).length ≤ 512 := by
  obtain ⟨h1, h2⟩ := check_len h
  have := fields_le r l h2
  omega
abbrev MapE := List (List UInt8 × D × Nat)
def msE (fs : List (List UInt8)) : MapE × Nat := fs.foldl (fun q f => (putE q.1 q.2 f (.bool true), putC q.1 q.2 f)) ([], 0)
theorem msE_snoc (fs : List (List UInt8)) (f : List UInt8) : msE (fs ++ [f]) = (putE (msE fs).1 (msE fs).2 f (.bool true), putC (msE fs).1 (msE fs).2 f) := by simp [msE]
theorem findM_none : ∀ {es : MapE} {s : List UInt8}, findM es s = none → s ∉ es.map (·.1)
  | [], _, _ => by simp
  | (k, d, n) :: es, s, h => by
    unfold findM at h
    split at h
    · cases h
    · rename_i e; simp only [List.map_cons, List.mem_cons, not_or]; exact ⟨e, findM_none h⟩
theorem findM_some : ∀ {es : MapE} {s : List UInt8} {d : D}, findM es s = some d → s ∈ es.map (·.1)
  | [], _, _, h => by cases h
  | (k, d, n) :: es, s, d', h => by
    unfold findM at h
    split at h
    · rename_i e; simp [e]
    · simp only [List.map_cons, List.mem_cons]; exact .inr (findM_some h)
theorem setM_keys : ∀ (es : MapE) (s : List UInt8) (x : D), (setM es s x).map (·.1) = es.map (·.1)
  | [], _, _ => rfl
  | (k, d, n) :: es, s, x => by unfold setM; split <;> simp [setM_keys es s x]
theorem setM_born : ∀ (es : MapE) (s : List UInt8) (x : D), (setM es s x).map (·.2.2) = es.map (·.2.2)
  | [], _, _ => rfl
  | (k, d, n) :: es, s, x => by unfold setM; split <;> simp [setM_born es s x]
theorem setM_vals : ∀ (es : MapE) (s : List UInt8), (∀ e ∈ es, e.2.1 = .bool true) → ∀ e ∈ setM es s (.bool true), e.2.1 = .bool true
  | [], _, _, e, he => by simp [setM] at he
  | (k, d, n) :: es, s, h, e, he => by
    unfold setM at he
    split at he
    · rcases List.mem_cons.1 he with rfl | he
      · rfl
      · exact h e (List.mem_cons_of_mem _ he)
    · rcases List.mem_cons.1 he with rfl | he
      · exact h _ (by simp)
      · exact setM_vals es s (fun e he => h e (List.mem_cons_of_mem _ he)) e he
/-- A map laid by updates alone. -/
structure MsOk (q : MapE × Nat) (fs : List (List UInt8)) : Prop where
  keys : (q.1.map (·.1)).Nodup
  mem : ∀ x, x ∈ q.1.map (·.1) ↔ x ∈ fs
  born : (q.1.map (·.2.2)).Nodup
  lt : ∀ e ∈ q.1, e.2.2 < q.2
  val : ∀ e ∈ q.1, e.2.1 = .bool true
theorem MsOk.put {q : MapE × Nat} {fs : List (List UInt8)} (h : MsOk q fs) (f : List UInt8) : MsOk (putE q.1 q.2 f (.bool true), putC q.1 q.2 f) (fs ++ [f]) := by
  unfold putE putC
  cases hf : findM q.1 f with
  | some d =>
    have hm := (h.mem f).1 (findM_some hf)
    refine ⟨by dsimp only; rw [setM_keys]; exact h.keys, fun x => ?_, by dsimp only; rw [setM_born]; exact h.born, fun e he => ?_, setM_vals _ _ h.val⟩
    · dsimp only; rw [setM_keys, h.mem, List.mem_append, List.mem_singleton]
      exact ⟨.inl, fun h => h.elim id fun e => e ▸ hm⟩
    · have : e.2.2 ∈ (setM q.1 f (.bool true)).map (·.2.2) := List.mem_map_of_mem he
      rw [setM_born, List.mem_map] at this
      obtain ⟨y, hy, hye⟩ := this
      dsimp only; rw [← hye]; exact h.lt y hy
  | none =>
    have hn := findM_none hf
    refine ⟨?_, fun x => ?_, ?_, fun e he => ?_, fun e he => ?_⟩
    · dsimp only; rw [List.map_append, List.nodup_append]
      exact ⟨h.keys, by simp, fun a ha b hb => by simp at hb; subst hb; exact fun e => hn (e ▸ ha)⟩
    · dsimp only; rw [List.map_append, List.mem_append, h.mem]; simp
    · dsimp only; rw [List.map_append, List.nodup_append]
      refine ⟨h.born, by simp, fun a ha b hb => ?_⟩
      simp at hb; subst hb
      obtain ⟨y, hy, rfl⟩ := List.mem_map.1 ha
      exact Nat.ne_of_lt (h.lt y hy)
    · rcases List.mem_append.1 he with he | he
      · have := h.lt e he; dsimp only; omega
      · simp at he; subst he; dsimp only; omega
    · rcases List.mem_append.1 he with he | he
      · exact h.val e he
      · simp at he; subst he; rfl
theorem msE_ok (fs : List (List UInt8)) : MsOk (msE fs) fs := by
  have key : ∀ (gs : List (List UInt8)) (q : MapE × Nat) (fs : List (List UInt8)), MsOk q fs → MsOk (gs.foldl (fun q f => (putE q.1 q.2 f (.bool true), putC q.1 q.2 f)) q) (fs ++ gs) := by
    intro gs
    induction gs with
    | nil => intro q fs h; simpa using h
    | cons g gs ih => intro q fs h; rw [List.foldl_cons, show fs ++ g :: gs = (fs ++ [g]) ++ gs by simp]; exact ih _ _ (h.put g)
  exact key fs ([], 0) [] ⟨by simp, by simp, by simp, by simp, by simp⟩
theorem exC_step {r : Req} {p : Rule} {j : Nat} (h : j < (exC r p).length) (hc : j < p.conds.length) : ((exC r p).take (j + 1)).map Cond.f = ((exC r p).take j).map Cond.f ++ [p.conds[j].f] := by
  rw [takeS h, List.map_append]
  congr 2
  simp only [List.map_cons, List.map_nil, exC] at h ⊢
  split
  · simp
  · rfl
theorem exC_in1 {r : Req} {p : Rule} {j : Nat} (hc : j < p.conds.length) (h : decide (firstL r p.conds 0 < 0) = true) : j < (exC r p).length := by
  rw [exC_f (by simp at h ⊢; omega)]; exact hc
theorem exC_in2 {r : Req} {p : Rule} {j : Nat} (hc : j < p.conds.length) (h : decide (firstL r p.conds 0 < 0) = false) (hj : decide ((j : Int) ≤ firstL r p.conds 0) = true) : j < (exC r p).length := by
  have h1 := of_decide_eq_true hj
  rw [exC_t (by simp at h ⊢; omega)]; simp; omega
theorem exC_out1 {r : Req} {p : Rule} {j : Nat} (hc : p.conds.length ≤ j) : (exC r p).length ≤ j := Nat.le_trans (exC_len r p) hc
theorem exC_out2 {r : Req} {p : Rule} {j : Nat} (h : decide (firstL r p.conds 0 < 0) = false) (hj : decide ((j : Int) ≤ firstL r p.conds 0) = false) : (exC r p).length ≤ j := by
  have h1 := of_decide_eq_false hj
  have h2 := of_decide_eq_false h
  rw [exC_t (by simp at h ⊢; omega)]; simp; omega
theorem fields_cnt {l : List Rule} {r : Req} {k : Nat} (h : (checkE l != 0) = false) : (fieldsL (l.take k) r).length ≤ 512 := by
  obtain ⟨h1, h2⟩ := check_len h
  have := fields_le r (l.take k) fun p hp => h2 p (List.mem_of_mem_take hp)
  have : (l.take k).length ≤ l.length := by simp; omega
  omega
/-- What has come of a map's keys. -/
structure MI (es : MapE) (seen : List Nat) (ks : List (List UInt8)) : Prop where
  nodup : ks.Nodup
  old : ∀ k ∈ ks, ∃ d n, (k, d, n) ∈ es ∧ n ∈ seen
  all : ∀ e ∈ es, e.2.2 ∈ seen → e.1 ∈ ks
theorem MI.nil (es : MapE) : MI es [] [] := ⟨by simp, by simp, by simp⟩
theorem nodup_key {es : MapE} (h : (es.map (·.1)).Nodup) {e f : List UInt8 × D × Nat} (he : e ∈ es) (hf : f ∈ es) (hk : e.1 = f.1) : e = f := by
  obtain ⟨i, hi, rfl⟩ := List.mem_iff_getElem.1 he
  obtain ⟨j, hj, rfl⟩ := List.mem_iff_getElem.1 hf
  have := (List.getElem_inj (i := i) (j := j) (h₀ := by simpa using hi) (h₁ := by simpa using hj) h).1 (by simpa using hk)
  subst this; rfl
theorem nodup_born {es : MapE} (h : (es.map (·.2.2)).Nodup) {e f : List UInt8 × D × Nat} (he : e ∈ es) (hf : f ∈ es) (hk : e.2.2 = f.2.2) : e = f := by
  obtain ⟨i, hi, rfl⟩ := List.mem_iff_getElem.1 he
  obtain ⟨j, hj, rfl⟩ := List.mem_iff_getElem.1 hf
  have := (List.getElem_inj (i := i) (j := j) (h₀ := by simpa using hi) (h₁ := by simpa using hj) h).1 (by simpa using hk)
  subst this; rfl
theorem left_mem {es : MapE} {seen : List Nat} {e : List UInt8 × D × Nat} (h : e ∈ leftM es seen) : e ∈ es ∧ e.2.2 ∉ seen := by
  unfold leftM at h
  rw [List.mem_filter] at h
  exact ⟨h.1, by simpa using h.2⟩
theorem MI.next {q : MapE × Nat} {fs : List (List UInt8)} (hq : MsOk q fs) {seen : List Nat} {ks : List (List UInt8)} (h : MI q.1 seen ks) {e : List UInt8 × D × Nat} (he : e ∈ leftM q.1 seen) : MI q.1 (seen ++ [e.2.2]) (ks ++ [e.1]) := by
  obtain ⟨h1, h2⟩ := left_mem he
  refine ⟨?_, fun k hk => ?_, fun f hf hfs => ?_⟩
  · rw [List.nodup_append]
    refine ⟨h.nodup, by simp, fun a ha b hb => ?_⟩
    simp at hb; subst hb
    rintro rfl
    obtain ⟨d, n, h3, h4⟩ := h.old _ ha
    have := nodup_key hq.keys h1 h3 rfl
    exact h2 (by rw [this]; exact h4)
  · rcases List.mem_append.1 hk with hk | hk
    · obtain ⟨d, n, h3, h4⟩ := h.old k hk; exact ⟨d, n, h3, by simp [h4]⟩
    · simp at hk; subst hk; exact ⟨e.2.1, e.2.2, h1, by simp⟩
  · rcases List.mem_append.1 hfs with hfs | hfs
    · exact List.mem_append_left _ (h.all f hf hfs)
    · simp at hfs
      have := nodup_born hq.born hf h1 hfs
      subst this; simp
theorem left_lt {es : MapE} {seen : List Nat} {e : List UInt8 × D × Nat} (h : e ∈ leftM es seen) : (leftM es (seen ++ [e.2.2])).length < (leftM es seen).length := by
  have e1 : leftM es (seen ++ [e.2.2]) = (leftM es seen).filter fun x => !(x.2.2 == e.2.2) := by
    unfold leftM
    rw [List.filter_filter]
    congr 1; funext x
    simp only [List.contains_eq_mem, List.mem_append, List.mem_singleton]
    by_cases a : x.2.2 ∈ seen <;> by_cases b : x.2.2 = e.2.2 <;> simp [a, b]
  rw [e1, List.length_filter_lt_length_iff_exists]
  exact ⟨e, h, by simp⟩
theorem nodup_len {α : Type} [BEq α] [LawfulBEq α] : ∀ {a b : List α}, a.Nodup → (∀ x ∈ a, x ∈ b) → a.length ≤ b.length
  | [], b, _, _ => by simp
  | x :: a, b, hn, h => by
    rw [List.nodup_cons] at hn
    have h1 := nodup_len (a := a) (b := b.erase x) hn.2 fun y hy => by
      have hxy : y ≠ x := fun e => hn.1 (e ▸ hy)
      exact (List.mem_erase_of_ne hxy).2 (h y (by simp [hy]))
    have h2 := List.length_erase_of_mem (h x (by simp))
    have h3 : 0 < b.length := List.length_pos_of_mem (h x (by simp))
    simp; omega
theorem MI.len {q : MapE × Nat} {fs : List (List UInt8)} (hq : MsOk q fs) {seen : List Nat} {ks : List (List UInt8)} (h : MI q.1 seen ks) : ks.length ≤ fs.length :=
  nodup_len h.nodup fun x hx => by
    obtain ⟨d, n, h1, _⟩ := h.old x hx
    exact (hq.mem x).1 (List.mem_map.2 ⟨_, h1, rfl⟩)
theorem MI.done {q : MapE × Nat} {fs : List (List UInt8)} (hq : MsOk q fs) {seen : List Nat} {ks : List (List UInt8)} (h : MI q.1 seen ks) (hl : leftM q.1 seen = []) : sortS ks = ascL fs := by
  obtain ⟨a1, a2⟩ := ascL_spec fs
  refine sortS_ext h.nodup a1 fun x => ?_
  rw [a2, ← hq.mem x]
  constructor
  · intro hx
    obtain ⟨d, n, h1, _⟩ := h.old x hx
    exact List.mem_map.2 ⟨_, h1, rfl⟩
  · intro hx
    obtain ⟨e, he, rfl⟩ := List.mem_map.1 hx
    refine h.all e he ?_
    by_cases hs : e.2.2 ∈ seen
    · exact hs
    · exfalso
      have : e ∈ leftM q.1 seen := by unfold leftM; rw [List.mem_filter]; exact ⟨he, by simpa using hs⟩
      rw [hl] at this; simp at this
end Go.Proofs

set_option linter.unusedSimpArgs false
set_option linter.unusedVariables false
set_option maxRecDepth 10000
namespace Go.Proofs
open Go Go.Id
set_option maxHeartbeats 4000000
theorem rl_clo {S : Nat → Prop} (l : List Rule) : (∀ e ∈ l.map Rule.cs, ∀ d ∈ e, Clo S d) := by
 simp [clo_sl]
theorem c_r_changed (l : List Rule) (nl : Bool) (r : Req) (hn : l.length ≤ 1099511627776) (hnl : nl = true → l = []) (hl : ∀ p ∈ l, p.ok) (hr : r.ok) (hrs : ∀ s ∈ r.scopes, s.length ≤ 1099511627776) : CallP Pr 23 [.slice 6 nl (l.map Rule.cs) none, .agg [.str r.user, .str r.client, .str r.tenant, .slice 1 r.ng (r.groups.map fun x => [.str x]) none, .slice 1 r.ns (r.scopes.map fun x => [.str x]) none, .int .i64 r.risk, .bool r.trusted, .int .i64 r.level, .int .i64 r.auth, .int .i64 r.now]] (.slice 1 (chgR l r).isEmpty ((chgR l r).map (fun x => [D.str x])) none) := by
 refine CallP.of_wp Tryz.func23 rfl (by kernel_rfl) Tryz.ntmps23 (by simp) ?_
 simp only [frameOf, Nat.reduceAdd, Nat.zero_add]
 refine WP.sr [0, 3] (by kernel_rfl) fun K hK => ?_
 simp (decide := true) only [TF, ↓reduceIte, Int.reduceToNat]
 refine hK _ _ ?_; clear hK K
 refine WP.seq ?_
 refine WP.sr [0, 3, 11] (by kernel_rfl) fun K hK => ?_
 simp (decide := true) only [TF, ↓reduceIte, Int.reduceToNat]
 refine CallK.pure (c_r_check l nl hn hnl hl) rfl rfl (by simp [-List.map_take]) ?_
 simp (decide := true) only [TF, ↓reduceIte, Int.reduceToNat]
 refine hK _ _ ?_; clear hK K
 refine WP.cond (b := _) rfl (fun q1 => ?_) (fun q1 => ?_)
 ·
  have hX : chgR l r = [] := by unfold chgR; rw [if_pos q1]
  refine WP.sr [4] (by kernel_rfl) fun K hK => ?_
  simp (decide := true) only [TF, q1, ↓reduceIte, Int.reduceToNat]
  refine hK _ _ ?_; clear hK K
  refine WP.ret ?_
  exact Ends.pure (.inr rfl) rfl ((by rw [hX]; exact Le.nil _ _ _)) (by simp)
 ·
  have hc0 := q1
  have hck := check_len hc0
  have hX : chgR l r = ascL (fieldsL l r) := by unfold chgR; rw [if_neg (by rw [hc0]; decide)]
  refine WP.skip ?_
  show WP _ _ _ _ _ _
  refine WP.sr [0, 3, 5] (by kernel_rfl) fun K hK => ?_
  simp (decide := true) only [TF, q1, ↓reduceIte, Int.reduceToNat]
  refine hK _ _ ?_; clear hK K
  refine WP.seq ?_
  refine WP.sr [0, 3, 5, 6] (by kernel_rfl) fun K hK => ?_
  simp (decide := true) only [TF, q1, ↓reduceIte, Int.reduceToNat]
  refine hK _ _ ?_; clear hK K
  refine WP.block ?_
  refine WP.lp [0, 3] (X := {x : (Nat) × (List (List UInt8)) // match x with | (k, o) => k ≤ l.length ∧ o = fieldsL (l.take k) r}) (fun x => match x with | ⟨(k, o), _⟩ => [(5, .slice 1 o.isEmpty (o.map (fun x => [D.str x])) (some 1)), (6, .int .i64 k)]) (fun x => match x with | ⟨(k, o), _⟩ => [(1, .tip 9 1 o.length), (0, .box 25 [.str r.user, .str r.client, .str r.tenant, .slice 1 r.ng (r.groups.map fun x => [.str x]) none, .slice 1 r.ns (r.scopes.map fun x => [.str x]) none, .int .i64 r.risk, .bool r.trusted, .int .i64 r.level, .int .i64 r.auth, .int .i64 r.now])]) (fun x => match x with | ⟨(k, o), _⟩ => l.length - k) (by simp (decide := true) only [W, ↓reduceIte, Int.reduceToNat]; rfl) ?_ ⟨(0, []), ⟨Nat.zero_le _, rfl⟩⟩ ?_
  rotate_left
  · refine Weak.trans (Weak.ghost 1 9 1 (F' := [(6, .int .i64 0), (5, .slice 1 true [] (some 1)), (3, .ref 0 0), (0, .slice 6 nl (l.map Rule.cs) none)]) (σ' := [(0, .box 25 [.str r.user, .str r.client, .str r.tenant, .slice 1 r.ng (r.groups.map fun x => [.str x]) none, .slice 1 r.ns (r.scopes.map fun x => [.str x]) none, .int .i64 r.risk, .bool r.trusted, .int .i64 r.level, .int .i64 r.auth, .int .i64 r.now])]) (by simp [lk, W]) (by simp [W, keep, ins, UpF, UpD]) (by simp [UpS, UpB, UpL, UpD])) ?_; exact Weak.store (by simp [St.get, lk, W, Le.refl, q1]) (by simp [lk, W]) (by simp [lk]) (by simp [BClo, lk]) (by simp [lk])
  rintro ⟨⟨k, o⟩, hk, ho⟩
  dsimp only
  simp only [List.cons_append, List.nil_append]
  refine WP.seq ?_
  refine WP.sr [0, 3, 5, 6, 15] (by kernel_rfl) fun K hK => ?_
  simp (decide := true) only [TF, q1, hk, ↓reduceIte, Int.reduceToNat]
  refine hK _ _ ?_; clear hK K
  refine WP.cond (b := _) rfl (fun q2 => ?_) (fun q2 => ?_)
  ·
   have hlt := lt_of_q q2
   have hg : (l.map Rule.cs)[k]? = some [.str l[k].name, .bool l[k].deny, .slice 3 l[k].nc (l[k].conds.map Cond.cs) none, .slice 1 l[k].ns (l[k].scopes.map fun x => [.str x]) none, .int .i64 l[k].lvl, .int .i64 l[k].age] := getM hlt
   have hnf := nl_false hnl hlt
   have hpk := hl _ (List.getElem_mem hlt)
   have hck8 := hck.2 _ (List.getElem_mem hlt)
   have hcn := fields_cnt (r := r) (k := k) hc0
   refine WP.skip ?_
   show WP _ _ _ _ _ _
   refine WP.seq ?_
   refine WP.block ?_
   refine WP.sd [0, 3, 5, 6, 7] (by kernel_rfl) (by kernel_rfl) fun K hK => ?_
   simp (decide := true) only [TF, q1, hk, q2, hg, hnf, ↓reduceIte, Int.reduceToNat]
   refine CallK.pure (c_r_first l[k] r (hl _ (List.getElem_mem hlt)) hr) rfl rfl (by simp [-List.map_take]) ?_
   simp (decide := true) only [TF, q1, hk, q2, hg, hnf, ↓reduceIte, Int.reduceToNat]
   refine hK _ _ (by kernel_rfl) ?_
   clear hK K
   refine WP.sr [0, 3, 5, 6, 7, 8] (by kernel_rfl) fun K hK => ?_
   simp (decide := true) only [TF, q1, hk, q2, hg, hnf, ↓reduceIte, Int.reduceToNat]
   refine hK _ _ ?_; clear hK K
   refine WP.block ?_
   refine WP.lp [0, 3, 6, 7] (X := {x : (Nat) × (List (List UInt8)) // match x with | (j, v) => j ≤ (exC r l[k]).length ∧ v = o ++ ((exC r l[k]).take j).map Cond.f}) (fun x => match x with | ⟨(j, v), _⟩ => [(5, .slice 1 v.isEmpty (v.map (fun x => [D.str x])) (some 1)), (8, .int .i64 j)]) (fun x => match x with | ⟨(j, v), _⟩ => [(1, .tip 9 1 v.length), (0, .box 25 [.str r.user, .str r.client, .str r.tenant, .slice 1 r.ng (r.groups.map fun x => [.str x]) none, .slice 1 r.ns (r.scopes.map fun x => [.str x]) none, .int .i64 r.risk, .bool r.trusted, .int .i64 r.level, .int .i64 r.auth, .int .i64 r.now])]) (fun x => match x with | ⟨(j, v), _⟩ => (exC r l[k]).length - j) (by simp (decide := true) only [W, ↓reduceIte, Int.reduceToNat]; rfl) ?_ ⟨(0, o), ⟨Nat.zero_le _, by simp⟩⟩ ?_
   rotate_left
   · exact Weak.store (by simp [St.get, lk, W, Le.refl, q1, hk, q2, hg, hnf]) (by simp [lk, W, q1, hk, q2, hg, hnf]) (by simp [lk, W]) (by simp [BClo, lk]) (by simp [lk])
   rintro ⟨⟨j, v⟩, hj, hv⟩
   dsimp only
   simp only [List.cons_append, List.nil_append]
   have hxl := exC_len r l[k]
   have hvl : v.length ≤ 600 := by rw [hv, ho, List.length_append, List.length_map, List.length_take]; omega
   refine WP.seq ?_
   refine WP.sr [0, 3, 5, 6, 7, 8, 40] (by kernel_rfl) fun K hK => ?_
   refine runOps.take 9 fun J hJ => ?_
   simp (decide := true) only [TF, q1, hk, q2, hg, hnf, hj, ↓reduceIte, Int.reduceToNat]
   refine hJ _ _ ?_; clear hJ J
   refine runOps.part 32 rfl (fun q3 => ?_) (fun q3 => ?_)
   ·
    have hjc : j < l[k].conds.length := lt_of_q q3
    have hgj : (l[k].conds.map Cond.cs)[j]? = some [.str l[k].conds[j].f, .str l[k].conds[j].op, .str l[k].conds[j].v] := getM hjc
    have hnfj := nl_false hpk.1.2.1 hjc
    refine runOps.take 3 fun J hJ => ?_
    simp (decide := true) only [TF, q1, hk, q2, hg, hnf, hj, q3, hgj, hnfj, ↓reduceIte, Int.reduceToNat]
    refine hJ _ _ ?_; clear hJ J
    refine runOps.part 35 rfl (fun q4 => ?_) (fun q4 => ?_)
    ·
     have hjl := exC_in1 hjc q4
     simp (decide := true) only [TF, q1, hk, q2, hg, hnf, hj, q3, hgj, hnfj, q4, ↓reduceIte, Int.reduceToNat]
     refine hK _ _ ?_; clear hK K
     refine WP.cond (b := true) (by rfl) (fun _ => ?_) nofun
     refine WP.skip ?_
     show WP _ _ _ _ _ _
     refine WP.seq ?_
     refine WP.block ?_
     refine WP.region (by kernel_rfl) fun K hK => ?_
     simp (decide := true) only [TF, q1, hk, q2, hg, hnf, hj, q3, hgj, hnfj, q4, ↓reduceIte, Int.reduceToNat]
     repeat (refine ⟨⟨by (try simp only [List.length_append, List.length_map, List.length_take, List.length_drop, List.length_cons, List.length_nil]); omega, by (try simp only [List.length_append, List.length_map, List.length_take, List.length_drop, List.length_cons, List.length_nil]); omega⟩, ?_⟩)
     refine hK _ _ ?_; clear hK K
     show WP _ _ _ _ _ _
     refine WP.region (by kernel_rfl) fun K hK => ?_
     simp (decide := true) only [TF, q1, hk, q2, hg, hnf, hj, q3, hgj, hnfj, q4, ↓reduceIte, Int.reduceToNat]
     refine hK _ _ ?_; clear hK K
     show ∃ y, _ ∧ Weak _ _ _
     refine ⟨⟨(j + 1, v ++ [l[k].conds[j].f]), ?_⟩, ?_, ?_⟩
     · exact ⟨by dsimp only; omega, by dsimp only; rw [exC_step hjl hjc, hv, List.append_assoc]⟩
     · dsimp only; omega
     · exact Weak.store (by simp [St.get, lk, W, Le.refl, isEA, -List.append_assoc, q1, hk, q2, hg, hnf, hj, q3, hgj, hnfj, q4, wrapS hjc (show l[k].conds.length ≤ 140737488355328 by omega)]) (by simp [lk, W, -List.append_assoc, q1, hk, q2, hg, hnf, hj, q3, hgj, hnfj, q4, wrapS hjc (show l[k].conds.length ≤ 140737488355328 by omega)]) (by simp [lk, W, clo_ap, clo_sl, clo_s1, -List.mem_append, -List.mem_map, -List.append_assoc]; exact rl_clo l) (by simp [BClo, lk]) (by simp [lk])
    ·
     have hf0 := q4
     simp (decide := true) only [TF, q1, hk, q2, hg, hnf, hj, q3, hgj, hnfj, q4, ↓reduceIte, Int.reduceToNat]
     refine hK _ _ ?_; clear hK K
     refine WP.cond (b := _) rfl (fun q5 => ?_) (fun q5 => ?_)
     ·
      have hjl := exC_in2 hjc hf0 q5
      refine WP.skip ?_
      show WP _ _ _ _ _ _
      refine WP.seq ?_
      refine WP.block ?_
      refine WP.region (by kernel_rfl) fun K hK => ?_
      simp (decide := true) only [TF, q1, hk, q2, hg, hnf, hj, q3, hgj, hnfj, q4, q5, ↓reduceIte, Int.reduceToNat]
      repeat (refine ⟨⟨by (try simp only [List.length_append, List.length_map, List.length_take, List.length_drop, List.length_cons, List.length_nil]); omega, by (try simp only [List.length_append, List.length_map, List.length_take, List.length_drop, List.length_cons, List.length_nil]); omega⟩, ?_⟩)
      refine hK _ _ ?_; clear hK K
      show WP _ _ _ _ _ _
      refine WP.region (by kernel_rfl) fun K hK => ?_
      simp (decide := true) only [TF, q1, hk, q2, hg, hnf, hj, q3, hgj, hnfj, q4, q5, ↓reduceIte, Int.reduceToNat]
      refine hK _ _ ?_; clear hK K
      show ∃ y, _ ∧ Weak _ _ _
      refine ⟨⟨(j + 1, v ++ [l[k].conds[j].f]), ?_⟩, ?_, ?_⟩
      · exact ⟨by dsimp only; omega, by dsimp only; rw [exC_step hjl hjc, hv, List.append_assoc]⟩
      · dsimp only; omega
      · exact Weak.store (by simp [St.get, lk, W, Le.refl, isEA, -List.append_assoc, q1, hk, q2, hg, hnf, hj, q3, hgj, hnfj, q4, q5, wrapS hjc (show l[k].conds.length ≤ 140737488355328 by omega)]) (by simp [lk, W, -List.append_assoc, q1, hk, q2, hg, hnf, hj, q3, hgj, hnfj, q4, q5, wrapS hjc (show l[k].conds.length ≤ 140737488355328 by omega)]) (by simp [lk, W, clo_ap, clo_sl, clo_s1, -List.mem_append, -List.mem_map, -List.append_assoc]; exact rl_clo l) (by simp [BClo, lk]) (by simp [lk])
     ·
      have hjg := exC_out2 hf0 q5
      refine WP.exit ?_
      show WP _ _ _ _ _ _
      refine WP.region (by kernel_rfl) fun K hK => ?_
      simp (decide := true) only [TF, q1, hk, q2, hg, hnf, hj, q3, hgj, hnfj, q4, q5, ↓reduceIte, Int.reduceToNat]
      refine hK _ _ ?_; clear hK K
      show ∃ y, _ ∧ Weak _ _ _
      refine ⟨⟨(k + 1, v), ?_⟩, ?_, ?_⟩
      · exact ⟨by dsimp only; omega, by dsimp only; rw [hv, ho, fields_succ hlt, List.take_of_length_le hjg]⟩
      · dsimp only; omega
      · exact Weak.store (by simp [St.get, lk, W, Le.refl, q1, hk, q2, hg, hnf, hj, q3, hgj, hnfj, q4, q5, wrapS hlt (show l.length ≤ 140737488355328 by omega)]) (by simp [lk, W, q1, hk, q2, hg, hnf, hj, q3, hgj, hnfj, q4, q5]) (by simp [lk, W]) (by simp [BClo, lk]) (by simp [lk])
   ·
    have hjg := exC_out1 (r := r) (ge_of_q q3)
    simp (decide := true) only [TF, q1, hk, q2, hg, hnf, hj, q3, ↓reduceIte, Int.reduceToNat]
    refine hK _ _ ?_; clear hK K
    refine WP.cond (b := false) (by rfl) nofun (fun _ => ?_)
    refine WP.exit ?_
    show WP _ _ _ _ _ _
    refine WP.region (by kernel_rfl) fun K hK => ?_
    simp (decide := true) only [TF, q1, hk, q2, hg, hnf, hj, q3, ↓reduceIte, Int.reduceToNat]
    refine hK _ _ ?_; clear hK K
    show ∃ y, _ ∧ Weak _ _ _
    refine ⟨⟨(k + 1, v), ?_⟩, ?_, ?_⟩
    · exact ⟨by dsimp only; omega, by dsimp only; rw [hv, ho, fields_succ hlt, List.take_of_length_le hjg]⟩
    · dsimp only; omega
    · exact Weak.store (by simp [St.get, lk, W, Le.refl, q1, hk, q2, hg, hnf, hj, q3, wrapS hlt (show l.length ≤ 140737488355328 by omega)]) (by simp [lk, W, q1, hk, q2, hg, hnf, hj, q3]) (by simp [lk, W]) (by simp [BClo, lk]) (by simp [lk])
  ·
   have hge := ge_of_q q2
   have hof : o = fieldsL l r := by rw [ho, List.take_of_length_le hge]
   have hcn := fields_512 (r := r) hc0
   rw [← hof] at hcn
   refine WP.weak (st' := ⟨[(5, .slice 1 (o).isEmpty ((o).map (fun x => [D.str x])) none)], []⟩) (Weak.nil (by simp [St.get, lk, keep, ins, W]; exact Le.fg _) (by simp [W])) ?_
   refine WP.exit ?_
   show WP _ _ _ _ _ _
   refine WP.sr [4] (by kernel_rfl) fun K hK => ?_
   simp (decide := true) only [TF, q1, hk, q2, ↓reduceIte, Int.reduceToNat]
   refine CallK.pure (c_asc o o.isEmpty (by omega) (fun h => by simpa using h)) rfl rfl (by simp [-List.map_take]) ?_
   simp (decide := true) only [TF, q1, hk, q2, ↓reduceIte, Int.reduceToNat]
   refine hK _ _ ?_; clear hK K
   refine WP.ret ?_
   exact Ends.pure (.inr rfl) rfl ((by rw [hX, ← hof]; exact Le.refl _)) (by simp)
end Go.Proofs

set_option linter.unusedSimpArgs false
set_option linter.unusedVariables false
set_option maxRecDepth 10000
namespace Go.Proofs
open Go Go.Id
set_option maxHeartbeats 4000000
theorem exC_nil {r : Req} {p : Rule} (h : p.conds = []) : exC r p = [] := by
 unfold exC; rw [h]; split <;> rfl
theorem cells_map (b : Nat) : cells? (.map b) = some [.map b] := rfl
theorem ms_clo {S : Nat → Prop} (fs : List (List UInt8)) : ∀ (e : List UInt8 × D × Nat), e ∈ (msE fs).1 → Clo S e.2.1 := fun e he => by rw [(msE_ok fs).val e he]; exact .bool _
theorem firstL_nat {r : Req} {c : List Cond} (h : decide (firstL r c 0 ≥ 0) = true) : ∃ n : Nat, firstL r c 0 = (n : Int) ∧ n < c.length := by
 have h1 := of_decide_eq_true h
 have h2 := firstL_lt r c 0
 exact ⟨(firstL r c 0).toNat, by omega, by omega⟩
theorem c_changed (l : List Rule) (nl : Bool) (r : Req) (hn : l.length ≤ 1099511627776) (hnl : nl = true → l = []) (hl : ∀ p ∈ l, p.ok) (hr : r.ok) (hrs : ∀ s ∈ r.scopes, s.length ≤ 1099511627776) : CallP Pr 22 [.slice 6 nl (l.map Rule.cs) none, .agg [.str r.user, .str r.client, .str r.tenant, .slice 1 r.ng (r.groups.map fun x => [.str x]) none, .slice 1 r.ns (r.scopes.map fun x => [.str x]) none, .int .i64 r.risk, .bool r.trusted, .int .i64 r.level, .int .i64 r.auth, .int .i64 r.now]] (.slice 1 (chgR l r).isEmpty ((chgR l r).map (fun x => [D.str x])) none) := by
 refine CallP.of_wp Tryz.func22 rfl (by kernel_rfl) Tryz.ntmps22 (by simp) ?_
 simp only [frameOf, Nat.reduceAdd, Nat.zero_add]
 refine WP.sr [2, 3, 4] (by kernel_rfl) fun K hK => ?_
 simp (decide := true) only [TF, cells_map, ↓reduceIte, Int.reduceToNat]
 refine hK _ _ ?_; clear hK K
 refine WP.seq ?_
 refine WP.sr [2, 3, 4, 15] (by kernel_rfl) fun K hK => ?_
 simp (decide := true) only [TF, cells_map, ↓reduceIte, Int.reduceToNat]
 refine CallK.pure (c_check l nl hn hnl hl) rfl rfl (by simp [-List.map_take]) ?_
 simp (decide := true) only [TF, cells_map, ↓reduceIte, Int.reduceToNat]
 refine hK _ _ ?_; clear hK K
 refine WP.cond (b := _) rfl (fun q1 => ?_) (fun q1 => ?_)
 ·
  have hX : chgR l r = [] := by unfold chgR; rw [if_pos q1]
  refine WP.sr [4] (by kernel_rfl) fun K hK => ?_
  simp (decide := true) only [TF, q1, cells_map, ↓reduceIte, Int.reduceToNat]
  refine hK _ _ ?_; clear hK K
  refine WP.ret ?_
  exact Ends.pure (.inr rfl) rfl ((by rw [hX]; exact Le.nil _ _ _)) (by simp)
 ·
  have hc0 := q1
  have hck := check_len hc0
  have hX : chgR l r = ascL (fieldsL l r) := by unfold chgR; rw [if_neg (by rw [hc0]; decide)]
  have hcn := fields_512 (r := r) hc0
  refine WP.skip ?_
  show WP _ _ _ _ _ _
  refine WP.sr [2, 3, 4, 5] (by kernel_rfl) fun K hK => ?_
  simp (decide := true) only [TF, q1, cells_map, ↓reduceIte, Int.reduceToNat]
  refine hK _ _ ?_; clear hK K
  refine WP.seq ?_
  refine WP.sr [2, 4, 5, 19] (by kernel_rfl) fun K hK => ?_
  simp (decide := true) only [TF, q1, cells_map, ↓reduceIte, Int.reduceToNat]
  refine CallK.imp (c_reasons 4 5 (by decide) l nl r) rfl rfl (by simp) (by simp [lk]) (by simp [lk]) ?_
  simp (decide := true) only [TF, q1, cells_map, ↓reduceIte, Int.reduceToNat]
  refine hK _ _ ?_; clear hK K
  refine WP.block ?_
  refine WP.rf [2, 5] (fun x => [(6, .int .i64 x), (7, .int .i64 (FL l r x))]) (fun pre => [(4, .box 22 [.slice 6 nl (l.map Rule.cs) none]), (5, .box 25 [.str r.user, .str r.client, .str r.tenant, .slice 1 r.ng (r.groups.map fun x => [.str x]) none, .slice 1 r.ns (r.scopes.map fun x => [.str x]) none, .int .i64 r.risk, .bool r.trusted, .int .i64 r.level, .int .i64 r.auth, .int .i64 r.now]), (3, .box 71 [.map 2]), (2, .map (msE (fieldsL (l.take pre.length) r)).1 (msE (fieldsL (l.take pre.length) r)).2), (1, .box 25 [.str r.user, .str r.client, .str r.tenant, .slice 1 r.ng (r.groups.map fun x => [.str x]) none, .slice 1 r.ns (r.scopes.map fun x => [.str x]) none, .int .i64 r.risk, .bool r.trusted, .int .i64 r.level, .int .i64 r.auth, .int .i64 r.now]), (0, .box 22 [.slice 6 nl (l.map Rule.cs) none])]) (fun pre x => [(4, .box 22 [.slice 6 nl (l.map Rule.cs) none]), (5, .box 25 [.str r.user, .str r.client, .str r.tenant, .slice 1 r.ng (r.groups.map fun x => [.str x]) none, .slice 1 r.ns (r.scopes.map fun x => [.str x]) none, .int .i64 r.risk, .bool r.trusted, .int .i64 r.level, .int .i64 r.auth, .int .i64 r.now]), (3, .box 71 [.map 2]), (2, .map (msE (fieldsL (l.take pre.length) r)).1 (msE (fieldsL (l.take pre.length) r)).2), (1, .box 25 [.str r.user, .str r.client, .str r.tenant, .slice 1 r.ng (r.groups.map fun x => [.str x]) none, .slice 1 r.ns (r.scopes.map fun x => [.str x]) none, .int .i64 r.risk, .bool r.trusted, .int .i64 r.level, .int .i64 r.auth, .int .i64 r.now]), (0, .box 22 [.slice 6 nl (l.map Rule.cs) none])]) (fun pre => True) (dsOf := dsFL l r) (by simp (decide := true) only [W, ↓reduceIte, Int.reduceToNat]; rfl) (by simp [MK]) rfl (it_reasons l nl r hn hnl hl hr) rfl trivial rfl ?_ ?_ ?_ ?_ ?_ ?_ ?_
  · exact fun pre _ _ => capOk2 (CapOk.box 4 22 _ rfl (by simp)) (CapOk.box 5 25 _ rfl (by simp))
  · exact fun _ => ⟨rfl, rfl⟩
  · simp
  · exact dsFL_ok l r
  ·
   intro pre x hpx hI
   obtain ⟨rfl, hlt⟩ := range_pre hpx
   have hfl : FL l r pre.length = firstL r l[pre.length].conds 0 := FL_at hlt
   have hg : (l.map Rule.cs)[pre.length]? = some [.str l[pre.length].name, .bool l[pre.length].deny, .slice 3 l[pre.length].nc (l[pre.length].conds.map Cond.cs) none, .slice 1 l[pre.length].ns (l[pre.length].scopes.map fun x => [.str x]) none, .int .i64 l[pre.length].lvl, .int .i64 l[pre.length].age] := getM hlt
   have hnf := nl_false hnl hlt
   have hpk := hl _ (List.getElem_mem hlt)
   have hck8 := hck.2 _ (List.getElem_mem hlt)
   have hxl := exC_len r l[pre.length]
   have hxn : l[pre.length].nc = true → (exC r l[pre.length]) = [] := fun h => exC_nil (hpk.1.2.1 h)
   simp (decide := true) only [setPs_two, dsFL, W, List.map_cons, List.map_nil, ↓reduceIte, Int.reduceToNat]
   refine WP.sr [2, 5, 6, 21] (by kernel_rfl) fun K hK => ?_
   simp (decide := true) only [TF, q1, hfl, hg, hnf, cells_map, ↓reduceIte, Int.reduceToNat]
   refine hK _ _ ?_; clear hK K
   refine WP.region (by kernel_rfl) fun K hK => ?_
   simp (decide := true) only [TF, q1, hfl, hg, hnf, cells_map, ↓reduceIte, Int.reduceToNat]
   refine hK _ _ ?_; clear hK K
   show _ ∧ Weak _ _ _
   exact ⟨rfl, Weak.store (by simp [St.get, lk, W, Le.refl, hfl, hnf]) (by simp [lk, W, hnf]) (by simp [lk, W]) (by simp [BClo, lk]; exact fun a b c h => ms_clo _ _ h) (by simp [lk, MK])⟩
  ·
   intro pre x hpx hI
   obtain ⟨rfl, hlt⟩ := range_pre hpx
   have hfl : FL l r pre.length = firstL r l[pre.length].conds 0 := FL_at hlt
   have hg : (l.map Rule.cs)[pre.length]? = some [.str l[pre.length].name, .bool l[pre.length].deny, .slice 3 l[pre.length].nc (l[pre.length].conds.map Cond.cs) none, .slice 1 l[pre.length].ns (l[pre.length].scopes.map fun x => [.str x]) none, .int .i64 l[pre.length].lvl, .int .i64 l[pre.length].age] := getM hlt
   have hnf := nl_false hnl hlt
   have hpk := hl _ (List.getElem_mem hlt)
   have hck8 := hck.2 _ (List.getElem_mem hlt)
   have hxl := exC_len r l[pre.length]
   have hxn : l[pre.length].nc = true → (exC r l[pre.length]) = [] := fun h => exC_nil (hpk.1.2.1 h)
   simp only [List.cons_append, List.nil_append, List.map_cons, List.map_nil]
   refine WP.block ?_
   refine WP.sr [5, 7, 8] (by kernel_rfl) fun K hK => ?_
   simp (decide := true) only [TF, q1, hfl, hg, hnf, cells_map, ↓reduceIte, Int.reduceToNat]
   refine hK _ _ ?_; clear hK K
   refine WP.seq ?_
   refine WP.sr [5, 7, 8, 28] (by kernel_rfl) fun K hK => ?_
   simp (decide := true) only [TF, q1, hfl, hg, hnf, cells_map, ↓reduceIte, Int.reduceToNat]
   refine hK _ _ ?_; clear hK K
   refine WP.meetQ ⟨[(8, .slice 3 l[pre.length].nc ((exC r l[pre.length]).map Cond.cs) none), (5, .ref 3 0)], [(4, .box 22 [.slice 6 nl (l.map Rule.cs) none]), (5, .box 25 [.str r.user, .str r.client, .str r.tenant, .slice 1 r.ng (r.groups.map fun x => [.str x]) none, .slice 1 r.ns (r.scopes.map fun x => [.str x]) none, .int .i64 r.risk, .bool r.trusted, .int .i64 r.level, .int .i64 r.auth, .int .i64 r.now]), (3, .box 71 [.map 2]), (2, .map (msE (fieldsL (l.take pre.length) r)).1 (msE (fieldsL (l.take pre.length) r)).2), (1, .box 25 [.str r.user, .str r.client, .str r.tenant, .slice 1 r.ng (r.groups.map fun x => [.str x]) none, .slice 1 r.ns (r.scopes.map fun x => [.str x]) none, .int .i64 r.risk, .bool r.trusted, .int .i64 r.level, .int .i64 r.auth, .int .i64 r.now]), (0, .box 22 [.slice 6 nl (l.map Rule.cs) none])]⟩ ?_ ?_
   ·
    refine WP.cond (b := _) rfl (fun q2 => ?_) (fun q2 => ?_)
    ·
     have hge0 := q2
     obtain ⟨n, hnn, hnl2⟩ := firstL_nat hge0
     have hw : IntKind.wrap .i64 (firstL r l[pre.length].conds 0 + 1) = ((n + 1 : Nat) : Int) := by rw [hnn]; exact wrapS hnl2 (by omega)
     have hxe : (exC r l[pre.length]) = l[pre.length].conds.take (n + 1) := by rw [exC_t hge0, hnn]; rfl
     have hn1 : (n + 1 ≤ l[pre.length].conds.length) = True := eq_true hnl2
     have hnc := nl_false hpk.1.2.1 hnl2
     refine WP.region (by kernel_rfl) fun K hK => ?_
     simp (decide := true) only [TF, q1, hfl, hg, hnf, q2, hw, hxe, hnc, hn1, cells_map, ↓reduceIte, Int.reduceToNat]
     refine hK _ _ ?_; clear hK K
     show Weak _ _ _
     exact Weak.store (by simp [St.get, lk, W, Le.refl, List.map_take, q1, hfl, hg, hnf, q2, hw, hxe, hnc, hn1]) (by simp [lk, W, q1, hfl, hg, hnf, q2, hw, hxe, hnc, hn1]) (by simp [lk, W]) (by simp [BClo, lk]; exact fun a b c h => ms_clo _ _ h) (by simp [lk, MK])
    ·
     refine WP.skip ?_
     show Weak _ _ _
     have hxe := exC_f (r := r) (p := l[pre.length]) q2
     exact Weak.store (by simp [St.get, lk, W, Le.refl, hxe, q1, hfl, hg, hnf, q2]) (by simp [lk, W, q1, hfl, hg, hnf, q2]) (by simp [lk, W]) (by simp [BClo, lk]; exact fun a b c h => ms_clo _ _ h) (by simp [lk, MK])
   ·
    refine WP.sr [5, 33, 34, 35] (by kernel_rfl) fun K hK => ?_
    simp (decide := true) only [TF, q1, hfl, hg, hnf, cells_map, ↓reduceIte, Int.reduceToNat]
    refine hK _ _ ?_; clear hK K
    refine WP.block ?_
    refine WP.lp [5, 33, 34] (X := {j : Nat // j ≤ (exC r l[pre.length]).length}) (fun x => match x with | ⟨(j), _⟩ => [(35, .int .i64 j)]) (fun x => match x with | ⟨(j), _⟩ => [(4, .box 22 [.slice 6 nl (l.map Rule.cs) none]), (5, .box 25 [.str r.user, .str r.client, .str r.tenant, .slice 1 r.ng (r.groups.map fun x => [.str x]) none, .slice 1 r.ns (r.scopes.map fun x => [.str x]) none, .int .i64 r.risk, .bool r.trusted, .int .i64 r.level, .int .i64 r.auth, .int .i64 r.now]), (3, .box 71 [.map 2]), (2, .map (msE (fieldsL (l.take pre.length) r ++ ((exC r l[pre.length]).take j).map Cond.f)).1 (msE (fieldsL (l.take pre.length) r ++ ((exC r l[pre.length]).take j).map Cond.f)).2), (1, .box 25 [.str r.user, .str r.client, .str r.tenant, .slice 1 r.ng (r.groups.map fun x => [.str x]) none, .slice 1 r.ns (r.scopes.map fun x => [.str x]) none, .int .i64 r.risk, .bool r.trusted, .int .i64 r.level, .int .i64 r.auth, .int .i64 r.now]), (0, .box 22 [.slice 6 nl (l.map Rule.cs) none])]) (fun x => match x with | ⟨(j), _⟩ => (exC r l[pre.length]).length - j) (by simp (decide := true) only [W, ↓reduceIte, Int.reduceToNat]; rfl) ?_ ⟨(0), Nat.zero_le _⟩ ?_
    rotate_left
    · exact Weak.store (by simp [St.get, lk, W, Le.refl, q1, hfl, hg, hnf]) (by simp [lk, W, q1, hfl, hg, hnf]) (by simp [lk, W]) (by simp [BClo, lk]; exact fun a b c h => ms_clo _ _ h) (by simp [lk, MK])
    rintro ⟨j, hj⟩
    dsimp only
    simp only [List.cons_append, List.nil_append]
    refine WP.sr [5, 33, 34, 35, 36] (by kernel_rfl) fun K hK => ?_
    simp (decide := true) only [TF, q1, hfl, hg, hnf, hj, cells_map, ↓reduceIte, Int.reduceToNat]
    refine hK _ _ ?_; clear hK K
    refine WP.seq ?_
    refine WP.cond (b := _) rfl (fun q3 => ?_) (fun q3 => ?_)
    ·
     have hjl := lt_of_q q3
     have hgj : ((exC r l[pre.length]).map Cond.cs)[j]? = some [.str (exC r l[pre.length])[j].f, .str (exC r l[pre.length])[j].op, .str (exC r l[pre.length])[j].v] := getM hjl
     have hnfj := nl_false hxn hjl
     refine WP.skip ?_
     show WP _ _ _ _ _ _
     refine WP.seq ?_
     refine WP.block ?_
     refine WP.sr [5, 10, 33, 34, 35] (by kernel_rfl) fun K hK => ?_
     simp (decide := true) only [TF, q1, hfl, hg, hnf, hj, q3, hgj, hnfj, cells_map, ↓reduceIte, Int.reduceToNat]
     refine hK _ _ ?_; clear hK K
     refine WP.region (by kernel_rfl) fun K hK => ?_
     simp (decide := true) only [TF, q1, hfl, hg, hnf, hj, q3, hgj, hnfj, cells_map, ↓reduceIte, Int.reduceToNat]
     refine hK _ _ ?_; clear hK K
     show WP _ _ _ _ _ _
     refine WP.region (by kernel_rfl) fun K hK => ?_
     simp (decide := true) only [TF, q1, hfl, hg, hnf, hj, q3, hgj, hnfj, cells_map, ↓reduceIte, Int.reduceToNat]
     refine hK _ _ ?_; clear hK K
     show ∃ y, _ ∧ Weak _ _ _
     have hm : msE (fieldsL (l.take pre.length) r ++ ((exC r l[pre.length]).take (j + 1)).map Cond.f) = (putE (msE (fieldsL (l.take pre.length) r ++ ((exC r l[pre.length]).take j).map Cond.f)).1 (msE (fieldsL (l.take pre.length) r ++ ((exC r l[pre.length]).take j).map Cond.f)).2 (exC r l[pre.length])[j].f (.bool true), putC (msE (fieldsL (l.take pre.length) r ++ ((exC r l[pre.length]).take j).map Cond.f)).1 (msE (fieldsL (l.take pre.length) r ++ ((exC r l[pre.length]).take j).map Cond.f)).2 (exC r l[pre.length])[j].f) := by rw [takeS hjl, List.map_append, ← List.append_assoc]; exact msE_snoc _ _
     refine ⟨⟨j + 1, hjl⟩, by dsimp only; omega, ?_⟩
     exact Weak.store (by simp [St.get, lk, W, Le.refl, q1, hfl, hg, hnf, hj, q3, hgj, hnfj, wrapS hjl (show (exC r l[pre.length]).length ≤ 140737488355328 by omega)]) (by dsimp only; rw [hm]; simp [lk, W, q1, hfl, hg, hnf, hj, q3, hgj, hnfj]) (by simp [lk, W]) (by simp [BClo, lk]; exact fun a b c h => ms_clo _ _ h) (by simp [lk, MK])
    ·
     have hjg := ge_of_q q3
     refine WP.exit ?_
     show _ ∧ Weak _ _ _
     have hfs : fieldsL (l.take (pre ++ [pre.length]).length) r = fieldsL (l.take pre.length) r ++ (exC r l[pre.length]).map Cond.f := by rw [List.length_append]; exact fields_succ hlt
     rw [List.take_of_length_le hjg]
     rw [hfs]
     refine ⟨trivial, Weak.store (by simp) (by simp [lk, W, q1, hfl, hg, hnf, hj, q3]) (by simp) (by simp [BClo, lk]; exact fun a b c h => ms_clo _ _ h) (by simp [lk, MK])⟩
  ·
   intro hI
   simp only [List.length_range, List.take_length]
   show WP _ _ _ _ _ _
   refine WP.sr [5, 11] (by kernel_rfl) fun K hK => ?_
   simp (decide := true) only [TF, q1, cells_map, ↓reduceIte, Int.reduceToNat]
   refine hK _ _ ?_; clear hK K
   refine WP.seq ?_
   refine WP.sr [11, 44] (by kernel_rfl) fun K hK => ?_
   simp (decide := true) only [TF, q1, cells_map, ↓reduceIte, Int.reduceToNat]
   refine hK _ _ ?_; clear hK K
   refine WP.block ?_
   refine WP.lp [44] (X := {x : (List Nat) × (List (List UInt8)) // match x with | (seen, ks) => MI (msE (fieldsL l r)).1 seen ks}) (fun x => match x with | ⟨(seen, ks), _⟩ => [(11, .slice 1 ks.isEmpty (ks.map (fun x => [D.str x])) (some 0))]) (fun x => match x with | ⟨(seen, ks), _⟩ => [(0, .tip 9 1 ks.length), (6, .miter 2 (msE (fieldsL l r)).2 seen (msE (fieldsL l r)).2), (2, .map (msE (fieldsL l r)).1 (msE (fieldsL l r)).2)]) (fun x => match x with | ⟨(seen, ks), _⟩ => (leftM (msE (fieldsL l r)).1 seen).length) (by simp (decide := true) only [W, ↓reduceIte, Int.reduceToNat]; rfl) ?_ ⟨([], []), MI.nil _⟩ ?_
   rotate_left
   · refine Weak.trans (Weak.store (st' := ⟨[(44, .ref 6 0), (11, .slice 0 true [] none)], [(6, .miter 2 (msE (fieldsL l r)).2 [] (msE (fieldsL l r)).2), (2, .map (msE (fieldsL l r)).1 (msE (fieldsL l r)).2)]⟩) (by simp [St.get, lk, W, Le.refl]) (by simp [lk, W]) (by simp [lk]) (by simp [BClo, lk]; exact fun a b c h => ms_clo _ _ h) (by simp)) ?_; refine Weak.trans (Weak.ghost 0 9 1 (F' := [(44, .ref 6 0), (11, .slice 1 true [] (some 0))]) (σ' := [(6, .miter 2 (msE (fieldsL l r)).2 [] (msE (fieldsL l r)).2), (2, .map (msE (fieldsL l r)).1 (msE (fieldsL l r)).2)]) (by simp [lk]) (by simp [UpF, UpD]) (by simp [UpS, UpB, UpL, UpD])) ?_; exact Weak.store (by simp [St.get, lk, W, Le.refl, q1]) (by simp [lk, W]) (by simp [lk]) (by simp [BClo, lk]; exact fun a b c h => ms_clo _ _ h) (by simp [lk])
   rintro ⟨⟨seen, ks⟩, hM⟩
   dsimp only
   simp only [List.cons_append, List.nil_append]
   dsimp only at hM
   have hks := hM.len (msE_ok _)
   refine WP.seq ?_
   refine WP.regionNext (by kernel_rfl) rfl rfl rfl rfl rfl rfl (fun e he => (msE_ok _).lt e he) (Nat.le_refl _) ?_ ?_
   ·
    intro hl0 K hK
    simp (decide := true) only [TF, q1, ↓reduceIte, Int.reduceToNat]
    refine hK _ _ ?_; clear hK K
    show WP _ _ _ _ _ _
    refine WP.seq ?_
    refine WP.cond (b := false) (by rfl) nofun (fun _ => ?_)
    refine WP.exit ?_
    show WP _ _ _ _ _ _
    rcases ks with _ | ⟨a0, k0⟩
    ·
     have hS := hM.done (msE_ok _) hl0
     rw [sortS_nil] at hS
     refine WP.sr [11] (by kernel_rfl) fun K hK => ?_
     simp (decide := true) only [TF, q1, cells_map, ↓reduceIte, Int.reduceToNat]
     refine CallK.pure (c_ssort0) rfl rfl (by simp [-List.map_take]) ?_
     simp (decide := true) only [TF, q1, cells_map, ↓reduceIte, Int.reduceToNat]
     refine hK _ _ ?_; clear hK K
     refine WP.sr [4] (by kernel_rfl) fun K hK => ?_
     simp (decide := true) only [TF, q1, cells_map, ↓reduceIte, Int.reduceToNat]
     refine hK _ _ ?_; clear hK K
     refine WP.ret ?_
     exact Ends.pure (.inr rfl) rfl ((by rw [hX, ← hS]; exact Le.fg _)) (by simp)
    ·
     have hS := hM.done (msE_ok _) hl0
     refine WP.weak (st' := ⟨[(11, .slice 1 false ((a0 :: k0).map fun x => [D.str x]) (some 0))], [(0, .tip 9 1 (a0 :: k0).length)]⟩) (Weak.store (by simp [St.get, lk, keep, ins, W, Le.refl]) (by simp [lk]) (by simp [lk]) (by simp [BClo]) (by simp)) ?_
     refine WP.weak (st' := ⟨[(11, .arr 0 1 (a0 :: k0).length)], [(0, .arr 9 ((a0 :: k0).map .str))]⟩) ?_ ?_
     ·
      rw [← flatS (a0 :: k0)]
      exact Weak.tipArr 0 9 1 ((a0 :: k0).map fun x => [D.str x]) 11 (by simp [St.get, lk, W]) (by simp [lk, W]) (fr_sl 0 _) (by intro b hb; simp [lk, hb]) (by simp)
     refine WP.sr [11] (by kernel_rfl) fun K hK => ?_
     simp (decide := true) only [TF, q1, cells_map, ↓reduceIte, Int.reduceToNat]
     refine CallK.imp (c_ssort (a0 :: k0) (by omega)) rfl rfl (by simp [lk, BClo]) (by simp [lk]) (by simp [lk]) ?_
     simp (decide := true) only [TF, q1, cells_map, ↓reduceIte, Int.reduceToNat]
     refine hK _ _ ?_; clear hK K
     refine WP.sr [4] (by kernel_rfl) fun K hK => ?_
     simp (decide := true) only [TF, q1, cells_map, ↓reduceIte, Int.reduceToNat]
     refine hK _ _ ?_; clear hK K
     refine WP.weak (st' := ⟨[(4, .slice 1 false ((sortS (a0 :: k0)).map fun x => [D.str x]) (some 0))], [(0, .tip 9 1 (sortS (a0 :: k0)).length)]⟩) ?_ ?_
     ·
      refine Weak.trans (Weak.keep [4]) ?_
      simp only [keep, ins, W, ↓reduceIte, Nat.reduceEqDiff]
      exact Weak.arrTip 0 9 1 ((sortS (a0 :: k0)).map fun x => [D.str x]) 4 (by simp [St.get, lk, W, sortS_len]) (by simp [lk, W, flatS]) (sl_len _) (by simp) (by simp (decide := true) [ArF, ArD, sortS_len, q1]) (by simp) (by intro i hi; simp_all [lk]) (by simp [lk]) (by simp [BClo])
     refine WP.ret ?_
     exact Ends.pure (.inr rfl) rfl ((by rw [hX, ← hS]; simp only [sortS_ne]; exact Le.fg _)) (by simp)
   ·
    intro e he K hK
    simp (decide := true) only [TF, q1, ↓reduceIte, Int.reduceToNat]
    refine hK _ _ ?_; clear hK K
    show WP _ _ _ _ _ _
    refine WP.seq ?_
    refine WP.cond (b := true) (by rfl) (fun _ => ?_) nofun
    refine WP.skip ?_
    show WP _ _ _ _ _ _
    refine WP.block ?_
    refine WP.seq ?_
    refine WP.regionEntry (by kernel_rfl) rfl rfl rfl rfl rfl rfl (left_mem he).1 (msE_ok _).born ?_
    ·
     intro K hK
     simp (decide := true) only [TF, q1, ↓reduceIte, Int.reduceToNat]
     refine hK _ _ ?_; clear hK K
     show WP _ _ _ _ _ _
     refine WP.region (by kernel_rfl) fun K hK => ?_
     simp (decide := true) only [TF, q1, cells_map, ↓reduceIte, Int.reduceToNat]
     repeat (refine ⟨⟨by (try simp only [List.length_append, List.length_map, List.length_take, List.length_drop, List.length_cons, List.length_nil]); omega, by (try simp only [List.length_append, List.length_map, List.length_take, List.length_drop, List.length_cons, List.length_nil]); omega⟩, ?_⟩)
     refine hK _ _ ?_; clear hK K
     show ∃ y, _ ∧ Weak _ _ _
     refine ⟨⟨(seen ++ [e.2.2], ks ++ [e.1]), hM.next (msE_ok _) he⟩, left_lt he, ?_⟩
     exact Weak.store (by simp [St.get, lk, W, Le.refl, isEA, -List.append_assoc, q1]) (by simp [lk, W, -List.append_assoc, q1]) (by simp [lk, W, clo_ap, clo_sl, clo_s1, -List.mem_append, -List.mem_map, -List.append_assoc]) (by simp [BClo, lk]; exact fun a b c h => ms_clo _ _ h) (by simp [lk])
end Go.Proofs

set_option linter.unusedSimpArgs false
set_option linter.unusedVariables false
namespace Go.Proofs
open Go Go.Id
def Rule.rng (p : Rule) : Prop := (-9223372036854775808 ≤ p.lvl ∧ p.lvl ≤ 9223372036854775807) ∧ (-9223372036854775808 ≤ p.age ∧ p.age ≤ 9223372036854775807)
theorem shG_no {ls : List (List UInt8)} {n m : Int} (h : shG ls n m = false) : (ls.length : Int) ≤ n ∧ ∀ s ∈ ls, (s.length : Int) ≤ m := by
  simp only [shG, Bool.or_eq_false_iff, decide_eq_false_iff_not, List.any_eq_false, decide_eq_true_eq] at h
  exact ⟨by omega, fun s hs => by have := h.2 s hs; omega⟩
theorem pG_no {p : Rule} (h : pG p = false) (hb : p.big) : p.ok := by
  simp only [pG, Bool.or_eq_false_iff, decide_eq_false_iff_not, List.any_eq_false] at h
  obtain ⟨⟨⟨h1, h2⟩, h3⟩, h4⟩ := h
  obtain ⟨s1, s2⟩ := shG_no h3
  refine ⟨⟨by omega, hb.2.1, by omega, hb.2.2.2⟩, by omega, fun c hc => ?_, fun s hs => by have := s2 s hs; omega⟩
  have := h4 c hc
  simp only [cG, Bool.or_eq_true, decide_eq_true_eq, not_or] at this
  exact ⟨by omega, by omega, by omega⟩
structure NotGreat (l : List Rule) (r : Req) : Prop where
  few : l.length ≤ 70
  ok : ∀ p ∈ l, p.ok
  rok : r.ok
  hrs : ∀ s ∈ r.scopes, s.length ≤ 1099511627776
  sc : r.scopes.length ≤ 20
theorem great_no {l : List Rule} {r : Req} (h : greatB l r = false) (hl : ∀ p ∈ l, p.big) (hr : r.big) : NotGreat l r := by
  simp only [greatB, Bool.or_eq_false_iff, decide_eq_false_iff_not, List.any_eq_false] at h
  obtain ⟨⟨⟨⟨⟨⟨h1, h2⟩, h3⟩, h4⟩, h5⟩, h6⟩, h7⟩ := h
  obtain ⟨a1, a2⟩ := shG_no h2
  obtain ⟨b1, b2⟩ := shG_no h3
  exact ⟨by omega, fun p hp => pG_no (by simpa using h7 p hp) (hl p hp), ⟨by omega, hr.2.1, by omega, hr.2.2.2⟩, fun s hs => by have := a2 s hs; omega, by omega⟩
/-- What the grants of scopes keep to. -/
structure PK (l : List Rule) (r : Req) (k : Nat) (q : PS) : Prop where
  len : q.rs.length = l.length
  alen : q.all.length ≤ k
  mem : ∀ x ∈ q.all, x ∈ r.scopes
  rok : ∀ x ∈ q.rs, x.scopes.length ≤ k ∧ ∀ s ∈ x.scopes, s ∈ r.scopes
  lvl : q.lvl = 0 ∨ ∃ p ∈ l, q.lvl = p.lvl
  age : q.age = 0 ∨ ∃ p ∈ l, q.age = p.age
theorem PK.next {l : List Rule} {r : Req} {k : Nat} {q : PS} (h : PK l r k q) {s : List UInt8} (hs : s ∈ r.scopes) : PK l r (k + 1) (pStep l r q s) := by
  cases hc : decide (grP r s l 0 < 0) with
  | true =>
    rw [pStep_no hc]
    exact ⟨h.len, by have := h.alen; omega, h.mem, fun x hx => ⟨by have := (h.rok x hx).1; omega, (h.rok x hx).2⟩, h.lvl, h.age⟩
  | false =>
    obtain ⟨i, hi, hg⟩ := grP_at hc
    rw [pStep_at hi hg]
    refine ⟨by rw [modify_len]; exact h.len, by have := h.alen; simp; omega, fun x hx => ?_, fun x hx => ?_, ?_, ?_⟩
    · rcases List.mem_append.1 hx with hx | hx
      · exact h.mem x hx
      · rw [List.mem_singleton] at hx; rw [hx]; exact hs
    · obtain ⟨j, hj, rfl⟩ := List.mem_iff_getElem.1 hx
      have hj' : j < q.rs.length := by simpa using hj
      rw [List.getElem_modify]
      obtain ⟨h1, h2⟩ := h.rok _ (List.getElem_mem hj')
      split
      · unfold addS
        split
        · exact ⟨by omega, h2⟩
        · refine ⟨by simp; omega, fun x hx => ?_⟩
          rcases List.mem_append.1 hx with hx | hx
          · exact h2 x hx
          · rw [List.mem_singleton] at hx; rw [hx]; exact hs
      · exact ⟨by omega, h2⟩
    · unfold lvlU; split
      · exact .inr ⟨_, List.getElem_mem hi, rfl⟩
      · exact h.lvl
    · unfold ageU; split
      · exact .inr ⟨_, List.getElem_mem hi, rfl⟩
      · exact h.age
theorem PK.all {l : List Rule} {r : Req} : PK l r r.scopes.length (psR l r) := by
  have key : ∀ (ss : List (List UInt8)) (k : Nat) (q : PS), (∀ s ∈ ss, s ∈ r.scopes) → PK l r k q → PK l r (k + ss.length) (ss.foldl (pStep l r) q) := by
    intro ss
    induction ss with
    | nil => intro k q _ h; exact h
    | cons s ss ih =>
      intro k q hs h
      rw [List.foldl_cons, List.length_cons, show k + (ss.length + 1) = (k + 1) + ss.length by omega]
      exact ih (k + 1) _ (fun x hx => hs x (by simp [hx])) (h.next (hs s (by simp)))
  have := key r.scopes 0 (ps0 l r) (fun _ h => h) ⟨by simp [ps0], by simp [ps0], by simp [ps0], fun x hx => by simp [ps0, mkR] at hx; obtain ⟨a, _, rfl⟩ := hx; simp, .inl rfl, .inl rfl⟩
  rw [Nat.zero_add] at this
  exact this
theorem asc_nodup {l : List (List UInt8)} (h : Asc l) : l.Nodup := List.Pairwise.imp (fun {a b} h e => by rw [e, bl_irrefl] at h; cases h) h
theorem srtR_len (l : List (List UInt8)) : (srtR l).length ≤ l.length := by
  obtain ⟨h1, h2⟩ := srtR_spec l
  exact nodup_len (asc_nodup h1) fun x hx => ((h2 x).1 hx).1
theorem reasD_ok (l : List Rule) (r : Req) : ∀ x ∈ reasD l r, x.ok := fun x hx => by
  simp only [reasD, mkR, List.mem_map] at hx
  obtain ⟨a, _, rfl⟩ := hx
  exact ⟨by simp, by simp, by simp⟩
theorem isE_nil {α : Type} {l : List α} (h : l.isEmpty = true) : l = [] := by simpa using h
theorem stepD_sp (r : Req) (d : Dec) : ∀ l : List Rule, stepD r d l = d ∨ ∃ p ∈ l, stepD r d l = { d with eff := 3, lvl := p.lvl, age := p.age } ∧ okS r p = true
  | [] => .inl rfl
  | p :: l => by
    unfold stepD
    split
    · rename_i h; exact .inr ⟨p, by simp, rfl, h⟩
    · rcases stepD_sp r d l with h | ⟨q, h1, h2⟩
      · exact .inl h
      · exact .inr ⟨q, by simp [h1], h2⟩
theorem run_ok {l : List Rule} {r : Req} (h : NotGreat l r) (hg : ∀ p ∈ l, p.rng) : (runD l r).ok := by
  have hI := PK.all (l := l) (r := r)
  have hrl : (reasD l r).length ≤ 1099511627776 := by have := h.few; simp [reasD]; omega
  have hrn : l.isEmpty = true → reasD l r = [] := fun e => by rw [isE_nil e]; rfl
  have h4 : (dec4 l r).ok := ⟨by simp [dec4], fun _ => rfl, by simp [dec4], hrl, hrn, reasD_ok l r, by simp [dec4], by simp [dec4]⟩
  unfold runD
  split
  · exact ⟨by simp [noD], fun _ => rfl, by simp [noD], by simp [noD], fun _ => rfl, by simp [noD], by simp [noD], by simp [noD]⟩
  split
  · exact ⟨by simp, fun _ => rfl, by simp, hrl, hrn, reasD_ok l r, by simp, by simp⟩
  split
  · have hsl := srtR_len (psR l r).all
    have hal := hI.alen
    have hsc := h.sc
    refine ⟨by dsimp only; omega, fun e => isE_nil e, fun s hs => h.hrs _ (hI.mem _ (((srtR_spec _).2 s).1 hs).1), by dsimp only; rw [List.length_map, hI.len]; have := h.few; omega, fun e => ?_, fun x hx => ?_, ?_, ?_⟩
    · have := hI.len
      rw [isE_nil e] at this ⊢
      exact List.map_eq_nil_iff.2 (List.eq_nil_of_length_eq_zero this)
    · obtain ⟨y, hy, rfl⟩ := List.mem_map.1 hx
      obtain ⟨h1, h2⟩ := hI.rok y hy
      exact ⟨by simp only [Reas.nrm]; omega, fun e => isE_nil e, fun s hs => h.hrs _ (h2 s hs)⟩
    · rcases hI.lvl with e | ⟨p, hp, e⟩
      · dsimp only; rw [e]; omega
      · dsimp only; rw [e]; exact (hg p hp).1
    · rcases hI.age with e | ⟨p, hp, e⟩
      · dsimp only; rw [e]; omega
      · dsimp only; rw [e]; exact (hg p hp).2
  · show (stepD r (dec4 l r) l).ok
    rcases stepD_sp r (dec4 l r) l with e | ⟨p, hp, e, _⟩
    · rw [e]; exact h4
    · rw [e]
      exact ⟨h4.1, h4.2.1, h4.2.2.1, h4.2.2.2.1, h4.2.2.2.2.1, h4.2.2.2.2.2.1, (hg p hp).1, (hg p hp).2⟩
theorem sameD_refl (d : Dec) : sameD d d = true := by simp [sameD]
end Go.Proofs

set_option linter.unusedSimpArgs false
set_option linter.unusedVariables false
set_option maxRecDepth 10000
namespace Go.Proofs
open Go Go.Id
set_option maxHeartbeats 4000000
def pM : Rule := ⟨[109], false, [], true, [[109, 97, 105, 108]], false, 2, 0⟩
def pN : Rule := ⟨[110], true, [⟨[117, 115, 101, 114], [105, 115], [117]⟩], false, [], true, 0, 0⟩
def rU : Req := ⟨[117], [99], [116], [], true, [[109, 97, 105, 108, 46, 114, 101, 97, 100]], false, 0, false, 1, 0, 10⟩
theorem ok_M : pM.ok := by simp [pM, Rule.ok, Rule.ok0]
theorem ok_N : pN.ok := by simp [pN, Rule.ok, Rule.ok0, Cond.ok]
theorem ok_U : rU.ok := by simp [rU, Req.ok]
theorem hrs_U : ∀ s ∈ rU.scopes, s.length ≤ 1099511627776 := by simp [rU]
theorem les_M : Les ([.str [109], .bool false, .slice 0 true [] none, .slice 1 false [[.str [109, 97, 105, 108]]] none, .int .i64 2, .int .i64 0]) pM.cs := ⟨Le.refl _, Le.refl _, Le.nil _ _ _, Le.refl _, Le.refl _, Le.refl _, trivial⟩
theorem les_N : Les ([.str [110], .bool true, .slice 3 false [[.str [117, 115, 101, 114], .str [105, 115], .str [117]]] none, .slice 0 true [] none, .int .i64 0, .int .i64 0]) pN.cs := ⟨Le.refl _, Le.refl _, Le.refl _, Le.nil _ _ _, Le.refl _, Le.refl _, trivial⟩
theorem le_1 : Le (.slice 6 false [[.str [109], .bool false, .slice 0 true [] none, .slice 1 false [[.str [109, 97, 105, 108]]] none, .int .i64 2, .int .i64 0]] none) (.slice 6 false ([pM].map Rule.cs) none) := Le.slice rfl (by simp [Rule.cs]) fun i e e' h1 h2 => by
 match i with
 | 0 => simp at h1 h2; subst h1; subst h2; exact les_M
 | i + 1 => simp at h1
theorem le_2 : Le (.slice 6 false [[.str [109], .bool false, .slice 0 true [] none, .slice 1 false [[.str [109, 97, 105, 108]]] none, .int .i64 2, .int .i64 0], [.str [110], .bool true, .slice 3 false [[.str [117, 115, 101, 114], .str [105, 115], .str [117]]] none, .slice 0 true [] none, .int .i64 0, .int .i64 0]] none) (.slice 6 false ([pM, pN].map Rule.cs) none) := Le.slice rfl (by simp [Rule.cs]) fun i e e' h1 h2 => by
 match i with
 | 0 => simp at h1 h2; subst h1; subst h2; exact les_M
 | 1 => simp at h1 h2; subst h1; subst h2; exact les_N
 | i + 2 => simp at h1
theorem x_1 : (runD [pM] rU) = ⟨3, [], true, 2, 0, [⟨0, -1, [], true⟩], false⟩ := by kernel_rfl
theorem x_2 : (runD [pM] (aftR rU 2)) = ⟨1, [[109, 97, 105, 108, 46, 114, 101, 97, 100]], false, 2, 0, [⟨0, -1, [[109, 97, 105, 108, 46, 114, 101, 97, 100]], false⟩], false⟩ := by kernel_rfl
theorem x_3 : (runD [pM, pN] rU) = ⟨2, [], true, 0, 0, [⟨0, -1, [], true⟩, ⟨1, -1, [], true⟩], false⟩ := by kernel_rfl
theorem x_4 : chgR [pM, pN] rU = [[117, 115, 101, 114]] := by kernel_rfl
theorem x_5 : explX [pM] ⟨3, [], true, 2, 0, [⟨0, -1, [], true⟩], false⟩ = [[109, 32, 97, 112, 112, 108, 105, 101, 115], [115, 116, 101, 112, 32, 117, 112, 32, 108, 101, 118, 101, 108, 32, 50, 32, 97, 103, 101, 32, 48]] := by kernel_rfl
theorem x_6 : srtR (rU.scopes.filter (fun s => !(covB s []))) = [[109, 97, 105, 108, 46, 114, 101, 97, 100]] := by kernel_rfl
theorem a_run1 : CallP Pr 12 [.slice 6 false [[.str [109], .bool false, .slice 0 true [] none, .slice 1 false [[.str [109, 97, 105, 108]]] none, .int .i64 2, .int .i64 0]] none, .agg [.str [117], .str [99], .str [116], .slice 0 true [] none, .slice 1 false [[.str [109, 97, 105, 108, 46, 114, 101, 97, 100]]] none, .int .i64 0, .bool false, .int .i64 1, .int .i64 0, .int .i64 10]] (.agg [.int .i64 3, .slice 1 true [] none, .int .i64 2, .int .i64 0, .slice 3 false [[.int .i64 0, .int .i64 (-1), .slice 1 true [] none]] none]) := by
 have h := c_run [pM] false rU (by simp) nofun (by intro p hp; rw [List.mem_singleton.1 hp]; exact ok_M) ok_U hrs_U
 rw [x_1] at h
 exact CallE.weak h ⟨le_1, Le.agg ⟨Le.refl _, Le.refl _, Le.refl _, Le.nil _ _ _, Le.refl _, Le.refl _, Le.refl _, Le.refl _, Le.refl _, Le.refl _, trivial⟩, trivial⟩ (Le.refl _)
theorem a_run3 : CallP Pr 12 [.slice 6 false [[.str [109], .bool false, .slice 0 true [] none, .slice 1 false [[.str [109, 97, 105, 108]]] none, .int .i64 2, .int .i64 0], [.str [110], .bool true, .slice 3 false [[.str [117, 115, 101, 114], .str [105, 115], .str [117]]] none, .slice 0 true [] none, .int .i64 0, .int .i64 0]] none, .agg [.str [117], .str [99], .str [116], .slice 0 true [] none, .slice 1 false [[.str [109, 97, 105, 108, 46, 114, 101, 97, 100]]] none, .int .i64 0, .bool false, .int .i64 1, .int .i64 0, .int .i64 10]] (.agg [.int .i64 2, .slice 1 true [] none, .int .i64 0, .int .i64 0, .slice 3 false [[.int .i64 0, .int .i64 (-1), .slice 1 true [] none], [.int .i64 1, .int .i64 (-1), .slice 1 true [] none]] none]) := by
 have h := c_run [pM, pN] false rU (by simp) nofun (by intro p hp; rcases List.mem_cons.1 hp with rfl | hp; exact ok_M; rw [List.mem_singleton.1 hp]; exact ok_N) ok_U hrs_U
 rw [x_3] at h
 exact CallE.weak h ⟨le_2, Le.agg ⟨Le.refl _, Le.refl _, Le.refl _, Le.nil _ _ _, Le.refl _, Le.refl _, Le.refl _, Le.refl _, Le.refl _, Le.refl _, trivial⟩, trivial⟩ (Le.refl _)
theorem a_run0 : CallP Pr 12 [.slice 0 true [] none, .agg [.str [117], .str [99], .str [116], .slice 0 true [] none, .slice 1 false [[.str [109, 97, 105, 108, 46, 114, 101, 97, 100]]] none, .int .i64 0, .bool false, .int .i64 1, .int .i64 0, .int .i64 10]] (.agg [.int .i64 4, .slice 1 true [] none, .int .i64 0, .int .i64 0, .slice 3 true [] none]) := by
 have h := c_run [] true rU (by simp) (fun _ => rfl) (by simp) ok_U hrs_U
 rw [runD_nil] at h
 exact CallE.weak h ⟨Le.nil _ _ _, Le.agg ⟨Le.refl _, Le.refl _, Le.refl _, Le.nil _ _ _, Le.refl _, Le.refl _, Le.refl _, Le.refl _, Le.refl _, Le.refl _, trivial⟩, trivial⟩ (Le.refl _)
theorem a_after : CallP Pr 20 [.slice 6 false [[.str [109], .bool false, .slice 0 true [] none, .slice 1 false [[.str [109, 97, 105, 108]]] none, .int .i64 2, .int .i64 0]] none, .agg [.str [117], .str [99], .str [116], .slice 0 true [] none, .slice 1 false [[.str [109, 97, 105, 108, 46, 114, 101, 97, 100]]] none, .int .i64 0, .bool false, .int .i64 1, .int .i64 0, .int .i64 10], .int .i64 2] (.agg [.int .i64 1, .slice 1 false [[.str [109, 97, 105, 108, 46, 114, 101, 97, 100]]] none, .int .i64 2, .int .i64 0, .slice 3 false [[.int .i64 0, .int .i64 (-1), .slice 1 false [[.str [109, 97, 105, 108, 46, 114, 101, 97, 100]]] none]] none]) := by
 have h := c_after [pM] false rU (by simp) nofun (by intro p hp; rw [List.mem_singleton.1 hp]; exact ok_M) ok_U hrs_U 2
 rw [x_2] at h
 exact CallE.weak h ⟨le_1, Le.agg ⟨Le.refl _, Le.refl _, Le.refl _, Le.nil _ _ _, Le.refl _, Le.refl _, Le.refl _, Le.refl _, Le.refl _, Le.refl _, trivial⟩, Le.refl _, trivial⟩ (Le.refl _)
theorem a_expl : CallP Pr 15 [.slice 6 false [[.str [109], .bool false, .slice 0 true [] none, .slice 1 false [[.str [109, 97, 105, 108]]] none, .int .i64 2, .int .i64 0]] none, .agg [.int .i64 3, .slice 1 true [] none, .int .i64 2, .int .i64 0, .slice 3 false [[.int .i64 0, .int .i64 (-1), .slice 1 true [] none]] none]] (.slice 1 false [[.str [109, 32, 97, 112, 112, 108, 105, 101, 115]], [.str [115, 116, 101, 112, 32, 117, 112, 32, 108, 101, 118, 101, 108, 32, 50, 32, 97, 103, 101, 32, 48]]] none) := by
 have h := c_explain [pM] false ⟨3, [], true, 2, 0, [⟨0, -1, [], true⟩], false⟩ nofun (by intro p hp; rw [List.mem_singleton.1 hp]; exact ok_M) (by simp [Dec.ok, Reas.ok])
 rw [x_5] at h
 exact CallE.weak h ⟨le_1, Le.refl _, trivial⟩ (Le.refl _)
theorem a_chg : CallP Pr 22 [.slice 6 false [[.str [109], .bool false, .slice 0 true [] none, .slice 1 false [[.str [109, 97, 105, 108]]] none, .int .i64 2, .int .i64 0], [.str [110], .bool true, .slice 3 false [[.str [117, 115, 101, 114], .str [105, 115], .str [117]]] none, .slice 0 true [] none, .int .i64 0, .int .i64 0]] none, .agg [.str [117], .str [99], .str [116], .slice 0 true [] none, .slice 1 false [[.str [109, 97, 105, 108, 46, 114, 101, 97, 100]]] none, .int .i64 0, .bool false, .int .i64 1, .int .i64 0, .int .i64 10]] (.slice 1 false [[.str [117, 115, 101, 114]]] none) := by
 have h := c_changed [pM, pN] false rU (by simp) nofun (by intro p hp; rcases List.mem_cons.1 hp with rfl | hp; exact ok_M; rw [List.mem_singleton.1 hp]; exact ok_N) ok_U hrs_U
 rw [x_4] at h
 exact CallE.weak h ⟨le_2, Le.agg ⟨Le.refl _, Le.refl _, Le.refl _, Le.nil _ _ _, Le.refl _, Le.refl _, Le.refl _, Le.refl _, Le.refl _, Le.refl _, trivial⟩, trivial⟩ (Le.refl _)
theorem a_miss : CallP Pr 18 [.agg [.int .i64 3, .slice 1 true [] none, .int .i64 2, .int .i64 0, .slice 3 false [[.int .i64 0, .int .i64 (-1), .slice 1 true [] none]] none], .agg [.str [117], .str [99], .str [116], .slice 0 true [] none, .slice 1 false [[.str [109, 97, 105, 108, 46, 114, 101, 97, 100]]] none, .int .i64 0, .bool false, .int .i64 1, .int .i64 0, .int .i64 10]] (.slice 1 false [[.str [109, 97, 105, 108, 46, 114, 101, 97, 100]]] none) := by
 have h := c_missing ⟨3, [], true, 2, 0, [⟨0, -1, [], true⟩], false⟩ rU (by simp [Dec.ok, Reas.ok]) ok_U hrs_U
 rw [x_6] at h
 exact CallE.weak h ⟨Le.refl _, Le.agg ⟨Le.refl _, Le.refl _, Le.refl _, Le.nil _ _ _, Le.refl _, Le.refl _, Le.refl _, Le.refl _, Le.refl _, Le.refl _, trivial⟩, trivial⟩ (Le.refl _)
theorem a_s1 : CallP Pr 16 [.slice 1 false [[.str [109, 97, 105, 108, 46, 114, 101, 97, 100]]] none, .slice 1 false [[.str [109, 97, 105, 108, 46, 114, 101, 97, 100]]] none] (.bool true) := c_same2 [[109, 97, 105, 108, 46, 114, 101, 97, 100]] [[109, 97, 105, 108, 46, 114, 101, 97, 100]] false false (by simp) nofun nofun
theorem a_s2 : CallP Pr 16 [.slice 1 false [[.str [117, 115, 101, 114]]] none, .slice 1 false [[.str [117, 115, 101, 114]]] none] (.bool true) := c_same2 [[117, 115, 101, 114]] [[117, 115, 101, 114]] false false (by simp) nofun nofun

theorem c_mail : CallE Pr 28 [] [] (.slice 6 false [[.str [109], .bool false, .slice 0 true [] none, .slice 1 false [[.str [109, 97, 105, 108]]] none, .int .i64 2, .int .i64 0]] (some 0)) [(0, .tip 44 6 1)] := by
 refine CallE.of_wp Tryz.func28 rfl (by kernel_rfl) Tryz.ntmps28 (by simp) ?_
 simp only [frameOf, Nat.reduceAdd, Nat.zero_add, List.map_cons, List.map_nil]
 refine WP.sr [] (by kernel_rfl) fun K hK => ?_
 simp (decide := true) only [TF, ↓reduceIte, Int.reduceToNat]
 refine hK _ _ ?_; clear hK K
 refine WP.sr [0] (by kernel_rfl) fun K hK => ?_
 simp (decide := true) only [TF, ↓reduceIte, Int.reduceToNat]
 refine hK _ _ ?_; clear hK K
 refine WP.ret ?_
 refine Ends.imp (.inr rfl) rfl (Le.of_eq (by simp (decide := true) only [St.get, lk, W, ↓reduceIte])) ?_ ?_ ?_
 · simp [lk]
 · simp [St.get, lk, W, BClo]
 · simp [lk]
theorem c_mail_at (t : Nat) : CallE Pr 28 [] [] (.slice 6 false [[.str [109], .bool false, .slice 0 true [] none, .slice 1 false [[.str [109, 97, 105, 108]]] none, .int .i64 2, .int .i64 0]] (some t)) [(t, .tip 44 6 1)] := by
 obtain ⟨f, g, h1, h2⟩ := ren_ex [t] (by simp)
 have := CallE.rename h1 c_mail
 have f1 : f 0 = t := h2 0 t rfl
 simpa only [List.map_cons, List.map_nil, renS, renB, renL, renLL, renD, Option.map_some, Option.map_none, f1] using this
/-- A permit rule that applies at the request's level and covers the scope. -/
def grC (r : Req) (s : List UInt8) (p : Rule) : Bool := !p.deny && decide (p.lvl ≤ r.level) && okM p r && withinB [s] p.scopes
end Go.Proofs

set_option linter.unusedSimpArgs false
set_option linter.unusedVariables false
set_option maxRecDepth 10000
namespace Go.Proofs
open Go Go.Id
set_option maxHeartbeats 4000000
theorem cz0 : ((((0 : Nat) : Int) == 0) = true) := rfl
theorem cz1 : ((((1 : Nat) : Int) == 1) = true) := rfl
theorem cz2 : ((((2 : Nat) : Int) == 2) = true) := rfl
theorem c_live : CallP Pr 10 [] (.bool true) := by
 refine CallP.of_wp Tryz.func10 rfl (by kernel_rfl) Tryz.ntmps10 (by simp) ?_
 simp only [frameOf, Nat.reduceAdd, Nat.zero_add]
 refine WP.sr [] (by kernel_rfl) fun K hK => ?_
 simp (decide := true) only [TF, EV, Nat.reduceAdd, cz0, cz1, cz2, ↓reduceIte, Int.reduceToNat]
 refine hK _ _ ?_; clear hK K
 refine WP.sr [1] (by kernel_rfl) fun K hK => ?_
 simp (decide := true) only [TF, EV, Nat.reduceAdd, cz0, cz1, cz2, ↓reduceIte, Int.reduceToNat]
 refine hK _ _ ?_; clear hK K
 refine WP.sd [1, 2] (by kernel_rfl) (by kernel_rfl) fun K hK => ?_
 simp (decide := true) only [TF, EV, Nat.reduceAdd, cz0, cz1, cz2, ↓reduceIte, Int.reduceToNat]
 refine CallK.imp (c_mail_at 1) rfl rfl (by simp) (by simp [lk]) (by simp [lk]) ?_
 simp (decide := true) only [TF, EV, Nat.reduceAdd, cz0, cz1, cz2, ↓reduceIte, Int.reduceToNat]
 refine CallK.pure (a_run1) rfl rfl (by simp [-List.map_take]) ?_
 simp (decide := true) only [TF, EV, Nat.reduceAdd, cz0, cz1, cz2, ↓reduceIte, Int.reduceToNat]
 refine hK _ _ (by kernel_rfl) ?_
 clear hK K
 refine WP.sd [1, 2, 3] (by kernel_rfl) (by kernel_rfl) fun K hK => ?_
 simp (decide := true) only [TF, EV, Nat.reduceAdd, cz0, cz1, cz2, ↓reduceIte, Int.reduceToNat]
 refine CallK.imp (c_mail_at 3) rfl rfl (by simp) (by simp [lk]) (by simp [lk]) ?_
 simp (decide := true) only [TF, EV, Nat.reduceAdd, cz0, cz1, cz2, ↓reduceIte, Int.reduceToNat]
 refine CallK.pure (a_expl) rfl rfl (by simp [-List.map_take]) ?_
 simp (decide := true) only [TF, EV, Nat.reduceAdd, cz0, cz1, cz2, ↓reduceIte, Int.reduceToNat]
 refine hK _ _ (by kernel_rfl) ?_
 clear hK K
 refine WP.sd [1, 2, 3, 4] (by kernel_rfl) (by kernel_rfl) fun K hK => ?_
 simp (decide := true) only [TF, EV, Nat.reduceAdd, cz0, cz1, cz2, ↓reduceIte, Int.reduceToNat]
 refine CallK.imp (c_mail_at 4) rfl rfl (by simp) (by simp [lk]) (by simp [lk]) ?_
 simp (decide := true) only [TF, EV, Nat.reduceAdd, cz0, cz1, cz2, ↓reduceIte, Int.reduceToNat]
 refine CallK.pure (a_after) rfl rfl (by simp [-List.map_take]) ?_
 simp (decide := true) only [TF, EV, Nat.reduceAdd, cz0, cz1, cz2, ↓reduceIte, Int.reduceToNat]
 refine hK _ _ (by kernel_rfl) ?_
 clear hK K
 refine WP.sr [1, 2, 3, 4, 5] (by kernel_rfl) fun K hK => ?_
 simp (decide := true) only [TF, EV, Nat.reduceAdd, cz0, cz1, cz2, ↓reduceIte, Int.reduceToNat]
 refine CallK.pure (a_run0) rfl rfl (by simp [-List.map_take]) ?_
 simp (decide := true) only [TF, EV, Nat.reduceAdd, cz0, cz1, cz2, ↓reduceIte, Int.reduceToNat]
 refine hK _ _ ?_; clear hK K
 refine WP.sr [1, 2, 3, 4, 5, 6] (by kernel_rfl) fun K hK => ?_
 simp (decide := true) only [TF, EV, Nat.reduceAdd, cz0, cz1, cz2, ↓reduceIte, Int.reduceToNat]
 refine CallK.imp (c_mail_at 7) rfl rfl (by simp) (by simp [lk]) (by simp [lk]) ?_
 simp (decide := true) only [TF, EV, Nat.reduceAdd, cz0, cz1, cz2, ↓reduceIte, Int.reduceToNat]
 refine hK _ _ ?_; clear hK K
 refine WP.sr [1, 2, 3, 4, 5, 6, 7] (by kernel_rfl) fun K hK => ?_
 simp (decide := true) only [TF, EV, Nat.reduceAdd, cz0, cz1, cz2, ↓reduceIte, Int.reduceToNat]
 refine CallK.pure (a_run3) rfl rfl (by simp [-List.map_take]) ?_
 simp (decide := true) only [TF, EV, Nat.reduceAdd, cz0, cz1, cz2, ↓reduceIte, Int.reduceToNat]
 refine hK _ _ ?_; clear hK K
 refine WP.sr [1, 2, 3, 4, 5, 7, 8] (by kernel_rfl) fun K hK => ?_
 simp (decide := true) only [TF, EV, Nat.reduceAdd, cz0, cz1, cz2, ↓reduceIte, Int.reduceToNat]
 refine CallK.pure (a_chg) rfl rfl (by simp [-List.map_take]) ?_
 simp (decide := true) only [TF, EV, Nat.reduceAdd, cz0, cz1, cz2, ↓reduceIte, Int.reduceToNat]
 refine hK _ _ ?_; clear hK K
 refine WP.sr [0] (by kernel_rfl) fun K hK => ?_
 simp (decide := true) only [TF, EV, Nat.reduceAdd, cz0, cz1, cz2, ↓reduceIte, Int.reduceToNat]
 refine CallK.pure (a_s1) rfl rfl (by simp [-List.map_take]) ?_
 simp (decide := true) only [TF, EV, Nat.reduceAdd, cz0, cz1, cz2, ↓reduceIte, Int.reduceToNat]
 refine CallK.pure (a_s2) rfl rfl (by simp [-List.map_take]) ?_
 simp (decide := true) only [TF, EV, Nat.reduceAdd, cz0, cz1, cz2, ↓reduceIte, Int.reduceToNat]
 refine CallK.pure (a_miss) rfl rfl (by simp [-List.map_take]) ?_
 simp (decide := true) only [TF, EV, Nat.reduceAdd, cz0, cz1, cz2, ↓reduceIte, Int.reduceToNat]
 refine CallK.pure (a_s1) rfl rfl (by simp [-List.map_take]) ?_
 simp (decide := true) only [TF, EV, Nat.reduceAdd, cz0, cz1, cz2, ↓reduceIte, Int.reduceToNat]
 refine hK _ _ ?_; clear hK K
 refine WP.ret ?_
 exact Ends.pure (.inr rfl) rfl (Le.of_eq (by simp (decide := true) only [St.get, lk, W, ↓reduceIte])) (by simp)
end Go.Proofs
