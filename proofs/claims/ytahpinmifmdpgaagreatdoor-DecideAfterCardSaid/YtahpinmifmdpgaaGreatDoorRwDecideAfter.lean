import Derived.Test.YtahpinmifmdpgaaGreatDoorG12
import Derived.Test.YtahpinmifmdpgaaGreatDoorG11
import Derived.Test.YtahpinmifmdpgaaGreatDoorG13
import Derived.Test.YtahpinmifmdpgaaGreatDoorG05
import Derived.ChangeMaps5
set_option linter.unusedVariables false
set_option linter.unusedSimpArgs false
set_option maxRecDepth 10000
namespace Go.Proofs
open Go Go.Id
set_option maxHeartbeats 4000000
theorem c_l_after (l : List Rule) (nl : Bool) (hn : l.length ≤ 9223372036854775807) (hnl : nl = true → l = []) (hl : ∀ p ∈ l, p.big) (hg : ∀ p ∈ l, p.rng) (r : Req) (hr : r.big) (n : Int) : CallP Pr 5 [.slice 6 nl (l.map Rule.cs) none, .agg [.str r.user, .str r.client, .str r.tenant, .slice 1 r.ng (r.groups.map fun x => [.str x]) none, .slice 1 r.ns (r.scopes.map fun x => [.str x]) none, .int .i64 r.risk, .bool r.trusted, .int .i64 r.level, .int .i64 r.auth, .int .i64 r.now], .int .i64 n] (.bool true) := by
 refine CallP.of_wp Tryz.func5 rfl (by kernel_rfl) Tryz.ntmps5 (by simp) ?_
 simp only [frameOf, Nat.reduceAdd, Nat.zero_add]
 refine WP.sr [0, 2, 4] (by kernel_rfl) fun K hK => ?_
 simp (decide := true) only [TF, EV, dcsD, ↓reduceIte, Int.reduceToNat]
 refine hK _ _ ?_; clear hK K
 refine WP.seq ?_
 refine WP.sr [0, 2, 4, 13] (by kernel_rfl) fun K hK => ?_
 simp (decide := true) only [TF, EV, dcsD, ↓reduceIte, Int.reduceToNat]
 refine CallK.pure (c_great l nl r hn hnl hl hr) rfl rfl (by simp [-List.map_take]) ?_
 simp (decide := true) only [TF, EV, dcsD, ↓reduceIte, Int.reduceToNat]
 refine hK _ _ ?_; clear hK K
 refine WP.cond (b := _) rfl (fun q1 => ?_) (fun q1 => ?_)
 ·
  refine WP.sr [6] (by kernel_rfl) fun K hK => ?_
  simp (decide := true) only [TF, EV, q1, dcsD, ↓reduceIte, Int.reduceToNat]
  refine CallK.pure (c_live) rfl rfl (by simp [-List.map_take]) ?_
  simp (decide := true) only [TF, EV, q1, dcsD, ↓reduceIte, Int.reduceToNat]
  refine hK _ _ ?_; clear hK K
  refine WP.ret ?_
  exact Ends.pure (.inr rfl) rfl (Le.of_eq (by simp (decide := true) only [St.get, lk, W, q1, ↓reduceIte])) (by simp)
 ·
  have hN := great_no q1 hl hr
  have hrk := run_ok hN hg
  have hsm := sameD_refl (runD l r)
  have hN2 := notGreat_aft hN n
  have hrk2 := run_ok hN2 hg
  have hsm2 := sameD_refl (runD l (aftR r n))
  refine WP.skip ?_
  show WP _ _ _ _ _ _
  refine WP.seq ?_
  refine WP.sd [0, 4, 28] (by kernel_rfl) (by kernel_rfl) fun K hK => ?_
  simp (decide := true) only [TF, EV, q1, hsm2, dcsD, ↓reduceIte, Int.reduceToNat]
  refine CallK.pure (c_after l nl r (by have := hN.few; omega) hnl hN.ok hN.rok hN.hrs n) rfl rfl (by simp [-List.map_take]) ?_
  simp (decide := true) only [TF, EV, q1, hsm2, dcsD, ↓reduceIte, Int.reduceToNat]
  refine CallK.pure (c_r_after l nl r (by have := hN.few; omega) hnl hN.ok hN.rok hN.hrs n) rfl rfl (by simp [-List.map_take]) ?_
  simp (decide := true) only [TF, EV, q1, hsm2, dcsD, ↓reduceIte, Int.reduceToNat]
  refine CallK.pure (c_same31 (runD l (aftR r n)) (runD l (aftR r n)) hrk2 hrk2) rfl rfl (by simp [-List.map_take]) ?_
  simp (decide := true) only [TF, EV, q1, hsm2, dcsD, ↓reduceIte, Int.reduceToNat]
  refine CallK.pure (c_live) rfl rfl (by simp [-List.map_take]) ?_
  simp (decide := true) only [TF, EV, q1, hsm2, dcsD, ↓reduceIte, Int.reduceToNat]
  refine hK _ _ (by kernel_rfl) ?_
  clear hK K
  refine WP.cond (b := false) (by rfl) nofun (fun _ => ?_)
  refine WP.skip ?_
  show WP _ _ _ _ _ _
  refine WP.sr [0, 4, 7] (by kernel_rfl) fun K hK => ?_
  simp (decide := true) only [TF, EV, q1, hsm2, dcsD, ↓reduceIte, Int.reduceToNat]
  refine CallK.pure (c_run l nl r (by have := hN.few; omega) hnl hN.ok hN.rok hN.hrs) rfl rfl (by simp [-List.map_take]) ?_
  simp (decide := true) only [TF, EV, q1, hsm2, dcsD, ↓reduceIte, Int.reduceToNat]
  refine hK _ _ ?_; clear hK K
  refine WP.seq ?_
  refine WP.sr [0, 4, 7, 34] (by kernel_rfl) fun K hK => ?_
  simp (decide := true) only [TF, EV, q1, hsm2, dcsD, ↓reduceIte, Int.reduceToNat]
  refine hK _ _ ?_; clear hK K
  refine WP.cond (b := _) rfl (fun q2 => ?_) (fun q2 => ?_)
  ·
   refine WP.sr [6] (by kernel_rfl) fun K hK => ?_
   simp (decide := true) only [TF, EV, q1, hsm2, q2, dcsD, ↓reduceIte, Int.reduceToNat]
   refine hK _ _ ?_; clear hK K
   refine WP.ret ?_
   exact Ends.pure (.inr rfl) rfl (Le.of_eq (by simp (decide := true) only [St.get, lk, W, q1, hsm2, q2, ↓reduceIte])) (by simp)
  ·
   have he3 := q2
   refine WP.skip ?_
   show WP _ _ _ _ _ _
   refine WP.seq ?_
   refine WP.sr [0, 4, 7, 36, 37] (by kernel_rfl) fun K hK => ?_
   simp (decide := true) only [TF, EV, q1, hsm2, q2, dcsD, ↓reduceIte, Int.reduceToNat]
   refine hK _ _ ?_; clear hK K
   refine WP.block ?_
   refine WP.lp [0, 4, 7, 36] (X := {k : Nat // k ≤ l.length ∧ ∀ p ∈ l.take k, ∀ c ∈ p.conds, laB c = false}) (fun x => match x with | ⟨(k), _⟩ => [(37, .int .i64 k)]) (fun x => match x with | ⟨(k), _⟩ => [(1, .box 32 [.int .i64 (runD l r).eff, .slice 1 (runD l r).ns ((runD l r).scopes.map fun x => [.str x]) none, .int .i64 (runD l r).lvl, .int .i64 (runD l r).age, .slice 3 (runD l r).nr ((runD l r).reas.map Reas.cs) none]), (0, .box 25 [.str r.user, .str r.client, .str r.tenant, .slice 1 r.ng (r.groups.map fun x => [.str x]) none, .slice 1 r.ns (r.scopes.map fun x => [.str x]) none, .int .i64 r.risk, .bool r.trusted, .int .i64 r.level, .int .i64 r.auth, .int .i64 r.now])]) (fun x => match x with | ⟨(k), _⟩ => l.length - k) (by simp (decide := true) only [W, ↓reduceIte, Int.reduceToNat]; rfl) ?_ ⟨(0), ⟨Nat.zero_le _, by simp⟩⟩ ?_
   rotate_left
   · exact Weak.store (by simp [St.get, lk, W, Le.refl, q1, hsm2, q2]) (by simp [lk, W, q1, hsm2, q2]) (by simp [lk, W]) (by simp [BClo, lk]) (by simp [lk])
   rintro ⟨k, hk, hI⟩
   dsimp only
   simp only [List.cons_append, List.nil_append]
   refine WP.sr [0, 4, 7, 36, 37, 38] (by kernel_rfl) fun K hK => ?_
   simp (decide := true) only [TF, EV, q1, hsm2, q2, hk, dcsD, ↓reduceIte, Int.reduceToNat]
   refine hK _ _ ?_; clear hK K
   refine WP.seq ?_
   refine WP.cond (b := _) rfl (fun q3 => ?_) (fun q3 => ?_)
   ·
    have hlt := lt_of_q q3
    have hg : (l.map Rule.cs)[k]? = some [.str l[k].name, .bool l[k].deny, .slice 3 l[k].nc (l[k].conds.map Cond.cs) none, .slice 1 l[k].ns (l[k].scopes.map fun x => [.str x]) none, .int .i64 l[k].lvl, .int .i64 l[k].age] := getM hlt
    have hnf := nl_false hnl hlt
    have hpk := hN.ok _ (List.getElem_mem hlt)
    have hcn := hpk.1.1
    refine WP.skip ?_
    show WP _ _ _ _ _ _
    refine WP.seq ?_
    refine WP.block ?_
    refine WP.sr [0, 4, 7, 8, 36, 37] (by kernel_rfl) fun K hK => ?_
    simp (decide := true) only [TF, EV, q1, hsm2, q2, hk, q3, hg, hnf, dcsD, ↓reduceIte, Int.reduceToNat]
    refine hK _ _ ?_; clear hK K
    refine WP.sr [0, 4, 7, 8, 36, 37, 45, 46] (by kernel_rfl) fun K hK => ?_
    simp (decide := true) only [TF, EV, q1, hsm2, q2, hk, q3, hg, hnf, dcsD, ↓reduceIte, Int.reduceToNat]
    refine hK _ _ ?_; clear hK K
    refine WP.block ?_
    refine WP.lp [0, 4, 7, 8, 36, 37, 45] (X := {j : Nat // j ≤ l[k].conds.length ∧ ∀ c ∈ l[k].conds.take j, laB c = false}) (fun x => match x with | ⟨(j), _⟩ => [(46, .int .i64 j)]) (fun x => match x with | ⟨(j), _⟩ => [(1, .box 32 [.int .i64 (runD l r).eff, .slice 1 (runD l r).ns ((runD l r).scopes.map fun x => [.str x]) none, .int .i64 (runD l r).lvl, .int .i64 (runD l r).age, .slice 3 (runD l r).nr ((runD l r).reas.map Reas.cs) none]), (0, .box 25 [.str r.user, .str r.client, .str r.tenant, .slice 1 r.ng (r.groups.map fun x => [.str x]) none, .slice 1 r.ns (r.scopes.map fun x => [.str x]) none, .int .i64 r.risk, .bool r.trusted, .int .i64 r.level, .int .i64 r.auth, .int .i64 r.now])]) (fun x => match x with | ⟨(j), _⟩ => l[k].conds.length - j) (by simp (decide := true) only [W, ↓reduceIte, Int.reduceToNat]; rfl) ?_ ⟨(0), ⟨Nat.zero_le _, by simp⟩⟩ ?_
    rotate_left
    · exact Weak.store (by simp [St.get, lk, W, Le.refl, q1, hsm2, q2, hk, q3, hg, hnf]) (by simp [lk, W, q1, hsm2, q2, hk, q3, hg, hnf]) (by simp [lk, W]) (by simp [BClo, lk]) (by simp [lk])
    rintro ⟨j, hk, hL⟩
    dsimp only
    simp only [List.cons_append, List.nil_append]
    refine WP.sr [0, 4, 7, 8, 36, 37, 45, 46, 47] (by kernel_rfl) fun K hK => ?_
    simp (decide := true) only [TF, EV, q1, hsm2, q2, hk, q3, hg, hnf, dcsD, ↓reduceIte, Int.reduceToNat]
    refine hK _ _ ?_; clear hK K
    refine WP.seq ?_
    refine WP.cond (b := _) rfl (fun q4 => ?_) (fun q4 => ?_)
    ·
     have hjl := lt_of_q q4
     have hgj : (l[k].conds.map Cond.cs)[j]? = some [.str l[k].conds[j].f, .str l[k].conds[j].op, .str l[k].conds[j].v] := getM hjl
     have hnfj := nl_false hpk.1.2.1 hjl
     refine WP.skip ?_
     show WP _ _ _ _ _ _
     refine WP.seq ?_
     refine WP.block ?_
     refine WP.sr [0, 4, 7, 8, 9, 36, 37, 45, 46] (by kernel_rfl) fun K hK => ?_
     simp (decide := true) only [TF, EV, q1, hsm2, q2, hk, q3, hg, hnf, q4, hgj, hnfj, dcsD, ↓reduceIte, Int.reduceToNat]
     refine hK _ _ ?_; clear hK K
     refine WP.sr [0, 4, 7, 8, 10, 36, 37, 45, 46] (by kernel_rfl) fun K hK => ?_
     simp (decide := true) only [TF, EV, q1, hsm2, q2, hk, q3, hg, hnf, q4, hgj, hnfj, dcsD, ↓reduceIte, Int.reduceToNat]
     refine hK _ _ ?_; clear hK K
     refine WP.sr [0, 4, 7, 8, 36, 37, 45, 46, 63] (by kernel_rfl) fun K hK => ?_
     refine runOps.take 3 fun J hJ => ?_
     simp (decide := true) only [TF, EV, q1, hsm2, q2, hk, q3, hg, hnf, q4, hgj, hnfj, dcsD, ↓reduceIte, Int.reduceToNat]
     refine hJ _ _ ?_; clear hJ J
     refine runOps.part 60 rfl (fun q5 => ?_) (fun q5 => ?_)
     ·
      simp (decide := true) only [TF, EV, q1, hsm2, q2, hk, q3, hg, hnf, q4, hgj, hnfj, q5, dcsD, ↓reduceIte, Int.reduceToNat]
      refine hK _ _ ?_; clear hK K
      refine WP.cond (b := true) (by rfl) (fun _ => ?_) nofun
      refine WP.sr [6] (by kernel_rfl) fun K hK => ?_
      simp (decide := true) only [TF, EV, q1, hsm2, q2, hk, q3, hg, hnf, q4, hgj, hnfj, q5, dcsD, ↓reduceIte, Int.reduceToNat]
      refine hK _ _ ?_; clear hK K
      refine WP.ret ?_
      exact Ends.pure (.inr rfl) rfl (Le.of_eq (by simp (decide := true) only [St.get, lk, W, q1, hsm2, q2, hk, q3, hg, hnf, hk, q4, hgj, hnfj, q5, hI, hI, ↓reduceIte])) (by simp)
     ·
      simp (decide := true) only [TF, EV, q1, hsm2, q2, hk, q3, hg, hnf, q4, hgj, hnfj, q5, dcsD, ↓reduceIte, Int.reduceToNat]
      refine hK _ _ ?_; clear hK K
      refine WP.cond (b := _) rfl (fun q6 => ?_) (fun q6 => ?_)
      ·
       refine WP.sr [6] (by kernel_rfl) fun K hK => ?_
       simp (decide := true) only [TF, EV, q1, hsm2, q2, hk, q3, hg, hnf, q4, hgj, hnfj, q5, q6, dcsD, ↓reduceIte, Int.reduceToNat]
       refine hK _ _ ?_; clear hK K
       refine WP.ret ?_
       exact Ends.pure (.inr rfl) rfl (Le.of_eq (by simp (decide := true) only [St.get, lk, W, q1, hsm2, q2, hk, q3, hg, hnf, hk, q4, hgj, hnfj, q5, q6, hI, hI, ↓reduceIte])) (by simp)
      ·
       refine WP.skip ?_
       show WP _ _ _ _ _ _
       refine WP.region (by kernel_rfl) fun K hK => ?_
       simp (decide := true) only [TF, EV, q1, hsm2, q2, hk, q3, hg, hnf, q4, hgj, hnfj, q5, q6, dcsD, ↓reduceIte, Int.reduceToNat]
       refine hK _ _ ?_; clear hK K
       show ∃ y, _ ∧ Weak _ _ _
       refine ⟨⟨j + 1, ?_⟩, ?_, ?_⟩
       · exact ⟨by omega, by rw [takeS hjl]; intro c hc; rcases List.mem_append.1 hc with hc | hc; exact hL c hc; rw [List.mem_singleton] at hc; subst hc; simp only [laB, q5, q6, Bool.or_false]⟩
       · dsimp only; omega
       · exact Weak.store (by simp [St.get, lk, W, Le.refl, q1, hsm2, q2, hk, q3, hg, hnf, hk, q4, hgj, hnfj, q5, q6, wrapS hjl (show l[k].conds.length ≤ 140737488355328 by omega)]) (by simp [lk, W, q1, hsm2, q2, hk, q3, hg, hnf, hk, q4, hgj, hnfj, q5, q6, wrapS hjl (show l[k].conds.length ≤ 140737488355328 by omega)]) (by simp [lk, W]) (by simp [BClo, lk]) (by simp [lk])
    ·
     have hjg := ge_of_q q4
     refine WP.exit ?_
     show WP _ _ _ _ _ _
     refine WP.region (by kernel_rfl) fun K hK => ?_
     simp (decide := true) only [TF, EV, q1, hsm2, q2, hk, q3, hg, hnf, q4, dcsD, ↓reduceIte, Int.reduceToNat]
     refine hK _ _ ?_; clear hK K
     show ∃ y, _ ∧ Weak _ _ _
     refine ⟨⟨k + 1, ?_⟩, ?_, ?_⟩
     · exact ⟨by omega, by rw [takeS hlt]; intro p hp; rcases List.mem_append.1 hp with hp | hp; exact hI p hp; rw [List.mem_singleton] at hp; subst hp; rw [List.take_of_length_le hjg] at hL; exact hL⟩
     · dsimp only; omega
     · exact Weak.store (by simp [St.get, lk, W, Le.refl, q1, hsm2, q2, hk, q3, hg, hnf, hk, q4, wrapS hlt (show l.length ≤ 140737488355328 by have := hN.few; omega)]) (by simp [lk, W, q1, hsm2, q2, hk, q3, hg, hnf, hk, q4, wrapS hlt (show l.length ≤ 140737488355328 by have := hN.few; omega)]) (by simp [lk, W]) (by simp [BClo, lk]) (by simp [lk])
   ·
    have hge := ge_of_q q3
    have hA := run_after he3 (fun p hp => hI p (by rw [List.take_of_length_le hge]; exact hp))
    have hN3 := notGreat_aft hN (runD l r).lvl
    refine WP.exit ?_
    show WP _ _ _ _ _ _
    refine WP.sr [6] (by kernel_rfl) fun K hK => ?_
    simp (decide := true) only [TF, EV, q1, hsm2, q2, hk, q3, hA, dcsD, ↓reduceIte, Int.reduceToNat]
    refine CallK.pure (c_after l nl r (by have := hN.few; omega) hnl hN.ok hN.rok hN.hrs (runD l r).lvl) rfl rfl (by simp [-List.map_take]) ?_
    simp (decide := true) only [TF, EV, Tryz.underlying32, q1, hsm2, q2, hk, q3, hA, dcsD, ↓reduceIte, Int.reduceToNat]
    refine hK _ _ ?_; clear hK K
    refine WP.ret ?_
    exact Ends.pure (.inr rfl) rfl (Le.of_eq (by simp (decide := true) only [St.get, lk, W, q1, hsm2, q2, hk, q3, hA, hI, ↓reduceIte])) (by simp)
end Go.Proofs
set_option maxRecDepth 100000
namespace Go.Proofs.YtahpinmifmdpgaaGreatDoor.RwAfter
open Go Go.Id Go.Proofs Go.ChangeShapes Go.ChangeMaps Go.WideShapes Go.ChangeAt Go.RowKit Go.Proofs.YtahpinmifmdpgaaGreatDoor.Rw
theorem contract (H : Type) (enc : TypeId × Value → H) (W : World) (base : Nat) (args : Array Value) (ds gs : List (DataW H)) (before : List MemPlace)
    (hval : ∀ (j : Nat) t v, Tryz.f5.params[j]? = some t → args[j]? = some v → Value.okWide Tryz.prog W .any base t v)
    (hW : DataW.Whole enc Tryz.prog Tryz.f5.params.toList Rows.decideAfterSpec.vars false W args.toList ds gs before) (hL : laidMetH Tryz.prog laidL W) (hS : W.ShapedOpen Tryz.prog) :
    Calls Tryz.prog 5 args W fun e W' => ∃ v, e = .returned v ∧ Rows.decideAfterSpec.post enc Tryz.prog Tryz.f5 false true false false W args v W' := by
  have hW' := hW
  obtain ⟨p, q, hA0, hV, rfl, hfz, hnd⟩ := hW
  have hA : DataW.TrodAll enc Tryz.prog W 0 (fun _ => true) true Tryz.f5.params.toList args.toList ds p := hA0
  rw [Tryz.params5] at hA hval
  obtain ⟨al⟩ := args
  dsimp only at hA
  obtain ⟨v0, _, d0, _, p_0, _, rfl, rfl, rfl, h0, hA⟩ := trodAll_cons hA
  obtain ⟨v1, _, d1, _, p_1, _, rfl, rfl, rfl, h1, hA⟩ := trodAll_cons hA
  obtain ⟨v2, _, d2, _, p_2, _, rfl, rfl, rfl, h2, hA⟩ := trodAll_cons hA
  obtain ⟨rfl, rfl, rfl⟩ := trodAll_nil hA
  obtain ⟨rfl, rfl⟩ := trodVars_none hV
  obtain ⟨l0, nl0, hn0, hnl0, hb0, hr0, r0⟩ := arg_rules (hval 0 22 v0 rfl rfl) h0
  obtain ⟨q1, hb1, r1⟩ := arg_req (hval 1 25 v1 rfl rfl) h1
  obtain ⟨n2, r2⟩ := arg_int (hval 2 3 v2 rfl rfl) h2
  refine (CallP.run (c_l_after l0 nl0 hn0 hnl0 hb0 hr0 q1 hb1 n2) W (polI_of hL hS) (heap_of hS) [v0, v1, v2] rfl (Rw.consR r0 (Rw.consR r1 (Rw.one r2)))).mono ?_
  rintro e W' ⟨v, rfl, hr, hb⟩
  cases hr
  exact ⟨_, rfl, post_all hW' rfl hb (of_decide_eq_true (by kernel_rfl)) (by kernel_rfl) rfl rfl rfl⟩
abbrev wit : Array Value := #[.slice none 0 0, .agg #[.string ⟨#[]⟩, .string ⟨#[]⟩, .string ⟨#[]⟩, .slice none 0 0, .slice none 0 0, .int .i64 0, .bool false, .int .i64 0, .int .i64 0, .int .i64 0], .int .i64 0]
theorem reads (os : Os) {H : Type} (enc : TypeId × Value → H) : (DataW.whole enc Tryz.prog (memW os wit) Tryz.f5.params.toList Rows.decideAfterSpec.vars false wit.toList 8).map (fun x => (x.1, x.2.1)) = some ([.nil, .agg [.lit (.string []), .lit (.string []), .lit (.string []), .nil, .nil, .lit (.int .i64 0), .lit (.bool false), .lit (.int .i64 0), .lit (.int .i64 0), .lit (.int .i64 0)], .lit (.int .i64 0)], []) := by kernel_rfl
theorem lifted (os : Os) (started : os.Started) (H : Type) (enc : TypeId × Value → H) (F : Stop.Interp) :
    ReturnsInHanded {} Tryz.checked os 5 .any ((OpenSpec.ofChange Rows.decideAfterSpec).preRow enc Tryz.prog Tryz.f5 Rows.decideAfterRow.domain false Rows.decideAfterRow.laid) (((OpenSpec.ofChange Rows.decideAfterSpec).at F).post enc Tryz.prog Tryz.f5 false true false false) := by
  obtain ⟨⟨x1, x2, x3⟩, hx, hx1⟩ := Option.map_eq_some_iff.1 (reads os enc)
  simp only [Prod.mk.injEq] at hx1
  obtain ⟨rfl, rfl⟩ := hx1
  refine returnsInHanded_of_row (C := Tryz.checked) (s := OpenSpec.ofChange Rows.decideAfterSpec) own started (by kernel_rfl) Tryz.func5
    (witness_row_atRef (enc := enc) (C := Tryz.checked) false (laidWorld os) wit rfl (by kernel_rfl) (by kernel_rfl) (by kernel_rfl)
      (OpenSpec.preRow_of_cond 8 hx (by kernel_rfl) (fun k hk => by cases hk) (by kernel_rfl) (laid_met os _))) ?_
  intro W base args ds gs before hval hW _ _ _ hL hS _
  exact contract H enc W base args ds gs before hval hW hL hS
theorem said : Rows.DecideAfterSaid :=
  OpenClaim.holds_of_cond 5 Tryz.f5 rfl rfl rfl rfl rfl rfl rfl ⟨rfl, rfl, rfl, rfl, rfl⟩ rfl rfl rfl rfl rfl (by kernel_rfl) Tryz.func5 (by kernel_rfl)
    (of_decide_eq_true (by kernel_rfl)) (by unfold Func.isWrapper; first | (rw [if_pos (by decide +kernel)]; kernel_rfl) | (rw [if_neg (by decide +kernel)]; exact ⟨rfl, rfl⟩))
    (fun os started H enc _ F => by rw [OpenClaim.pre_eq_preRow]; exact lifted os started H enc F)
theorem plain (f : FuncId) (fn : Func) (hf : Tryz.pinned.checked.prog.funcNamed Rows.decideAfterRow.func = some f) (hfn : Tryz.pinned.checked.prog.funcs[f]? = some fn) :
    true = Tryz.pinned.checked.prog.looks [] ∧ ∀ (j : Nat) t, fn.params[j]? = some t → Tryz.pinned.checked.prog.wantsStandIn t = false := by
  obtain rfl : f = 5 := Option.some.inj ((show Tryz.prog.funcNamed Rows.decideAfterRow.func = some 5 by kernel_rfl).symm.trans hf) |>.symm
  obtain rfl : fn = Tryz.f5 := (Option.some.inj (Tryz.func5.symm.trans hfn)).symm
  refine ⟨by kernel_rfl, fun j t ht => ?_⟩
  have hall : (Tryz.f5.params.toList.all fun t => Tryz.prog.wantsStandIn t == false) = true := by kernel_rfl
  exact eq_of_beq (List.all_eq_true.1 hall t (by simpa using Array.mem_of_getElem? ht))
theorem card : Rows.DecideAfterCardSaid :=
  Claim7.holds_tied_plain_at .later [] _ _ _ _ said (fun _ h => by cases h) (by kernel_rfl) (fun _ h => by cases h) decideAfter_row_tie rfl ⟨rfl, rfl⟩ (by kernel_rfl) rfl plain (by kernel_rfl)
end Go.Proofs.YtahpinmifmdpgaaGreatDoor.RwAfter
#print axioms Go.Proofs.YtahpinmifmdpgaaGreatDoor.RwAfter.card
