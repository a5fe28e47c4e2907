/- Explain and Missing are as specified, and Explain has a line for each reason of what Run returns. Conditions: none, the given statement. -/
import Derived.Test.YtahpinmifmdpgaaGreatDoorG11
import Derived.Test.YtahpinmifmdpgaaGreatDoorG10
import Derived.Test.YtahpinmifmdpgaaGreatDoorG12
import Derived.Test.YtahpinmifmdpgaaGreatDoorG05
import Derived.ChangeMaps5
set_option linter.unusedSimpArgs false
set_option linter.unusedVariables false
set_option maxRecDepth 10000
namespace Go.Proofs
open Go Go.Id
set_option maxHeartbeats 4000000
theorem c_l_explains (l : List Rule) (nl : Bool) (hn : l.length ≤ 9223372036854775807) (hnl : nl = true → l = []) (hl : ∀ p ∈ l, p.big) (hg : ∀ p ∈ l, p.rng) (d : Dec) (hd0 : d.big) (r : Req) (hr : r.big) : CallP Pr 4 [.slice 6 nl (l.map Rule.cs) none, .agg [.int .i64 d.eff, .slice 1 d.ns (d.scopes.map fun x => [.str x]) none, .int .i64 d.lvl, .int .i64 d.age, .slice 3 d.nr (d.reas.map Reas.cs) none], .agg [.str r.user, .str r.client, .str r.tenant, .slice 1 r.ng (r.groups.map fun x => [.str x]) none, .slice 1 r.ns (r.scopes.map fun x => [.str x]) none, .int .i64 r.risk, .bool r.trusted, .int .i64 r.level, .int .i64 r.auth, .int .i64 r.now]] (.bool true) := by
 refine CallP.of_wp Tryz.func4 rfl (by kernel_rfl) Tryz.ntmps4 (by simp) ?_
 simp only [frameOf, Nat.reduceAdd, Nat.zero_add]
 refine WP.sr [0, 4, 5] (by kernel_rfl) fun K hK => ?_
 simp (decide := true) only [TF, EV, dcsD, ↓reduceIte, Int.reduceToNat]
 refine hK _ _ ?_; clear hK K
 refine WP.seq ?_
 refine WP.sr [0, 4, 5, 24] (by kernel_rfl) fun K hK => ?_
 simp (decide := true) only [TF, EV, dcsD, ↓reduceIte, Int.reduceToNat]
 refine CallK.pure (c_great l nl r hn hnl hl hr) rfl rfl (by simp [-List.map_take]) ?_
 refine runOps.take 1 fun J hJ => ?_
 simp (decide := true) only [TF, EV, dcsD, ↓reduceIte, Int.reduceToNat]
 refine hJ _ _ ?_; clear hJ J
 refine runOps.part 14 rfl (fun q1 => ?_) (fun q1 => ?_)
 ·
  simp (decide := true) only [TF, EV, q1, dcsD, ↓reduceIte, Int.reduceToNat]
  refine hK _ _ ?_; clear hK K
  refine WP.cond (b := true) (by rfl) (fun _ => ?_) nofun
  refine WP.sr [6] (by kernel_rfl) fun K hK => ?_
  simp (decide := true) only [TF, EV, q1, dcsD, ↓reduceIte, Int.reduceToNat]
  refine CallK.pure (c_live) rfl rfl (by simp [-List.map_take]) ?_
  simp (decide := true) only [TF, EV, q1, dcsD, ↓reduceIte, Int.reduceToNat]
  refine hK _ _ ?_; clear hK K
  refine WP.ret ?_
  exact Ends.pure (.inr rfl) rfl (Le.of_eq (by simp (decide := true) only [St.get, lk, W, q1, ↓reduceIte])) (by simp)
 ·
  have hN := great_no q1 hl hr
  have hrk := run_ok hN hg
  have hsm := sameD_refl (runD l r)
  refine runOps.take 6 fun J hJ => ?_
  simp (decide := true) only [TF, EV, q1, dcsD, ↓reduceIte, Int.reduceToNat]
  refine hJ _ _ ?_; clear hJ J
  refine runOps.part 20 rfl (fun q2 => ?_) (fun q2 => ?_)
  ·
   simp (decide := true) only [TF, EV, q1, q2, dcsD, ↓reduceIte, Int.reduceToNat]
   refine hK _ _ ?_; clear hK K
   refine WP.cond (b := true) (by rfl) (fun _ => ?_) nofun
   refine WP.sr [6] (by kernel_rfl) fun K hK => ?_
   simp (decide := true) only [TF, EV, q1, q2, dcsD, ↓reduceIte, Int.reduceToNat]
   refine CallK.pure (c_live) rfl rfl (by simp [-List.map_take]) ?_
   simp (decide := true) only [TF, EV, q1, q2, dcsD, ↓reduceIte, Int.reduceToNat]
   refine hK _ _ ?_; clear hK K
   refine WP.ret ?_
   exact Ends.pure (.inr rfl) rfl (Le.of_eq (by simp (decide := true) only [St.get, lk, W, q1, q2, ↓reduceIte])) (by simp)
  ·
   have h70 : d.reas.length ≤ 70 := by have := of_decide_eq_false q2; omega
   simp (decide := true) only [TF, EV, q1, q2, dcsD, ↓reduceIte, Int.reduceToNat]
   refine CallK.pure (c_r2great d.scopes d.ns 20 300 hd0.1 hd0.2.1) rfl rfl (by simp [-List.map_take]) ?_
   simp (decide := true) only [TF, EV, q1, q2, dcsD, ↓reduceIte, Int.reduceToNat]
   refine hK _ _ ?_; clear hK K
   refine WP.cond (b := _) rfl (fun q3 => ?_) (fun q3 => ?_)
   ·
    refine WP.sr [6] (by kernel_rfl) fun K hK => ?_
    simp (decide := true) only [TF, EV, q1, q2, q3, dcsD, ↓reduceIte, Int.reduceToNat]
    refine CallK.pure (c_live) rfl rfl (by simp [-List.map_take]) ?_
    simp (decide := true) only [TF, EV, q1, q2, q3, dcsD, ↓reduceIte, Int.reduceToNat]
    refine hK _ _ ?_; clear hK K
    refine WP.ret ?_
    exact Ends.pure (.inr rfl) rfl (Le.of_eq (by simp (decide := true) only [St.get, lk, W, q1, q2, q3, ↓reduceIte])) (by simp)
   ·
    have hds := q3
    refine WP.skip ?_
    show WP _ _ _ _ _ _
    refine WP.seq ?_
    refine WP.sr [0, 4, 5, 28, 29] (by kernel_rfl) fun K hK => ?_
    simp (decide := true) only [TF, EV, q1, q2, q3, dcsD, ↓reduceIte, Int.reduceToNat]
    refine hK _ _ ?_; clear hK K
    refine WP.block ?_
    refine WP.lp [0, 4, 5, 28] (X := {k : Nat // k ≤ d.reas.length ∧ ∀ x ∈ d.reas.take k, shG x.scopes 20 300 = false}) (fun x => match x with | ⟨(k), _⟩ => [(29, .int .i64 k)]) (fun x => match x with | ⟨(k), _⟩ => [(1, .box 25 [.str r.user, .str r.client, .str r.tenant, .slice 1 r.ng (r.groups.map fun x => [.str x]) none, .slice 1 r.ns (r.scopes.map fun x => [.str x]) none, .int .i64 r.risk, .bool r.trusted, .int .i64 r.level, .int .i64 r.auth, .int .i64 r.now]), (0, .box 32 [.int .i64 d.eff, .slice 1 d.ns (d.scopes.map fun x => [.str x]) none, .int .i64 d.lvl, .int .i64 d.age, .slice 3 d.nr (d.reas.map Reas.cs) none])]) (fun x => match x with | ⟨(k), _⟩ => d.reas.length - k) (by simp (decide := true) only [W, ↓reduceIte, Int.reduceToNat]; rfl) ?_ ⟨(0), ⟨Nat.zero_le _, by simp⟩⟩ ?_
    rotate_left
    · exact Weak.store (by simp [St.get, lk, W, Le.refl, q1, q2, q3]) (by simp [lk, W, q1, q2, q3]) (by simp [lk, W]) (by simp [BClo, lk]) (by simp [lk])
    rintro ⟨k, hk, hI⟩
    dsimp only
    simp only [List.cons_append, List.nil_append]
    refine WP.sr [0, 4, 5, 28, 29, 30] (by kernel_rfl) fun K hK => ?_
    simp (decide := true) only [TF, EV, q1, q2, q3, hk, dcsD, ↓reduceIte, Int.reduceToNat]
    refine hK _ _ ?_; clear hK K
    refine WP.seq ?_
    refine WP.cond (b := _) rfl (fun q4 => ?_) (fun q4 => ?_)
    ·
     have hlt := lt_of_q q4
     have hg : (d.reas.map Reas.cs)[k]? = some [.int .i64 d.reas[k].rule, .int .i64 d.reas[k].cond, .slice 1 d.reas[k].ns (d.reas[k].scopes.map fun x => [.str x]) none] := getM hlt
     have hnf := nl_false hd0.2.2.2.1 hlt
     have hxk := hd0.2.2.2.2.1 _ (List.getElem_mem hlt)
     refine WP.skip ?_
     show WP _ _ _ _ _ _
     refine WP.seq ?_
     refine WP.block ?_
     refine WP.sr [0, 4, 5, 7, 28, 29] (by kernel_rfl) fun K hK => ?_
     simp (decide := true) only [TF, EV, q1, q2, q3, hk, q4, hg, hnf, dcsD, ↓reduceIte, Int.reduceToNat]
     refine hK _ _ ?_; clear hK K
     refine WP.sr [0, 4, 5, 28, 29, 38] (by kernel_rfl) fun K hK => ?_
     simp (decide := true) only [TF, EV, q1, q2, q3, hk, q4, hg, hnf, dcsD, ↓reduceIte, Int.reduceToNat]
     refine CallK.pure (c_r2great d.reas[k].scopes d.reas[k].ns 20 300 hxk.1 hxk.2) rfl rfl (by simp [-List.map_take]) ?_
     simp (decide := true) only [TF, EV, q1, q2, q3, hk, q4, hg, hnf, dcsD, ↓reduceIte, Int.reduceToNat]
     refine hK _ _ ?_; clear hK K
     refine WP.cond (b := _) rfl (fun q5 => ?_) (fun q5 => ?_)
     ·
      refine WP.sr [6] (by kernel_rfl) fun K hK => ?_
      simp (decide := true) only [TF, EV, q1, q2, q3, hk, q4, hg, hnf, q5, dcsD, ↓reduceIte, Int.reduceToNat]
      refine CallK.pure (c_live) rfl rfl (by simp [-List.map_take]) ?_
      simp (decide := true) only [TF, EV, q1, q2, q3, hk, q4, hg, hnf, q5, dcsD, ↓reduceIte, Int.reduceToNat]
      refine hK _ _ ?_; clear hK K
      refine WP.ret ?_
      exact Ends.pure (.inr rfl) rfl (Le.of_eq (by simp (decide := true) only [St.get, lk, W, q1, q2, q3, hk, q4, hg, hnf, q5, hI, ↓reduceIte])) (by simp)
     ·
      refine WP.skip ?_
      show WP _ _ _ _ _ _
      refine WP.region (by kernel_rfl) fun K hK => ?_
      simp (decide := true) only [TF, EV, q1, q2, q3, hk, q4, hg, hnf, q5, dcsD, ↓reduceIte, Int.reduceToNat]
      refine hK _ _ ?_; clear hK K
      show ∃ y, _ ∧ Weak _ _ _
      refine ⟨⟨k + 1, ?_⟩, ?_, ?_⟩
      · exact ⟨by omega, by rw [takeS hlt]; intro x hx; rcases List.mem_append.1 hx with hx | hx; exact hI x hx; rw [List.mem_singleton] at hx; subst hx; exact q5⟩
      · dsimp only; omega
      · exact Weak.store (by simp [St.get, lk, W, Le.refl, q1, q2, q3, hk, q4, hg, hnf, q5, wrapS hlt (show d.reas.length ≤ 140737488355328 by omega)]) (by simp [lk, W, q1, q2, q3, hk, q4, hg, hnf, q5, wrapS hlt (show d.reas.length ≤ 140737488355328 by omega)]) (by simp [lk, W]) (by simp [BClo, lk]) (by simp [lk])
    ·
     have hge := ge_of_q q4
     have hd := dec_ok hd0 h70 hds (fun x hx => hI x (by rw [List.take_of_length_le hge]; exact hx))
     have hel : (explX l d).length ≤ 1099511627776 := by rw [expl_len]; omega
     have hml : (srtR (r.scopes.filter (fun s => !(covB s d.scopes)))).length ≤ 1099511627776 := Nat.le_trans (srtR_len _) (Nat.le_trans (List.length_filter_le _ _) (by have := hN.sc; omega))
     have hrl := hrk.2.2.2.1
     have hEl := expl_len l (runD l r)
     have hw : IntKind.wrap .i64 (((runD l r).reas.length : Int) + 1) = ((((explX l (runD l r))).length : Nat) : Int) := by rw [hEl, wrap_i64 (by omega) (by omega)]; rfl
     refine WP.exit ?_
     show WP _ _ _ _ _ _
     refine WP.sr [0, 4, 5, 8] (by kernel_rfl) fun K hK => ?_
     simp (decide := true) only [TF, EV, q1, q2, q3, hk, q4, hw, dcsD, ↓reduceIte, Int.reduceToNat]
     refine CallK.pure (c_run l nl r (by have := hN.few; omega) hnl hN.ok hN.rok hN.hrs) rfl rfl (by simp [-List.map_take]) ?_
     simp (decide := true) only [TF, EV, q1, q2, q3, hk, q4, hw, dcsD, ↓reduceIte, Int.reduceToNat]
     refine hK _ _ ?_; clear hK K
     refine WP.sr [0, 4, 5, 8, 9] (by kernel_rfl) fun K hK => ?_
     simp (decide := true) only [TF, EV, q1, q2, q3, hk, q4, hw, dcsD, ↓reduceIte, Int.reduceToNat]
     refine CallK.pure (c_explain l nl (runD l r) hnl hN.ok hrk) rfl rfl (by simp [-List.map_take]) ?_
     simp (decide := true) only [TF, EV, q1, q2, q3, hk, q4, hw, dcsD, ↓reduceIte, Int.reduceToNat]
     refine hK _ _ ?_; clear hK K
     refine WP.seq ?_
     refine WP.sd [9, 73] (by kernel_rfl) (by kernel_rfl) fun K hK => ?_
     simp (decide := true) only [TF, EV, q1, q2, q3, hk, q4, hw, dcsD, ↓reduceIte, Int.reduceToNat]
     refine CallK.pure (c_explain l nl d hnl hN.ok hd) rfl rfl (by simp [-List.map_take]) ?_
     simp (decide := true) only [TF, EV, q1, q2, q3, hk, q4, hw, dcsD, ↓reduceIte, Int.reduceToNat]
     refine CallK.pure (c_r_explain l nl d hnl hN.ok hd) rfl rfl (by simp [-List.map_take]) ?_
     simp (decide := true) only [TF, EV, q1, q2, q3, hk, q4, hw, dcsD, ↓reduceIte, Int.reduceToNat]
     refine CallK.pure (c_same2 (explX l d) (explX l d) (explX l d).isEmpty (explX l d).isEmpty hel (fun h => isE_nil h) (fun h => isE_nil h)) rfl rfl (by simp [-List.map_take]) ?_
     simp (decide := true) only [TF, EV, q1, q2, q3, hk, q4, hw, dcsD, ↓reduceIte, Int.reduceToNat]
     refine CallK.pure (c_missing d r hd hN.rok hN.hrs) rfl rfl (by simp [-List.map_take]) ?_
     simp (decide := true) only [TF, EV, q1, q2, q3, hk, q4, hw, dcsD, ↓reduceIte, Int.reduceToNat]
     refine CallK.pure (c_r_missing d r hd hN.rok hN.hrs) rfl rfl (by simp [-List.map_take]) ?_
     simp (decide := true) only [TF, EV, q1, q2, q3, hk, q4, hw, dcsD, ↓reduceIte, Int.reduceToNat]
     refine CallK.pure (c_same2 (srtR (r.scopes.filter (fun s => !(covB s d.scopes)))) (srtR (r.scopes.filter (fun s => !(covB s d.scopes)))) (srtR (r.scopes.filter (fun s => !(covB s d.scopes)))).isEmpty (srtR (r.scopes.filter (fun s => !(covB s d.scopes)))).isEmpty hml (fun h => isE_nil h) (fun h => isE_nil h)) rfl rfl (by simp [-List.map_take]) ?_
     simp (decide := true) only [TF, EV, q1, q2, q3, hk, q4, hw, dcsD, ↓reduceIte, Int.reduceToNat]
     refine hK _ _ (by kernel_rfl) ?_
     clear hK K
     refine WP.cond (b := false) (by rfl) nofun (fun _ => ?_)
     refine WP.skip ?_
     show WP _ _ _ _ _ _
     refine WP.seq ?_
     refine WP.sr [9, 75, 76] (by kernel_rfl) fun K hK => ?_
     simp (decide := true) only [TF, EV, q1, q2, q3, hk, q4, hw, dcsD, ↓reduceIte, Int.reduceToNat]
     refine hK _ _ ?_; clear hK K
     refine WP.block ?_
     refine WP.lp [9, 75] (X := {k : Nat // k ≤ (explX l (runD l r)).length ∧ True}) (fun x => match x with | ⟨(k), _⟩ => [(76, .int .i64 k)]) (fun x => match x with | ⟨(k), _⟩ => []) (fun x => match x with | ⟨(k), _⟩ => (explX l (runD l r)).length - k) (by simp (decide := true) only [W, ↓reduceIte, Int.reduceToNat]; rfl) ?_ ⟨(0), ⟨Nat.zero_le _, by simp⟩⟩ ?_
     rotate_left
     · exact Weak.store (by simp [St.get, lk, W, Le.refl, q1, q2, q3, hk, q4, hw]) (by simp [lk, W, q1, q2, q3, hk, q4, hw]) (by simp [lk, W]) (by simp [BClo, lk]) (by simp [lk])
     rintro ⟨k, hk, hI⟩
     dsimp only
     simp only [List.cons_append, List.nil_append]
     refine WP.sr [9, 75, 76, 77] (by kernel_rfl) fun K hK => ?_
     simp (decide := true) only [TF, EV, q1, q2, q3, hk, q4, hw, dcsD, ↓reduceIte, Int.reduceToNat]
     refine hK _ _ ?_; clear hK K
     refine WP.seq ?_
     refine WP.cond (b := _) rfl (fun q6 => ?_) (fun q6 => ?_)
     ·
      have hlt := lt_of_q q6
      have hg : ((explX l (runD l r)).map (fun x => [D.str x]))[k]? = some [.str ((explX l (runD l r)))[k]] := getM hlt
      have hnf := nl_false (fun h => isE_nil h) hlt
      have hne := expl_ne l r k hlt
      refine WP.skip ?_
      show WP _ _ _ _ _ _
      refine WP.seq ?_
      refine WP.block ?_
      refine WP.sr [9, 10, 75, 76] (by kernel_rfl) fun K hK => ?_
      simp (decide := true) only [TF, EV, q1, q2, q3, hk, q4, hw, q6, hg, hnf, hne, dcsD, ↓reduceIte, Int.reduceToNat]
      refine hK _ _ ?_; clear hK K
      refine WP.sr [9, 75, 76, 83] (by kernel_rfl) fun K hK => ?_
      simp (decide := true) only [TF, EV, q1, q2, q3, hk, q4, hw, q6, hg, hnf, hne, dcsD, ↓reduceIte, Int.reduceToNat]
      refine hK _ _ ?_; clear hK K
      refine WP.cond (b := false) (by rfl) nofun (fun _ => ?_)
      refine WP.skip ?_
      show WP _ _ _ _ _ _
      refine WP.region (by kernel_rfl) fun K hK => ?_
      simp (decide := true) only [TF, EV, q1, q2, q3, hk, q4, hw, q6, hg, hnf, hne, dcsD, ↓reduceIte, Int.reduceToNat]
      refine hK _ _ ?_; clear hK K
      show ∃ y, _ ∧ Weak _ _ _
      refine ⟨⟨k + 1, ?_⟩, ?_, ?_⟩
      · exact ⟨by omega, trivial⟩
      · dsimp only; omega
      · exact Weak.store (by simp [St.get, lk, W, Le.refl, q1, q2, q3, hk, q4, hw, hk, q6, hg, hnf, hne, wrapS hlt (show ((explX l (runD l r))).length ≤ 140737488355328 by omega)]) (by simp [lk, W, q1, q2, q3, hk, q4, hw, hk, q6, hg, hnf, hne, wrapS hlt (show ((explX l (runD l r))).length ≤ 140737488355328 by omega)]) (by simp [lk, W]) (by simp [BClo, lk]) (by simp [lk])
     ·
      have hge := ge_of_q q6
      refine WP.exit ?_
      show WP _ _ _ _ _ _
      refine WP.sr [6] (by kernel_rfl) fun K hK => ?_
      simp (decide := true) only [TF, EV, q1, q2, q3, hk, q4, hw, q6, dcsD, ↓reduceIte, Int.reduceToNat]
      refine CallK.pure (c_live) rfl rfl (by simp [-List.map_take]) ?_
      simp (decide := true) only [TF, EV, q1, q2, q3, hk, q4, hw, q6, dcsD, ↓reduceIte, Int.reduceToNat]
      refine hK _ _ ?_; clear hK K
      refine WP.ret ?_
      exact Ends.pure (.inr rfl) rfl (Le.of_eq (by simp (decide := true) only [St.get, lk, W, q1, q2, q3, hk, q4, hw, hk, q6, hI, hI, ↓reduceIte])) (by simp)
end Go.Proofs
set_option linter.unusedVariables false
set_option maxRecDepth 100000
namespace Go.Proofs.YtahpinmifmdpgaaGreatDoor.RwExplains
open Go Go.Id Go.Proofs Go.ChangeShapes Go.ChangeMaps Go.WideShapes Go.ChangeAt Go.RowKit Go.Proofs.YtahpinmifmdpgaaGreatDoor.Rw
theorem contract (H : Type) (enc : TypeId × Value → H) (W : World) (base : Nat) (args : Array Value) (ds gs : List (DataW H)) (before : List MemPlace)
    (hval : ∀ (j : Nat) t v, Tryz.f4.params[j]? = some t → args[j]? = some v → Value.okWide Tryz.prog W .any base t v)
    (hW : DataW.Whole enc Tryz.prog Tryz.f4.params.toList Rows.decideExplainsSpec.vars false W args.toList ds gs before) (hL : laidMetH Tryz.prog laidL W) (hS : W.ShapedOpen Tryz.prog) :
    Calls Tryz.prog 4 args W fun e W' => ∃ v, e = .returned v ∧ Rows.decideExplainsSpec.post enc Tryz.prog Tryz.f4 false true false false W args v W' := by
  have hW' := hW
  obtain ⟨p, q, hA0, hV, rfl, hfz, hnd⟩ := hW
  have hA : DataW.TrodAll enc Tryz.prog W 0 (fun _ => true) true Tryz.f4.params.toList args.toList ds p := hA0
  rw [Tryz.params4] at hA hval
  obtain ⟨al⟩ := args
  dsimp only at hA
  obtain ⟨v0, _, d0, _, p_0, _, rfl, rfl, rfl, h0, hA⟩ := trodAll_cons hA
  obtain ⟨v1, _, d1, _, p_1, _, rfl, rfl, rfl, h1, hA⟩ := trodAll_cons hA
  obtain ⟨v2, _, d2, _, p_2, _, rfl, rfl, rfl, h2, hA⟩ := trodAll_cons hA
  obtain ⟨rfl, rfl, rfl⟩ := trodAll_nil hA
  obtain ⟨rfl, rfl⟩ := trodVars_none hV
  obtain ⟨l0, nl0, hn0, hnl0, hb0, hr0, r0⟩ := arg_rules (hval 0 22 v0 rfl rfl) h0
  obtain ⟨d_1, hb1, r1⟩ := arg_dec (hval 1 32 v1 rfl rfl) h1
  obtain ⟨q2, hb2, r2⟩ := arg_req (hval 2 25 v2 rfl rfl) h2
  refine (CallP.run (c_l_explains l0 nl0 hn0 hnl0 hb0 hr0 d_1 hb1 q2 hb2) W (polI_of hL hS) (heap_of hS) [v0, v1, v2] rfl (Rw.consR r0 (Rw.consR r1 (Rw.one r2)))).mono ?_
  rintro e W' ⟨v, rfl, hr, hb⟩
  cases hr
  exact ⟨_, rfl, post_all hW' rfl hb (of_decide_eq_true (by kernel_rfl)) (by kernel_rfl) rfl rfl rfl⟩
abbrev wit : Array Value := #[.slice none 0 0, .agg #[.int .i64 0, .slice none 0 0, .int .i64 0, .int .i64 0, .slice none 0 0], .agg #[.string ⟨#[]⟩, .string ⟨#[]⟩, .string ⟨#[]⟩, .slice none 0 0, .slice none 0 0, .int .i64 0, .bool false, .int .i64 0, .int .i64 0, .int .i64 0]]
theorem reads (os : Os) {H : Type} (enc : TypeId × Value → H) : (DataW.whole enc Tryz.prog (memW os wit) Tryz.f4.params.toList Rows.decideExplainsSpec.vars false wit.toList 8).map (fun x => (x.1, x.2.1)) = some ([.nil, .agg [.lit (.int .i64 0), .nil, .lit (.int .i64 0), .lit (.int .i64 0), .nil], .agg [.lit (.string []), .lit (.string []), .lit (.string []), .nil, .nil, .lit (.int .i64 0), .lit (.bool false), .lit (.int .i64 0), .lit (.int .i64 0), .lit (.int .i64 0)]], []) := by kernel_rfl
theorem lifted (os : Os) (started : os.Started) (H : Type) (enc : TypeId × Value → H) (F : Stop.Interp) :
    ReturnsInHanded {} Tryz.checked os 4 .any ((OpenSpec.ofChange Rows.decideExplainsSpec).preRow enc Tryz.prog Tryz.f4 Rows.decideExplainsRow.domain false Rows.decideExplainsRow.laid) (((OpenSpec.ofChange Rows.decideExplainsSpec).at F).post enc Tryz.prog Tryz.f4 false true false false) := by
  obtain ⟨⟨x1, x2, x3⟩, hx, hx1⟩ := Option.map_eq_some_iff.1 (reads os enc)
  simp only [Prod.mk.injEq] at hx1
  obtain ⟨rfl, rfl⟩ := hx1
  refine returnsInHanded_of_row (C := Tryz.checked) (s := OpenSpec.ofChange Rows.decideExplainsSpec) own started (by kernel_rfl) Tryz.func4
    (witness_row_atRef (enc := enc) (C := Tryz.checked) false (laidWorld os) wit rfl (by kernel_rfl) (by kernel_rfl) (by kernel_rfl)
      (OpenSpec.preRow_of_cond 8 hx (by kernel_rfl) (fun k hk => by cases hk) (by kernel_rfl) (laid_met os _))) ?_
  intro W base args ds gs before hval hW _ _ _ hL hS _
  exact contract H enc W base args ds gs before hval hW hL hS
theorem said : Rows.DecideExplainsSaid :=
  OpenClaim.holds_of_cond 4 Tryz.f4 rfl rfl rfl rfl rfl rfl rfl ⟨rfl, rfl, rfl, rfl, rfl⟩ rfl rfl rfl rfl rfl (by kernel_rfl) Tryz.func4 (by kernel_rfl)
    (of_decide_eq_true (by kernel_rfl)) (by unfold Func.isWrapper; first | (rw [if_pos (by decide +kernel)]; kernel_rfl) | (rw [if_neg (by decide +kernel)]; exact ⟨rfl, rfl⟩))
    (fun os started H enc _ F => by rw [OpenClaim.pre_eq_preRow]; exact lifted os started H enc F)
theorem plain (f : FuncId) (fn : Func) (hf : Tryz.pinned.checked.prog.funcNamed Rows.decideExplainsRow.func = some f) (hfn : Tryz.pinned.checked.prog.funcs[f]? = some fn) :
    true = Tryz.pinned.checked.prog.looks [] ∧ ∀ (j : Nat) t, fn.params[j]? = some t → Tryz.pinned.checked.prog.wantsStandIn t = false := by
  obtain rfl : f = 4 := Option.some.inj ((show Tryz.prog.funcNamed Rows.decideExplainsRow.func = some 4 by kernel_rfl).symm.trans hf) |>.symm
  obtain rfl : fn = Tryz.f4 := (Option.some.inj (Tryz.func4.symm.trans hfn)).symm
  refine ⟨by kernel_rfl, fun j t ht => ?_⟩
  have hall : (Tryz.f4.params.toList.all fun t => Tryz.prog.wantsStandIn t == false) = true := by kernel_rfl
  exact eq_of_beq (List.all_eq_true.1 hall t (by simpa using Array.mem_of_getElem? ht))
theorem card : Rows.DecideExplainsCardSaid :=
  Claim7.holds_tied_plain_at .later [] _ _ _ _ said (fun _ h => by cases h) (by kernel_rfl) (fun _ h => by cases h) decideExplains_row_tie rfl ⟨rfl, rfl⟩ (by kernel_rfl) rfl plain (by kernel_rfl)
end Go.Proofs.YtahpinmifmdpgaaGreatDoor.RwExplains
#print axioms Go.Proofs.YtahpinmifmdpgaaGreatDoor.RwExplains.card
