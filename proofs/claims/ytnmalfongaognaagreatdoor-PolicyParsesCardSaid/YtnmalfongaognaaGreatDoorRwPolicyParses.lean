/- Parse returns the specified rules, or the line and the error. Conditions: none, the given statement. -/
import Derived.Test.YtnmalfongaognaaGreatDoorG07
import Derived.Test.YtnmalfongaognaaGreatDoorG08
import Derived.ChangeMaps5
set_option linter.unusedSimpArgs false
set_option linter.unusedVariables false
set_option maxRecDepth 10000
namespace Go.Proofs
open Go Go.Id
set_option maxHeartbeats 4000000
theorem c_l_parses (s : List UInt8) : CallP Pr 4 [.str s] (.bool true) := by
 obtain ⟨hok, hlen⟩ := pR_ok s
 have hrf := equalR_refl (pR s).1
 refine CallP.of_wp Tryz.func4 rfl (by kernel_rfl) Tryz.ntmps4 (by simp) ?_
 simp only [frameOf, Nat.reduceAdd, Nat.zero_add]
 refine WP.sr [0] (by kernel_rfl) fun K hK => ?_
 simp (decide := true) only [TF, EV, hrf, pD, ↓reduceIte, Int.reduceToNat]
 refine hK _ _ ?_; clear hK K
 refine WP.seq ?_
 refine WP.sr [0, 21] (by kernel_rfl) fun K hK => ?_
 refine runOps.take 4 fun J hJ => ?_
 simp (decide := true) only [TF, EV, hrf, pD, ↓reduceIte, Int.reduceToNat]
 refine hJ _ _ ?_; clear hJ J
 refine runOps.part 12 rfl (fun q1 => ?_) (fun q1 => ?_)
 ·
  refine runOps.take 5 fun J hJ => ?_
  simp (decide := true) only [TF, EV, hrf, q1, pD, ↓reduceIte, Int.reduceToNat]
  refine hJ _ _ ?_; clear hJ J
  refine runOps.part 17 rfl (fun q2 => ?_) (fun q2 => ?_)
  ·
   simp (decide := true) only [TF, EV, hrf, q1, q2, pD, ↓reduceIte, Int.reduceToNat]
   refine hK _ _ ?_; clear hK K
   refine WP.cond (b := true) (by rfl) (fun _ => ?_) nofun
   refine WP.sr [2] (by kernel_rfl) fun K hK => ?_
   simp (decide := true) only [TF, EV, hrf, q1, q2, pD, ↓reduceIte, Int.reduceToNat]
   refine CallK.pure (c_alive) rfl rfl (by simp [-List.map_take]) ?_
   simp (decide := true) only [TF, EV, hrf, q1, q2, pD, ↓reduceIte, Int.reduceToNat]
   refine hK _ _ ?_; clear hK K
   refine WP.ret ?_
   exact Ends.pure (.inr rfl) rfl (Le.of_eq (by simp (decide := true) only [St.get, lk, W, hrf, q1, q2, ↓reduceIte])) (by simp)
  ·
   simp (decide := true) only [TF, EV, hrf, q1, q2, pD, ↓reduceIte, Int.reduceToNat]
   refine hK _ _ ?_; clear hK K
   refine WP.cond (b := _) rfl (fun q3 => ?_) (fun q3 => ?_)
   ·
    refine WP.sr [2] (by kernel_rfl) fun K hK => ?_
    simp (decide := true) only [TF, EV, hrf, q1, q2, q3, pD, ↓reduceIte, Int.reduceToNat]
    refine CallK.pure (c_alive) rfl rfl (by simp [-List.map_take]) ?_
    simp (decide := true) only [TF, EV, hrf, q1, q2, q3, pD, ↓reduceIte, Int.reduceToNat]
    refine hK _ _ ?_; clear hK K
    refine WP.ret ?_
    exact Ends.pure (.inr rfl) rfl (Le.of_eq (by simp (decide := true) only [St.get, lk, W, hrf, q1, q2, q3, ↓reduceIte])) (by simp)
   ·
    have hs : s.length ≤ 5000 := by have := of_decide_eq_false q3; omega
    refine WP.skip ?_
    show WP _ _ _ _ _ _
    refine WP.sr [0, 3, 4, 5] (by kernel_rfl) fun K hK => ?_
    simp (decide := true) only [TF, EV, hrf, q1, q2, q3, pD, ↓reduceIte, Int.reduceToNat]
    refine CallK.pure (c_parse s (by omega)) rfl rfl (by simp [-List.map_take]) ?_
    simp (decide := true) only [TF, EV, hrf, q1, q2, q3, pD, ↓reduceIte, Int.reduceToNat]
    refine hK _ _ ?_; clear hK K
    refine WP.sr [3, 4, 5, 6, 7, 8] (by kernel_rfl) fun K hK => ?_
    simp (decide := true) only [TF, EV, hrf, q1, q2, q3, pD, ↓reduceIte, Int.reduceToNat]
    refine CallK.pure (c_r_parse s (by omega)) rfl rfl (by simp [-List.map_take]) ?_
    simp (decide := true) only [TF, EV, hrf, q1, q2, q3, pD, ↓reduceIte, Int.reduceToNat]
    refine hK _ _ ?_; clear hK K
    refine WP.sr [2] (by kernel_rfl) fun K hK => ?_
    simp (decide := true) only [TF, EV, hrf, q1, q2, q3, pD, ↓reduceIte, Int.reduceToNat]
    refine CallK.pure (c_r_equal (pR s).1 (pR s).1.isEmpty (pR s).1 (pR s).1.isEmpty (by omega) List.isEmpty_iff.1 (by omega) List.isEmpty_iff.1 (fun p hp => (hok p hp).1) (fun p hp => (hok p hp).1)) rfl rfl (by simp [-List.map_take]) ?_
    simp (decide := true) only [TF, EV, hrf, q1, q2, q3, pD, ↓reduceIte, Int.reduceToNat]
    refine CallK.pure (c_alive) rfl rfl (by simp [-List.map_take]) ?_
    simp (decide := true) only [TF, EV, hrf, q1, q2, q3, pD, ↓reduceIte, Int.reduceToNat]
    refine hK _ _ ?_; clear hK K
    refine WP.ret ?_
    exact Ends.pure (.inr rfl) rfl (Le.of_eq (by simp (decide := true) only [St.get, lk, W, hrf, q1, q2, q3, ↓reduceIte])) (by simp)
 ·
  simp (decide := true) only [TF, EV, hrf, q1, pD, ↓reduceIte, Int.reduceToNat]
  refine hK _ _ ?_; clear hK K
  refine WP.cond (b := _) rfl (fun q4 => ?_) (fun q4 => ?_)
  ·
   refine WP.sr [2] (by kernel_rfl) fun K hK => ?_
   simp (decide := true) only [TF, EV, hrf, q1, q4, pD, ↓reduceIte, Int.reduceToNat]
   refine CallK.pure (c_alive) rfl rfl (by simp [-List.map_take]) ?_
   simp (decide := true) only [TF, EV, hrf, q1, q4, pD, ↓reduceIte, Int.reduceToNat]
   refine hK _ _ ?_; clear hK K
   refine WP.ret ?_
   exact Ends.pure (.inr rfl) rfl (Le.of_eq (by simp (decide := true) only [St.get, lk, W, hrf, q1, q4, ↓reduceIte])) (by simp)
  ·
   have hs : s.length ≤ 5000 := by have := of_decide_eq_false q4; omega
   refine WP.skip ?_
   show WP _ _ _ _ _ _
   refine WP.sr [0, 3, 4, 5] (by kernel_rfl) fun K hK => ?_
   simp (decide := true) only [TF, EV, hrf, q1, q4, pD, ↓reduceIte, Int.reduceToNat]
   refine CallK.pure (c_parse s (by omega)) rfl rfl (by simp [-List.map_take]) ?_
   simp (decide := true) only [TF, EV, hrf, q1, q4, pD, ↓reduceIte, Int.reduceToNat]
   refine hK _ _ ?_; clear hK K
   refine WP.sr [3, 4, 5, 6, 7, 8] (by kernel_rfl) fun K hK => ?_
   simp (decide := true) only [TF, EV, hrf, q1, q4, pD, ↓reduceIte, Int.reduceToNat]
   refine CallK.pure (c_r_parse s (by omega)) rfl rfl (by simp [-List.map_take]) ?_
   simp (decide := true) only [TF, EV, hrf, q1, q4, pD, ↓reduceIte, Int.reduceToNat]
   refine hK _ _ ?_; clear hK K
   refine WP.sr [2] (by kernel_rfl) fun K hK => ?_
   simp (decide := true) only [TF, EV, hrf, q1, q4, pD, ↓reduceIte, Int.reduceToNat]
   refine CallK.pure (c_r_equal (pR s).1 (pR s).1.isEmpty (pR s).1 (pR s).1.isEmpty (by omega) List.isEmpty_iff.1 (by omega) List.isEmpty_iff.1 (fun p hp => (hok p hp).1) (fun p hp => (hok p hp).1)) rfl rfl (by simp [-List.map_take]) ?_
   simp (decide := true) only [TF, EV, hrf, q1, q4, pD, ↓reduceIte, Int.reduceToNat]
   refine CallK.pure (c_alive) rfl rfl (by simp [-List.map_take]) ?_
   simp (decide := true) only [TF, EV, hrf, q1, q4, pD, ↓reduceIte, Int.reduceToNat]
   refine hK _ _ ?_; clear hK K
   refine WP.ret ?_
   exact Ends.pure (.inr rfl) rfl (Le.of_eq (by simp (decide := true) only [St.get, lk, W, hrf, q1, q4, ↓reduceIte])) (by simp)
end Go.Proofs
set_option linter.unusedVariables false
set_option maxRecDepth 100000
namespace Go.Proofs.YtnmalfongaognaaGreatDoor.RwParses
open Go Go.Id Go.Proofs Go.ChangeShapes Go.ChangeMaps Go.WideShapes Go.ChangeAt Go.RowKit Go.Proofs.YtnmalfongaognaaGreatDoor.Rw
theorem contract (H : Type) (enc : TypeId × Value → H) (W : World) (base : Nat) (args : Array Value) (ds gs : List (DataW H)) (before : List MemPlace)
    (hval : ∀ (j : Nat) t v, Tryz.f4.params[j]? = some t → args[j]? = some v → Value.okWide Tryz.prog W .any base t v)
    (hW : DataW.Whole enc Tryz.prog Tryz.f4.params.toList Rows.policyParsesSpec.vars false W args.toList ds gs before) (hL : laidMetH Tryz.prog laidL W) (hS : W.ShapedOpen Tryz.prog) :
    Calls Tryz.prog 4 args W fun e W' => ∃ v, e = .returned v ∧ Rows.policyParsesSpec.post enc Tryz.prog Tryz.f4 false true false false W args v W' := by
  have hW' := hW
  obtain ⟨p, q, hA0, hV, rfl, hfz, hnd⟩ := hW
  have hA : DataW.TrodAll enc Tryz.prog W 0 (fun _ => true) true Tryz.f4.params.toList args.toList ds p := hA0
  rw [Tryz.params4] at hA hval
  obtain ⟨v0, d0, rfl, rfl, h0⟩ := trodAll_one hA
  obtain ⟨rfl, rfl⟩ := trodVars_none hV
  obtain ⟨s0, r0⟩ := arg_str (hval 0 9 v0 rfl rfl) h0
  refine (CallP.run (c_l_parses s0) W (polI_of hL hS) (heap_of hS) [v0] rfl (one r0)).mono ?_
  rintro e W' ⟨v, rfl, hr, hb⟩
  cases hr
  exact ⟨_, rfl, post_all hW' rfl hb (of_decide_eq_true (by kernel_rfl)) (by kernel_rfl) rfl rfl rfl⟩
abbrev wit : Array Value := #[.string ⟨#[]⟩]
theorem reads (os : Os) {H : Type} (enc : TypeId × Value → H) : (DataW.whole enc Tryz.prog (memW os wit) Tryz.f4.params.toList Rows.policyParsesSpec.vars false wit.toList 8).map (fun x => (x.1, x.2.1)) = some ([.lit (.string [])], []) := by kernel_rfl
theorem lifted (os : Os) (started : os.Started) (H : Type) (enc : TypeId × Value → H) (F : Stop.Interp) :
    ReturnsInHanded {} Tryz.checked os 4 .any ((OpenSpec.ofChange Rows.policyParsesSpec).preRow enc Tryz.prog Tryz.f4 Rows.policyParsesRow.domain false Rows.policyParsesRow.laid) (((OpenSpec.ofChange Rows.policyParsesSpec).at F).post enc Tryz.prog Tryz.f4 false true false false) := by
  obtain ⟨⟨x1, x2, x3⟩, hx, hx1⟩ := Option.map_eq_some_iff.1 (reads os enc)
  simp only [Prod.mk.injEq] at hx1
  obtain ⟨rfl, rfl⟩ := hx1
  refine returnsInHanded_of_row (C := Tryz.checked) (s := OpenSpec.ofChange Rows.policyParsesSpec) own started (by kernel_rfl) Tryz.func4
    (witness_row_atRef (enc := enc) (C := Tryz.checked) false (laidWorld os) wit rfl (by kernel_rfl) (by kernel_rfl) (by kernel_rfl)
      (OpenSpec.preRow_of_cond 8 hx (by kernel_rfl) (fun k hk => by cases hk) (by kernel_rfl) (laid_met os _))) ?_
  intro W base args ds gs before hval hW _ _ _ hL hS _
  exact contract H enc W base args ds gs before hval hW hL hS
theorem said : Rows.PolicyParsesSaid :=
  OpenClaim.holds_of_cond 4 Tryz.f4 rfl rfl rfl rfl rfl rfl rfl ⟨rfl, rfl, rfl, rfl, rfl⟩ rfl rfl rfl rfl rfl (by kernel_rfl) Tryz.func4 (by kernel_rfl)
    (of_decide_eq_true (by kernel_rfl)) (by unfold Func.isWrapper; first | (rw [if_pos (by decide +kernel)]; kernel_rfl) | (rw [if_neg (by decide +kernel)]; exact ⟨rfl, rfl⟩))
    (fun os started H enc _ F => by rw [OpenClaim.pre_eq_preRow]; exact lifted os started H enc F)
theorem plain (f : FuncId) (fn : Func) (hf : Tryz.pinned.checked.prog.funcNamed Rows.policyParsesRow.func = some f) (hfn : Tryz.pinned.checked.prog.funcs[f]? = some fn) :
    true = Tryz.pinned.checked.prog.looks [] ∧ ∀ (j : Nat) t, fn.params[j]? = some t → Tryz.pinned.checked.prog.wantsStandIn t = false := by
  obtain rfl : f = 4 := Option.some.inj ((show Tryz.prog.funcNamed Rows.policyParsesRow.func = some 4 by kernel_rfl).symm.trans hf) |>.symm
  obtain rfl : fn = Tryz.f4 := (Option.some.inj (Tryz.func4.symm.trans hfn)).symm
  refine ⟨by kernel_rfl, fun j t ht => ?_⟩
  have hall : (Tryz.f4.params.toList.all fun t => Tryz.prog.wantsStandIn t == false) = true := by kernel_rfl
  exact eq_of_beq (List.all_eq_true.1 hall t (by simpa using Array.mem_of_getElem? ht))
theorem card : Rows.PolicyParsesCardSaid :=
  Claim7.holds_tied_plain_at .later [] _ _ _ _ said (fun _ h => by cases h) (by kernel_rfl) (fun _ h => by cases h) policyParses_row_tie rfl ⟨rfl, rfl⟩ (by kernel_rfl) rfl plain (by kernel_rfl)
end Go.Proofs.YtnmalfongaognaaGreatDoor.RwParses
#print axioms Go.Proofs.YtnmalfongaognaaGreatDoor.RwParses.card
