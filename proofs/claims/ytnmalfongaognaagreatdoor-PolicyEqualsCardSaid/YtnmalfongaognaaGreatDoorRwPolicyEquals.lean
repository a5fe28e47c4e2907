/- Equal reports whether two policies are equal, and their text forms are equal exactly if they are. Conditions: none, the given statement. -/
import Derived.Test.YtnmalfongaognaaGreatDoorG09
import Derived.Test.YtnmalfongaognaaGreatDoorG07
import Derived.Test.YtnmalfongaognaaGreatDoorG08
import Derived.ChangeMaps5
set_option linter.unusedSimpArgs false
set_option linter.unusedVariables false
set_option maxRecDepth 10000
namespace Go.Proofs
open Go Go.Id
set_option maxHeartbeats 4000000
theorem mx21 : max 2 1 = 2 := rfl
theorem mx32 : max 3 2 = 3 := rfl

theorem c_l_equals (l : List Rule) (nl : Bool) (hn : l.length ≤ 9223372036854775807) (hnl : nl = true → l = []) (hl : ∀ p ∈ l, p.big) (hr : ∀ p ∈ l, p.rng) (m : List Rule) (nm : Bool) (hn2 : m.length ≤ 9223372036854775807) (hnl2 : nm = true → m = []) (hl2 : ∀ p ∈ m, p.big) (hr2 : ∀ p ∈ m, p.rng) : CallP Pr 6 [.slice 6 nl (l.map Rule.cs) none, .slice 6 nm (m.map Rule.cs) none] (.bool true) := by
 have hsym := equalR_symm m l
 have hrf := equalR_refl l
 refine CallP.of_wp Tryz.func6 rfl (by kernel_rfl) Tryz.ntmps6 (by simp) ?_
 simp only [frameOf, Nat.reduceAdd, Nat.zero_add]
 refine WP.sr [0, 1] (by kernel_rfl) fun K hK => ?_
 simp (decide := true) only [TF, EV, hsym, hrf, ↓reduceIte, Int.reduceToNat]
 refine hK _ _ ?_; clear hK K
 refine WP.seq ?_
 refine WP.sr [0, 1, 16] (by kernel_rfl) fun K hK => ?_
 simp (decide := true) only [TF, EV, hsym, hrf, ↓reduceIte, Int.reduceToNat]
 refine CallK.pure (c_few l nl hn hnl hl) rfl rfl (by simp [-List.map_take]) ?_
 refine runOps.take 2 fun J hJ => ?_
 simp (decide := true) only [TF, EV, hsym, hrf, ↓reduceIte, Int.reduceToNat]
 refine hJ _ _ ?_; clear hJ J
 refine runOps.part 12 rfl (fun q1 => ?_) (fun q1 => ?_)
 ·
  simp only [Bool.not_eq_true', Bool.not_eq_false'] at q1
  simp (decide := true) only [TF, EV, hsym, hrf, q1, ↓reduceIte, Int.reduceToNat]
  refine hK _ _ ?_; clear hK K
  refine WP.cond (b := true) (by rfl) (fun _ => ?_) nofun
  refine WP.sr [4] (by kernel_rfl) fun K hK => ?_
  simp (decide := true) only [TF, EV, hsym, hrf, q1, ↓reduceIte, Int.reduceToNat]
  refine CallK.pure (c_alive) rfl rfl (by simp [-List.map_take]) ?_
  simp (decide := true) only [TF, EV, hsym, hrf, q1, ↓reduceIte, Int.reduceToNat]
  refine hK _ _ ?_; clear hK K
  refine WP.ret ?_
  exact Ends.pure (.inr rfl) rfl (Le.of_eq (by simp (decide := true) only [St.get, lk, W, hsym, hrf, q1, ↓reduceIte])) (by simp)
 ·
  simp only [Bool.not_eq_true', Bool.not_eq_false'] at q1
  have hf : fewB l = true := by simpa using q1
  obtain ⟨hs, h70⟩ := few_sm hf hl hr
  obtain ⟨ts, te, ht, hte⟩ := text_full l
  simp (decide := true) only [TF, EV, hsym, hrf, q1, ht, ↓reduceIte, Int.reduceToNat]
  refine CallK.pure (c_few m nm hn2 hnl2 hl2) rfl rfl (by simp [-List.map_take]) ?_
  simp (decide := true) only [TF, EV, hsym, hrf, q1, ht, ↓reduceIte, Int.reduceToNat]
  refine hK _ _ ?_; clear hK K
  refine WP.cond (b := _) rfl (fun q2 => ?_) (fun q2 => ?_)
  ·
   refine WP.sr [4] (by kernel_rfl) fun K hK => ?_
   simp (decide := true) only [TF, EV, hsym, hrf, q1, ht, q2, ↓reduceIte, Int.reduceToNat]
   refine CallK.pure (c_alive) rfl rfl (by simp [-List.map_take]) ?_
   simp (decide := true) only [TF, EV, hsym, hrf, q1, ht, q2, ↓reduceIte, Int.reduceToNat]
   refine hK _ _ ?_; clear hK K
   refine WP.ret ?_
   exact Ends.pure (.inr rfl) rfl (Le.of_eq (by simp (decide := true) only [St.get, lk, W, hsym, hrf, q1, ht, q2, ↓reduceIte])) (by simp)
  ·
   have hf2 : fewB m = true := by simpa using q2
   obtain ⟨hs2, h702⟩ := few_sm hf2 hl2 hr2
   obtain ⟨us, ue, hu, hue⟩ := text_full m
   refine WP.skip ?_
   show WP _ _ _ _ _ _
   refine WP.sr [0, 1, 5, 6] (by kernel_rfl) fun K hK => ?_
   simp (decide := true) only [TF, EV, hsym, hrf, q1, ht, q2, hu, ↓reduceIte, Int.reduceToNat]
   refine CallK.pure (c_text l nl (by omega) hnl hs) rfl rfl (by simp [-List.map_take]) ?_
   simp (decide := true) only [TF, EV, hsym, hrf, q1, ht, q2, hu, ↓reduceIte, Int.reduceToNat]
   refine hK _ _ ?_; clear hK K
   refine WP.sr [0, 1, 5, 6, 7, 8] (by kernel_rfl) fun K hK => ?_
   simp (decide := true) only [TF, EV, hsym, hrf, q1, ht, q2, hu, ↓reduceIte, Int.reduceToNat]
   refine CallK.pure (c_text m nm (by omega) hnl2 hs2) rfl rfl (by simp [-List.map_take]) ?_
   simp (decide := true) only [TF, EV, hsym, hrf, q1, ht, q2, hu, ↓reduceIte, Int.reduceToNat]
   refine hK _ _ ?_; clear hK K
   refine WP.seq ?_
   refine WP.sr [0, 1, 42] (by kernel_rfl) fun K hK => ?_
   refine runOps.take 3 fun J hJ => ?_
   simp (decide := true) only [TF, EV, hsym, hrf, q1, ht, q2, hu, ↓reduceIte, Int.reduceToNat]
   refine hJ _ _ ?_; clear hJ J
   refine runOps.part 30 rfl (fun q3 => ?_) (fun q3 => ?_)
   ·
    have e1 := hte (by simpa using q3)
    refine runOps.take 4 fun J hJ => ?_
    simp (decide := true) only [TF, EV, hsym, hrf, q1, ht, q2, hu, q3, ↓reduceIte, Int.reduceToNat]
    refine hJ _ _ ?_; clear hJ J
    refine runOps.part 34 rfl (fun q4 => ?_) (fun q4 => ?_)
    ·
     have e2 := hue (by simpa using q4)
     have heq := text_eqB e1 e2 hr hr2
     simp (decide := true) only [TF, EV, hsym, hrf, q1, ht, q2, hu, q3, q4, heq, ↓reduceIte, Int.reduceToNat]
     refine CallK.pure (c_equal l nl m nm (by omega) hnl (by omega) hnl2 (fun p hp => (hs p hp).ok.1) (fun p hp => (hs2 p hp).ok.1)) rfl rfl (by simp [-List.map_take]) ?_
     simp (decide := true) only [TF, EV, hsym, hrf, q1, ht, q2, hu, q3, q4, heq, ↓reduceIte, Int.reduceToNat]
     refine hK _ _ ?_; clear hK K
     refine WP.cond (b := false) (by rfl) nofun (fun _ => ?_)
     refine WP.skip ?_
     show WP _ _ _ _ _ _
     refine WP.sr [4] (by kernel_rfl) fun K hK => ?_
     simp (decide := true) only [TF, EV, hsym, hrf, q1, ht, q2, hu, q3, q4, heq, ↓reduceIte, Int.reduceToNat]
     refine CallK.pure (c_equal l nl m nm (by omega) hnl (by omega) hnl2 (fun p hp => (hs p hp).ok.1) (fun p hp => (hs2 p hp).ok.1)) rfl rfl (by simp [-List.map_take]) ?_
     simp (decide := true) only [TF, EV, hsym, hrf, q1, ht, q2, hu, q3, q4, heq, ↓reduceIte, Int.reduceToNat]
     refine CallK.pure (c_r_equal l nl m nm (by omega) hnl (by omega) hnl2 (fun p hp => (hs p hp).ok.1) (fun p hp => (hs2 p hp).ok.1)) rfl rfl (by simp [-List.map_take]) ?_
     simp (decide := true) only [TF, EV, hsym, hrf, q1, ht, q2, hu, q3, q4, heq, ↓reduceIte, Int.reduceToNat]
     refine CallK.pure (c_equal m nm l nl (by omega) hnl2 (by omega) hnl (fun p hp => (hs2 p hp).ok.1) (fun p hp => (hs p hp).ok.1)) rfl rfl (by simp [-List.map_take]) ?_
     simp (decide := true) only [TF, EV, hsym, hrf, q1, ht, q2, hu, q3, q4, heq, ↓reduceIte, Int.reduceToNat]
     refine CallK.pure (c_equal l nl m nm (by omega) hnl (by omega) hnl2 (fun p hp => (hs p hp).ok.1) (fun p hp => (hs2 p hp).ok.1)) rfl rfl (by simp [-List.map_take]) ?_
     simp (decide := true) only [TF, EV, hsym, hrf, q1, ht, q2, hu, q3, q4, heq, ↓reduceIte, Int.reduceToNat]
     refine CallK.pure (c_equal l nl l nl (by omega) hnl (by omega) hnl (fun p hp => (hs p hp).ok.1) (fun p hp => (hs p hp).ok.1)) rfl rfl (by simp [-List.map_take]) ?_
     simp (decide := true) only [TF, EV, hsym, hrf, q1, ht, q2, hu, q3, q4, heq, ↓reduceIte, Int.reduceToNat]
     refine CallK.pure (c_alive) rfl rfl (by simp [-List.map_take]) ?_
     simp (decide := true) only [TF, EV, hsym, hrf, q1, ht, q2, hu, q3, q4, heq, ↓reduceIte, Int.reduceToNat]
     refine hK _ _ ?_; clear hK K
     refine WP.ret ?_
     exact Ends.pure (.inr rfl) rfl (Le.of_eq (by simp (decide := true) only [St.get, lk, W, hsym, hrf, q1, ht, q2, hu, q3, q4, heq, ↓reduceIte])) (by simp)
    ·
     simp (decide := true) only [TF, EV, hsym, hrf, q1, ht, q2, hu, q3, q4, ↓reduceIte, Int.reduceToNat]
     refine hK _ _ ?_; clear hK K
     refine WP.cond (b := false) (by rfl) nofun (fun _ => ?_)
     refine WP.skip ?_
     show WP _ _ _ _ _ _
     refine WP.sr [4] (by kernel_rfl) fun K hK => ?_
     simp (decide := true) only [TF, EV, hsym, hrf, q1, ht, q2, hu, q3, q4, ↓reduceIte, Int.reduceToNat]
     refine CallK.pure (c_equal l nl m nm (by omega) hnl (by omega) hnl2 (fun p hp => (hs p hp).ok.1) (fun p hp => (hs2 p hp).ok.1)) rfl rfl (by simp [-List.map_take]) ?_
     simp (decide := true) only [TF, EV, hsym, hrf, q1, ht, q2, hu, q3, q4, ↓reduceIte, Int.reduceToNat]
     refine CallK.pure (c_r_equal l nl m nm (by omega) hnl (by omega) hnl2 (fun p hp => (hs p hp).ok.1) (fun p hp => (hs2 p hp).ok.1)) rfl rfl (by simp [-List.map_take]) ?_
     simp (decide := true) only [TF, EV, hsym, hrf, q1, ht, q2, hu, q3, q4, ↓reduceIte, Int.reduceToNat]
     refine CallK.pure (c_equal m nm l nl (by omega) hnl2 (by omega) hnl (fun p hp => (hs2 p hp).ok.1) (fun p hp => (hs p hp).ok.1)) rfl rfl (by simp [-List.map_take]) ?_
     simp (decide := true) only [TF, EV, hsym, hrf, q1, ht, q2, hu, q3, q4, ↓reduceIte, Int.reduceToNat]
     refine CallK.pure (c_equal l nl m nm (by omega) hnl (by omega) hnl2 (fun p hp => (hs p hp).ok.1) (fun p hp => (hs2 p hp).ok.1)) rfl rfl (by simp [-List.map_take]) ?_
     simp (decide := true) only [TF, EV, hsym, hrf, q1, ht, q2, hu, q3, q4, ↓reduceIte, Int.reduceToNat]
     refine CallK.pure (c_equal l nl l nl (by omega) hnl (by omega) hnl (fun p hp => (hs p hp).ok.1) (fun p hp => (hs p hp).ok.1)) rfl rfl (by simp [-List.map_take]) ?_
     simp (decide := true) only [TF, EV, hsym, hrf, q1, ht, q2, hu, q3, q4, ↓reduceIte, Int.reduceToNat]
     refine CallK.pure (c_alive) rfl rfl (by simp [-List.map_take]) ?_
     simp (decide := true) only [TF, EV, hsym, hrf, q1, ht, q2, hu, q3, q4, ↓reduceIte, Int.reduceToNat]
     refine hK _ _ ?_; clear hK K
     refine WP.ret ?_
     exact Ends.pure (.inr rfl) rfl (Le.of_eq (by simp (decide := true) only [St.get, lk, W, hsym, hrf, q1, ht, q2, hu, q3, q4, ↓reduceIte])) (by simp)
   ·
    simp (decide := true) only [TF, EV, hsym, hrf, q1, ht, q2, hu, q3, ↓reduceIte, Int.reduceToNat]
    refine hK _ _ ?_; clear hK K
    refine WP.cond (b := false) (by rfl) nofun (fun _ => ?_)
    refine WP.skip ?_
    show WP _ _ _ _ _ _
    refine WP.sr [4] (by kernel_rfl) fun K hK => ?_
    simp (decide := true) only [TF, EV, hsym, hrf, q1, ht, q2, hu, q3, ↓reduceIte, Int.reduceToNat]
    refine CallK.pure (c_equal l nl m nm (by omega) hnl (by omega) hnl2 (fun p hp => (hs p hp).ok.1) (fun p hp => (hs2 p hp).ok.1)) rfl rfl (by simp [-List.map_take]) ?_
    simp (decide := true) only [TF, EV, hsym, hrf, q1, ht, q2, hu, q3, ↓reduceIte, Int.reduceToNat]
    refine CallK.pure (c_r_equal l nl m nm (by omega) hnl (by omega) hnl2 (fun p hp => (hs p hp).ok.1) (fun p hp => (hs2 p hp).ok.1)) rfl rfl (by simp [-List.map_take]) ?_
    simp (decide := true) only [TF, EV, hsym, hrf, q1, ht, q2, hu, q3, ↓reduceIte, Int.reduceToNat]
    refine CallK.pure (c_equal m nm l nl (by omega) hnl2 (by omega) hnl (fun p hp => (hs2 p hp).ok.1) (fun p hp => (hs p hp).ok.1)) rfl rfl (by simp [-List.map_take]) ?_
    simp (decide := true) only [TF, EV, hsym, hrf, q1, ht, q2, hu, q3, ↓reduceIte, Int.reduceToNat]
    refine CallK.pure (c_equal l nl m nm (by omega) hnl (by omega) hnl2 (fun p hp => (hs p hp).ok.1) (fun p hp => (hs2 p hp).ok.1)) rfl rfl (by simp [-List.map_take]) ?_
    simp (decide := true) only [TF, EV, hsym, hrf, q1, ht, q2, hu, q3, ↓reduceIte, Int.reduceToNat]
    refine CallK.pure (c_equal l nl l nl (by omega) hnl (by omega) hnl (fun p hp => (hs p hp).ok.1) (fun p hp => (hs p hp).ok.1)) rfl rfl (by simp [-List.map_take]) ?_
    simp (decide := true) only [TF, EV, hsym, hrf, q1, ht, q2, hu, q3, ↓reduceIte, Int.reduceToNat]
    refine CallK.pure (c_alive) rfl rfl (by simp [-List.map_take]) ?_
    simp (decide := true) only [TF, EV, hsym, hrf, q1, ht, q2, hu, q3, ↓reduceIte, Int.reduceToNat]
    refine hK _ _ ?_; clear hK K
    refine WP.ret ?_
    exact Ends.pure (.inr rfl) rfl (Le.of_eq (by simp (decide := true) only [St.get, lk, W, hsym, hrf, q1, ht, q2, hu, q3, ↓reduceIte])) (by simp)
end Go.Proofs
set_option linter.unusedVariables false
set_option maxRecDepth 100000
namespace Go.Proofs.YtnmalfongaognaaGreatDoor.RwEquals
open Go Go.Id Go.Proofs Go.ChangeShapes Go.ChangeMaps Go.WideShapes Go.ChangeAt Go.RowKit Go.Proofs.YtnmalfongaognaaGreatDoor.Rw
theorem contract (H : Type) (enc : TypeId × Value → H) (W : World) (base : Nat) (args : Array Value) (ds gs : List (DataW H)) (before : List MemPlace)
    (hval : ∀ (j : Nat) t v, Tryz.f6.params[j]? = some t → args[j]? = some v → Value.okWide Tryz.prog W .any base t v)
    (hW : DataW.Whole enc Tryz.prog Tryz.f6.params.toList Rows.policyEqualsSpec.vars false W args.toList ds gs before) (hL : laidMetH Tryz.prog laidL W) (hS : W.ShapedOpen Tryz.prog) :
    Calls Tryz.prog 6 args W fun e W' => ∃ v, e = .returned v ∧ Rows.policyEqualsSpec.post enc Tryz.prog Tryz.f6 false true false false W args v W' := by
  have hW' := hW
  obtain ⟨p, q, hA0, hV, rfl, hfz, hnd⟩ := hW
  have hA : DataW.TrodAll enc Tryz.prog W 0 (fun _ => true) true Tryz.f6.params.toList args.toList ds p := hA0
  rw [Tryz.params6] at hA hval
  obtain ⟨v0, v1, d0, d1, p_0, p_1, rfl, rfl, rfl, h0, h1⟩ := trodAll_two hA
  obtain ⟨rfl, rfl⟩ := trodVars_none hV
  obtain ⟨l0, nl0, hn0, hnl0, hb0, hr0, r0⟩ := arg_rules (hval 0 22 v0 rfl rfl) h0
  obtain ⟨l1, nl1, hn1, hnl1, hb1, hr1, r1⟩ := arg_rules (hval 1 22 v1 rfl rfl) h1
  refine (CallP.run (c_l_equals l0 nl0 hn0 hnl0 hb0 hr0 l1 nl1 hn1 hnl1 hb1 hr1) W (polI_of hL hS) (heap_of hS) [v0, v1] rfl (consR r0 (one r1))).mono ?_
  rintro e W' ⟨v, rfl, hr, hb⟩
  cases hr
  exact ⟨_, rfl, post_all hW' rfl hb (of_decide_eq_true (by kernel_rfl)) (by kernel_rfl) rfl rfl rfl⟩
abbrev wit : Array Value := #[.slice none 0 0, .slice none 0 0]
theorem reads (os : Os) {H : Type} (enc : TypeId × Value → H) : (DataW.whole enc Tryz.prog (memW os wit) Tryz.f6.params.toList Rows.policyEqualsSpec.vars false wit.toList 8).map (fun x => (x.1, x.2.1)) = some ([.nil, .nil], []) := by kernel_rfl
theorem lifted (os : Os) (started : os.Started) (H : Type) (enc : TypeId × Value → H) (F : Stop.Interp) :
    ReturnsInHanded {} Tryz.checked os 6 .any ((OpenSpec.ofChange Rows.policyEqualsSpec).preRow enc Tryz.prog Tryz.f6 Rows.policyEqualsRow.domain false Rows.policyEqualsRow.laid) (((OpenSpec.ofChange Rows.policyEqualsSpec).at F).post enc Tryz.prog Tryz.f6 false true false false) := by
  obtain ⟨⟨x1, x2, x3⟩, hx, hx1⟩ := Option.map_eq_some_iff.1 (reads os enc)
  simp only [Prod.mk.injEq] at hx1
  obtain ⟨rfl, rfl⟩ := hx1
  refine returnsInHanded_of_row (C := Tryz.checked) (s := OpenSpec.ofChange Rows.policyEqualsSpec) own started (by kernel_rfl) Tryz.func6
    (witness_row_atRef (enc := enc) (C := Tryz.checked) false (laidWorld os) wit rfl (by kernel_rfl) (by kernel_rfl) (by kernel_rfl)
      (OpenSpec.preRow_of_cond 8 hx (by kernel_rfl) (fun k hk => by cases hk) (by kernel_rfl) (laid_met os _))) ?_
  intro W base args ds gs before hval hW _ _ _ hL hS _
  exact contract H enc W base args ds gs before hval hW hL hS
theorem said : Rows.PolicyEqualsSaid :=
  OpenClaim.holds_of_cond 6 Tryz.f6 rfl rfl rfl rfl rfl rfl rfl ⟨rfl, rfl, rfl, rfl, rfl⟩ rfl rfl rfl rfl rfl (by kernel_rfl) Tryz.func6 (by kernel_rfl)
    (of_decide_eq_true (by kernel_rfl)) (by unfold Func.isWrapper; first | (rw [if_pos (by decide +kernel)]; kernel_rfl) | (rw [if_neg (by decide +kernel)]; exact ⟨rfl, rfl⟩))
    (fun os started H enc _ F => by rw [OpenClaim.pre_eq_preRow]; exact lifted os started H enc F)
theorem plain (f : FuncId) (fn : Func) (hf : Tryz.pinned.checked.prog.funcNamed Rows.policyEqualsRow.func = some f) (hfn : Tryz.pinned.checked.prog.funcs[f]? = some fn) :
    true = Tryz.pinned.checked.prog.looks [] ∧ ∀ (j : Nat) t, fn.params[j]? = some t → Tryz.pinned.checked.prog.wantsStandIn t = false := by
  obtain rfl : f = 6 := Option.some.inj ((show Tryz.prog.funcNamed Rows.policyEqualsRow.func = some 6 by kernel_rfl).symm.trans hf) |>.symm
  obtain rfl : fn = Tryz.f6 := (Option.some.inj (Tryz.func6.symm.trans hfn)).symm
  refine ⟨by kernel_rfl, fun j t ht => ?_⟩
  have hall : (Tryz.f6.params.toList.all fun t => Tryz.prog.wantsStandIn t == false) = true := by kernel_rfl
  exact eq_of_beq (List.all_eq_true.1 hall t (by simpa using Array.mem_of_getElem? ht))
theorem card : Rows.PolicyEqualsCardSaid :=
  Claim7.holds_tied_plain_at .later [] _ _ _ _ said (fun _ h => by cases h) (by kernel_rfl) (fun _ h => by cases h) policyEquals_row_tie rfl ⟨rfl, rfl⟩ (by kernel_rfl) rfl plain (by kernel_rfl)
end Go.Proofs.YtnmalfongaognaaGreatDoor.RwEquals
#print axioms Go.Proofs.YtnmalfongaognaaGreatDoor.RwEquals.card
