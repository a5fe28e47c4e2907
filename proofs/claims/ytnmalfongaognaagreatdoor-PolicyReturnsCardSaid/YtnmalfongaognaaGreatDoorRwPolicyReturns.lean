/- Parse of the text form of rules are the rules, and Text of what Parse returns is the string. Conditions: none, the given statement. -/
import Derived.Test.YtnmalfongaognaaGreatDoorG09
import Derived.Test.YtnmalfongaognaaGreatDoorG07
import Derived.Test.YtnmalfongaognaaGreatDoorG08
import Derived.ChangeMaps5
set_option linter.unusedSimpArgs false
set_option linter.unusedVariables false
set_option maxRecDepth 10000
namespace Go.Proofs
open Go Go.Id
set_option maxHeartbeats 4000000
theorem mx21 : max 2 1 = 2 := rfl
theorem mx32 : max 3 2 = 3 := rfl

theorem c_l_returns (l : List Rule) (nl : Bool) (hn : l.length ≤ 9223372036854775807) (hnl : nl = true → l = []) (hl : ∀ p ∈ l, p.big) (hr : ∀ p ∈ l, p.rng) (s : List UInt8) : CallP Pr 7 [.slice 6 nl (l.map Rule.cs) none, .str s] (.bool true) := by
 refine CallP.of_wp Tryz.func7 rfl (by kernel_rfl) Tryz.ntmps7 (by simp) ?_
 simp only [frameOf, Nat.reduceAdd, Nat.zero_add]
 refine WP.sr [0, 1] (by kernel_rfl) fun K hK => ?_
 simp (decide := true) only [TF, EV, pD, ↓reduceIte, Int.reduceToNat]
 refine hK _ _ ?_; clear hK K
 refine WP.seq ?_
 refine WP.sr [0, 1, 22] (by kernel_rfl) fun K hK => ?_
 simp (decide := true) only [TF, EV, pD, ↓reduceIte, Int.reduceToNat]
 refine CallK.pure (c_few l nl hn hnl hl) rfl rfl (by simp [-List.map_take]) ?_
 refine runOps.take 2 fun J hJ => ?_
 simp (decide := true) only [TF, EV, pD, ↓reduceIte, Int.reduceToNat]
 refine hJ _ _ ?_; clear hJ J
 refine runOps.part 18 rfl (fun q1 => ?_) (fun q1 => ?_)
 ·
  simp only [Bool.not_eq_true', Bool.not_eq_false'] at q1
  simp (decide := true) only [TF, EV, q1, pD, ↓reduceIte, Int.reduceToNat]
  refine hK _ _ ?_; clear hK K
  refine WP.cond (b := true) (by rfl) (fun _ => ?_) nofun
  refine WP.sr [4] (by kernel_rfl) fun K hK => ?_
  simp (decide := true) only [TF, EV, q1, pD, ↓reduceIte, Int.reduceToNat]
  refine CallK.pure (c_alive) rfl rfl (by simp [-List.map_take]) ?_
  simp (decide := true) only [TF, EV, q1, pD, ↓reduceIte, Int.reduceToNat]
  refine hK _ _ ?_; clear hK K
  refine WP.ret ?_
  exact Ends.pure (.inr rfl) rfl (Le.of_eq (by simp (decide := true) only [St.get, lk, W, q1, ↓reduceIte])) (by simp)
 ·
  simp only [Bool.not_eq_true', Bool.not_eq_false'] at q1
  have hf : fewB l = true := by simpa using q1
  obtain ⟨hs, h70⟩ := few_sm hf hl hr
  obtain ⟨ts, te, ht, hte⟩ := text_full l
  simp (decide := true) only [TF, EV, q1, ht, pD, ↓reduceIte, Int.reduceToNat]
  refine hK _ _ ?_; clear hK K
  refine WP.cond (b := _) rfl (fun q2 => ?_) (fun q2 => ?_)
  ·
   refine WP.sr [4] (by kernel_rfl) fun K hK => ?_
   simp (decide := true) only [TF, EV, q1, ht, q2, pD, ↓reduceIte, Int.reduceToNat]
   refine CallK.pure (c_alive) rfl rfl (by simp [-List.map_take]) ?_
   simp (decide := true) only [TF, EV, q1, ht, q2, pD, ↓reduceIte, Int.reduceToNat]
   refine hK _ _ ?_; clear hK K
   refine WP.ret ?_
   exact Ends.pure (.inr rfl) rfl (Le.of_eq (by simp (decide := true) only [St.get, lk, W, q1, ht, q2, ↓reduceIte])) (by simp)
  ·
   have hs8 : s.length ≤ 800 := by have := of_decide_eq_false q2; omega
   have hsok := (pR_ok s).1
   have hpl := (pR_ok s).2
   refine WP.skip ?_
   show WP _ _ _ _ _ _
   refine WP.seq ?_
   refine WP.sr [0, 1, 5, 6] (by kernel_rfl) fun K hK => ?_
   simp (decide := true) only [TF, EV, q1, ht, q2, pD, ↓reduceIte, Int.reduceToNat]
   refine CallK.pure (c_text l nl (by omega) hnl hs) rfl rfl (by simp [-List.map_take]) ?_
   simp (decide := true) only [TF, EV, q1, ht, q2, pD, ↓reduceIte, Int.reduceToNat]
   refine hK _ _ ?_; clear hK K
   refine WP.sr [0, 1, 5, 30] (by kernel_rfl) fun K hK => ?_
   simp (decide := true) only [TF, EV, q1, ht, q2, pD, ↓reduceIte, Int.reduceToNat]
   refine hK _ _ ?_; clear hK K
   refine WP.cond (b := _) rfl (fun q3 => ?_) (fun q3 => ?_)
   ·
    obtain ⟨rfl, e1, e2⟩ := hte (by simpa using q3)
    have hP := parse_text e1 (fun p hp => (hr p hp).2.2) e2
    have hN := norm_equal l
    have hnk : (l.map Rule.norm).length ≤ 1099511627776 := by rw [List.length_map]; omega
    refine WP.sr [0, 1, 7, 8, 9] (by kernel_rfl) fun K hK => ?_
    simp (decide := true) only [TF, EV, q1, ht, q2, q3, hP, hN, pD, ↓reduceIte, Int.reduceToNat]
    refine CallK.pure (c_parse (textB l) (by omega)) rfl rfl (by simp [-List.map_take]) ?_
    simp (decide := true) only [TF, EV, q1, ht, q2, q3, hP, hN, pD, ↓reduceIte, Int.reduceToNat]
    refine hK _ _ ?_; clear hK K
    refine WP.sr [1, 48] (by kernel_rfl) fun K hK => ?_
    simp (decide := true) only [TF, EV, q1, ht, q2, q3, hP, hN, pD, ↓reduceIte, Int.reduceToNat]
    refine CallK.pure (c_r_equal (l.map Rule.norm) (l.map Rule.norm).isEmpty l nl hnk List.isEmpty_iff.1 (by omega) hnl (norm_ok0 fun p hp => (hs p hp).ok.1) (fun p hp => (hs p hp).ok.1)) rfl rfl (by simp [-List.map_take]) ?_
    simp (decide := true) only [TF, EV, q1, ht, q2, q3, hP, hN, pD, ↓reduceIte, Int.reduceToNat]
    refine hK _ _ ?_; clear hK K
    refine WP.cond (b := false) (by rfl) nofun (fun _ => ?_)
    refine WP.skip ?_
    show WP _ _ _ _ _ _
    refine WP.sr [1, 10, 12] (by kernel_rfl) fun K hK => ?_
    simp (decide := true) only [TF, EV, q1, ht, q2, q3, hP, hN, pD, ↓reduceIte, Int.reduceToNat]
    refine CallK.pure (c_parse s (by omega)) rfl rfl (by simp [-List.map_take]) ?_
    simp (decide := true) only [TF, EV, q1, ht, q2, q3, hP, hN, pD, ↓reduceIte, Int.reduceToNat]
    refine hK _ _ ?_; clear hK K
    refine WP.seq ?_
    refine WP.sr [1, 10, 56] (by kernel_rfl) fun K hK => ?_
    simp (decide := true) only [TF, EV, q1, ht, q2, q3, hP, hN, pD, ↓reduceIte, Int.reduceToNat]
    refine hK _ _ ?_; clear hK K
    refine WP.cond (b := _) rfl (fun q4 => ?_) (fun q4 => ?_)
    ·
     have hE := parse_none (s := s) (by simpa using q4)
     have hz0 : (((0 : Nat) : Int) == 0) = true := rfl
     refine WP.sr [4] (by kernel_rfl) fun K hK => ?_
     simp (decide := true) only [TF, EV, q1, ht, q2, q3, hP, hN, q4, hE, List.map_nil, List.length_nil, hz0, pD, ↓reduceIte, Int.reduceToNat]
     refine CallK.pure (c_alive) rfl rfl (by simp [-List.map_take]) ?_
     simp (decide := true) only [TF, EV, q1, ht, q2, q3, hP, hN, q4, hE, List.map_nil, List.length_nil, hz0, pD, ↓reduceIte, Int.reduceToNat]
     refine hK _ _ ?_; clear hK K
     refine WP.ret ?_
     exact Ends.pure (.inr rfl) rfl (Le.of_eq (by simp (decide := true) only [St.get, lk, W, q1, ht, q2, q3, hP, hN, q4, hE, List.map_nil, List.length_nil, hz0, ↓reduceIte])) (by simp)
    ·
     have hz : (pR s).2.2 = 0 := by simpa using q4
     obtain ⟨hc0, hT⟩ := parsed_text hz
     have hsm := parsed_sm hz
     refine WP.skip ?_
     show WP _ _ _ _ _ _
     refine WP.sr [1, 10, 13, 14] (by kernel_rfl) fun K hK => ?_
     simp (decide := true) only [TF, EV, q1, ht, q2, q3, hP, hN, q4, hc0, hT, pD, ↓reduceIte, Int.reduceToNat]
     refine CallK.pure (c_text (pR s).1 (pR s).1.isEmpty (by omega) List.isEmpty_iff.1 hsm) rfl rfl (by simp [-List.map_take]) ?_
     simp (decide := true) only [TF, EV, q1, ht, q2, q3, hP, hN, q4, hc0, hT, pD, ↓reduceIte, Int.reduceToNat]
     refine hK _ _ ?_; clear hK K
     refine WP.sr [4] (by kernel_rfl) fun K hK => ?_
     simp (decide := true) only [TF, EV, q1, ht, q2, q3, hP, hN, q4, hc0, hT, pD, ↓reduceIte, Int.reduceToNat]
     refine CallK.pure (c_check (pR s).1 (pR s).1.isEmpty (by omega) List.isEmpty_iff.1 hsok) rfl rfl (by simp [-List.map_take]) ?_
     simp (decide := true) only [TF, EV, q1, ht, q2, q3, hP, hN, q4, hc0, hT, pD, ↓reduceIte, Int.reduceToNat]
     refine CallK.pure (c_alive) rfl rfl (by simp [-List.map_take]) ?_
     simp (decide := true) only [TF, EV, q1, ht, q2, q3, hP, hN, q4, hc0, hT, pD, ↓reduceIte, Int.reduceToNat]
     refine hK _ _ ?_; clear hK K
     refine WP.ret ?_
     exact Ends.pure (.inr rfl) rfl (Le.of_eq (by simp (decide := true) only [St.get, lk, W, q1, ht, q2, q3, hP, hN, q4, hc0, hT, ↓reduceIte])) (by simp)
   ·
    refine WP.skip ?_
    show WP _ _ _ _ _ _
    refine WP.sr [1, 10, 12] (by kernel_rfl) fun K hK => ?_
    simp (decide := true) only [TF, EV, q1, ht, q2, q3, pD, ↓reduceIte, Int.reduceToNat]
    refine CallK.pure (c_parse s (by omega)) rfl rfl (by simp [-List.map_take]) ?_
    simp (decide := true) only [TF, EV, q1, ht, q2, q3, pD, ↓reduceIte, Int.reduceToNat]
    refine hK _ _ ?_; clear hK K
    refine WP.seq ?_
    refine WP.sr [1, 10, 56] (by kernel_rfl) fun K hK => ?_
    simp (decide := true) only [TF, EV, q1, ht, q2, q3, pD, ↓reduceIte, Int.reduceToNat]
    refine hK _ _ ?_; clear hK K
    refine WP.cond (b := _) rfl (fun q5 => ?_) (fun q5 => ?_)
    ·
     have hE := parse_none (s := s) (by simpa using q5)
     have hz0 : (((0 : Nat) : Int) == 0) = true := rfl
     refine WP.sr [4] (by kernel_rfl) fun K hK => ?_
     simp (decide := true) only [TF, EV, q1, ht, q2, q3, q5, hE, List.map_nil, List.length_nil, hz0, pD, ↓reduceIte, Int.reduceToNat]
     refine CallK.pure (c_alive) rfl rfl (by simp [-List.map_take]) ?_
     simp (decide := true) only [TF, EV, q1, ht, q2, q3, q5, hE, List.map_nil, List.length_nil, hz0, pD, ↓reduceIte, Int.reduceToNat]
     refine hK _ _ ?_; clear hK K
     refine WP.ret ?_
     exact Ends.pure (.inr rfl) rfl (Le.of_eq (by simp (decide := true) only [St.get, lk, W, q1, ht, q2, q3, q5, hE, List.map_nil, List.length_nil, hz0, ↓reduceIte])) (by simp)
    ·
     have hz : (pR s).2.2 = 0 := by simpa using q5
     obtain ⟨hc0, hT⟩ := parsed_text hz
     have hsm := parsed_sm hz
     refine WP.skip ?_
     show WP _ _ _ _ _ _
     refine WP.sr [1, 10, 13, 14] (by kernel_rfl) fun K hK => ?_
     simp (decide := true) only [TF, EV, q1, ht, q2, q3, q5, hc0, hT, pD, ↓reduceIte, Int.reduceToNat]
     refine CallK.pure (c_text (pR s).1 (pR s).1.isEmpty (by omega) List.isEmpty_iff.1 hsm) rfl rfl (by simp [-List.map_take]) ?_
     simp (decide := true) only [TF, EV, q1, ht, q2, q3, q5, hc0, hT, pD, ↓reduceIte, Int.reduceToNat]
     refine hK _ _ ?_; clear hK K
     refine WP.sr [4] (by kernel_rfl) fun K hK => ?_
     simp (decide := true) only [TF, EV, q1, ht, q2, q3, q5, hc0, hT, pD, ↓reduceIte, Int.reduceToNat]
     refine CallK.pure (c_check (pR s).1 (pR s).1.isEmpty (by omega) List.isEmpty_iff.1 hsok) rfl rfl (by simp [-List.map_take]) ?_
     simp (decide := true) only [TF, EV, q1, ht, q2, q3, q5, hc0, hT, pD, ↓reduceIte, Int.reduceToNat]
     refine CallK.pure (c_alive) rfl rfl (by simp [-List.map_take]) ?_
     simp (decide := true) only [TF, EV, q1, ht, q2, q3, q5, hc0, hT, pD, ↓reduceIte, Int.reduceToNat]
     refine hK _ _ ?_; clear hK K
     refine WP.ret ?_
     exact Ends.pure (.inr rfl) rfl (Le.of_eq (by simp (decide := true) only [St.get, lk, W, q1, ht, q2, q3, q5, hc0, hT, ↓reduceIte])) (by simp)
end Go.Proofs
set_option linter.unusedVariables false
set_option maxRecDepth 100000
namespace Go.Proofs.YtnmalfongaognaaGreatDoor.RwReturns
open Go Go.Id Go.Proofs Go.ChangeShapes Go.ChangeMaps Go.WideShapes Go.ChangeAt Go.RowKit Go.Proofs.YtnmalfongaognaaGreatDoor.Rw
theorem contract (H : Type) (enc : TypeId × Value → H) (W : World) (base : Nat) (args : Array Value) (ds gs : List (DataW H)) (before : List MemPlace)
    (hval : ∀ (j : Nat) t v, Tryz.f7.params[j]? = some t → args[j]? = some v → Value.okWide Tryz.prog W .any base t v)
    (hW : DataW.Whole enc Tryz.prog Tryz.f7.params.toList Rows.policyReturnsSpec.vars false W args.toList ds gs before) (hL : laidMetH Tryz.prog laidL W) (hS : W.ShapedOpen Tryz.prog) :
    Calls Tryz.prog 7 args W fun e W' => ∃ v, e = .returned v ∧ Rows.policyReturnsSpec.post enc Tryz.prog Tryz.f7 false true false false W args v W' := by
  have hW' := hW
  obtain ⟨p, q, hA0, hV, rfl, hfz, hnd⟩ := hW
  have hA : DataW.TrodAll enc Tryz.prog W 0 (fun _ => true) true Tryz.f7.params.toList args.toList ds p := hA0
  rw [Tryz.params7] at hA hval
  obtain ⟨v0, v1, d0, d1, p_0, p_1, rfl, rfl, rfl, h0, h1⟩ := trodAll_two hA
  obtain ⟨rfl, rfl⟩ := trodVars_none hV
  obtain ⟨l0, nl0, hn0, hnl0, hb0, hr0, r0⟩ := arg_rules (hval 0 22 v0 rfl rfl) h0
  obtain ⟨s1, r1⟩ := arg_str (hval 1 9 v1 rfl rfl) h1
  refine (CallP.run (c_l_returns l0 nl0 hn0 hnl0 hb0 hr0 s1) W (polI_of hL hS) (heap_of hS) [v0, v1] rfl (consR r0 (one r1))).mono ?_
  rintro e W' ⟨v, rfl, hr, hb⟩
  cases hr
  exact ⟨_, rfl, post_all hW' rfl hb (of_decide_eq_true (by kernel_rfl)) (by kernel_rfl) rfl rfl rfl⟩
abbrev wit : Array Value := #[.slice none 0 0, .string ⟨#[]⟩]
theorem reads (os : Os) {H : Type} (enc : TypeId × Value → H) : (DataW.whole enc Tryz.prog (memW os wit) Tryz.f7.params.toList Rows.policyReturnsSpec.vars false wit.toList 8).map (fun x => (x.1, x.2.1)) = some ([.nil, .lit (.string [])], []) := by kernel_rfl
theorem lifted (os : Os) (started : os.Started) (H : Type) (enc : TypeId × Value → H) (F : Stop.Interp) :
    ReturnsInHanded {} Tryz.checked os 7 .any ((OpenSpec.ofChange Rows.policyReturnsSpec).preRow enc Tryz.prog Tryz.f7 Rows.policyReturnsRow.domain false Rows.policyReturnsRow.laid) (((OpenSpec.ofChange Rows.policyReturnsSpec).at F).post enc Tryz.prog Tryz.f7 false true false false) := by
  obtain ⟨⟨x1, x2, x3⟩, hx, hx1⟩ := Option.map_eq_some_iff.1 (reads os enc)
  simp only [Prod.mk.injEq] at hx1
  obtain ⟨rfl, rfl⟩ := hx1
  refine returnsInHanded_of_row (C := Tryz.checked) (s := OpenSpec.ofChange Rows.policyReturnsSpec) own started (by kernel_rfl) Tryz.func7
    (witness_row_atRef (enc := enc) (C := Tryz.checked) false (laidWorld os) wit rfl (by kernel_rfl) (by kernel_rfl) (by kernel_rfl)
      (OpenSpec.preRow_of_cond 8 hx (by kernel_rfl) (fun k hk => by cases hk) (by kernel_rfl) (laid_met os _))) ?_
  intro W base args ds gs before hval hW _ _ _ hL hS _
  exact contract H enc W base args ds gs before hval hW hL hS
theorem said : Rows.PolicyReturnsSaid :=
  OpenClaim.holds_of_cond 7 Tryz.f7 rfl rfl rfl rfl rfl rfl rfl ⟨rfl, rfl, rfl, rfl, rfl⟩ rfl rfl rfl rfl rfl (by kernel_rfl) Tryz.func7 (by kernel_rfl)
    (of_decide_eq_true (by kernel_rfl)) (by unfold Func.isWrapper; first | (rw [if_pos (by decide +kernel)]; kernel_rfl) | (rw [if_neg (by decide +kernel)]; exact ⟨rfl, rfl⟩))
    (fun os started H enc _ F => by rw [OpenClaim.pre_eq_preRow]; exact lifted os started H enc F)
theorem plain (f : FuncId) (fn : Func) (hf : Tryz.pinned.checked.prog.funcNamed Rows.policyReturnsRow.func = some f) (hfn : Tryz.pinned.checked.prog.funcs[f]? = some fn) :
    true = Tryz.pinned.checked.prog.looks [] ∧ ∀ (j : Nat) t, fn.params[j]? = some t → Tryz.pinned.checked.prog.wantsStandIn t = false := by
  obtain rfl : f = 7 := Option.some.inj ((show Tryz.prog.funcNamed Rows.policyReturnsRow.func = some 7 by kernel_rfl).symm.trans hf) |>.symm
  obtain rfl : fn = Tryz.f7 := (Option.some.inj (Tryz.func7.symm.trans hfn)).symm
  refine ⟨by kernel_rfl, fun j t ht => ?_⟩
  have hall : (Tryz.f7.params.toList.all fun t => Tryz.prog.wantsStandIn t == false) = true := by kernel_rfl
  exact eq_of_beq (List.all_eq_true.1 hall t (by simpa using Array.mem_of_getElem? ht))
theorem card : Rows.PolicyReturnsCardSaid :=
  Claim7.holds_tied_plain_at .later [] _ _ _ _ said (fun _ h => by cases h) (by kernel_rfl) (fun _ h => by cases h) policyReturns_row_tie rfl ⟨rfl, rfl⟩ (by kernel_rfl) rfl plain (by kernel_rfl)
end Go.Proofs.YtnmalfongaognaaGreatDoor.RwReturns
#print axioms Go.Proofs.YtnmalfongaognaaGreatDoor.RwReturns.card
