/- Holds and First return the specified results. Conditions: none, the given statement. -/
import Derived.Test.YtnmalfongaognaaGreatDoorG09
import Derived.Test.YtnmalfongaognaaGreatDoorG07
import Derived.Test.YtnmalfongaognaaGreatDoorG08
import Derived.ChangeMaps5
set_option linter.unusedSimpArgs false
set_option linter.unusedVariables false
set_option maxRecDepth 10000
namespace Go.Proofs
open Go Go.Id
set_option maxHeartbeats 4000000
theorem mx21 : max 2 1 = 2 := rfl
theorem mx32 : max 3 2 = 3 := rfl

theorem c_l_holds (p : Rule) (r : Req) (hpb : p.big) (hrb : r.big) : CallP Pr 5 [.agg [.str p.name, .bool p.deny, .slice 3 p.nc (p.conds.map Cond.cs) none, .slice 1 p.ns (p.scopes.map fun x => [.str x]) none, .int .i64 p.lvl, .int .i64 p.age], .agg [.str r.user, .str r.client, .str r.tenant, .slice 1 r.ng (r.groups.map fun x => [.str x]) none, .slice 1 r.ns (r.scopes.map fun x => [.str x]) none, .int .i64 r.risk, .bool r.trusted, .int .i64 r.level, .int .i64 r.auth, .int .i64 r.now]] (.bool true) := by
 have hfl : all2 eqStr ([[97, 103, 101], [99, 108, 105, 101, 110, 116], [103, 114, 111, 117, 112], [104, 111, 117, 114], [108, 101, 118, 101, 108], [114, 105, 115, 107], [115, 99, 111, 112, 101], [116, 101, 110, 97, 110, 116], [116, 114, 117, 115, 116, 101, 100], [117, 115, 101, 114]] : List (List UInt8)) ([[97, 103, 101], [99, 108, 105, 101, 110, 116], [103, 114, 111, 117, 112], [104, 111, 117, 114], [108, 101, 118, 101, 108], [114, 105, 115, 107], [115, 99, 111, 112, 101], [116, 101, 110, 97, 110, 116], [116, 114, 117, 115, 116, 101, 100], [117, 115, 101, 114]] : List (List UInt8)) = true := (all2_s _ _).2 rfl
 refine CallP.of_wp Tryz.func5 rfl (by kernel_rfl) Tryz.ntmps5 (by simp) ?_
 simp only [frameOf, Nat.reduceAdd, Nat.zero_add]
 refine WP.sr [2, 3] (by kernel_rfl) fun K hK => ?_
 simp (decide := true) only [TF, EV, hfl, ↓reduceIte, Int.reduceToNat]
 refine hK _ _ ?_; clear hK K
 refine WP.seq ?_
 refine WP.sr [2, 3, 13] (by kernel_rfl) fun K hK => ?_
 simp (decide := true) only [TF, EV, hfl, ↓reduceIte, Int.reduceToNat]
 refine CallK.pure (c_lrule p hpb) rfl rfl (by simp [-List.map_take]) ?_
 refine runOps.take 2 fun J hJ => ?_
 simp (decide := true) only [TF, EV, hfl, ↓reduceIte, Int.reduceToNat]
 refine hJ _ _ ?_; clear hJ J
 refine runOps.part 9 rfl (fun q1 => ?_) (fun q1 => ?_)
 ·
  simp only [Bool.not_eq_true', Bool.not_eq_false'] at q1
  simp (decide := true) only [TF, EV, hfl, q1, ↓reduceIte, Int.reduceToNat]
  refine hK _ _ ?_; clear hK K
  refine WP.cond (b := true) (by rfl) (fun _ => ?_) nofun
  refine WP.sr [4] (by kernel_rfl) fun K hK => ?_
  simp (decide := true) only [TF, EV, hfl, q1, ↓reduceIte, Int.reduceToNat]
  refine CallK.pure (c_alive) rfl rfl (by simp [-List.map_take]) ?_
  simp (decide := true) only [TF, EV, hfl, q1, ↓reduceIte, Int.reduceToNat]
  refine hK _ _ ?_; clear hK K
  refine WP.ret ?_
  exact Ends.pure (.inr rfl) rfl (Le.of_eq (by simp (decide := true) only [St.get, lk, W, hfl, q1, ↓reduceIte])) (by simp)
 ·
  simp only [Bool.not_eq_true', Bool.not_eq_false'] at q1
  have hp : p.ok := rule_ok (by simpa using q1) hpb
  have hp1 := hp.1.1
  simp (decide := true) only [TF, EV, hfl, q1, ↓reduceIte, Int.reduceToNat]
  refine CallK.pure (c_asked r hrb) rfl rfl (by simp [-List.map_take]) ?_
  simp (decide := true) only [TF, EV, hfl, q1, ↓reduceIte, Int.reduceToNat]
  refine hK _ _ ?_; clear hK K
  refine WP.cond (b := _) rfl (fun q2 => ?_) (fun q2 => ?_)
  ·
   refine WP.sr [4] (by kernel_rfl) fun K hK => ?_
   simp (decide := true) only [TF, EV, hfl, q1, q2, ↓reduceIte, Int.reduceToNat]
   refine CallK.pure (c_alive) rfl rfl (by simp [-List.map_take]) ?_
   simp (decide := true) only [TF, EV, hfl, q1, q2, ↓reduceIte, Int.reduceToNat]
   refine hK _ _ ?_; clear hK K
   refine WP.ret ?_
   exact Ends.pure (.inr rfl) rfl (Le.of_eq (by simp (decide := true) only [St.get, lk, W, hfl, q1, q2, ↓reduceIte])) (by simp)
  ·
   have hr : r.ok := asked_ok (by simpa using q2) hrb
   refine WP.skip ?_
   show WP _ _ _ _ _ _
   refine WP.seq ?_
   refine WP.sr [2, 3, 5] (by kernel_rfl) fun K hK => ?_
   simp (decide := true) only [TF, EV, hfl, q1, q2, ↓reduceIte, Int.reduceToNat]
   refine hK _ _ ?_; clear hK K
   refine WP.block ?_
   refine WP.lp [2, 3] (X := {k : Nat // k ≤ p.conds.length ∧ True}) (fun x => match x with | ⟨(k), _⟩ => [(5, .int .i64 k)]) (fun x => match x with | ⟨(k), _⟩ => [(0, .box 36 [.str p.name, .bool p.deny, .slice 3 p.nc (p.conds.map Cond.cs) none, .slice 1 p.ns (p.scopes.map fun x => [.str x]) none, .int .i64 p.lvl, .int .i64 p.age]), (1, .box 38 [.str r.user, .str r.client, .str r.tenant, .slice 1 r.ng (r.groups.map fun x => [.str x]) none, .slice 1 r.ns (r.scopes.map fun x => [.str x]) none, .int .i64 r.risk, .bool r.trusted, .int .i64 r.level, .int .i64 r.auth, .int .i64 r.now])]) (fun x => match x with | ⟨(k), _⟩ => p.conds.length - k) (by simp (decide := true) only [W, ↓reduceIte, Int.reduceToNat]; rfl) ?_ ⟨(0), ⟨Nat.zero_le _, by simp⟩⟩ ?_
   rotate_left
   · exact Weak.store (by simp [St.get, lk, W, Le.refl, hfl, q1, q2]) (by simp [lk, W, hfl, q1, q2]) (by simp [lk, W]) (by simp [BClo, lk]) (by simp [lk])
   rintro ⟨k, hk, hI⟩
   dsimp only
   simp only [List.cons_append, List.nil_append]
   refine WP.seq ?_
   refine WP.sr [2, 3, 5, 19] (by kernel_rfl) fun K hK => ?_
   simp (decide := true) only [TF, EV, hfl, q1, q2, hk, ↓reduceIte, Int.reduceToNat]
   refine hK _ _ ?_; clear hK K
   refine WP.cond (b := _) rfl (fun q3 => ?_) (fun q3 => ?_)
   ·
    have hlt := lt_of_q q3
    have hg : (p.conds.map Cond.cs)[k]? = some [.str p.conds[k].f, .str p.conds[k].op, .str p.conds[k].v] := getM hlt
    have hnf := nl_false hp.1.2.1 hlt
    refine WP.skip ?_
    show WP _ _ _ _ _ _
    refine WP.seq ?_
    refine WP.block ?_
    refine WP.sd [2, 3, 5, 36] (by kernel_rfl) (by kernel_rfl) fun K hK => ?_
    simp (decide := true) only [TF, EV, hfl, q1, q2, hk, q3, hg, hnf, ↓reduceIte, Int.reduceToNat]
    refine CallK.pure (c_holds p.conds[k] r (hp.2.2.1 _ (List.getElem_mem hlt)) hr) rfl rfl (by simp [-List.map_take]) ?_
    simp (decide := true) only [TF, EV, hfl, q1, q2, hk, q3, hg, hnf, ↓reduceIte, Int.reduceToNat]
    refine CallK.pure (c_r_holds p.conds[k] r (hp.2.2.1 _ (List.getElem_mem hlt)) hr) rfl rfl (by simp [-List.map_take]) ?_
    simp (decide := true) only [TF, EV, hfl, q1, q2, hk, q3, hg, hnf, ↓reduceIte, Int.reduceToNat]
    refine hK _ _ (by kernel_rfl) ?_
    clear hK K
    refine WP.cond (b := false) (by rfl) nofun (fun _ => ?_)
    refine WP.skip ?_
    show WP _ _ _ _ _ _
    refine WP.region (by kernel_rfl) fun K hK => ?_
    simp (decide := true) only [TF, EV, hfl, q1, q2, hk, q3, hg, hnf, ↓reduceIte, Int.reduceToNat]
    refine hK _ _ ?_; clear hK K
    show ∃ y, _ ∧ Weak _ _ _
    refine ⟨⟨k + 1, ?_⟩, ?_, ?_⟩
    · exact ⟨by omega, True.intro⟩
    · dsimp only; omega
    · exact Weak.store (by simp [St.get, lk, W, Le.refl, hfl, q1, q2, hk, q3, hg, hnf, wrapS hlt (show p.conds.length ≤ 140737488355328 by omega)]) (by simp [lk, W, hfl, q1, q2, hk, q3, hg, hnf, wrapS hlt (show p.conds.length ≤ 140737488355328 by omega)]) (by simp [lk, W]) (by simp [BClo, lk]) (by simp [lk])
   ·
    have hge := ge_of_q q3
    refine WP.exit ?_
    show WP _ _ _ _ _ _
    refine WP.sd [4] (by kernel_rfl) (by kernel_rfl) fun K hK => ?_
    simp (decide := true) only [TF, EV, hfl, q1, q2, hk, q3, ↓reduceIte, Int.reduceToNat]
    refine CallK.pure (c_first p r hp hr) rfl rfl (by simp [-List.map_take]) ?_
    simp (decide := true) only [TF, EV, hfl, q1, q2, hk, q3, ↓reduceIte, Int.reduceToNat]
    refine CallK.pure (c_r_first p r hp hr) rfl rfl (by simp [-List.map_take]) ?_
    simp (decide := true) only [TF, EV, hfl, q1, q2, hk, q3, ↓reduceIte, Int.reduceToNat]
    refine CallK.pure (c_fields) rfl rfl (by simp [-List.map_take]) ?_
    simp (decide := true) only [TF, EV, hfl, q1, q2, hk, q3, ↓reduceIte, Int.reduceToNat]
    refine CallK.pure (c_r_fields) rfl rfl (by simp [-List.map_take]) ?_
    simp (decide := true) only [TF, EV, hfl, q1, q2, hk, q3, ↓reduceIte, Int.reduceToNat]
    refine CallK.pure (c_r_lists ([[97, 103, 101], [99, 108, 105, 101, 110, 116], [103, 114, 111, 117, 112], [104, 111, 117, 114], [108, 101, 118, 101, 108], [114, 105, 115, 107], [115, 99, 111, 112, 101], [116, 101, 110, 97, 110, 116], [116, 114, 117, 115, 116, 101, 100], [117, 115, 101, 114]] : List (List UInt8)) false ([[97, 103, 101], [99, 108, 105, 101, 110, 116], [103, 114, 111, 117, 112], [104, 111, 117, 114], [108, 101, 118, 101, 108], [114, 105, 115, 107], [115, 99, 111, 112, 101], [116, 101, 110, 97, 110, 116], [116, 114, 117, 115, 116, 101, 100], [117, 115, 101, 114]] : List (List UInt8)) false (by simp) nofun (by simp) nofun) rfl rfl (by simp [-List.map_take]) ?_
    simp (decide := true) only [TF, EV, hfl, q1, q2, hk, q3, ↓reduceIte, Int.reduceToNat]
    refine CallK.pure (c_alive) rfl rfl (by simp [-List.map_take]) ?_
    simp (decide := true) only [TF, EV, hfl, q1, q2, hk, q3, ↓reduceIte, Int.reduceToNat]
    refine hK _ _ (by kernel_rfl) ?_
    clear hK K
    refine WP.ret ?_
    exact Ends.pure (.inr rfl) rfl (Le.of_eq (by simp (decide := true) only [St.get, lk, W, hfl, q1, q2, hk, q3, ↓reduceIte])) (by simp)
end Go.Proofs
set_option linter.unusedVariables false
set_option maxRecDepth 100000
namespace Go.Proofs.YtnmalfongaognaaGreatDoor.RwHolds
open Go Go.Id Go.Proofs Go.ChangeShapes Go.ChangeMaps Go.WideShapes Go.ChangeAt Go.RowKit Go.Proofs.YtnmalfongaognaaGreatDoor.Rw
theorem contract (H : Type) (enc : TypeId × Value → H) (W : World) (base : Nat) (args : Array Value) (ds gs : List (DataW H)) (before : List MemPlace)
    (hval : ∀ (j : Nat) t v, Tryz.f5.params[j]? = some t → args[j]? = some v → Value.okWide Tryz.prog W .any base t v)
    (hW : DataW.Whole enc Tryz.prog Tryz.f5.params.toList Rows.policyHoldsSpec.vars false W args.toList ds gs before) (hL : laidMetH Tryz.prog laidL W) (hS : W.ShapedOpen Tryz.prog) :
    Calls Tryz.prog 5 args W fun e W' => ∃ v, e = .returned v ∧ Rows.policyHoldsSpec.post enc Tryz.prog Tryz.f5 false true false false W args v W' := by
  have hW' := hW
  obtain ⟨p, q, hA0, hV, rfl, hfz, hnd⟩ := hW
  have hA : DataW.TrodAll enc Tryz.prog W 0 (fun _ => true) true Tryz.f5.params.toList args.toList ds p := hA0
  rw [Tryz.params5] at hA hval
  obtain ⟨v0, v1, d0, d1, p_0, p_1, rfl, rfl, rfl, h0, h1⟩ := trodAll_two hA
  obtain ⟨rfl, rfl⟩ := trodVars_none hV
  obtain ⟨p0, hb0, hr0, r0⟩ := arg_rule (hval 0 36 v0 rfl rfl) h0
  obtain ⟨q1, hb1, r1⟩ := arg_req (hval 1 38 v1 rfl rfl) h1
  refine (CallP.run (c_l_holds p0 q1 hb0 hb1) W (polI_of hL hS) (heap_of hS) [v0, v1] rfl (consR r0 (one r1))).mono ?_
  rintro e W' ⟨v, rfl, hr, hb⟩
  cases hr
  exact ⟨_, rfl, post_all hW' rfl hb (of_decide_eq_true (by kernel_rfl)) (by kernel_rfl) rfl rfl rfl⟩
abbrev wit : Array Value := #[.agg #[.string ⟨#[]⟩, .bool false, .slice none 0 0, .slice none 0 0, .int .i64 0, .int .i64 0], .agg #[.string ⟨#[]⟩, .string ⟨#[]⟩, .string ⟨#[]⟩, .slice none 0 0, .slice none 0 0, .int .i64 0, .bool false, .int .i64 0, .int .i64 0, .int .i64 0]]
theorem reads (os : Os) {H : Type} (enc : TypeId × Value → H) : (DataW.whole enc Tryz.prog (memW os wit) Tryz.f5.params.toList Rows.policyHoldsSpec.vars false wit.toList 8).map (fun x => (x.1, x.2.1)) = some ([.agg [.lit (.string []), .lit (.bool false), .nil, .nil, .lit (.int .i64 0), .lit (.int .i64 0)], .agg [.lit (.string []), .lit (.string []), .lit (.string []), .nil, .nil, .lit (.int .i64 0), .lit (.bool false), .lit (.int .i64 0), .lit (.int .i64 0), .lit (.int .i64 0)]], []) := by kernel_rfl
theorem lifted (os : Os) (started : os.Started) (H : Type) (enc : TypeId × Value → H) (F : Stop.Interp) :
    ReturnsInHanded {} Tryz.checked os 5 .any ((OpenSpec.ofChange Rows.policyHoldsSpec).preRow enc Tryz.prog Tryz.f5 Rows.policyHoldsRow.domain false Rows.policyHoldsRow.laid) (((OpenSpec.ofChange Rows.policyHoldsSpec).at F).post enc Tryz.prog Tryz.f5 false true false false) := by
  obtain ⟨⟨x1, x2, x3⟩, hx, hx1⟩ := Option.map_eq_some_iff.1 (reads os enc)
  simp only [Prod.mk.injEq] at hx1
  obtain ⟨rfl, rfl⟩ := hx1
  refine returnsInHanded_of_row (C := Tryz.checked) (s := OpenSpec.ofChange Rows.policyHoldsSpec) own started (by kernel_rfl) Tryz.func5
    (witness_row_atRef (enc := enc) (C := Tryz.checked) false (laidWorld os) wit rfl (by kernel_rfl) (by kernel_rfl) (by kernel_rfl)
      (OpenSpec.preRow_of_cond 8 hx (by kernel_rfl) (fun k hk => by cases hk) (by kernel_rfl) (laid_met os _))) ?_
  intro W base args ds gs before hval hW _ _ _ hL hS _
  exact contract H enc W base args ds gs before hval hW hL hS
theorem said : Rows.PolicyHoldsSaid :=
  OpenClaim.holds_of_cond 5 Tryz.f5 rfl rfl rfl rfl rfl rfl rfl ⟨rfl, rfl, rfl, rfl, rfl⟩ rfl rfl rfl rfl rfl (by kernel_rfl) Tryz.func5 (by kernel_rfl)
    (of_decide_eq_true (by kernel_rfl)) (by unfold Func.isWrapper; first | (rw [if_pos (by decide +kernel)]; kernel_rfl) | (rw [if_neg (by decide +kernel)]; exact ⟨rfl, rfl⟩))
    (fun os started H enc _ F => by rw [OpenClaim.pre_eq_preRow]; exact lifted os started H enc F)
theorem plain (f : FuncId) (fn : Func) (hf : Tryz.pinned.checked.prog.funcNamed Rows.policyHoldsRow.func = some f) (hfn : Tryz.pinned.checked.prog.funcs[f]? = some fn) :
    true = Tryz.pinned.checked.prog.looks [] ∧ ∀ (j : Nat) t, fn.params[j]? = some t → Tryz.pinned.checked.prog.wantsStandIn t = false := by
  obtain rfl : f = 5 := Option.some.inj ((show Tryz.prog.funcNamed Rows.policyHoldsRow.func = some 5 by kernel_rfl).symm.trans hf) |>.symm
  obtain rfl : fn = Tryz.f5 := (Option.some.inj (Tryz.func5.symm.trans hfn)).symm
  refine ⟨by kernel_rfl, fun j t ht => ?_⟩
  have hall : (Tryz.f5.params.toList.all fun t => Tryz.prog.wantsStandIn t == false) = true := by kernel_rfl
  exact eq_of_beq (List.all_eq_true.1 hall t (by simpa using Array.mem_of_getElem? ht))
theorem card : Rows.PolicyHoldsCardSaid :=
  Claim7.holds_tied_plain_at .later [] _ _ _ _ said (fun _ h => by cases h) (by kernel_rfl) (fun _ h => by cases h) policyHolds_row_tie rfl ⟨rfl, rfl⟩ (by kernel_rfl) rfl plain (by kernel_rfl)
end Go.Proofs.YtnmalfongaognaaGreatDoor.RwHolds
#print axioms Go.Proofs.YtnmalfongaognaaGreatDoor.RwHolds.card
