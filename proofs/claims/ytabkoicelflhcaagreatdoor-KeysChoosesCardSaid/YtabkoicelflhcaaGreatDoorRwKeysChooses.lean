/- Signing and Accepting are as specified, and a key that signs at an instant is accepted at it. Conditions: none, the given statement. -/
import Derived.Test.YtabkoicelflhcaaGreatDoorG11
import Derived.Test.YtabkoicelflhcaaGreatDoorG09
import Derived.Test.YtabkoicelflhcaaGreatDoorG10
import Derived.ChangeMaps5
set_option linter.unusedSimpArgs false
set_option linter.unusedVariables false
set_option maxRecDepth 10000
namespace Go.Proofs
open Go Go.Id
set_option maxHeartbeats 4000000
theorem c_l_chooses (l : List Key) (nl : Bool) (hn : l.length ≤ 9223372036854775807) (hnl : nl = true → l = []) (id : List UInt8) (now skew : Int) : CallP Pr 4 [.slice 6 nl (l.map Key.cs) none, .str id, .int .i64 now, .int .i64 skew] (.bool true) := by
 refine CallP.of_wp Tryz.func4 rfl (by kernel_rfl) Tryz.ntmps4 (by simp) ?_
 simp only [frameOf, Nat.reduceAdd, Nat.zero_add]
 refine WP.sr [0, 1, 2, 3] (by kernel_rfl) fun K hK => ?_
 simp (decide := true) only [TF, EV, Bool.true_and, Bool.and_true, ↓reduceIte, Int.reduceToNat]
 refine hK _ _ ?_; clear hK K
 refine WP.seq ?_
 refine WP.sr [0, 1, 2, 3, 25] (by kernel_rfl) fun K hK => ?_
 simp (decide := true) only [TF, EV, Bool.true_and, Bool.and_true, ↓reduceIte, Int.reduceToNat]
 refine CallK.pure (c_great l nl 20 hn hnl) rfl rfl (by simp [-List.map_take]) ?_
 refine runOps.take 1 fun J hJ => ?_
 simp (decide := true) only [TF, EV, Bool.true_and, Bool.and_true, ↓reduceIte, Int.reduceToNat]
 refine hJ _ _ ?_; clear hJ J
 refine runOps.part 21 rfl (fun q1 => ?_) (fun q1 => ?_)
 ·
  simp (decide := true) only [TF, EV, q1, Bool.true_and, Bool.and_true, ↓reduceIte, Int.reduceToNat]
  refine hK _ _ ?_; clear hK K
  refine WP.cond (b := true) (by rfl) (fun _ => ?_) nofun
  refine WP.sr [8] (by kernel_rfl) fun K hK => ?_
  simp (decide := true) only [TF, EV, q1, Bool.true_and, Bool.and_true, ↓reduceIte, Int.reduceToNat]
  refine CallK.pure (c_live) rfl rfl (by simp [-List.map_take]) ?_
  simp (decide := true) only [TF, EV, q1, Bool.true_and, Bool.and_true, ↓reduceIte, Int.reduceToNat]
  refine hK _ _ ?_; clear hK K
  refine WP.ret ?_
  exact Ends.pure (.inr rfl) rfl (Le.of_eq (by simp (decide := true) only [St.get, lk, W, zeroK, q1, ↓reduceIte])) (by simp)
 ·
  have hgr : greatB l ((20 : Nat) : Int) = false := by simpa using q1
  obtain ⟨hlen, hok⟩ := great_no hgr
  simp (decide := true) only [TF, EV, q1, Bool.true_and, Bool.and_true, ↓reduceIte, Int.reduceToNat]
  refine hK _ _ ?_; clear hK K
  refine WP.cond (b := _) rfl (fun q2 => ?_) (fun q2 => ?_)
  ·
   refine WP.sr [8] (by kernel_rfl) fun K hK => ?_
   simp (decide := true) only [TF, EV, q1, q2, Bool.true_and, Bool.and_true, ↓reduceIte, Int.reduceToNat]
   refine CallK.pure (c_live) rfl rfl (by simp [-List.map_take]) ?_
   simp (decide := true) only [TF, EV, q1, q2, Bool.true_and, Bool.and_true, ↓reduceIte, Int.reduceToNat]
   refine hK _ _ ?_; clear hK K
   refine WP.ret ?_
   exact Ends.pure (.inr rfl) rfl (Le.of_eq (by simp (decide := true) only [St.get, lk, W, zeroK, q1, q2, ↓reduceIte])) (by simp)
  ·
   refine WP.skip ?_
   show WP _ _ _ _ _ _
   refine WP.sr [0, 1, 2, 3, 9, 10] (by kernel_rfl) fun K hK => ?_
   simp (decide := true) only [TF, EV, q1, q2, Bool.true_and, Bool.and_true, ↓reduceIte, Int.reduceToNat]
   refine CallK.pure (c_signing l nl now (by omega) hnl hok) rfl rfl (by simp [-List.map_take]) ?_
   simp (decide := true) only [TF, EV, q1, q2, Bool.true_and, Bool.and_true, ↓reduceIte, Int.reduceToNat]
   refine hK _ _ ?_; clear hK K
   refine WP.sr [0, 1, 2, 3, 9, 10, 11, 12] (by kernel_rfl) fun K hK => ?_
   simp (decide := true) only [TF, EV, q1, q2, Bool.true_and, Bool.and_true, ↓reduceIte, Int.reduceToNat]
   refine CallK.pure (c_r_signing l nl now (by omega) hnl hok) rfl rfl (by simp [-List.map_take]) ?_
   simp (decide := true) only [TF, EV, q1, q2, Bool.true_and, Bool.and_true, ↓reduceIte, Int.reduceToNat]
   refine hK _ _ ?_; clear hK K
   refine WP.sr [0, 1, 2, 3, 9, 10, 11, 12, 13, 14] (by kernel_rfl) fun K hK => ?_
   simp (decide := true) only [TF, EV, q1, q2, Bool.true_and, Bool.and_true, ↓reduceIte, Int.reduceToNat]
   refine CallK.pure (c_accepting l nl id now skew (by omega) hnl) rfl rfl (by simp [-List.map_take]) ?_
   simp (decide := true) only [TF, EV, q1, q2, Bool.true_and, Bool.and_true, ↓reduceIte, Int.reduceToNat]
   refine hK _ _ ?_; clear hK K
   refine WP.sr [0, 2, 3, 9, 10, 11, 12, 13, 14, 15, 16] (by kernel_rfl) fun K hK => ?_
   simp (decide := true) only [TF, EV, q1, q2, Bool.true_and, Bool.and_true, ↓reduceIte, Int.reduceToNat]
   refine CallK.pure (c_r_accepting l nl id now skew (by omega) hnl) rfl rfl (by simp [-List.map_take]) ?_
   simp (decide := true) only [TF, EV, q1, q2, Bool.true_and, Bool.and_true, ↓reduceIte, Int.reduceToNat]
   refine hK _ _ ?_; clear hK K
   refine WP.seq ?_
   refine WP.sr [0, 2, 3, 9, 10, 76] (by kernel_rfl) fun K hK => ?_
   simp (decide := true) only [TF, EV, q1, q2, Bool.true_and, Bool.and_true, ↓reduceIte, Int.reduceToNat]
   refine CallK.pure (c_live) rfl rfl (by simp [-List.map_take]) ?_
   simp (decide := true) only [TF, EV, q1, q2, Bool.true_and, Bool.and_true, ↓reduceIte, Int.reduceToNat]
   refine hK _ _ ?_; clear hK K
   refine WP.cond (b := false) (by rfl) nofun (fun _ => ?_)
   refine WP.skip ?_
   show WP _ _ _ _ _ _
   refine WP.seq ?_
   refine WP.sr [0, 2, 3, 9, 78] (by kernel_rfl) fun K hK => ?_
   simp (decide := true) only [TF, EV, q1, q2, Bool.true_and, Bool.and_true, ↓reduceIte, Int.reduceToNat]
   refine hK _ _ ?_; clear hK K
   refine WP.cond (b := _) rfl (fun q3 => ?_) (fun q3 => ?_)
   ·
    simp only [Bool.not_eq_true', Bool.not_eq_false'] at q3
    have hz : sgK l now = zeroK := (eqK_iff _ _).1 (by simpa using q3)
    refine WP.sr [8] (by kernel_rfl) fun K hK => ?_
    simp (decide := true) only [TF, EV, q1, q2, q3, hz, Bool.true_and, Bool.and_true, ↓reduceIte, Int.reduceToNat]
    refine hK _ _ ?_; clear hK K
    refine WP.ret ?_
    exact Ends.pure (.inr rfl) rfl (Le.of_eq (by simp [St.get, lk, W, bne, zeroK, q1, q2, q3, hz])) (by simp)
   ·
    simp only [Bool.not_eq_true', Bool.not_eq_false'] at q3
    have hs : eqK (sgK l now) zeroK = false := by simpa using q3
    have hac := sign_acc skew hs
    obtain ⟨hck, hmem, hin⟩ := sgK_some hs
    refine WP.skip ?_
    show WP _ _ _ _ _ _
    refine WP.sr [0, 2, 9, 17, 18] (by kernel_rfl) fun K hK => ?_
    simp (decide := true) only [TF, EV, q1, q2, q3, hac, hin, hck, Bool.true_and, Bool.and_true, ↓reduceIte, Int.reduceToNat]
    refine CallK.pure (c_accepting l nl (sgK l now).id now skew (by omega) hnl) rfl rfl (by simp [-List.map_take]) ?_
    simp (decide := true) only [TF, EV, q1, q2, q3, hac, hin, hck, Bool.true_and, Bool.and_true, ↓reduceIte, Int.reduceToNat]
    refine hK _ _ ?_; clear hK K
    refine WP.sr [8] (by kernel_rfl) fun K hK => ?_
    simp (decide := true) only [TF, EV, q1, q2, q3, hac, hin, hck, Bool.true_and, Bool.and_true, ↓reduceIte, Int.reduceToNat]
    refine CallK.pure (c_c_in _ _ _) rfl rfl (by simp [-List.map_take]) ?_
    simp (decide := true) only [TF, EV, q1, q2, q3, hac, hin, hck, Bool.true_and, Bool.and_true, ↓reduceIte, Int.reduceToNat]
    refine CallK.pure (c_k_check l nl (by omega) hnl hok) rfl rfl (by simp [-List.map_take]) ?_
    simp (decide := true) only [TF, EV, q1, q2, q3, hac, hin, hck, Bool.true_and, Bool.and_true, ↓reduceIte, Int.reduceToNat]
    refine hK _ _ ?_; clear hK K
    refine WP.ret ?_
    exact Ends.pure (.inr rfl) rfl (Le.of_eq (by simp (decide := true) only [St.get, lk, W, zeroK, q1, q2, q3, hac, hin, hck, ↓reduceIte])) (by simp)
end Go.Proofs
set_option linter.unusedVariables false
set_option maxRecDepth 100000
namespace Go.Proofs.YtabkoicelflhcaaGreatDoor.RwChooses
open Go Go.Id Go.Proofs Go.ChangeShapes Go.ChangeMaps Go.WideShapes Go.ChangeAt Go.RowKit Go.Proofs.YtabkoicelflhcaaGreatDoor.Rw
theorem contract (H : Type) (enc : TypeId × Value → H) (W : World) (base : Nat) (args : Array Value) (ds gs : List (DataW H)) (before : List MemPlace)
    (hval : ∀ (j : Nat) t v, Tryz.f4.params[j]? = some t → args[j]? = some v → Value.okWide Tryz.prog W .any base t v)
    (hW : DataW.Whole enc Tryz.prog Tryz.f4.params.toList Rows.keysChoosesSpec.vars false W args.toList ds gs before) (hL : laidMetH Tryz.prog laidL W) (hS : W.ShapedOpen Tryz.prog) :
    Calls Tryz.prog 4 args W fun e W' => ∃ v, e = .returned v ∧ Rows.keysChoosesSpec.post enc Tryz.prog Tryz.f4 false true false false W args v W' := by
  have hW' := hW
  obtain ⟨p, q, hA0, hV, rfl, hfz, hnd⟩ := hW
  have hA : DataW.TrodAll enc Tryz.prog W 0 (fun _ => true) true Tryz.f4.params.toList args.toList ds p := hA0
  rw [Tryz.params4] at hA hval
  obtain ⟨al⟩ := args
  dsimp only at hA
  obtain ⟨v0, _, d0, _, p_0, _, rfl, rfl, rfl, h0, hA⟩ := trodAll_cons hA
  obtain ⟨v1, _, d1, _, p_1, _, rfl, rfl, rfl, h1, hA⟩ := trodAll_cons hA
  obtain ⟨v2, _, d2, _, p_2, _, rfl, rfl, rfl, h2, hA⟩ := trodAll_cons hA
  obtain ⟨v3, _, d3, _, p_3, _, rfl, rfl, rfl, h3, hA⟩ := trodAll_cons hA
  obtain ⟨rfl, rfl, rfl⟩ := trodAll_nil hA
  obtain ⟨rfl, rfl⟩ := trodVars_none hV
  obtain ⟨l0, nl0, hn0, hnl0, r0⟩ := arg_keys (hval 0 22 v0 rfl rfl) h0
  obtain ⟨s1, r1⟩ := arg_str (hval 1 9 v1 rfl rfl) h1
  obtain ⟨n2, r2⟩ := arg_int (hval 2 3 v2 rfl rfl) h2
  obtain ⟨n3, r3⟩ := arg_int (hval 3 3 v3 rfl rfl) h3
  refine (CallP.run (c_l_chooses l0 nl0 hn0 hnl0 s1 n2 n3) W (polI_of hL hS) (heap_of hS) [v0, v1, v2, v3] rfl (Rw.consR r0 (Rw.consR r1 (Rw.consR r2 (Rw.one r3))))).mono ?_
  rintro e W' ⟨v, rfl, hr, hb⟩
  cases hr
  exact ⟨_, rfl, post_all hW' rfl hb (of_decide_eq_true (by kernel_rfl)) (by kernel_rfl) rfl rfl rfl⟩
abbrev wit : Array Value := #[.slice none 0 0, .string ⟨#[]⟩, .int .i64 0, .int .i64 0]
theorem reads (os : Os) {H : Type} (enc : TypeId × Value → H) : (DataW.whole enc Tryz.prog (memW os wit) Tryz.f4.params.toList Rows.keysChoosesSpec.vars false wit.toList 8).map (fun x => (x.1, x.2.1)) = some ([.nil, .lit (.string []), .lit (.int .i64 0), .lit (.int .i64 0)], []) := by kernel_rfl
theorem lifted (os : Os) (started : os.Started) (H : Type) (enc : TypeId × Value → H) (F : Stop.Interp) :
    ReturnsInHanded {} Tryz.checked os 4 .any ((OpenSpec.ofChange Rows.keysChoosesSpec).preRow enc Tryz.prog Tryz.f4 Rows.keysChoosesRow.domain false Rows.keysChoosesRow.laid) (((OpenSpec.ofChange Rows.keysChoosesSpec).at F).post enc Tryz.prog Tryz.f4 false true false false) := by
  obtain ⟨⟨x1, x2, x3⟩, hx, hx1⟩ := Option.map_eq_some_iff.1 (reads os enc)
  simp only [Prod.mk.injEq] at hx1
  obtain ⟨rfl, rfl⟩ := hx1
  refine returnsInHanded_of_row (C := Tryz.checked) (s := OpenSpec.ofChange Rows.keysChoosesSpec) own started (by kernel_rfl) Tryz.func4
    (witness_row_atRef (enc := enc) (C := Tryz.checked) false (laidWorld os) wit rfl (by kernel_rfl) (by kernel_rfl) (by kernel_rfl)
      (OpenSpec.preRow_of_cond 8 hx (by kernel_rfl) (fun k hk => by cases hk) (by kernel_rfl) (laid_met os _))) ?_
  intro W base args ds gs before hval hW _ _ _ hL hS _
  exact contract H enc W base args ds gs before hval hW hL hS
theorem said : Rows.KeysChoosesSaid :=
  OpenClaim.holds_of_cond 4 Tryz.f4 rfl rfl rfl rfl rfl rfl rfl ⟨rfl, rfl, rfl, rfl, rfl⟩ rfl rfl rfl rfl rfl (by kernel_rfl) Tryz.func4 (by kernel_rfl)
    (of_decide_eq_true (by kernel_rfl)) (by unfold Func.isWrapper; first | (rw [if_pos (by decide +kernel)]; kernel_rfl) | (rw [if_neg (by decide +kernel)]; exact ⟨rfl, rfl⟩))
    (fun os started H enc _ F => by rw [OpenClaim.pre_eq_preRow]; exact lifted os started H enc F)
theorem plain (f : FuncId) (fn : Func) (hf : Tryz.pinned.checked.prog.funcNamed Rows.keysChoosesRow.func = some f) (hfn : Tryz.pinned.checked.prog.funcs[f]? = some fn) :
    true = Tryz.pinned.checked.prog.looks [] ∧ ∀ (j : Nat) t, fn.params[j]? = some t → Tryz.pinned.checked.prog.wantsStandIn t = false := by
  obtain rfl : f = 4 := Option.some.inj ((show Tryz.prog.funcNamed Rows.keysChoosesRow.func = some 4 by kernel_rfl).symm.trans hf) |>.symm
  obtain rfl : fn = Tryz.f4 := (Option.some.inj (Tryz.func4.symm.trans hfn)).symm
  refine ⟨by kernel_rfl, fun j t ht => ?_⟩
  have hall : (Tryz.f4.params.toList.all fun t => Tryz.prog.wantsStandIn t == false) = true := by kernel_rfl
  exact eq_of_beq (List.all_eq_true.1 hall t (by simpa using Array.mem_of_getElem? ht))
theorem card : Rows.KeysChoosesCardSaid :=
  Claim7.holds_tied_plain_at .later [] _ _ _ _ said (fun _ h => by cases h) (by kernel_rfl) (fun _ h => by cases h) keysChooses_row_tie rfl ⟨rfl, rfl⟩ (by kernel_rfl) rfl plain (by kernel_rfl)
end Go.Proofs.YtabkoicelflhcaaGreatDoor.RwChooses
#print axioms Go.Proofs.YtabkoicelflhcaaGreatDoor.RwChooses.card
